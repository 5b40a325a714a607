/- One operation, calls among them. -/
import Derived.Test.YtgoljkjaameagaaGreatPgA
import Derived.Orders
import Derived.Conc.LoneCalls
import Derived.WalkKit
import Derived.WalkSpells
import Derived.WalkLawsBesides
import Derived.Lib.Hide
import Derived.Deep.QuietTactic
import Derived.BigQuiet
import Derived.StillTailTactics
import Derived.Deep.RegionWith
import Derived.Deep.RegionHeld3
import Derived.Deep.LoopGhost
import Derived.Deep.CutRange
import Derived.Deep.DeepCutAuto
import Derived.Test.YtgoljkjaameagaaGreatChecked
set_option linter.unusedVariables false
set_option linter.unusedSimpArgs false
set_option maxRecDepth 100000
set_option maxHeartbeats 16000000
namespace Go.Proofs.YtgoljkjaameagaaGreat.V
open Go.RowKit
variable {P:Program} {w w':World} {D D' D2:Nat->Prop} {ι ι' ι2:Names}
def Sound (P:Program):fH:=fun f args σ K=>∀(hs:Nat) (D:Nat->Prop) (ι:Names) (w:World) (vs:Array Value),gz P hs D ι σ.get w->Used ι σ.next (fun _=>False)->fm P w D ι args vs->
 Calls P f vs w fun e w'=>∃r g' n' D' ι' u,e=.returned u/\K r ⟨g',n'⟩/\Step hs D ι w D' ι' w'/\gz P hs D' ι' g' w'/\Used ι' n' (fun _=>False)/\σ.next<=n'/\cI P w' D' ι' r u
section
variable {g:Rows} {hs:Nat} {env:Env} {a:Act} {o:Oper} {id:Id} {v:AV}
theorem gz.ro (S:gz P hs D ι g w):gz P w.heap.size D ι (ro g) w:=by
 refine⟨Nat.le_refl _,S.dead,fun id r h=>?_,fun id j6 r r' B B' h h' hw=>?_⟩
 ·unfold V.ro at h
  simp only[Option.map_eq_some_iff]at h
  obtain⟨r0,h0,rfl⟩:=h
  obtain⟨B,hB,R,_,_⟩:=S.row id r0 h0
  exact⟨B,hB,R.flag false,fun h=>by simp at h,fun h=>by simp at h⟩
 ·unfold V.ro at h
  simp only[Option.map_eq_some_iff]at h
  obtain⟨r0,h0,rfl⟩:=h
  simp at hw
theorem Bh {g0:Rows} {f:Nat} {args:List AV} {n:Nat} {K:AV->Prop} {vs:Array Value} (h:PC (Sound P) f args ⟨g0,n⟩ K) (qP:∀id r,g0 id=some r->g id=some r) (S:gz P hs D ι g w) (U:Used ι n (fun _=>False)) (A:fm P w D ι args vs):
  Calls P f vs w fun e w'=>∃r D' u,e=.returned u/\K r/\Step hs D ι w D' ι w'/\gz P hs D' ι g w'/\cI P w' D' ι r u:=by
 refine(h w.heap.size D ι w vs (S.sub qP).ro U A).mono ?_
 rintro e w' ⟨r0,g',n',D1,ι1,u,rfl,⟨r,hr,hK⟩,T,S1,_,_,hR⟩
 have hb:∀b,b<w.heap.size->w'.heap[b]? =w.heap[b]? :=T.below.block
 have hz:=T.below.size
 have q:=rQ (D2:=fun b=>D b∨(w.heap.size<=b/\b<w'.heap.size)) (ι2:=ι) (fun b hd=>by
  rcases T.new b hd with h|h
  ·exact .inl h
  ·exact .inr ⟨h,S1.dead b hd⟩) (fun id row hg hw=>by
  obtain⟨B,hB,R,h1,_⟩:=S1.row id row hg
  exact⟨B,hB,R,.inr ⟨h1 hw,R.lt⟩⟩) 6 r0 u r hR hr
 refine⟨r,_,u,rfl,hK,?_,?_,q.1⟩
 ·exact Step.stay S hb hz T.below.os T.below.tape T.below.output (fun _ h=>.inl h) (fun b h=>by rcases h with h|h;exact .inl h;exact .inr h.1) (fun _ _ h=>h)
 ·exact S.stay hb hz (fun _ h=>.inl h) (fun b h=>by rcases h with h|h;exact Nat.lt_of_lt_of_le (S.dead b h) hz;exact h.2) (fun b h=>by rcases h with h|h;exact .inl h;exact .inr h.1) (fun _ _ h=>h)
theorem yk {g0:Rows} {f:Nat} {args:List AV} {n:Nat} {K:AV->Prop} {vs:Array Value} (h:PCv (Sound P) f args ⟨g0,n⟩ K) (qP:∀id r,g0 id=some r->g id=some r) (S:gz P hs D ι g w) (U:Used ι n (fun _=>False)) (A:fm P w D ι args vs):
  Calls P f vs w fun e w'=>∃r D' u,e=.returned u/\K r/\Step hs D ι w D' ι w'/\gz P hs D' ι g w'/\cI P w' D' ι r u:=by
 obtain⟨eu,ha,h⟩:=h
 let D1:Nat->Prop:=fun b=>D b∨∃id r B,g id=some r/\ι id=some B/\b=B.b
 have lt:∀id r B,g id=some r->ι id=some B->B.b<w.heap.size:=fun id r B h1 h2=>by
  obtain⟨B',dz,R,_⟩:=S.row id r h1
  rw[h2]at dz;injection dz with dz;subst dz
  exact R.lt
 have S0:gz P w.heap.size D1 ι (fun _=>none) w:=⟨Nat.le_refl _,fun b hb=>by
  rcases hb with hb|⟨id,r,B,h1,h2,rfl⟩
  ·exact S.dead b hb
  ·exact lt id r B h1 h2,fun id r h=>(by cases h),fun id j6 r r' B B' h=>(by cases h)⟩
 obtain⟨l1,l2⟩:=gI ha
 have A':fm P w D1 ι eu vs:=⟨by rw[A.1,l1],fun j a hj=>by
  obtain⟨a0,lq,hf⟩:=l2 j a hj
  obtain⟨u,hu,hr⟩:=A.2 j a0 lq
  refine⟨u,hu,(rQ (D2:=D1) (ι2:=ι) (fun b h=>.inl h) (fun id row hg hw=>?_) 6 a0 u a hr hf).1⟩
  unfold dJ at hg
  simp only[Option.map_eq_some_iff]at hg
  obtain⟨r,om,rfl⟩:=hg
  obtain⟨B,hB,R,_,_⟩:=S.row id r (qP id r om)
  exact⟨B,hB,R.flag true,.inr ⟨id,r,B,qP id r om,hB,rfl⟩⟩⟩
 refine(h w.heap.size D1 ι w vs S0 U A').mono ?_
 rintro e w' ⟨r0,g',n',D2,ι1,u,rfl,⟨r,hr,hK⟩,T,S1,_,_,hR⟩
 have hb:∀b,b<w.heap.size->w'.heap[b]? =w.heap[b]? :=T.below.block
 have hz:=T.below.size
 have q:=Gv (D2:=fun b=>D b∨(w.heap.size<=b/\b<w'.heap.size)) (ι2:=ι) (fun id row hg hw=>by
  obtain⟨B,hB,R,h1,_⟩:=S1.row id row hg
  exact⟨B,hB,R,.inr ⟨h1 hw,R.lt⟩⟩) 6 r0 u r hR hr
 refine⟨r,_,u,rfl,hK,?_,?_,q.1⟩
 ·exact Step.stay S hb hz T.below.os T.below.tape T.below.output (fun _ h=>.inl h) (fun b h=>by rcases h with h|h;exact .inl h;exact .inr h.1) (fun _ _ h=>h)
 ·exact S.stay hb hz (fun _ h=>.inl h) (fun b h=>by rcases h with h|h;exact Nat.lt_of_lt_of_le (S.dead b h) hz;exact h.2) (fun b h=>by rcases h with h|h;exact .inl h;exact .inr h.1) (fun _ _ h=>h)
theorem F7 {g0:Rows} {f:Nat} {args:List AV} {n:Nat} {K:AV->Prop} {vs:Array Value} (h:gy (Sound P) f args ⟨g0,n⟩ K) (qP:∀id r,g0 id=some r->g id=some r) (S:gz P hs D ι g w) (U:Used ι n (fun _=>False)) (A:fm P w D ι args vs):
  Calls P f vs w fun e w'=>∃r D' u,e=.returned u/\K r/\Step hs D ι w D' ι w'/\gz P hs D' ι g w'/\cI P w' D' ι r u:=by
 rcases h with h|h
 ·exact Bh h qP S U A
 ·exact yk h qP S U A
theorem Hi {D1 D2:Nat->Prop} {ι1 ι2:Names} {w1:World} {a:AV} {v:Value} (hp:a.plain=true) (h:cI P w D1 ι1 a v):cI P w1 D2 ι2 a v:=by
 cases h with
 |eO a v h=>cases h<;>first|(simp[AV.plain]at hp;done)|exact .eO _ _ (by constructor)
 |_=>simp[AV.plain]at hp
theorem gz.add {r:Row} {B:sL} (S:gz P hs D ι g w) (S':gz P hs D ι g w') (hf:ι id=none) (kq:w.heap.size<=B.b) (R:gO P w' D (kM ι id B) B r):gz P hs D (kM ι id B) (bt g id r) w':=by
 have lt:∀j6 r' B',g j6=some r'->ι j6=some B'->B'.b<w.heap.size:=fun j6 r' B' h1 h2=>by
  obtain⟨B2,qc,R2,_⟩:=S.row j6 r' h1
  rw[h2]at qc;injection qc with qc;subst qc
  exact R2.lt
 have ne:∀j6 r',g j6=some r'->j6≠id:=fun j6 r' h he=>by
  subst he
  obtain⟨B2,qc,_⟩:=S.row _ r' h
  rw[hf]at qc;cases qc
 refine⟨S'.lo,S'.dead,fun j6 r' h=>?_,fun R0 id2 r1 r2 B1 B2 h1 h2 hw Bb qc hb=>?_⟩
 ·unfold bt at h
  split at h
  ·rename_i he
   subst he
   injection h with h;subst h
   exact⟨B,dY _ _ _,R,fun _=>Nat.le_trans S.lo kq,fun _ hd=>Nat.lt_irrefl _ (Nat.lt_of_lt_of_le (S.dead _ hd) kq)⟩
  ·obtain⟨B',dz,R',k1,k2⟩:=S'.row j6 r' h
   exact⟨B',by rw[gq (ne _ _ h)];exact dz,R'.frame rfl (fun a v hr=>hr.frame (fun _ _=>rfl) (fun _ h=>h) (fb hf)),k1,k2⟩
 ·unfold bt at h1 h2
  split at h1
  ·rename_i e1
   split at h2
   ·rename_i e2;rw[e1,e2]
   ·exfalso
    subst e1
    rw[dY]at Bb;injection Bb with Bb;subst Bb
    rw[gq (ne _ _ h2)]at qc
    have:=lt _ _ _ h2 qc
    omega
  ·rw[gq (ne _ _ h1)]at Bb
   split at h2
   ·rename_i e2
    exfalso
    subst e2
    rw[dY]at qc;injection qc with qc;subst qc
    have:=lt _ _ _ h1 Bb
    omega
   ·rw[gq (ne _ _ h2)]at qc
    exact S'.inj R0 id2 r1 r2 B1 B2 h1 h2 hw Bb qc hb
theorem HZ {g0:Rows} {f:Nat} {args:List AV} {n sz:Nat} {rows:List (List AV)} {vs:Array Value} (h:CM (Sound P) f args ⟨g0,n⟩ sz rows) (qP:∀id r,g0 id=some r->g id=some r) (S:gz P hs D ι g w) (U:Used ι n (fun _=>False)) (A:fm P w D ι args vs) (hf:ι id=none):
  Calls P f vs w fun e w'=>∃u B,e=.returned u/\Step hs D ι w D (kM ι id B) w'/\gz P hs D (kM ι id B) (bt g id ⟨true,sz,rows⟩) w'/\cI P w' D (kM ι id B) (.own id 0 rows.length) u:=by
 obtain⟨mi,eu,ha,h⟩:=h
 let D1:Nat->Prop:=fun b=>D b∨∃id r B,g id=some r/\ι id=some B/\b=B.b
 have lt:∀id r B,g id=some r->ι id=some B->B.b<w.heap.size:=fun id r B h1 h2=>by
  obtain⟨B',dz,R,_⟩:=S.row id r h1
  rw[h2]at dz;injection dz with dz;subst dz
  exact R.lt
 have S0:gz P w.heap.size D1 ι (fun _=>none) w:=⟨Nat.le_refl _,fun b hb=>by
  rcases hb with hb|⟨id,r,B,h1,h2,rfl⟩
  ·exact S.dead b hb
  ·exact lt id r B h1 h2,fun id r h=>(by cases h),fun id j6 r r' B B' h=>(by cases h)⟩
 obtain⟨l1,l2⟩:=gI ha
 have A':fm P w D1 ι eu vs:=⟨by rw[A.1,l1],fun j a hj=>by
  obtain⟨a0,lq,hz⟩:=l2 j a hj
  obtain⟨u,hu,hr⟩:=A.2 j a0 lq
  refine⟨u,hu,(rQ (D2:=D1) (ι2:=ι) (fun b h=>.inl h) (fun id row hg hw=>?_) 6 a0 u a hr hz).1⟩
  unfold dJ at hg
  simp only[Option.map_eq_some_iff]at hg
  obtain⟨r,om,rfl⟩:=hg
  obtain⟨B,hB,R,_,_⟩:=S.row id r (qP id r om)
  exact⟨B,hB,R.flag true,.inr ⟨id,r,B,qP id r om,hB,rfl⟩⟩⟩
 refine(h w.heap.size D1 ι w vs S0 U A').mono ?_
 rintro e w' ⟨r0,g',n',D2,ι1,u,rfl,⟨i0,hr,hg⟩,T,S1,_,_,hR⟩
 subst hr
 have hb:∀b,b<w.heap.size->w'.heap[b]? =w.heap[b]? :=T.below.block
 have hz:=T.below.size
 obtain⟨B,hB,R,k1,_⟩:=S1.row i0 _ hg
 have kq:w.heap.size<=B.b:=k1 rfl
 obtain⟨o,cap,B',rfl,dz,q2,q3,q4,q5,hk⟩:=iS hR
 rw[hB]at dz;injection dz with dz;subst dz
 replace R:=R.row hk
 have S':gz P hs D ι g w':=S.stay hb hz (fun _ h=>h) (fun b h=>Nat.lt_of_lt_of_le (S.dead b h) hz) (fun b h=>.inl h) (fun _ _ h=>h)
 have R':lG P w' D (kM ι id B) B ⟨true,sz,rows⟩:=⟨R.sz,R.xR,R.fits,R.len,R.flat,fun i j cs a hi hj=>by
  obtain⟨v,h1,h2⟩:=R.at_ i j cs a hi hj
  exact⟨v,h1,Hi (mi cs (List.mem_of_getElem? hi) a (List.mem_of_getElem? hj)) h2⟩⟩
 exact⟨_,B,rfl,Step.stay S hb hz T.below.os T.below.tape T.below.output (fun _ h=>h) (fun _ h=>.inl h) (fb hf),S.add S' hf kq (R'.obj hk),.own id 0 _ _ _ B (dY _ _ _) hk q2 q3 q4 q5⟩
theorem jD {f:Nat} {args:Array Value} (hc:fJ P f=true):(callFunc f args).run P w=.ok (.enter f args) w:=by
 unfold fJ at hc
 split at hc
 ·rename_i fn hf
  simp only[Bool.and_eq_true,Bool.not_eq_true']at hc
  have hb:fn.body.isNone=false:=by cases hq:fn.body<;>simp_all
  simp only[callFunc,Sem.run_bind,run_program,Result.andThen_ok,hf,hc.2,Bool.false_eq_true,if_false,hb]
  rfl
 ·simp at hc
theorem Cd {f:Nat} {args:List O} (hc:rj P o.op=some (.call f args)):∃c,o.op=.call c/\c.callee=.value (.func f)/\fJ P f=true/\c.args.toList.mapM (cO P)=some args:=by
 unfold rj at hc
 split at hc
 case h_23=>
  rename_i c ho
  refine⟨c,ho,?_⟩
  unfold nI at hc
  split at hc
  all_goals (try(repeat' (split at hc))<;>(simp only[Option.bind_eq_bind,Option.bind_eq_some_iff,Option.pure_def,Option.some.injEq,Option.map_eq_some_iff,reduceCtorEq,and_false,exists_false]at hc))
  all_goals simp_all
 all_goals (try unfold vV at hc)<;>(try unfold sY at hc)<;>(repeat' (split at hc))<;>(simp only[Option.bind_eq_bind,Option.bind_eq_some_iff,Option.pure_def,Option.some.injEq,Option.map_eq_some_iff,reduceCtorEq,and_false,exists_false]at hc)
theorem tp {x:O} {args:List O} (hc:rj P o.op=some (.tU x args)):∃c t,o.op=.call c/\c.callee=.value (.tmp t)/\x=.t t/\c.args.toList.mapM (cO P)=some args:=by
 unfold rj at hc
 split at hc
 case h_23=>
  rename_i c ho
  refine⟨c,?_⟩
  unfold nI at hc
  split at hc
  all_goals (try(repeat' (split at hc))<;>(simp only[Option.bind_eq_bind,Option.bind_eq_some_iff,Option.pure_def,Option.some.injEq,Option.map_eq_some_iff,reduceCtorEq,and_false,exists_false]at hc))
  all_goals simp_all
 all_goals (try unfold vV at hc)<;>(try unfold sY at hc)<;>(repeat' (split at hc))<;>(simp only[Option.bind_eq_bind,Option.bind_eq_some_iff,Option.pure_def,Option.some.injEq,Option.map_eq_some_iff,reduceCtorEq,and_false,exists_false]at hc)
theorem GQ {n:Nat} {x y:O} (hc:rj P o.op=some (.store n x y)):∃t x' y',o.op=.store t x' y'/\dZ P t=some n/\cO P x'=some x/\cO P y'=some y:=by
 unfold rj at hc
 split at hc
 case h_7=>
  rename_i t x' y' ho
  refine⟨t,x',y',ho,?_⟩
  simp only[Option.bind_eq_bind,Option.bind_eq_some_iff,Option.pure_def,Option.some.injEq]at hc
  obtain⟨n',h1,x2,h2,y2,h3,he⟩:=hc
  injection he with e1 e2 e3
  subst e1;subst e2;subst e3
  exact⟨h1,h2,h3⟩
 all_goals (try unfold vV at hc)<;>(try unfold sY at hc)<;>(try unfold nI at hc)<;>(repeat' (split at hc))<;>(simp only[Option.bind_eq_bind,Option.bind_eq_some_iff,Option.pure_def,Option.some.injEq,Option.map_eq_some_iff,reduceCtorEq,and_false,exists_false]at hc)
theorem D7 {n:Nat} {x y:O} (hc:rj P o.op=some (.append n x y)):∃(t e:TypeId) (m:Nat) (z:List K) (i:TypeInfo) (x' y':Operand),n=m+1/\o.op=.call {callee:=.builtin .append,args:= #[x',y'],argTypes:= #[t,t]}/\
  P.underlying t=some (.slice e)/\dZ P e=some (m+1)/\jP P e=some z/\P.info? e=some i/\i.bytes<=32768/\cO P x'=some x/\cO P y'=some y:=by
 unfold rj at hc
 split at hc
 case h_23=>
  rename_i c ho
  unfold nI at hc
  split at hc
  case h_2=>
   rename_i kH
   split at hc
   ·rename_i x' y' t u h1 h2
    split at hc
    ·rename_i e ht
     split at hc
     ·rename_i m z i e1 e2 e3
      split at hc
      ·rename_i hb
       simp only[Option.bind_eq_bind,Option.bind_eq_some_iff,Option.pure_def,Option.some.injEq]at hc
       obtain⟨x2,h3,y2,h4,he⟩:=hc
       injection he with k1 k2 k3
       subst k1;subst k2;subst k3
       obtain⟨KW,rfl⟩:=hb
       refine⟨t,e,m,z,i,x',y',rfl,?_,ht,e1,e2,e3,KW,h3,h4⟩
       rw[ho]
       obtain⟨ca,cb,cc⟩:=c
       simp only at h1 h2 kH
       subst kH
       congr
       ·exact Array.ext' h1
       ·exact Array.ext' h2
      ·simp at hc
     ·simp at hc
    ·simp at hc
   ·simp at hc
  all_goals (repeat' (split at hc))<;>(simp only[Option.bind_eq_bind,Option.bind_eq_some_iff,Option.pure_def,Option.some.injEq,Option.map_eq_some_iff,reduceCtorEq,and_false,exists_false]at hc)
 all_goals (try unfold vV at hc)<;>(try unfold sY at hc)<;>(repeat' (split at hc))<;>(simp only[Option.bind_eq_bind,Option.bind_eq_some_iff,Option.pure_def,Option.some.injEq,Option.map_eq_some_iff,reduceCtorEq,and_false,exists_false]at hc)
theorem Js {n:Nat} {x y:O} (hc:rj P o.op=some (.copy n x y)):∃(t t2 e:TypeId) (m:Nat) (x' y':Operand),n=m+1/\o.op=.call {callee:=.builtin .copy,args:= #[x',y'],argTypes:= #[t,t2]}/\
  P.underlying t=some (.slice e)/\dZ P e=some (m+1)/\cO P x'=some x/\cO P y'=some y:=by
 unfold rj at hc
 split at hc
 case h_23=>
  rename_i c ho
  unfold nI at hc
  split at hc
  case h_7=>
   rename_i kH
   split at hc
   ·rename_i x' y' t t2 h1 h2
    split at hc
    ·rename_i e ht
     split at hc
     ·rename_i m e1
      simp only[Option.bind_eq_bind,Option.bind_eq_some_iff,Option.pure_def,Option.some.injEq,gE.copy.injEq]at hc
      obtain⟨x2,h3,y2,h4,k0,k1,k2⟩:=hc
      subst k1;subst k2
      refine⟨t,t2,e,m,x',y',k0.symm,?_,ht,e1,h3,h4⟩
      rw[ho]
      obtain⟨ca,cb,cc⟩:=c
      simp only at h1 h2 kH
      subst kH
      congr
      ·exact Array.ext' h1
      ·exact Array.ext' h2
     ·simp at hc
    ·simp at hc
   ·simp at hc
  all_goals (repeat' (split at hc))<;>(simp only[Option.bind_eq_bind,Option.bind_eq_some_iff,Option.pure_def,Option.some.injEq,Option.map_eq_some_iff,reduceCtorEq,and_false,exists_false]at hc)
 all_goals (try unfold vV at hc)<;>(try unfold sY at hc)<;>(repeat' (split at hc))<;>(simp only[Option.bind_eq_bind,Option.bind_eq_some_iff,Option.pure_def,Option.some.injEq,Option.map_eq_some_iff,reduceCtorEq,and_false,exists_false]at hc)
theorem GP {z:List K} {x:O} (hc:rj P o.op=some (.clear z x)):∃(t e:TypeId) (m:Nat) (x':Operand),o.op=.call {callee:=.builtin .clear,args:= #[x'],argTypes:= #[t]}/\
  P.underlying t=some (.slice e)/\dZ P e=some (m+1)/\jP P e=some z/\cO P x'=some x:=by
 unfold rj at hc
 split at hc
 case h_23=>
  rename_i c ho
  unfold nI at hc
  split at hc
  case h_3=>
   rename_i kH
   split at hc
   ·rename_i x' t h1 h2
    split at hc
    ·rename_i e ht
     split at hc
     ·rename_i m z' e1 e2
      simp only[Option.map_eq_some_iff]at hc
      obtain⟨x2,h3,he⟩:=hc
      injection he with k1 k2
      subst k1;subst k2
      refine⟨t,e,m,x',?_,ht,e1,e2,h3⟩
      rw[ho]
      obtain⟨ca,cb,cc⟩:=c
      simp only at h1 h2 kH
      subst kH
      congr
      ·exact Array.ext' h1
      ·exact Array.ext' h2
     ·simp at hc
    ·simp at hc
   ·simp at hc
  all_goals (repeat' (split at hc))<;>(simp only[Option.bind_eq_bind,Option.bind_eq_some_iff,Option.pure_def,Option.some.injEq,Option.map_eq_some_iff,reduceCtorEq,and_false,exists_false]at hc)
 all_goals (try unfold vV at hc)<;>(try unfold sY at hc)<;>(repeat' (split at hc))<;>(simp only[Option.bind_eq_bind,Option.bind_eq_some_iff,Option.pure_def,Option.some.injEq,Option.map_eq_some_iff,reduceCtorEq,and_false,exists_false]at hc)
theorem Pd {q:MW} {xs:List O} (hc:rj P o.op=some (.mw q xs)):
  (∃t x k y m z x' k' y',(o.op=.mapUpdate t x k y∨o.op=.insert t x k y)/\sZ P t=some (m,z)/\cO P x=some x'/\cO P k=some k'/\cO P y=some y'/\q=.set m/\xs=[x',k',y'])∨
  (∃t t' x k m z x' k',o.op=.call {callee:=.builtin .delete,args:= #[x,k],argTypes:= #[t,t']}/\sZ P t=some (m,z)/\cO P x=some x'/\cO P k=some k'/\q=.del m/\xs=[x',k']):=by
 unfold rj at hc
 split at hc
 case h_23=>
  rename_i c ho
  right
  unfold nI at hc
  split at hc
  case h_6=>
   rename_i kH
   split at hc
   ·rename_i x k t t' h1 h2
    split at hc
    ·rename_i m z x' k' e1 e2 e3
     injection hc with hc
     injection hc with q1 q2
     refine⟨t,t',x,k,m,z,x',k',?_,e1,e2,e3,q1.symm,q2.symm⟩
     rw[ho]
     obtain⟨ca,cb,cc⟩:=c
     simp only at h1 h2 kH
     subst kH
     congr
     ·exact Array.ext' h1
     ·exact Array.ext' h2
    ·cases hc
   ·cases hc
  all_goals (repeat' (split at hc))<;>(simp only[Option.bind_eq_bind,Option.bind_eq_some_iff,Option.pure_def,Option.some.injEq,Option.map_eq_some_iff,reduceCtorEq,and_false,exists_false]at hc)
 case h_29=>
  rename_i t x k y ho
  left
  split at hc
  ·rename_i m z x' k' y' e1 e2 e3 e4
   injection hc with hc
   injection hc with q1 q2
   exact⟨t,x,k,y,m,z,x',k',y',.inl ho,e1,e2,e3,e4,q1.symm,q2.symm⟩
  ·cases hc
 case h_30=>
  rename_i t x k y ho
  left
  split at hc
  ·rename_i m z x' k' y' e1 e2 e3 e4
   injection hc with hc
   injection hc with q1 q2
   exact⟨t,x,k,y,m,z,x',k',y',.inr ho,e1,e2,e3,e4,q1.symm,q2.symm⟩
  ·cases hc
 all_goals (try unfold vV at hc)<;>(try unfold sY at hc)<;>(repeat' (split at hc))<;>(simp only[Option.bind_eq_bind,Option.bind_eq_some_iff,Option.pure_def,Option.some.injEq,Option.map_eq_some_iff,reduceCtorEq,and_false,exists_false]at hc)
def jr (g:Rows) (id:Id):Option Row->Rows
 |some r=>bt g id r
 |none=>g
def vZ (X:fH) (hid:List Nat) (site n:Nat) (f:Nat) (args:List AV) (g:Rows) (v:AV) (g':Rows):Prop:=
 (gy X f args ⟨fY hid n g,n+1⟩ (fun r=>r=v)/\g'=g)∨
 (hid.contains site=true/\∃sz rows,CM X f args ⟨fY hid n g,n+1⟩ sz rows/\v=.own ⟨site,n⟩ 0 rows.length/\g'=bt g ⟨site,n⟩ ⟨true,sz,rows⟩)
def VS (X:fH) (n:Nat) (vo:bq) (env:Env) (g:Rows) (v:AV) (g':Rows):Prop:=
 match vo.op with
 | .call f args=>vZ X vo.hid vo.site n f (args.map (cQ env)) g v g'
 | .tU x args=>∃f l,vY (cQ env x) (args.map (cQ env))=some (f,l)/\vZ X vo.hid vo.site n f l g v g'
 | .store .. | .append .. | .copy .. | .clear .. | .mw .. =>fZ vo.op (cQ env) g ⟨vo.site,n⟩=some (v,g')
 |_=>∃mr,eQ vo.op (cQ env) (fY vo.hid n g) ⟨vo.site,n⟩=some (v,mr)/\g'=jr g ⟨vo.site,n⟩ mr
def MX (P:Program) (hs:Nat) (D:Nat->Prop) (ι:Names) (w:World) (U:Nat->Prop) (site n:Nat) (a:Act) (dst:Option Tmp) (v:AV) (g':Rows) (a':Act) (w':World):Prop:=
 ∃u D' ι',a'=a.put dst u/\Step hs D ι w D' ι' w'/\gz P hs D' ι' g' w'/\cI P w' D' ι' v u/\Used ι' n (fun s=>U s∨s=site)
theorem fresh {n:Nat} {U:Nat->Prop} {s:Nat} (h:Used ι n U) (hU:¬U s):ι ⟨s,n⟩=none:=by
 cases hq:ι ⟨s,n⟩with
 |none=>rfl
 |some B=>
  rcases h ⟨s,n⟩ (by rw[hq];simp)with h|⟨_,h⟩
  ·exact absurd h (Nat.lt_irrefl _)
  ·exact absurd h hU
theorem Used.more {n:Nat} {U U':Nat->Prop} (h:Used ι n U) (hU:∀s,U s->U' s):Used ι n U':=fun id hid=>by
 rcases h id hid with h|⟨h1,h2⟩
 ·exact .inl h
 ·exact .inr ⟨h1,hU _ h2⟩
theorem Used.next {n:Nat} {U:Nat->Prop} (h:Used ι n U):Used ι (n+1) (fun _=>False):=fun id hid=>by
 rcases h id hid with h|⟨h1,_⟩
 ·exact .inl (Nat.lt_succ_of_lt h)
 ·exact .inl (by omega)
theorem Used.upd {n:Nat} {U:Nat->Prop} {s:Nat} {B:sL} (h:Used ι n U):Used (kM ι ⟨s,n⟩ B) n (fun x=>U x∨x=s):=fun id hid=>by
 by_cases he:id=⟨s,n⟩
 ·subst he;exact .inr ⟨rfl,.inr rfl⟩
 ·rw[gq he]at hid
  exact(h.more (U':=fun x=>U x∨x=s) fun _ h=>Or.inl h) id hid
theorem oI {xs:Array Operand} {ys:List O} (E:cr P w D ι env a) (h:xs.toList.mapM (cO P)=some ys):fm P w D ι (ys.map (cQ env)) (xs.map a.eval):=by
 obtain⟨h1,h2⟩:=Es E h
 refine⟨by simpa using h1,fun j b hj=>?_⟩
 simp only[List.getElem?_map,Option.map_eq_some_iff]at hj
 obtain⟨y,hy,rfl⟩:=hj
 have dU:j<xs.size:=by have:=(List.getElem?_eq_some_iff.1 hy).1;simp at h1;omega
 refine⟨a.eval xs[j],by simp[dU],?_⟩
 have:=h2 j y hy
 simpa[List.getD_eq_getElem?_getD,dU]using this
theorem pg {xs ys:List AV} {vs us:Array Value} (h:fm P w D ι xs vs) (k:fm P w D ι ys us):fm P w D ι (xs++ys) (vs++us):=
 ⟨by simp[h.1,k.1],fun j b hj=>by
  by_cases dU:j<xs.length
  ·rw[List.getElem?_append_left dU]at hj
   obtain⟨u,hu,x9⟩:=h.2 j b hj
   exact⟨u,by rw[Array.getElem?_append_left (by rw[h.1];exact dU)];exact hu,x9⟩
  ·rw[List.getElem?_append_right (by omega)]at hj
   obtain⟨u,hu,x9⟩:=k.2 _ b hj
   exact⟨u,by rw[Array.getElem?_append_right (by rw[h.1];omega),h.1];exact hu,x9⟩⟩
theorem xf:fm P w D ι [] #[]:=⟨rfl,fun j b hj=>by simp at hj⟩
theorem v7 {x:AV} {l l':List AV} {f:Nat} {vs:Array Value} {v:Value} (h:vY x l=some (f,l')) (hr:cI P w D ι x v) (hA:fm P w D ι l vs):
  ∃first cN,v=.func (.func f) first cN/\fJ P f=true/\fm P w D ι l' (first++vs++cN):=by
 unfold vY at h
 split at h
 ·simp only[Option.some.injEq,Prod.mk.injEq]at h
  obtain⟨rfl,rfl⟩:=h
  obtain⟨us,q,he,Fu,n1,q1,q2⟩:=AD hr
  refine⟨#[],us,he,Fu,?_⟩
  rw[Array.empty_append]
  exact pg hA ⟨n1,fun j b hj=>⟨q j,q1 j (List.getElem?_eq_some_iff.1 hj).1,q2 j b hj⟩⟩
 ·simp only[Option.some.injEq,Prod.mk.injEq]at h
  obtain⟨rfl,rfl⟩:=h
  obtain⟨us,q,he,Fu,n1,q1,q2⟩:=MC hr
  refine⟨us, #[],he,Fu,?_⟩
  rw[Array.append_empty]
  exact pg ⟨n1,fun j b hj=>⟨q j,q1 j (List.getElem?_eq_some_iff.1 hj).1,q2 j b hj⟩⟩ hA
 ·cases h
theorem Bl {n:Nat} {vo:bq} {g':Rows} {U:Nat->Prop} {Q:Exit->Act->World->Prop} {K:Act->World->Prop} (hc:rj P o.op=some vo.op) (hv:VS (Sound P) n vo env g v g') (S:gz P hs D ι g w) (Us:Used ι n U) (hU:¬U vo.site) (E:cr P w D ι env a)
  (hK:∀a' w',MX P hs D ι w U vo.site n a o.dst v g' a' w'->K a' w'):o.wp P a w K Q:=by
 have hf:=fresh Us hU
 have Bu:∀(f:Nat) (args:List AV) (vs:Array Value),vZ (Sound P) vo.hid vo.site n f args g v g'->fm P w D ι args vs->(execOp a.eval o).run P w=.ok (.enter f vs) w->o.wp P a w K Q:=by
  intro f args vs hP hA gj
  unfold Oper.wp
  rw[gj]
  rcases hP with⟨hP,rfl⟩|⟨_,sz,rows,hM,rfl,rfl⟩
  ·refine(F7 hP AU S Us.next hA).mono ?_
   rintro e w' ⟨r,D',u,rfl,rfl,T,S',hR⟩
   exact hK _ _ ⟨u,D',ι,rfl,T,S',hR,Us.more fun _ h=>.inl h⟩
  ·refine(HZ hM AU S Us.next hA hf).mono ?_
   rintro e w' ⟨u,B,rfl,T,S',hR⟩
   exact hK _ _ ⟨u,D,_,rfl,T,S',hR,Us.upd⟩
 have quiet:∀(mr:Option Row),eQ vo.op (cQ env) (fY vo.hid n g) ⟨vo.site,n⟩=some (v,mr)->g'=jr g ⟨vo.site,n⟩ mr->o.wp P a w K Q:=by
  intro mr hq hg
  have hqs:=zl hc hq (S.sub AU) E
  unfold Oper.wp
  cases mr with
  |none=>
   obtain⟨u,gj,hR⟩:=hqs
   rw[gj]
   subst hg
   exact hK _ _ ⟨u,D,ι,rfl,Step.refl _ _ _ _,S,hR,Us.more fun _ h=>.inl h⟩
  |some r=>
   rcases hqs with⟨u,cells,T,gj,h1,h2,h3,h4,h5,h6⟩|⟨m,gj,uI,DU⟩|⟨c,gj,uI,DU⟩
   case inr.inr=>
    rw[gj]
    subst hg uI DU
    have fo:w.heap.size<(w.alloc (.chan c #[] false 0 0 false)).heap.size:=by simp
    have S':=S.stay (w':=w.alloc (.chan c #[] false 0 0 false)) (D':=D) (ι':=ι) (fun k hk=>Below.heap_alloc _ _ _ hk) (by simp) (fun _ h=>h) (fun b hd=>Nat.lt_trans (S.dead b hd) fo) (fun _ h=>.inl h) (fun _ _ h=>h)
    have S1:=S.add S' (id:=⟨vo.site,n⟩) (B:=⟨w.heap.size,qF+c,0,some (.chan c)⟩) (r:=⟨true,qF+c,[]⟩) hf (Nat.le_refl _) ⟨rfl,fun cs h=>by simp at h,fun h=>by simp at h,fun m' h=>(by simp at h),fun c' h=>by
     simp only[Option.some.injEq,BK.chan.injEq]at h;subst h
     exact⟨rfl, #[],0,0,(show(w.heap.push (Obj.chan c #[] false 0 0 false))[w.heap.size]? =some (Obj.chan c #[] false 0 0 false) by simp),rfl,fun i cs h=>by simp at h⟩⟩
    exact hK _ _ ⟨_,D,_,rfl,Step.stay S (fun k hk=>Below.heap_alloc _ _ _ hk) (by simp) rfl rfl rfl (fun _ h=>h) (fun _ h=>.inl h) (fb hf),S1,.rL _ _ _ (dY _ _ _) rfl,Us.upd⟩
   case inr.inl=>
    rw[gj]
    subst hg uI DU
    have fo:w.heap.size<(w.alloc (.map #[] 0)).heap.size:=by simp
    have S':=S.stay (w':=w.alloc (.map #[] 0)) (D':=D) (ι':=ι) (fun k hk=>Below.heap_alloc _ _ _ hk) (by simp) (fun _ h=>h) (fun b hd=>Nat.lt_trans (S.dead b hd) fo) (fun _ h=>.inl h) (fun _ _ h=>h)
    have S1:=S.add S' (id:=⟨vo.site,n⟩) (B:=⟨w.heap.size,m.pQ,0,some (.map m)⟩) (r:=⟨true,m.pQ,[]⟩) hf (Nat.le_refl _) ⟨rfl,fun cs h=>by simp at h,fun h=>by simp at h,fun m' h=>by
     simp only[Option.some.injEq,BK.map.injEq]at h;subst h
     exact⟨rfl, #[],0,(show(w.heap.push (Obj.map #[] 0))[w.heap.size]? =some (Obj.map #[] 0) by simp),rfl,⟨fun cs h=>by simp at h,fun x h=>by simp at h,by simp⟩,fun i cs h=>by simp at h⟩,fun c h=>by simp at h⟩
    exact hK _ _ ⟨_,D,_,rfl,Step.stay S (fun k hk=>Below.heap_alloc _ _ _ hk) (by simp) rfl rfl rfl (fun _ h=>h) (fun _ h=>.inl h) (fb hf),S1,.map _ _ _ (dY _ _ _) rfl,Us.upd⟩
   rw[gj]
   subst hg
   have S1:=S.alloc (id:=⟨vo.site,n⟩) (w':=w.alloc (.cells cells T)) rfl hf h1 h2 h3 h4 h5
   refine hK _ _ ⟨u,D,_,rfl,Step.stay S (fun k hk=>Below.heap_alloc _ _ _ hk) (by simp) rfl rfl rfl (fun _ h=>h) (fun _ h=>.inl h) (fb hf),S1,(h6 (kM ι _ _) (dY _ _ _)).frame (fun b hd=>Below.heap_alloc _ _ _ (S.dead b hd)) (fun _ h=>h) (fun _ _ h=>h),Us.upd⟩
 have Qf:fZ vo.op (cQ env) g ⟨vo.site,n⟩=some (v,g')->(∀Lc,Dd P hs a o Lc D ι ⟨vo.site,n⟩ v g'->Lc=w->o.wp P a w K Q):=by
  intro _ Lc hE he
  subst he
  obtain⟨u,w',ι',gj,T,S',hR,hι⟩:=hE
  have IT:MX P hs D ι Lc U vo.site n a o.dst v g' (a.put o.dst u) w':=⟨u,D,ι',rfl,T,S',hR,fun id hid=>by
   by_cases he:id=⟨vo.site,n⟩
   ·subst he;exact .inr ⟨rfl,.inr rfl⟩
   ·rw[hι id he]at hid
    exact(Us.more (U':=fun x=>U x∨x=vo.site) fun _ h=>Or.inl h) id hid⟩
  unfold Oper.wp
  rcases gj with gj|⟨gj,rfl⟩
  ·rw[gj];exact hK _ _ IT
  ·rw[gj];exact hK _ _ IT
 unfold VS at hv
 split at hv
 ·rename_i f args er
  rw[er]at hc
  obtain⟨c,ho,kH,Fu,nO⟩:=Cd hc
  refine Bu f _ (c.args.map a.eval) hv (oI E nO) ?_
  simp only[execOp,ho,resolve,kH,Deferred.ofValue,Act.eval,Sem.run_bind,Sem.run_pure,Result.andThen_ok,invoke,Array.empty_append,Array.append_empty]
  exact jD Fu
 ·rename_i x args er
  obtain⟨f,l,hx,hP⟩:=hv
  rw[er]at hc
  obtain⟨c,t,ho,kH,rfl,nO⟩:=tp hc
  obtain⟨first,cN,he,Fu,hL⟩:=v7 (v:=a.eval (.tmp t)) hx (E t) (oI E nO)
  refine Bu f _ (first++c.args.map a.eval++cN) hP hL ?_
  simp only[execOp,ho,resolve,kH,he,Deferred.ofValue,Sem.run_bind,Sem.run_pure,Result.andThen_ok,invoke]
  exact jD Fu
 ·rename_i m x y er
  have kT:=hc
  rw[er]at kT
  obtain⟨t,x',y',ho,h1,h2,h3⟩:=GQ kT
  have oi:=hv
  rw[er]at oi
  simp only[fZ,Option.map_eq_some_iff,Prod.mk.injEq]at oi
  obtain⟨g1,Bd,rfl,rfl⟩:=oi
  exact Qf hv w (Lv S E ho h1 h2 h3 Bd) rfl
 ·rename_i m x y er
  have kT:=hc
  rw[er]at kT
  obtain⟨t,e,m',z,i,x',y',rfl,ho,h1,h2,h3,h4,h5,h6,h7⟩:=D7 kT
  have oi:=hv
  rw[er]at oi
  simp only[fZ,Option.bind_eq_some_iff]at oi
  obtain⟨ys,FF,oi⟩:=oi
  exact Qf hv w (Iz S E hf ho h1 h2 h3 h4 h5 h6 h7 FF oi) rfl
 ·rename_i m x y er
  have kT:=hc
  rw[er]at kT
  obtain⟨t,t2,e,m',x',y',rfl,ho,h1,h2,h3,h4⟩:=Js kT
  have oi:=hv
  rw[er]at oi
  simp only[fZ,Option.bind_eq_some_iff]at oi
  obtain⟨ys,FF,oi⟩:=oi
  exact Qf hv w (N3 S E ho h1 h2 h3 h4 FF oi) rfl
 ·rename_i z x er
  have kT:=hc
  rw[er]at kT
  obtain⟨t,e,m',x',ho,h1,h2,h3,h4⟩:=GP kT
  have oi:=hv
  rw[er]at oi
  simp only[fZ,Option.map_eq_some_iff,Prod.mk.injEq]at oi
  obtain⟨g1,Bd,rfl,rfl⟩:=oi
  exact Qf hv w (Lu S E ho h1 h2 h3 h4 Bd) rfl
 ·rename_i q xs er
  have kT:=hc
  rw[er]at kT
  have oi:=hv
  rw[er]at oi
  simp only[fZ,Option.map_eq_some_iff,Prod.mk.injEq]at oi
  obtain⟨g1,Bd,rfl,rfl⟩:=oi
  rcases Pd kT with⟨t,x,k,y,m,z,x',k',y',ho,h1,h2,h3,h4,rfl,rfl⟩|⟨t,t',x,k,m,z,x',k',ho,h1,h2,h3,rfl,rfl⟩
  ·exact Qf hv w (N5 S E ho h1 h2 h3 h4 Bd) rfl
  ·exact Qf hv w (N4 S E ho h1 h2 h3 Bd) rfl
 ·obtain⟨mr,hq,hg⟩:=hv
  exact quiet mr hq hg
end
end Go.Proofs.YtgoljkjaameagaaGreat.V

namespace Go.Proofs.YtgoljkjaameagaaGreat.V
open Go.RowKit
variable {P:Program} {w w':World} {D D' D2:Nat->Prop} {ι ι' ι2:Names}
section
variable {g:Rows} {hs:Nat} {env:Env} {a:Act} {o:Oper} {id:Id} {v:AV}
theorem pH {ops:Array Oper} {nt site0 j:Nat} {draw mk:Bool} {bs:Array Nat} {hidden:List (Nat×Bool)} {vo:bq} (h:kQ P ops nt site0 draw mk bs hidden j o=some vo):
  rj P o.op=some vo.op/\vo.dst=o.dst/\vo.site=site0+j/\(∀d,o.dst=some d->d<nt)/\(match o.guard with
   |none=>vo.guard=none
   |some (i,b)=>∃t,(ops[i]?).bind (·.dst)=some t/\vo.guard=some (t,b)):=by
 unfold kQ at h
 simp only[Option.bind_eq_bind,Option.bind_eq_some_iff]at h
 obtain⟨v,hv,gd,hg,h⟩:=h
 split at h
 ·rename_i hd
  simp only[Option.pure_def,Option.some.injEq]at h
  subst h
  refine⟨hv,rfl,rfl,fun d Ta=>?_,?_⟩
  ·rw[Ta]at hd;simpa using hd
  ·unfold Ds at hg
   cases rS:o.guard with
   |none=>rw[rS]at hg;simp at hg;exact hg.symm
   |some p=>
    obtain⟨i,b⟩:=p
    rw[rS]at hg
    dsimp only at hg ⊢
    split at hg
    ·rename_i t ht
     simp at hg;exact⟨t,ht,hg.symm⟩
    ·simp at hg
 ·simp at h
theorem tM {ops:Array Oper} {vo:bq} (E:cr P w D ι env a) (hg:match o.guard with
   |none=>vo.guard=none
   |some (i,b)=>∃t,(ops[i]?).bind (·.dst)=some t/\vo.guard=some (t,b)):aM vo.guard env=Region.wanted o (yielded ops a.tmps):=by
 unfold Region.wanted
 cases rS:o.guard with
 |none=>rw[rS]at hg;simp only at hg;rw[hg];rfl
 |some p=>
  obtain⟨i,b⟩:=p
  rw[rS]at hg
  obtain⟨t,ht,hv⟩:=hg
  rw[hv]
  simp only[aM,yielded,ht,Option.bind_some]
  have hr:=E t
  by_cases dU:t<a.tmps.size
  ·have fc:a.tmps[t]? =some a.tmps[t]:=Array.getElem?_eq_getElem dU
   have hd:a.tmps.getD t undef=a.tmps[t]:=by simp[dU]
   rw[hd]at hr
   rw[fc]
   generalize a.tmps[t]=u at hr
   cases he:env t with
   |bool c=>rw[he]at hr;rw[e6 hr];simp
   |_=>
    rw[he]at hr
    have:∀c,u≠.bool c:=by
     intro c hu
     subst hu
     cases hr with
     |eO _ _ h=>cases h
    cases u<;>simp_all
  ·have fc:a.tmps[t]? =none:=Array.getElem?_eq_none (Nat.le_of_not_lt dU)
   have hd:a.tmps.getD t undef=undef:=by simp[fc]
   rw[hd]at hr
   rw[fc]
   cases he:env t with
   |bool c=>rw[he]at hr;have:=e6 hr;simp[undef]at this
   |_=>simp
theorem iz {dst:Option Nat} {nt:Nat} {u:Value} (E:cr P w D ι env a) (hr:cI P w D ι v u) (hd:∀d,dst=some d->d<nt) (hs:a.tmps.size=nt):cr P w D ι (upd env dst v) (a.put dst u):=by
 intro t
 cases dst with
 |none=>exact E t
 |some d=>
  have dU:d<a.tmps.size:=by rw[hs];exact hd d rfl
  simp only[upd,Act.put]
  by_cases ht:t=d
  ·subst ht
   simp[dU];exact hr
  ·rw[if_neg ht]
   have:(a.tmps.setIfInBounds d u).getD t undef=a.tmps.getD t undef:=by
    simp only[Array.getD_eq_getD_getElem?]
    rw[Array.getElem?_setIfInBounds_ne (fun e=>ht e.symm)]
   rw[this];exact E t
theorem oN {hs:Nat} (E:cr P w D ι env a) (T:Step hs D ι w D' ι' w'):cr P w' D' ι' env a:=fun t=>T.rep (E t)
theorem eW (a:Act) (dst:Option Tmp) (u:Value):(a.put dst u).tmps.size=a.tmps.size:=by cases dst<;>simp[Act.put]
theorem put_defers (a:Act) (dst:Option Tmp) (u:Value):(a.put dst u).defers=a.defers:=by cases dst<;>rfl
theorem zx {draw:Bool} {vo:bq} {σ:ar} {next:AV->ar->Prop} {U:Nat->Prop} {Q:Exit->Act->World->Prop} {K:Act->World->Prop} (hc:rj P o.op=some vo.op) (hv:fG (Sound P) draw vo env σ next) (S:gz P hs D ι σ.get w) (Us:Used ι σ.next U) (hU:¬U vo.site) (E:cr P w D ι env a)
  (hK:∀v σ' u D' ι' w',next v σ'->Step hs D ι w D' ι' w'->gz P hs D' ι' σ'.get w'->cI P w' D' ι' v u->Used ι' σ'.next (fun s=>U s∨s=vo.site)->σ.next<=σ'.next->K (a.put o.dst u) w'):o.wp P a w K Q:=by
 have close:∀v g',VS (Sound P) σ.next vo env σ.get v g'->next v ⟨g',σ.next⟩->o.wp P a w K Q:=fun v g' h1 h2=>
  Bl hc h1 S Us hU E fun a' w' ⟨u,D',ι',ha,T,S',hR,U'⟩=>by subst ha;exact hK v ⟨g',σ.next⟩ u D' ι' w' h2 T S' hR U' (Nat.le_refl _)
 have JQ:∀(f:Nat) (args:List AV) (vs:Array Value),Sound P f args ⟨σ.get,σ.next+1⟩ next->fm P w D ι args vs->(execOp a.eval o).run P w=.ok (.enter f vs) w->o.wp P a w K Q:=by
  intro f args vs h hA gj
  unfold Oper.wp
  rw[gj]
  refine(h hs D ι w vs S Us.next hA).mono ?_
  rintro e w' ⟨r,g',n',D',ι',u,rfl,hn,T,S',U',hle,hR⟩
  exact hK r ⟨g',n'⟩ u D' ι' w' hn T S' hR (U'.more fun _ h=>h.elim) (Nat.le_trans (Nat.le_succ _) hle)
 unfold fG at hv
 split at hv
 ·rename_i f args er
  rcases hv with⟨r,hP,hn⟩|⟨_,hX⟩|⟨FC,sz,rows,hM,hn⟩
  ·exact close r σ.get (by unfold VS;rw[er];exact .inl ⟨hP,rfl⟩) hn
  rotate_left
  ·exact close _ _ (by unfold VS;rw[er];exact .inr ⟨FC,sz,rows,hM,rfl,rfl⟩) hn
  ·have kT:=hc
   rw[er]at kT
   obtain⟨c,ho,kH,Fu,nO⟩:=Cd kT
   refine JQ f _ (c.args.map a.eval) hX (oI E nO) ?_
   simp only[execOp,ho,resolve,kH,Deferred.ofValue,Act.eval,Sem.run_bind,Sem.run_pure,Result.andThen_ok,invoke,Array.empty_append,Array.append_empty]
   exact jD Fu
 ·rename_i x args er
  split at hv
  ·rename_i f cN hx
   have vm:vY (cQ env x) (args.map (cQ env))=some (f,args.map (cQ env)++cN):=by rw[hx];rfl
   rcases hv with⟨r,hP,hn⟩|⟨_,hX⟩|⟨FC,sz,rows,hM,hn⟩
   ·exact close r σ.get (by unfold VS;rw[er];exact⟨f,_,vm,.inl ⟨hP,rfl⟩⟩) hn
   rotate_left
   ·exact close _ _ (by unfold VS;rw[er];exact⟨f,_,vm,.inr ⟨FC,sz,rows,hM,rfl,rfl⟩⟩) hn
   ·have kT:=hc
    rw[er]at kT
    obtain⟨c,t,ho,kH,rfl,nO⟩:=tp kT
    obtain⟨first,us,he,Fu,hL⟩:=v7 (v:=a.eval (.tmp t)) vm (E t) (oI E nO)
    refine JQ f _ (first++c.args.map a.eval++us) hX hL ?_
    simp only[execOp,ho,resolve,kH,he,Deferred.ofValue,Sem.run_bind,Sem.run_pure,Result.andThen_ok,invoke]
    exact jD Fu
  ·rename_i f cN hx
   have vm:vY (cQ env x) (args.map (cQ env))=some (f,cN++args.map (cQ env)):=by rw[hx];rfl
   rcases hv with⟨r,hP,hn⟩|⟨_,hX⟩|⟨FC,sz,rows,hM,hn⟩
   ·exact close r σ.get (by unfold VS;rw[er];exact⟨f,_,vm,.inl ⟨hP,rfl⟩⟩) hn
   rotate_left
   ·exact close _ _ (by unfold VS;rw[er];exact⟨f,_,vm,.inr ⟨FC,sz,rows,hM,rfl,rfl⟩⟩) hn
   ·have kT:=hc
    rw[er]at kT
    obtain⟨c,t,ho,kH,rfl,nO⟩:=tp kT
    obtain⟨first,us,he,Fu,hL⟩:=v7 (v:=a.eval (.tmp t)) vm (E t) (oI E nO)
    refine JQ f _ (first++c.args.map a.eval++us) hX hL ?_
    simp only[execOp,ho,resolve,kH,he,Deferred.ofValue,Sem.run_bind,Sem.run_pure,Result.andThen_ok,invoke]
    exact jD Fu
  ·exact hv.elim
 ·rename_i m x y er
  split at hv
  ·rename_i v' g' he
   exact close v' g' (by unfold VS;rw[er];rw[er]at he;exact he) hv
  ·exact hv.elim
 ·rename_i m x y er
  split at hv
  ·rename_i v' g' he
   exact close v' g' (by unfold VS;rw[er];rw[er]at he;exact he) hv
  ·exact hv.elim
 ·rename_i m x y er
  split at hv
  ·rename_i v' g' he
   exact close v' g' (by unfold VS;rw[er];rw[er]at he;exact he) hv
  ·exact hv.elim
 ·rename_i m x er
  split at hv
  ·rename_i v' g' he
   exact close v' g' (by unfold VS;rw[er];rw[er]at he;exact he) hv
  ·exact hv.elim
 ·rename_i m x er
  split at hv
  ·rename_i v' g' he
   exact close v' g' (by unfold VS;rw[er];rw[er]at he;exact he) hv
  ·exact hv.elim
 ·rename_i n1 n2 n3 n4 n5 n6 n7
  split at hv
  ·rename_i v' r hq
   refine close v' (bt σ.get ⟨vo.site,σ.next⟩ r) ?_ hv
   unfold VS
   split
   ·rename_i h;exact(n1 _ _ h).elim
   ·rename_i h;exact(n2 _ _ h).elim
   ·rename_i h;exact(n3 _ _ _ h).elim
   ·rename_i h;exact(n4 _ _ _ h).elim
   ·rename_i h;exact(n5 _ _ _ h).elim
   ·rename_i h;exact(n6 _ _ h).elim
   ·rename_i h;exact(n7 _ _ h).elim
   ·exact⟨some r,hq,rfl⟩
  ·rename_i v' hq
   refine close v' σ.get ?_ hv
   unfold VS
   split
   ·rename_i h;exact(n1 _ _ h).elim
   ·rename_i h;exact(n2 _ _ h).elim
   ·rename_i h;exact(n3 _ _ _ h).elim
   ·rename_i h;exact(n4 _ _ _ h).elim
   ·rename_i h;exact(n5 _ _ _ h).elim
   ·rename_i h;exact(n6 _ _ h).elim
   ·rename_i h;exact(n7 _ _ h).elim
   ·exact⟨none,hq,rfl⟩
  ·exact hv.elim
structure St (P:Program) (hs nt:Nat) (D:Nat->Prop) (ι:Names) (env:Env) (σ:ar) (a:Act) (w:World):Prop where
 tD:gz P hs D ι σ.get w
 used:Used ι σ.next (fun _=>False)
 env:cr P w D ι env a
 size:a.tmps.size=nt
theorem w8 (rest:List Oper) {ops:Array Oper} {nt site0:Nat} {draw mk:Bool} {bs:Array Nat} {hidden:List (Nat×Bool)} {K:Env->ar->Prop} {Q:Exit->Act->World->Prop}:∀(l:List Oper) (vl:List bq) (j:Nat) (env:Env) (σ:ar) (a:Act) (w:World) (D:Nat->Prop) (ι:Names) (U:Nat->Prop),
  allM (kQ P ops nt site0 draw mk bs hidden) l j=some vl->wpOps (Sound P) draw vl K env σ->gz P hs D ι σ.get w->Used ι σ.next U->(∀s,U s->s<site0+j)->cr P w D ι env a->a.tmps.size=nt->
  (∀iI σ' a' w' D' ι',K iI σ'->Step hs D ι w D' ι' w'->St P hs nt D' ι' iI σ' a' w'->a'.defers=a.defers->σ.next<=σ'.next->wpList P ops Q rest a' w')->wpList P ops Q (l++rest) a w:=by
 intro l
 induction l with
 |nil=>
  intro vl j env σ a w D ι U h hv S Us _ E fo hQ
  simp[allM]at h;subst h
  exact hQ env ⟨σ.get,σ.next+1⟩ a w D ι hv (Step.refl _ _ _ _) ⟨S,Us.next,E,fo⟩ rfl (Nat.le_succ _)
 |cons o l ih=>
  intro vl j env σ a w D ι U h hv S Us hU E fo hQ
  simp only[allM,Option.bind_eq_bind,Option.bind_eq_some_iff,Option.pure_def,Option.some.injEq]at h
  obtain⟨vo,qf,tL,sQ,rfl⟩:=h
  obtain⟨hc,hd,B5,xY,hg⟩:=pH qf
  have hw:=tM (ops:=ops) (vo:=vo) E hg
  unfold wpOps at hv
  show wpList P ops Q (o::(l++rest)) a w
  unfold wpList
  rw[<-hw]
  split at hv
  ·rename_i GL
   rw[if_pos GL]
   refine .inl (zx hc hv S Us (fun h=>by have:=hU _ h;omega) E fun v σ' u D' ι' w' hn T S' hR U' hle=>?_)
   refine ih tL (j+1) (upd env vo.dst v) σ' (a.put o.dst u) w' D' ι' _ sQ hn S' U' (fun s BZ=>by
    rcases BZ with h|h
    ·have:=hU _ h;omega
    ·omega) (by rw[hd];exact iz (oN E T) hR xY fo) (by rw[eW];exact fo) fun iI σ2 a' w2 D2 ι2 hk T2 NM DM nr=>hQ iI σ2 a' w2 D2 ι2 hk (T.trans T2) NM (DM.trans (put_defers _ _ _)) (Nat.le_trans hle nr)
  ·rename_i GL
   rw[if_neg GL]
   refine ih tL (j+1) (upd env vo.dst .undef) σ (a.put o.dst undef) w D ι U sQ hv S Us (fun s BZ=>by have:=hU _ BZ;omega) (by rw[hd];exact iz E cI.undef xY fo) (by rw[eW];exact fo) fun iI σ2 a' w2 D2 ι2 hk T2 NM DM nr=>hQ iI σ2 a' w2 D2 ι2 hk T2 NM (DM.trans (put_defers _ _ _)) nr
theorem zg {ops:Array Oper} {nt site0:Nat} {draw mk:Bool} {bs:Array Nat} {hidden:List (Nat×Bool)} {K:Env->ar->Prop} {Q:Exit->Act->World->Prop}:∀(l:List Oper) (vl:List bq) (j:Nat) (env:Env) (σ:ar) (a:Act) (w:World) (D:Nat->Prop) (ι:Names) (U:Nat->Prop),
  allM (kQ P ops nt site0 draw mk bs hidden) l j=some vl->wpOps (Sound P) draw vl K env σ->gz P hs D ι σ.get w->Used ι σ.next U->(∀s,U s->s<site0+j)->cr P w D ι env a->a.tmps.size=nt->
  (∀iI σ' a' w' D' ι',K iI σ'->Step hs D ι w D' ι' w'->St P hs nt D' ι' iI σ' a' w'->a'.defers=a.defers->σ.next<=σ'.next->Q .normal a' w')->wpList P ops Q l a w:=fun l vl j env σ a w D ι U h hv S Us hU E fo hQ=>by
 have:=w8 [] l vl j env σ a w D ι U h hv S Us hU E fo hQ
 rwa [List.append_nil]at this
end
end Go.Proofs.YtgoljkjaameagaaGreat.V

namespace Go.Proofs.YtgoljkjaameagaaGreat.V
open Go.RowKit
variable {P:Program} {w w':World} {D D' D2:Nat->Prop} {ι ι' ι2:Names}
section
variable {hs:Nat} {X:fH}
theorem br {env iV:Env} {x:O} (h:∀t∈gU x,env t=iV t):cQ env x=cQ iV x:=by
 cases x with
 |t n=>exact h n (by simp[gU])
 |_=>rfl
theorem map_congr {env iV:Env} {l:List O} (h:∀t∈l.flatMap gU,env t=iV t):l.map (cQ env)=l.map (cQ iV):=
 List.map_congr_left fun x hx=>br fun t ht=>h t (List.mem_flatMap.2 ⟨x,hx,ht⟩)
theorem pP {env iV:Env} {x:Option O} (h:∀t∈w9 x,env t=iV t):x.map (cQ env)=x.map (cQ iV):=by
 cases x with
 |none=>rfl
 |some y=>simp only[Option.map_some];rw[br h]
theorem tA {env iV:Env} {o:gE} {g:Rows} {id:Id} (h:∀t∈o.gL,env t=iV t):eQ o (cQ env) g id=eQ o (cQ iV) g id:=by
 cases o<;>simp only[gE.gL,List.mem_append]at h<;>simp only[eQ]
 case dm x=>rw[br h]
 case pick c a b=>rw[br (x:=c) fun t ht=>h t (.inl (.inl ht)),br (x:=a) fun t ht=>h t (.inl (.inr ht)),br (x:=b) fun t ht=>h t (.inr ht)]
 case box x=>rw[br h]
 case build z ps=>
  have:(ps.map fun(x:Nat×Nat×O)=>(x.1,x.2.1,cQ env x.2.2))=ps.map fun(x:Nat×Nat×O)=>(x.1,x.2.1,cQ iV x.2.2):=List.map_congr_left fun x hx=>by
   rw[br (x:=x.2.2) fun t ht=>h t (List.mem_flatMap.2 ⟨x,hx,ht⟩)]
  rw[this]
 case l5 a b l=>rw[map_congr h]
 case load a n x=>rw[br h]
 case A8 x=>rw[br h]
 case bin a b x y=>rw[br (x:=x) fun t ht=>h t (.inl ht),br (x:=y) fun t ht=>h t (.inr ht)]
 case sh a x y=>rw[br (x:=x) fun t ht=>h t (.inl ht),br (x:=y) fun t ht=>h t (.inr ht)]
 case Lr a x y=>rw[br (x:=x) fun t ht=>h t (.inl ht),br (x:=y) fun t ht=>h t (.inr ht)]
 case Oa a b x y=>rw[br (x:=x) fun t ht=>h t (.inl ht),br (x:=y) fun t ht=>h t (.inr ht)]
 case SH a b x y=>rw[br (x:=x) fun t ht=>h t (.inl ht),br (x:=y) fun t ht=>h t (.inr ht)]
 case QY a b x=>rw[br h]
 case SI a x=>rw[br h]
 case not x=>rw[br h]
 case neg x=>rw[br h]
 case conv k x=>rw[br h]
 case Fc x=>rw[br h]
 case slice s x lo hi=>rw[br (x:=x) fun t ht=>h t (.inl (.inl ht)),pP (x:=lo) fun t ht=>h t (.inl (.inr ht)),pP (x:=hi) fun t ht=>h t (.inr ht)]
 case AK x lo hi=>rw[br (x:=x) fun t ht=>h t (.inl (.inl ht)),pP (x:=lo) fun t ht=>h t (.inl (.inr ht)),pP (x:=hi) fun t ht=>h t (.inr ht)]
 case fU k x=>rw[br h]
 case field a b c x=>rw[br h]
 case dL s x y=>rw[br (x:=x) fun t ht=>h t (.inl ht),br (x:=y) fun t ht=>h t (.inr ht)]
 case L4 n s x y=>rw[br (x:=x) fun t ht=>h t (.inl ht),br (x:=y) fun t ht=>h t (.inr ht)]
 case L6 x y=>rw[br (x:=x) fun t ht=>h t (.inl ht),br (x:=y) fun t ht=>h t (.inr ht)]
 case eF a b c x y=>rw[br (x:=x) fun t ht=>h t (.inl ht),br (x:=y) fun t ht=>h t (.inr ht)]
 case extract i x=>rw[br h]
 case len x=>rw[br h]
 case Md x=>rw[br h]
 case JK x=>rw[br h]
 case JC x=>rw[br h]
 case Mi f l=>rw[map_congr h]
 case Mj f l=>rw[map_congr h]
 case mq f l=>rw[map_congr h]
 case j7 z x y=>rw[br (x:=x) fun t ht=>h t (.inl ht),br (x:=y) fun t ht=>h t (.inr ht)]
theorem gY {env iV:Env} {o:gE} {g:Rows} {id:Id} (h:∀t∈o.gL,env t=iV t):fZ o (cQ env) g id=fZ o (cQ iV) g id:=by
 cases o<;>simp only[gE.gL,List.mem_append]at h<;>simp only[fZ]
 case clear z x=>rw[br h]
 case mw f l=>rw[map_congr h]
 all_goals rename_i a x y
 all_goals rw[br (x:=x) fun t ht=>h t (.inl ht),br (x:=y) fun t ht=>h t (.inr ht)]
theorem Ig {n:Nat} {vo:bq} {env iV:Env} {g g':Rows} {v:AV} (h:∀t∈vo.op.gL,env t=iV t) (hv:VS X n vo env g v g'):VS X n vo iV g v g':=by
 unfold VS at hv ⊢
 split at hv
 ·rename_i f args er
  rw[er]at h
  simp only[gE.gL]at h
  rw[<-map_congr h];exact hv
 ·rename_i x args er
  rw[er]at h
  simp only[gE.gL,List.mem_append]at h
  rw[<-map_congr (l:=args) fun t ht=>h t (.inr ht),<-br (x:=x) fun t ht=>h t (.inl ht)];exact hv
 ·rw[<-gY h];exact hv
 ·rw[<-gY h];exact hv
 ·rw[<-gY h];exact hv
 ·rw[<-gY h];exact hv
 ·rw[<-gY h];exact hv
 ·rw[<-tA h];exact hv
theorem Eg {q:MQ} {vs:List AV} {g:Rows} {id:Id} {v:AV} {r:Row} (h:bF q vs g id=some (v,some r)):∃m,q=.new m:=by
 unfold bF at h
 split at h
 ·exact⟨_,rfl⟩
 ·simp[Option.bind_eq_some_iff]at h
 ·simp at h
 ·cases h
theorem xd {o:gE} {ρ:O->AV} {g:Rows} {id:Id} {v:AV} {r:Row} (h:eQ o ρ g id=some (v,some r)):qW o=true:=by
 cases o<;>simp only[eQ]at h<;>(try rfl)<;>(try simp at h)
 case mq q xs=>obtain⟨m,rfl⟩:=Eg h;rfl
 all_goals (try(split at h<;>simp at h))
theorem xe {o:gE} {ρ:O->AV} {g g2:Rows} {id id2:Id} (h:o.cls=.pure):eQ o ρ g id=eQ o ρ g2 id2:=by
 cases o<;>(try simp[gE.cls]at h)<;>(try simp only[eQ])
 case mq q xs=>cases q<;>simp[gE.cls]at h
theorem vO {n:Nat} {vo:bq} {env:Env} {g g':Rows} {v:AV} (hw:vo.op.cls≠.write) (hv:VS X n vo env g v g'):∃mr,g'=jr g ⟨vo.site,n⟩ mr/\(mr≠none->vo.makes=true)/\∀g0,fY vo.hid n g0=fY vo.hid n g->VS X n vo env g0 v (jr g0 ⟨vo.site,n⟩ mr):=by
 unfold VS at hv
 split at hv
 ·rename_i f args er
  rcases hv with⟨h1,rfl⟩|⟨hs,sz,rows,hM,rfl,rfl⟩
  ·refine⟨none,rfl,fun h=>(h rfl).elim,fun g0 h0=>?_⟩
   unfold VS;rw[er];simp only;unfold vZ;rw[h0];exact .inl ⟨h1,rfl⟩
  ·refine⟨some _,rfl,fun _=>by unfold bq.makes;rw[er,hs];simp[gE.l6],fun g0 h0=>?_⟩
   unfold VS;rw[er];simp only;unfold vZ;rw[h0];exact .inr ⟨hs,sz,rows,hM,rfl,rfl⟩
 ·rename_i x args er
  obtain⟨f,cN,hx,hv⟩:=hv
  rcases hv with⟨h1,rfl⟩|⟨hs,sz,rows,hM,rfl,rfl⟩
  ·refine⟨none,rfl,fun h=>(h rfl).elim,fun g0 h0=>?_⟩
   unfold VS;rw[er];simp only;unfold vZ;rw[h0];exact⟨f,cN,hx,.inl ⟨h1,rfl⟩⟩
  ·refine⟨some _,rfl,fun _=>by unfold bq.makes;rw[er,hs];simp[gE.l6],fun g0 h0=>?_⟩
   unfold VS;rw[er];simp only;unfold vZ;rw[h0];exact⟨f,cN,hx,.inr ⟨hs,sz,rows,hM,rfl,rfl⟩⟩
 ·rename_i er;rw[er]at hw;exact(hw rfl).elim
 ·rename_i er;rw[er]at hw;exact(hw rfl).elim
 ·rename_i er;rw[er]at hw;exact(hw rfl).elim
 ·rename_i er;rw[er]at hw;exact(hw rfl).elim
 ·rename_i er;rw[er]at hw;exact(hw rfl).elim
 ·rename_i n1 n2 n3 n4 n5 n6 n7
  obtain⟨mr,hq,rfl⟩:=hv
  refine⟨mr,rfl,fun h=>?_,fun g0 h0=>?_⟩
  ·cases mr with
   |none=>exact(h rfl).elim
   |some r=>unfold bq.makes;rw[xd hq];rfl
  ·unfold VS
   split
   ·rename_i hh;exact(n1 _ _ hh).elim
   ·rename_i hh;exact(n2 _ _ hh).elim
   ·rename_i hh;exact(n3 _ _ _ hh).elim
   ·rename_i hh;exact(n4 _ _ _ hh).elim
   ·rename_i hh;exact(n5 _ _ _ hh).elim
   ·rename_i hh;exact(n6 _ _ hh).elim
   ·rename_i hh;exact(n7 _ _ hh).elim
   ·rw[h0];exact⟨mr,hq,rfl⟩
theorem zH {n:Nat} {vo:bq} {env:Env} {g g':Rows} {v:AV} (hp:vo.op.cls=.pure) (hv:VS X n vo env g v g'):g'=g/\∀g0,VS X n vo env g0 v g0:=by
 unfold VS at hv
 split at hv
 ·rename_i er;rw[er]at hp;simp[gE.cls]at hp
 ·rename_i er;rw[er]at hp;simp[gE.cls]at hp
 ·rename_i er;rw[er]at hp;simp[gE.cls]at hp
 ·rename_i er;rw[er]at hp;simp[gE.cls]at hp
 ·rename_i er;rw[er]at hp;simp[gE.cls]at hp
 ·rename_i er;rw[er]at hp;simp[gE.cls]at hp
 ·rename_i er;rw[er]at hp;simp[gE.cls]at hp
 ·rename_i n1 n2 n3 n4 n5 n6 n7
  obtain⟨mr,hq,rfl⟩:=hv
  have U3:mr=none:=by
   cases mr with
   |none=>rfl
   |some r=>have:=xd hq;simp[qW,hp]at this
  subst U3
  refine⟨rfl,fun g0=>?_⟩
  unfold VS
  split
  ·rename_i hh;exact(n1 _ _ hh).elim
  ·rename_i hh;exact(n2 _ _ hh).elim
  ·rename_i hh;exact(n3 _ _ _ hh).elim
  ·rename_i hh;exact(n4 _ _ _ hh).elim
  ·rename_i hh;exact(n5 _ _ _ hh).elim
  ·rename_i hh;exact(n6 _ _ hh).elim
  ·rename_i hh;exact(n7 _ _ hh).elim
  ·exact⟨none,by rw[xe hp];exact hq,rfl⟩
def GS (X:fH) (n:Nat) (vo:bq) (env:Env) (g:Rows) (v:AV) (g':Rows):Prop:=
 if aM vo.guard env then VS X n vo env g v g' else v=.undef/\g'=g
theorem CX {hid:List Nat} {g:Rows} {s n:Nat} {mr:Option Row} (h:mr≠none->hid.contains s=true):fY hid n (jr g ⟨s,n⟩ mr)=fY hid n g:=by
 cases mr with
 |none=>rfl
 |some r=>
  have hc:=h (by simp)
  cases hid with
  |nil=>simp at hc
  |cons a l=>
   funext i
   show(if (a::l).contains i.site=true/\i.ck=n then none else jr g ⟨s,n⟩ (some r) i)=if (a::l).contains i.site=true/\i.ck=n then none else g i
   by_cases hi:i=⟨s,n⟩
   ·subst hi;rw[if_pos ⟨hc,rfl⟩,if_pos ⟨hc,rfl⟩]
   ·simp only[jr,bt,if_neg hi]
theorem Ga {g:Rows} {i j:Id} (h:i≠j) (m1 m2:Option Row):jr (jr g i m1) j m2=jr (jr g j m2) i m1:=by
 cases m1<;>cases m2<;>simp only[jr]
 funext k
 simp only[bt]
 by_cases h1:k=i
 ·subst h1;rw[if_neg h,if_pos rfl];simp
 ·by_cases h2:k=j
  ·subst h2;simp[h1]
  ·simp[h1,h2]
theorem xF {env:Env} {d e:Option Nat} {v u:AV} (h:∀k,d=some k->e≠some k):upd (upd env d v) e u=upd (upd env e u) d v:=by
 cases d with
 |none=>rfl
 |some d=>
  cases e with
  |none=>rfl
  |some e=>
   have gZ:d≠e:=fun he=>h d rfl (by rw[he])
   funext t
   simp only[upd]
   by_cases h1:t=d
   ·subst h1;rw[if_neg gZ,if_pos rfl,if_pos rfl]
   ·by_cases h2:t=e
    ·subst h2;rw[if_pos rfl,if_neg h1,if_pos rfl]
    ·simp[h1,h2]
theorem mT {env:Env} {d:Option Nat} {v:AV} {l:List Nat} (h:∀k,d=some k->k∉l):∀t∈l,upd env d v t=env t:=by
 intro t ht
 cases d with
 |none=>rfl
 |some d=>
  have:t≠d:=fun he=>h d rfl (he▸ht)
  simp[upd,this]
structure De (x y:bq):Prop where
 xy:∀k,x.dst=some k->k∉y.gL
 yx:∀k,y.dst=some k->k∉x.gL
 dst:∀k,x.dst=some k->y.dst≠some k
 cls:clash x.op.cls y.op.cls=false
 hx:x.makes=true->y.hid.contains x.site=true
 hy:y.makes=true->x.hid.contains y.site=true
 site:x.site≠y.site
theorem De.symm {x y:bq} (h:De x y):De y x:=
 ⟨h.yx,h.xy,fun k hk he=>h.dst k he hk,by have:=h.cls;revert this;cases x.op.cls<;>cases y.op.cls<;>simp[clash],h.hy,h.hx,fun e=>h.site e.symm⟩
theorem qH {x y:bq} (h:Fo x y=true):De x y:=by
 unfold Fo at h
 simp only[Bool.and_eq_true,Bool.not_eq_true',Bool.or_eq_true,bne_iff_ne]at h
 obtain⟨⟨⟨⟨h1,h2⟩,h3⟩,h4⟩,h5⟩:=h
 unfold tK at h1
 simp only[Bool.and_eq_true]at h1
 obtain⟨a1,a2⟩:=h1
 refine⟨fun k hk=>?_,fun k hk=>?_,fun k hk=>?_,h2,fun hm=>?_,fun hm=>?_,h5⟩
 ·rw[hk]at a1;simp at a1;exact a1.1
 ·rw[hk]at a2;simpa using a2
 ·rw[hk]at a1;simp at a1;exact a1.2
 ·rcases h3 with h3|h3
  ·rw[hm]at h3;cases h3
  ·exact h3
 ·rcases h4 with h4|h4
  ·rw[hm]at h4;cases h4
  ·exact h4
theorem sr {vo:bq} {t:Nat} (h:t∈vo.op.gL):t∈vo.gL:=List.mem_append_left _ h
theorem nD {vo:bq} {env iV:Env} (h:∀t∈vo.gL,env t=iV t):aM vo.guard env=aM vo.guard iV:=by
 unfold aM
 cases hg:vo.guard with
 |none=>rfl
 |some p=>
  obtain⟨t,b⟩:=p
  have:env t=iV t:=h t (List.mem_append_right _ (by rw[hg];simp))
  simp only[this]
theorem vL {n:Nat} {vo:bq} {env iV:Env} {g g':Rows} {v:AV} (h:∀t∈vo.gL,env t=iV t) (hv:GS X n vo env g v g'):GS X n vo iV g v g':=by
 unfold GS at hv ⊢
 rw[<-nD h]
 split at hv
 ·rename_i hw;rw[if_pos hw];exact Ig (fun t ht=>h t (sr ht)) hv
 ·rename_i hw;rw[if_neg hw];exact hv
theorem EZ {n:Nat} {x y:bq} {env:Env} {g g1 g2:Rows} {v v':AV} (F:De x y) (h1:GS X n x env g v g1) (h2:GS X n y (upd env x.dst v) g1 v' g2):
  ∃Lz,GS X n y env g v' Lz/\GS X n x (upd env y.dst v') Lz v g2/\upd (upd env x.dst v) y.dst v'=upd (upd env y.dst v') x.dst v:=by
 have Nq:=xF (env:=env) (v:=v) (u:=v') F.dst
 replace h2:GS X n y env g1 v' g2:=vL (mT F.xy) h2
 have back:∀{Lz},GS X n x env Lz v g2->GS X n x (upd env y.dst v') Lz v g2:=fun h=>vL (fun t ht=>(mT F.yx t ht).symm) h
 unfold GS at h1 h2
 by_cases wx:aM x.guard env=true
 ·rw[if_pos wx]at h1
  by_cases wy:aM y.guard env=true
  ·rw[if_pos wy]at h2
   by_cases cx:x.op.cls=.write
   ·have cy:y.op.cls=.pure:=by
     have:=F.cls;rw[cx]at this
     cases hc:y.op.cls<;>simp[clash,hc]at this ⊢
    obtain⟨rfl,dD⟩:=zH cy h2
    exact⟨g,by unfold GS;rw[if_pos wy];exact dD g,back (by unfold GS;rw[if_pos wx];exact h1),Nq⟩
   ·by_cases cy:y.op.cls=.write
    ·have cx':x.op.cls=.pure:=by
      have:=F.cls;rw[cy]at this
      cases hc:x.op.cls<;>simp[clash,hc]at this ⊢
     obtain⟨rfl,dD⟩:=zH cx' h1
     exact⟨g2,by unfold GS;rw[if_pos wy];exact h2,back (by unfold GS;rw[if_pos wx];exact dD g2),Nq⟩
    ·obtain⟨mx,rfl,kx,TR⟩:=vO cx h1
     obtain⟨my,rfl,ky,NR⟩:=vO cy h2
     have gZ:(⟨x.site,n⟩:Id)≠⟨y.site,n⟩:=fun e=>F.site (by injection e)
     refine⟨jr g ⟨y.site,n⟩ my,?_,back ?_,Nq⟩
     ·unfold GS;rw[if_pos wy]
      exact NR g (CX fun h=>F.hx (kx h)).symm
     ·unfold GS;rw[if_pos wx,Ga gZ]
      exact TR _ (CX fun h=>F.hy (ky h))
  ·rw[if_neg wy]at h2
   obtain⟨rfl,rfl⟩:=h2
   exact⟨g,by unfold GS;rw[if_neg wy];exact⟨rfl,rfl⟩,back (by unfold GS;rw[if_pos wx];exact h1),Nq⟩
 ·rw[if_neg wx]at h1
  obtain⟨rfl,rfl⟩:=h1
  exact⟨g2,h2,back (by unfold GS;rw[if_neg wx];exact⟨rfl,rfl⟩),Nq⟩
end
end Go.Proofs.YtgoljkjaameagaaGreat.V

namespace Go.Proofs.YtgoljkjaameagaaGreat.V
open Go.RowKit
variable {P:Program} {w w':World} {D D' D2:Nat->Prop} {ι ι' ι2:Names}
section
variable {hs:Nat} {X:fH}
def js (acc:Array Nat) (o:Oper):Nat:=o.after.foldl (fun s e=>if Region.binds .any e then s|||2 ^ e.on|||acc.getD e.on 0 else s) 0
theorem Lm (ops:Array Oper):jH ops=ops.foldl (fun acc o=>acc.push (js acc o)) #[]:=rfl
theorem Br {acc:Array Nat} {o:Oper} {i:Nat} (h:(js acc o).testBit i=true):∃e∈o.after,Region.binds .any e=true/\(e.on=i∨(acc.getD e.on 0).testBit i=true):=by
 unfold js at h
 rw[<-Array.foldl_toList]at h
 have gen:∀(l:List Edge) (s:Nat),(l.foldl (fun s e=>if Region.binds .any e then s|||2 ^ e.on|||acc.getD e.on 0 else s) s).testBit i=true->s.testBit i=true∨∃e∈l,Region.binds .any e=true/\(e.on=i∨(acc.getD e.on 0).testBit i=true):=by
  intro l
  induction l with
  |nil=>intro s h;exact .inl h
  |cons e r ih=>
   intro s h
   rw[List.foldl_cons]at h
   rcases ih _ h with h|⟨e',LH,h'⟩
   ·by_cases hb:Region.binds .any e=true
    ·rw[if_pos hb]at h
     simp only[Nat.testBit_or,Bool.or_eq_true]at h
     rcases h with(h|h)|h
     ·exact .inl h
     ·refine .inr ⟨e,by simp,hb,.inl ?_⟩
      rw[Nat.testBit_two_pow]at h
      simpa using h
     ·exact .inr ⟨e,by simp,hb,.inr h⟩
    ·rw[if_neg hb]at h;exact .inl h
   ·exact .inr ⟨e',List.mem_cons_of_mem _ LH,h'⟩
 rcases gen _ _ h with h|⟨e,he,h⟩
 ·simp at h
 ·exact⟨e,Array.mem_toList_iff.1 he,h⟩
theorem Ip {ops:Array Oper} {j i:Nat} (h:((jH ops).getD j 0).testBit i=true):∃o,ops[j]? =some o/\∃e∈o.after,Region.binds .any e=true/\(e.on=i∨((jH ops).getD e.on 0).testBit i=true):=by
 have key:∀(l pre:List Oper) (acc:Array Nat),acc.size=pre.length->(∀j i,(acc.getD j 0).testBit i=true->∃o,pre[j]? =some o/\∃e∈o.after,Region.binds .any e=true/\(e.on=i∨(acc.getD e.on 0).testBit i=true))->
   ∀j i,((l.foldl (fun acc o=>acc.push (js acc o)) acc).getD j 0).testBit i=true->∃o,(pre++l)[j]? =some o/\∃e∈o.after,Region.binds .any e=true/\(e.on=i∨((l.foldl (fun acc o=>acc.push (js acc o)) acc).getD e.on 0).testBit i=true):=by
  intro l
  induction l with
  |nil=>intro pre acc _ h j i hb;simpa using h j i hb
  |cons o r ih=>
   intro pre acc fo h j i hb
   have zf:∀k,k<acc.size->(acc.push (js acc o)).getD k 0=acc.getD k 0:=fun k hk=>by
    simp only[Array.getD_eq_getD_getElem?,Array.getElem?_push]
    rw[if_neg (by omega)]
   have big:∀k,acc.size<=k->acc.getD k 0=0:=fun k hk=>by simp[Array.getElem?_eq_none hk]
   have lift:∀k i,(acc.getD k 0).testBit i=true->((acc.push (js acc o)).getD k 0).testBit i=true:=fun k i hk=>by
    by_cases dU:k<acc.size
    ·rw[zf k dU];exact hk
    ·rw[big k (by omega)]at hk;simp at hk
   have:=ih (pre++[o]) (acc.push (js acc o)) (by simp[fo]) (fun j i hb=>by
    by_cases dU:j<acc.size
    ·rw[zf j dU]at hb
     obtain⟨o',C8,e,he,fR,h2⟩:=h j i hb
     refine⟨o',by rw[List.getElem?_append_left (by omega)];exact C8,e,he,fR,?_⟩
     rcases h2 with h2|h2
     ·exact .inl h2
     ·exact .inr (lift _ _ h2)
    ·by_cases hj:j=acc.size
     ·subst hj
      have e0:(acc.push (js acc o)).getD acc.size 0=js acc o:=by simp
      rw[e0]at hb
      obtain⟨e,he,fR,h2⟩:=Br hb
      refine⟨o,by rw[List.getElem?_append_right (by omega),fo];simp,e,he,fR,?_⟩
      rcases h2 with h2|h2
      ·exact .inl h2
      ·exact .inr (lift _ _ h2)
     ·have:(acc.push (js acc o)).getD j 0=0:=by
       simp only[Array.getD_eq_getD_getElem?]
       rw[Array.getElem?_eq_none (by simp;omega)];rfl
      rw[this]at hb;simp at hb) j i (by simpa using hb)
   simpa using this
 rw[Lm,<-Array.foldl_toList]at h ⊢
 have:=key ops.toList [] #[] rfl (fun j i h=>by simp at h) j i h
 simpa using this
def DC (ops:Array Oper) (listed:Array Bool):Prop:=∀k i,listed.getD k false=true->((jH ops).getD k 0).testBit i=true->listed.getD i false=true
theorem k9 {ops:Array Oper} {listed:Array Bool} (h:DC ops listed) {j:Nat} (hj:j∈Region.ready .any ops listed):∀i,((jH ops).getD j 0).testBit i=true->listed.getD i false=true:=by
 intro i hb
 obtain⟨_,o,ho,dD⟩:=mem_ready.1 hj
 obtain⟨o',C8,e,he,fR,h2⟩:=Ip hb
 rw[ho]at C8;injection C8 with C8;subst C8
 have hl:=dD e he fR
 rcases h2 with h2|h2
 ·rw[<-h2];exact hl
 ·exact h _ _ hl h2
theorem DC.list {ops:Array Oper} {listed:Array Bool} (h:DC ops listed) {j:Nat} (hj:j∈Region.ready .any ops listed):DC ops (listed.setIfInBounds j true):=by
 intro k i hk hb
 by_cases hkj:k=j
 ·subst hkj;exact getD_set_true (k9 h hj i hb)
 ·rw[getD_set_ne false (fun e=>hkj e.symm)]at hk
  exact getD_set_true (h k i hk hb)
theorem ji {ops:Array Oper} {listed:Array Bool} {j:Nat} (hj:j∈Region.ready .any ops listed):listed.getD j false=false:=by
 have h0:=(mem_ready.1 hj).1
 rcases Nat.lt_or_ge j listed.size with h|h
 ·simp[h]at h0 ⊢;exact h0
 ·simp[Array.getElem?_eq_none h]at h0
def KG (X:fH) (n:Nat) (ops:Array Oper) (vl:List bq) (K:Env->Rows->Prop):Nat->Array Bool->Env->Rows->Prop
 |0,listed,env,g=>Region.ready .any ops listed=[]/\K env g
 |f+1,listed,env,g=>(Region.ready .any ops listed=[]->K env g)/\∀i∈Region.ready .any ops listed,∃vo,vl[i]? =some vo/\∃v g',GS X n vo env g v g'/\KG X n ops vl K f (listed.setIfInBounds i true) (upd env vo.dst v) g'
theorem BD {ops:Array Oper} {vl:List bq} (h:oM ops vl (jH ops)=true) {i j:Nat} {x y:bq} (hi:vl[i]? =some x) (hj:vl[j]? =some y) (DR:i≠j) (h1:((jH ops).getD j 0).testBit i=false) (h2:((jH ops).getD i 0).testBit j=false):De x y:=by
 unfold oM at h
 simp only[Bool.and_eq_true,List.all_eq_true]at h
 obtain⟨_,h⟩:=h
 have mem:∀(k:Nat) (z:bq),vl[k]? =some z->(z,k)∈vl.zipIdx:=fun k z hk=>by
  rw[List.mem_iff_getElem?]
  exact⟨k,by simp[List.getElem?_zipIdx,hk]⟩
 rcases Nat.lt_or_gt_of_ne DR with dU|LK
 ·have:=h _ (mem j y hj) _ (mem i x hi)
  simp only[dU,decide_true,Bool.not_true,Bool.false_or,h1]at this
  exact qH this
 ·have:=h _ (mem i x hi) _ (mem j y hj)
  simp only[LK,decide_true,Bool.not_true,Bool.false_or,h2]at this
  exact(qH this).symm
theorem EW {n:Nat} {ops:Array Oper} {vl:List bq} {K:Env->Rows->Prop} (wK:oM ops vl (jH ops)=true) (hlen:vl.length=ops.size) {i:Nat} {vi:bq} (hi:vl[i]? =some vi) {v:AV}:∀(fuel:Nat) (listed:Array Bool) (env:Env) (g g1:Rows),
  DC ops listed->i∈Region.ready .any ops listed->GS X n vi env g v g1->KG X n ops vl K fuel (listed.setIfInBounds i true) (upd env vi.dst v) g1->KG X n ops vl K (fuel+1) listed env g:=by
 intro fuel
 induction fuel with
 |zero=>
  intro listed env g g1 _ hr hG H
  refine⟨fun h=>(by rw[h]at hr;cases hr),fun j hj=>?_⟩
  by_cases mV:j=i
  ·subst mV;exact⟨vi,hi,v,g1,hG,H⟩
  ·have:=ready_mono hj mV
   rw[H.1]at this;cases this
 |succ fuel ih=>
  intro listed env g g1 sM hr hG H
  refine⟨fun h=>(by rw[h]at hr;cases hr),fun j hj=>?_⟩
  by_cases mV:j=i
  ·subst mV;exact⟨vi,hi,v,g1,hG,H⟩
  ·obtain⟨vj,L1,v',g2,hG2,H2⟩:=H.2 j (ready_mono hj mV)
   have b1:((jH ops).getD j 0).testBit i=false:=by
    cases hb:((jH ops).getD j 0).testBit i with
    |false=>rfl
    |true=>have:=k9 sM hj i hb;rw[ji hr]at this;cases this
   have b2:((jH ops).getD i 0).testBit j=false:=by
    cases hb:((jH ops).getD i 0).testBit j with
    |false=>rfl
    |true=>have:=k9 sM hr j hb;rw[ji hj]at this;cases this
   have F:=BD wK hi L1 (fun e=>mV e.symm) b1 b2
   obtain⟨Lz,q1,q2,q3⟩:=EZ F hG hG2
   refine⟨vj,L1,v',Lz,q1,ih _ _ _ g2 (sM.list hj) (ready_mono hr (fun e=>mV e.symm)) q2 ?_⟩
   rw[<-q3,Array.setIfInBounds_comm _ _ mV]
   exact H2
theorem NO {n:Nat} {vo:bq} {env:Env} {g:Rows} {v:AV} {mr:Option Row} (h:eQ vo.op (cQ env) (fY vo.hid n g) ⟨vo.site,n⟩=some (v,mr)):VS X n vo env g v (jr g ⟨vo.site,n⟩ mr):=by
 unfold VS
 split
 ·rename_i er;rw[er]at h;simp[eQ]at h
 ·rename_i er;rw[er]at h;simp[eQ]at h
 ·rename_i er;rw[er]at h;simp[eQ]at h
 ·rename_i er;rw[er]at h;simp[eQ]at h
 ·rename_i er;rw[er]at h;simp[eQ]at h
 ·rename_i er;rw[er]at h;simp[eQ]at h
 ·rename_i er;rw[er]at h;simp[eQ]at h
 ·exact⟨mr,h,rfl⟩
theorem Ih {n:Nat} {vo:bq} {env:Env} {g g':Rows} {v:AV} (h:fZ vo.op (cQ env) g ⟨vo.site,n⟩=some (v,g')):VS X n vo env g v g':=by
 unfold VS
 split
 ·rename_i er;rw[er]at h;simp[fZ]at h
 ·rename_i er;rw[er]at h;simp[fZ]at h
 ·exact h
 ·exact h
 ·exact h
 ·exact h
 ·exact h
 ·rename_i n1 n2 n3 n4 n5 n6 n7
  exfalso
  unfold fZ at h
  split at h
  ·rename_i hh;exact n3 _ _ _ hh
  ·rename_i hh;exact n4 _ _ _ hh
  ·rename_i hh;exact n5 _ _ _ hh
  ·rename_i hh;exact n6 _ _ hh
  ·rename_i hh;exact n7 _ _ hh
  ·simp at h
theorem PL {vo:bq} {env:Env} {σ:ar} {next:AV->ar->Prop} (hv:fG X true vo env σ next):∃v g',VS X σ.next vo env σ.get v g'/\next v ⟨g',σ.next⟩:=by
 unfold fG at hv
 split at hv
 ·rename_i f args er
  rcases hv with⟨r,hP,hn⟩|⟨h,_⟩|⟨hs,sz,rows,hM,hn⟩
  ·exact⟨r,σ.get,by unfold VS;rw[er];exact .inl ⟨hP,rfl⟩,hn⟩
  ·cases h
  ·exact⟨_,_,by unfold VS;rw[er];exact .inr ⟨hs,sz,rows,hM,rfl,rfl⟩,hn⟩
 ·rename_i x args er
  split at hv
  ·rename_i f cN hx
   have vm:vY (cQ env x) (args.map (cQ env))=some (f,args.map (cQ env)++cN):=by rw[hx];rfl
   rcases hv with⟨r,hP,hn⟩|⟨h,_⟩|⟨hs,sz,rows,hM,hn⟩
   ·exact⟨r,σ.get,by unfold VS;rw[er];exact⟨f,_,vm,.inl ⟨hP,rfl⟩⟩,hn⟩
   ·cases h
   ·exact⟨_,_,by unfold VS;rw[er];exact⟨f,_,vm,.inr ⟨hs,sz,rows,hM,rfl,rfl⟩⟩,hn⟩
  ·rename_i f cN hx
   have vm:vY (cQ env x) (args.map (cQ env))=some (f,cN++args.map (cQ env)):=by rw[hx];rfl
   rcases hv with⟨r,hP,hn⟩|⟨h,_⟩|⟨hs,sz,rows,hM,hn⟩
   ·exact⟨r,σ.get,by unfold VS;rw[er];exact⟨f,_,vm,.inl ⟨hP,rfl⟩⟩,hn⟩
   ·cases h
   ·exact⟨_,_,by unfold VS;rw[er];exact⟨f,_,vm,.inr ⟨hs,sz,rows,hM,rfl,rfl⟩⟩,hn⟩
  ·exact hv.elim
 ·split at hv
  ·rename_i v g h;exact⟨v,g,Ih h,hv⟩
  ·exact hv.elim
 ·split at hv
  ·rename_i v g h;exact⟨v,g,Ih h,hv⟩
  ·exact hv.elim
 ·split at hv
  ·rename_i v g h;exact⟨v,g,Ih h,hv⟩
  ·exact hv.elim
 ·split at hv
  ·rename_i v g h;exact⟨v,g,Ih h,hv⟩
  ·exact hv.elim
 ·split at hv
  ·rename_i v g h;exact⟨v,g,Ih h,hv⟩
  ·exact hv.elim
 ·split at hv
  ·rename_i v r h;exact⟨v,_,NO h,hv⟩
  ·rename_i v h;exact⟨v,_,NO h,hv⟩
  ·exact hv.elim
theorem xG {ops:Array Oper} {vl:List bq} {K:Env->ar->Prop} {n:Nat} (wK:oM ops vl (jH ops)=true) (hlen:vl.length=ops.size):∀(r:List bq) (k:Nat) (listed:Array Bool) (env:Env) (g:Rows),
  (∀j,r[j]? =vl[k+j]?)->listed.size=ops.size->(∀i,i<ops.size->listed[i]? =some (decide (i<k)))->k+r.length=ops.size->DC ops listed->wpOps X true r K env ⟨g,n⟩->KG X n ops vl (fun env g=>K env ⟨g,n+1⟩) r.length listed env g
 |[],k,listed,env,g,_,fo,hl,hk,_,hv=>by
  refine⟨?_,hv⟩
  rw[List.eq_nil_iff_forall_not_mem]
  intro j hj
  obtain⟨h0,o,ho,_⟩:=mem_ready.1 hj
  have dU:j<ops.size:=(Array.getElem?_eq_some_iff.1 ho).1
  have:=hl j dU
  simp at hk
  simp[this,show j<k by omega]at h0
 |vo::r,k,listed,env,g,hr,fo,hl,hk,sM,hv=>by
  simp only[List.length_cons]at hk
  have qf:vl[k]? =some vo:=by simpa using(hr 0).symm
  have mh:k<ops.size:=by omega
  have Jj:k∈Region.ready .any ops listed:=by
   rw[mem_ready]
   refine⟨by simp[hl k mh],ops[k],Array.getElem?_eq_getElem mh,fun e he hb=>?_⟩
   unfold oM Fg at wK
   simp only[Bool.and_eq_true,List.all_eq_true]at wK
   have hm:(ops[k],k)∈ops.toList.zipIdx:=by
    rw[List.mem_iff_getElem?]
    exact⟨k,by simp[List.getElem?_zipIdx,mh]⟩
   have:=wK.1 _ hm
   rw[Array.all_eq_true_iff_forall_mem]at this
   have:=this e he
   simp only[hb,Bool.not_true,Bool.false_or,decide_eq_true_eq]at this
   simp[hl e.on (by omega),this]
  have hGS:∃v g',GS X n vo env g v g'/\wpOps X true r K (upd env vo.dst v) ⟨g',n⟩:=by
   unfold wpOps at hv
   unfold GS
   split at hv
   ·rename_i hw
    simp only[hw,if_true]
    exact PL hv
   ·rename_i hw
    simp only[hw]
    exact⟨.undef,g,⟨rfl,rfl⟩,hv⟩
  obtain⟨v,g',h1,h2⟩:=hGS
  refine EW wK hlen qf r.length listed env g g' sM Jj h1 ?_
  refine xG wK hlen r (k+1) _ _ _ (fun j=>by have:=hr (j+1);simpa[Nat.add_assoc,Nat.add_comm 1 j]using this) (by simp[fo]) (fun i hi=>?_) (by omega) (sM.list Jj) h2
  by_cases yO:i=k
  ·subst yO;simp[fo,mh]
  ·rw[Array.getElem?_setIfInBounds_ne (fun e=>yO e.symm),hl i hi]
   congr 1
   have:(i<k)=(i<k+1):=by apply propext;omega
   simp[this]
theorem oH {f:Nat->Oper->Option bq}:∀{l:List Oper} {vl:List bq} {j:Nat},allM f l j=some vl->vl.length=l.length/\∀(i:Nat) (o:Oper),l[i]? =some o->∃vo,vl[i]? =some vo/\f (j+i) o=some vo
 |[],vl,j,h=>by simp[allM]at h;subst h;simp
 |o::l,vl,j,h=>by
  simp only[allM,Option.bind_eq_bind,Option.bind_eq_some_iff,Option.pure_def,Option.some.injEq]at h
  obtain⟨vo,qf,tL,sQ,rfl⟩:=h
  obtain⟨h1,h2⟩:=oH sQ
  refine⟨by simp[h1],fun i o' hi=>?_⟩
  cases i with
  |zero=>simp at hi;subst hi;exact⟨vo,rfl,qf⟩
  |succ i=>
   simp at hi
   obtain⟨q,hq,hf⟩:=h2 i o' hi
   exact⟨q,by simpa using hq,by rw[<-hf];congr 1;omega⟩
theorem ym {ops:Array Oper} {vl:List bq} {nt site0:Nat} {draw mk:Bool} {bs:Array Nat} {hidden:List (Nat×Bool)} {n:Nat} {K:Env->Rows->Prop} {Q:Exit->Act->World->Prop} (dD:allM (kQ P ops nt site0 draw mk bs hidden) ops.toList 0=some vl):
  ∀(fuel:Nat) (listed:Array Bool) (env:Env) (g:Rows) (a:Act) (w:World) (D:Nat->Prop) (ι:Names) (U:Nat->Prop),KG (Sound P) n ops vl K fuel listed env g->gz P hs D ι g w->Used ι n U->(∀s,U s->∃i,s=site0+i/\listed.getD i false=true)->cr P w D ι env a->a.tmps.size=nt->
  (∀iI g' a' w' D' ι' U',K iI g'->Step hs D ι w D' ι' w'->gz P hs D' ι' g' w'->Used ι' n U'->cr P w' D' ι' iI a'->a'.tmps.size=nt->a'.defers=a.defers->Q .normal a' w')->wpAny P .any ops Q fuel listed a w:=by
 intro fuel
 induction fuel with
 |zero=>intro listed env g a w D ι U h S Us hU E fo hQ;exact⟨h.1,hQ env g a w D ι U h.2 (Step.refl _ _ _ _) S Us E fo rfl⟩
 |succ fuel ih=>
  intro listed env g a w D ι U h S Us hU E fo hQ
  refine⟨fun hr=>hQ env g a w D ι U (h.1 hr) (Step.refl _ _ _ _) S Us E fo rfl,fun i hi=>?_⟩
  obtain⟨vo,qf,v,g',hG,Nl⟩:=h.2 i hi
  obtain⟨_,o,ho,_⟩:=mem_ready.1 hi
  obtain⟨vo',mD,Rb⟩:=(oH dD).2 i o (by simpa using ho)
  rw[qf]at mD;injection mD with mD;subst mD
  rw[Nat.zero_add]at Rb
  obtain⟨hc,hd,B5,xY,hg⟩:=pH Rb
  have hw:=tM (ops:=ops) (vo:=vo) E hg
  have Uw:¬U vo.site:=fun hu=>by
   obtain⟨i',he,hl⟩:=hU _ hu
   have:i'=i:=by omega
   subst this
   rw[ji hi]at hl;cases hl
  have jI:i<listed.size:=by
   have h0:=(mem_ready.1 hi).1
   rcases Nat.lt_or_ge i listed.size with h|h
   ·exact h
   ·simp[Array.getElem?_eq_none h]at h0
  unfold wpOp
  simp only[ho]
  rw[<-hw]
  unfold GS at hG
  by_cases GL:aM vo.guard env=true
  ·rw[if_pos GL]
   rw[if_pos GL]at hG
   refine .inl (Bl hc hG S Us Uw E fun a' w' ⟨u,D',ι',ha,T,S',hR,U'⟩=>?_)
   subst ha
   refine ih _ _ _ _ w' D' ι' _ Nl S' U' (fun s BZ=>?_) (by rw[hd];exact iz (oN E T) hR xY fo) (by rw[eW];exact fo) fun iI g2 a2 w2 D2 ι2 U2 hk T2 S2 TQ E2 lu DM=>hQ iI g2 a2 w2 D2 ι2 U2 hk (T.trans T2) S2 TQ E2 lu (DM.trans (put_defers _ _ _))
   rcases BZ with h|h
   ·obtain⟨i',he,hl⟩:=hU _ h
    exact⟨i',he,getD_set_true hl⟩
   ·exact⟨i,by rw[h,B5],by simp[jI]⟩
  ·rw[if_neg GL]
   rw[if_neg GL]at hG
   obtain⟨rfl,rfl⟩:=hG
   refine ih _ _ _ _ w D ι U Nl S Us (fun s BZ=>?_) (by rw[hd];exact iz E cI.undef xY fo) (by rw[eW];exact fo) fun iI g2 a2 w2 D2 ι2 U2 hk T2 S2 TQ E2 lu DM=>hQ iI g2 a2 w2 D2 ι2 U2 hk T2 S2 TQ E2 lu (DM.trans (put_defers _ _ _))
   obtain⟨i',he,hl⟩:=hU _ BZ
   exact⟨i',he,getD_set_true hl⟩
end
end Go.Proofs.YtgoljkjaameagaaGreat.V

namespace Go.Proofs.YtgoljkjaameagaaGreat.V
open Go.RowKit
variable {P:Program} {w w':World} {D D' D2:Nat->Prop} {ι ι' ι2:Names}
section
variable {hs:Nat} {X:fH}
def qh (X:fH):Prop:=∀f args σ K K',(∀r σ',K r σ'->K' r σ')->X f args σ K->X f args σ K'
theorem kP:qh (Sound P):=fun _ _ _ _ _ hK h hs D ι w vs S U A=>
 (h hs D ι w vs S U A).mono fun _ _ ⟨r,g',n',D',ι',u,he,hk,rest⟩=>⟨r,g',n',D',ι',u,he,hK _ _ hk,rest⟩
def step (X:fH) (vo:bq) (N:Env->ar->Prop) (env:Env) (σ:ar):Prop:=
 if aM vo.guard env then fG X false vo env σ fun v σ'=>N (upd env vo.dst v) σ' else N (upd env vo.dst .undef) σ
theorem qy (hK:qh X) {draw:Bool} {hid:List Nat} {site f:Nat} {args:List AV} {σ:ar} {n n':AV->ar->Prop} (hn:∀v σ',n v σ'->n' v σ') (hp:cH X draw hid site f args σ n):cH X draw hid site f args σ n':=by
 rcases hp with⟨r,h1,h2⟩|⟨h1,h2⟩|⟨h1,sz,rows,h2,h3⟩
 ·exact .inl ⟨r,h1,hn _ _ h2⟩
 ·exact .inr (.inl ⟨h1,hK _ _ _ _ _ hn h2⟩)
 ·exact .inr (.inr ⟨h1,sz,rows,h2,hn _ _ h3⟩)
theorem CY (hK:qh X) {draw:Bool} {o:bq} {env:Env} {σ:ar} {n n':AV->ar->Prop} (hn:∀v σ',n v σ'->n' v σ') (hp:fG X draw o env σ n):fG X draw o env σ n':=by
 unfold fG at hp ⊢
 split at hp
 ·exact qy hK hn hp
 ·split at hp
  ·exact qy hK hn hp
  ·exact qy hK hn hp
  ·exact hp.elim
 ·split at hp
  ·exact hn _ _ hp
  ·exact hp.elim
 ·split at hp
  ·exact hn _ _ hp
  ·exact hp.elim
 ·split at hp
  ·exact hn _ _ hp
  ·exact hp.elim
 ·split at hp
  ·exact hn _ _ hp
  ·exact hp.elim
 ·split at hp
  ·exact hn _ _ hp
  ·exact hp.elim
 ·split at hp
  ·exact hn _ _ hp
  ·exact hn _ _ hp
  ·exact hp.elim
theorem j0 (hK:qh X) {vo:bq} {N N':Env->ar->Prop} (h:∀e s,N e s->N' e s) {env:Env} {σ:ar} (hp:step X vo N env σ):step X vo N' env σ:=by
 unfold step at hp ⊢
 split at hp
 ·rename_i hw;rw[if_pos hw];exact CY hK (fun v σ'=>h _ _) hp
 ·rename_i hw;rw[if_neg hw];exact h _ _ hp
theorem HI {env iV:Env} {vo:bq} {σ:ar} {n:AV->ar->Prop} (h:∀t∈vo.op.gL,env t=iV t) (hv:fG X false vo env σ n):fG X false vo iV σ n:=by
 unfold fG at hv ⊢
 split at hv
 ·rename_i f args er
  rw[er]at h
  simp only[gE.gL]at h
  rw[<-map_congr h];exact hv
 ·rename_i x args er
  rw[er]at h
  simp only[gE.gL,List.mem_append]at h
  rw[<-map_congr (l:=args) fun t ht=>h t (.inr ht),<-br (x:=x) fun t ht=>h t (.inl ht)];exact hv
 ·rw[<-gY h];exact hv
 ·rw[<-gY h];exact hv
 ·rw[<-gY h];exact hv
 ·rw[<-gY h];exact hv
 ·rw[<-gY h];exact hv
 ·rw[<-tA h];exact hv
theorem lU {x:bq} (hq:k8 x=true) {N:Env->ar->Prop} {env:Env} {σ:ar}:step X x N env σ↔∃v g',GS X σ.next x env σ.get v g'/\N (upd env x.dst v) ⟨g',σ.next⟩:=by
 unfold k8 at hq
 simp only[Bool.and_eq_true,Bool.not_eq_true',bne_iff_ne]at hq
 obtain⟨K6,uH⟩:=hq
 unfold step GS
 by_cases hw:aM x.guard env=true
 ·rw[if_pos hw]
  simp only[hw,if_true]
  unfold fG
  split
  ·rename_i er;simp[er,gE.l6]at K6
  ·rename_i er;simp[er,gE.l6]at K6
  ·rename_i er;simp[er,gE.cls]at uH
  ·rename_i er;simp[er,gE.cls]at uH
  ·rename_i er;simp[er,gE.cls]at uH
  ·rename_i er;simp[er,gE.cls]at uH
  ·rename_i er;simp[er,gE.cls]at uH
  ·rename_i n1 n2 n3 n4 n5 n6 n7
   have hVS:∀v g',VS X σ.next x env σ.get v g'↔∃mr,eQ x.op (cQ env) (fY x.hid σ.next σ.get) ⟨x.site,σ.next⟩=some (v,mr)/\g'=jr σ.get ⟨x.site,σ.next⟩ mr:=fun v g'=>by
    unfold VS
    split
    ·rename_i hh;exact(n1 _ _ hh).elim
    ·rename_i hh;exact(n2 _ _ hh).elim
    ·rename_i hh;exact(n3 _ _ _ hh).elim
    ·rename_i hh;exact(n4 _ _ _ hh).elim
    ·rename_i hh;exact(n5 _ _ _ hh).elim
    ·rename_i hh;exact(n6 _ _ hh).elim
    ·rename_i hh;exact(n7 _ _ hh).elim
    ·exact Iff.rfl
   simp only[hVS]
   cases hz:eQ x.op (cQ env) (fY x.hid σ.next σ.get) ⟨x.site,σ.next⟩with
   |none=>
    exact⟨fun h=>h.elim,fun⟨v,g',⟨mr,h,_⟩,_⟩=>by cases h⟩
   |some p=>
    obtain⟨v,mr⟩:=p
    have key:∀(v':AV) (g':Rows),(∃QE,some (v,mr)=some (v',QE)/\g'=jr σ.get ⟨x.site,σ.next⟩ QE)↔v'=v/\g'=jr σ.get ⟨x.site,σ.next⟩ mr:=fun v' g'=>by
     constructor
     ·rintro⟨QE,h1,h2⟩
      injection h1 with h1;injection h1 with h1 h3
      subst h1;subst h3
      exact⟨rfl,h2⟩
     ·rintro⟨rfl,rfl⟩;exact⟨mr,rfl,rfl⟩
    have fin:(∃v' g',(∃QE,some (v,mr)=some (v',QE)/\g'=jr σ.get ⟨x.site,σ.next⟩ QE)/\N (upd env x.dst v') ⟨g',σ.next⟩)↔N (upd env x.dst v) ⟨jr σ.get ⟨x.site,σ.next⟩ mr,σ.next⟩:=by
     constructor
     ·rintro⟨v',g',h,hN⟩
      obtain⟨rfl,rfl⟩:=(key v' g').1 h
      exact hN
     ·intro hN;exact⟨v,_,(key _ _).2 ⟨rfl,rfl⟩,hN⟩
    cases mr with
    |none=>exact fin.symm
    |some r=>exact fin.symm
 ·rw[if_neg hw]
  simp only[if_neg hw]
  exact⟨fun h=>⟨_,_,⟨rfl,rfl⟩,h⟩,fun⟨v,g',⟨hv,hg⟩,h⟩=>by rw[hv,hg]at h;exact h⟩
def xv (x:bq) (env:Env) (v:AV):Prop:=if aM x.guard env then eQ x.op (cQ env) (fun _=>none) ⟨0,0⟩=some (v,none)else v=.undef
theorem xc {x:bq} (hp:x.op.cls=.pure):k8 x=true:=by
 unfold k8
 rw[hp]
 cases hc:x.op<;>simp[hc,gE.cls]at hp<;>rfl
theorem tF {x:bq} (hp:x.op.cls=.pure) {N:Env->ar->Prop} {env:Env} {σ:ar}:step X x N env σ↔∃v,xv x env v/\N (upd env x.dst v) σ:=by
 rw[lU (xc hp)]
 unfold GS xv
 by_cases hw:aM x.guard env=true
 ·simp only[hw,if_true]
  constructor
  ·rintro⟨v,g',h,hN⟩
   obtain⟨rfl,dD⟩:=zH hp h
   refine⟨v,?_,hN⟩
   unfold VS at h
   split at h
   ·rename_i er;rw[er]at hp;simp[gE.cls]at hp
   ·rename_i er;rw[er]at hp;simp[gE.cls]at hp
   ·rename_i er;rw[er]at hp;simp[gE.cls]at hp
   ·rename_i er;rw[er]at hp;simp[gE.cls]at hp
   ·rename_i er;rw[er]at hp;simp[gE.cls]at hp
   ·rename_i er;rw[er]at hp;simp[gE.cls]at hp
   ·rename_i er;rw[er]at hp;simp[gE.cls]at hp
   ·obtain⟨mr,hq,_⟩:=h
    have U3:mr=none:=by
     cases mr with
     |none=>rfl
     |some r=>have:=xd hq;simp[qW,hp]at this
    subst U3
    rw[<-xe (g:=fY x.hid σ.next σ.get) (id:=⟨x.site,σ.next⟩) hp];exact hq
  ·rintro⟨v,h,hN⟩
   exact⟨v,σ.get,NO (mr:=none) (by rw[xe (g2:=fun _=>none) (id2:=⟨0,0⟩) hp];exact h),hN⟩
 ·simp only[if_neg hw]
  exact⟨fun⟨v,g',⟨hv,hg⟩,h⟩=>⟨v,hv,by rw[hg]at h;exact h⟩,fun⟨v,hv,h⟩=>⟨v,σ.get,⟨hv,rfl⟩,h⟩⟩
theorem KN {x:bq} {env iV:Env} {v:AV} (h:∀t∈x.gL,env t=iV t) (hv:xv x env v):xv x iV v:=by
 unfold xv at hv ⊢
 rw[<-nD h,<-tA fun t ht=>h t (sr ht)];exact hv
structure MY (x y:bq):Prop where
 xy:∀k,x.dst=some k->k∉y.gL
 yx:∀k,y.dst=some k->k∉x.gL
 dst:∀k,x.dst=some k->y.dst≠some k
theorem sF {x y:bq} (h:tK x y=true):MY x y:=by
 unfold tK at h
 simp only[Bool.and_eq_true]at h
 obtain⟨a1,a2⟩:=h
 refine⟨fun k hk=>?_,fun k hk=>?_,fun k hk=>?_⟩
 ·rw[hk]at a1;simp at a1;exact a1.1
 ·rw[hk]at a2;simpa using a2
 ·rw[hk]at a1;simp at a1;exact a1.2
theorem yL {x y:bq} (h:yK x y=true):(MY x y/\x.op.cls=.pure)∨(De x y/\k8 x=true/\k8 y=true):=by
 unfold yK at h
 simp only[Bool.or_eq_true,Bool.and_eq_true,beq_iff_eq]at h
 rcases h with⟨h1,h2⟩|⟨⟨h1,h2⟩,h3⟩
 ·exact .inl ⟨sF h1,h2⟩
 ·exact .inr ⟨qH h1,h2,h3⟩
theorem BN {x y:bq} (h:yK x y=true):k8 x=true:=by
 rcases yL h with h|h
 ·exact xc h.2
 ·exact h.2.1
theorem Hs (hK:qh X) {x y:bq} (hf:yK x y=true) {N:Env->ar->Prop} {env:Env} {σ:ar} (h:step X x (fun e s=>step X y N e s) env σ):step X y (fun e s=>step X x N e s) env σ:=by
 rcases yL hf with⟨F,hp⟩|⟨F,hx,hy⟩
 ·rw[tF hp]at h
  obtain⟨v,hx,h⟩:=h
  have Nq:=fun(v':AV)=>xF (env:=env) (v:=v) (u:=v') F.dst
  have C9:=mT (env:=env) (v:=v) F.xy
  have back:∀(v':AV),xv x (upd env y.dst v') v:=fun v'=>KN (fun t ht=>(mT F.yx t ht).symm) hx
  unfold step at h ⊢
  rw[nD C9]at h
  split at h
  ·rename_i hw
   rw[if_pos hw]
   refine CY hK (fun v' σ' hN=>?_) (HI (fun t ht=>C9 t (sr ht)) h)
   rw[Nq]at hN
   exact(tF hp).2 ⟨v,back v',hN⟩
  ·rename_i hw
   rw[if_neg hw]
   rw[Nq]at h
   exact(tF hp).2 ⟨v,back _,h⟩
 ·rw[lU hx]at h
  obtain⟨v,g1,h1,h⟩:=h
  rw[lU hy]at h
  obtain⟨v',g2,h2,h⟩:=h
  obtain⟨Lz,q1,q2,q3⟩:=EZ F h1 h2
  rw[q3]at h
  exact(lU hy).2 ⟨v',Lz,q1,(lU hx).2 ⟨v,g2,q2,h⟩⟩
def AX (X:fH) (ops:Array Oper) (vl:List bq) (K:Env->ar->Prop):Nat->Array Bool->Env->ar->Prop
 |0,listed,env,σ=>Region.ready .any ops listed=[]/\K env ⟨σ.get,σ.next+1⟩
 |f+1,listed,env,σ=>(Region.ready .any ops listed=[]->K env ⟨σ.get,σ.next+1⟩)/\∀i∈Region.ready .any ops listed,∃vo,vl[i]? =some vo/\step X vo (fun e s=>AX X ops vl K f (listed.setIfInBounds i true) e s) env σ
theorem DD {ops:Array Oper} {vl:List bq} {bs:Array Nat} {listed:Array Bool} {i:Nat} (h:qG ops vl bs listed i=true) (j:Nat):qG ops vl bs (listed.setIfInBounds j true) i=true:=by
 unfold qG at h ⊢
 split at h
 ·rename_i x hx
  simp only[List.all_eq_true,Bool.or_eq_true]at h ⊢
  intro k hk
  rcases h k hk with((h|h)|h)|h
  ·exact .inl (.inl (.inl (getD_set_true h)))
  ·exact .inl (.inl (.inr h))
  ·exact .inl (.inr h)
  ·exact .inr h
 ·cases h
theorem tW {ops:Array Oper} {vl:List bq} {listed:Array Bool} {i j:Nat} {vi:bq} (sM:DC ops listed) (h:qG ops vl (jH ops) listed i=true) (hi:vl[i]? =some vi) (hr:i∈Region.ready .any ops listed) (hj:j∈Region.ready .any ops listed) (mV:j≠i):∃vj,vl[j]? =some vj/\yK vi vj=true:=by
 unfold qG at h
 rw[hi]at h
 simp only[List.all_eq_true,Bool.or_eq_true,beq_iff_eq]at h
 obtain⟨_,o,ho,_⟩:=mem_ready.1 hj
 rcases h j (List.mem_range.2 (Array.getElem?_eq_some_iff.1 ho).1)with((h|h)|h)|h
 ·rw[ji hj]at h;cases h
 ·exact absurd h mV
 ·have:=k9 sM hj i h
  rw[ji hr]at this;cases this
 ·split at h
  ·rename_i y hy;exact⟨y,hy,h⟩
  ·cases h
theorem EY (hK:qh X) {ops:Array Oper} {vl:List bq} {K:Env->ar->Prop} {i:Nat} {vi:bq} (hi:vl[i]? =some vi):∀(fuel:Nat) (listed:Array Bool) (env:Env) (σ:ar),
  DC ops listed->i∈Region.ready .any ops listed->qG ops vl (jH ops) listed i=true->step X vi (fun e s=>AX X ops vl K fuel (listed.setIfInBounds i true) e s) env σ->AX X ops vl K (fuel+1) listed env σ:=by
 intro fuel
 induction fuel with
 |zero=>
  intro listed env σ sM hr jG H
  refine⟨fun h=>(by rw[h]at hr;cases hr),fun j hj=>?_⟩
  by_cases mV:j=i
  ·subst mV;exact⟨vi,hi,H⟩
  ·obtain⟨vj,L1,Rl⟩:=tW sM jG hi hr hj mV
   rw[lU (BN Rl)]at H
   obtain⟨v,g',_,H⟩:=H
   have:=ready_mono hj mV
   rw[H.1]at this;cases this
 |succ fuel ih=>
  intro listed env σ sM hr jG H
  refine⟨fun h=>(by rw[h]at hr;cases hr),fun j hj=>?_⟩
  by_cases mV:j=i
  ·subst mV;exact⟨vi,hi,H⟩
  ·obtain⟨vj,L1,Rl⟩:=tW sM jG hi hr hj mV
   refine⟨vj,L1,?_⟩
   have H2:step X vi (fun e s=>step X vj (fun e s=>AX X ops vl K fuel ((listed.setIfInBounds i true).setIfInBounds j true) e s) e s) env σ:=j0 hK (fun e s h=>by
    obtain⟨vj',Af,h'⟩:=h.2 j (ready_mono hj mV)
    rw[L1]at Af;injection Af with Af;subst Af
    exact h') H
   refine j0 hK (fun e s h=>?_) (Hs hK Rl H2)
   refine ih _ _ _ (sM.list hj) (ready_mono hr (fun e=>mV e.symm)) (DD jG j) ?_
   rw[Array.setIfInBounds_comm _ _ mV]
   exact h
theorem tE {x:bq} (hg:x.guard=none) {N:Env->ar->Prop} {env:Env} {σ:ar}:step X x N env σ=fG X false x env σ (fun v σ'=>N (upd env x.dst v) σ'):=by
 unfold step
 rw[hg]
 simp[aM]
theorem EG {x y:bq} {t s sz:Nat} {ys:O} (hx:x.op=.append sz (.t t) ys) (hg:x.guard=none) (hf:Fm s x y=true) {N:Env->ar->Prop} {env:Env} {σ:ar} (hl:Me t s ys env σ.next) (h:step X x (fun e s=>step X y N e s) env σ):
  step X y (fun e σ'=>Me t s ys e σ'.next/\step X x N e σ') env σ:=by
 unfold Fm at hf
 simp only[Bool.and_eq_true,bne_iff_ne]at hf
 obtain⟨⟨⟨⟨⟨f1,hq⟩,f3⟩,f4⟩,f5⟩,f6⟩:=hf
 have F:=sF f1
 obtain⟨⟨len,ht⟩,hsrc⟩:=hl
 have Jm:∀k∈x.op.gL,∀v',upd env y.dst v' k=env k:=fun k hk v'=>mT (env:=env) (v:=v') F.yx k (sr hk)
 have dH:t∈x.op.gL:=by rw[hx];simp[gE.gL,gU]
 have FF:∀v',cQ (upd env y.dst v') ys=cQ env ys:=fun v'=>(br fun k hk=>by rw[Jm k (by rw[hx];simp[gE.gL,hk])]).symm
 rw[tE hg]at h
 unfold fG at h
 simp only[hx,fZ]at h
 have ex:cQ env (.t t)=.own ⟨s,σ.next⟩ 0 len:=ht
 rw[ex]at h
 cases hr:bw σ.get (cQ env ys)with
 |none=>rw[hr]at h;exact h.elim
 |some rs=>
  rw[hr]at h
  simp only[Option.bind_some,aY]at h
  cases I8:σ.get ⟨s,σ.next⟩with
  |none=>rw[I8]at h;exact h.elim
  |some r=>
   rw[I8]at h
   simp only[Option.bind_some]at h
   split at h
   ·rename_i v g1 hv
    split at hv
    ·rename_i hcond
     simp only[Option.some.injEq,Prod.mk.injEq]at hv
     obtain⟨rfl,rfl⟩:=hv
     rw[lU hq]at h
     obtain⟨v',g2,hG,hN⟩:=h
     have LQ:(⟨y.site,σ.next⟩:Id)≠⟨s,σ.next⟩:=fun e=>f5 (by injection e)
     have Jc:(⟨y.site,σ.next⟩:Id)≠⟨x.site,σ.next⟩:=fun e=>f6 (by injection e)
     replace hG:GS X σ.next y env (bt (cu σ.get ⟨s,σ.next⟩) ⟨x.site,σ.next⟩ ⟨true,sz,r.rows++rs⟩) v' g2:=vL (mT F.xy) hG
     have Vt:fY y.hid σ.next σ.get=fY y.hid σ.next (bt (cu σ.get ⟨s,σ.next⟩) ⟨x.site,σ.next⟩ ⟨true,sz,r.rows++rs⟩):=by
      cases hh:y.hid with
      |nil=>rw[hh]at f3;simp at f3
      |cons a l=>
       rw[hh]at f3 f4
       funext i
       show(if (a::l).contains i.site=true/\i.ck=σ.next then none else σ.get i)=if (a::l).contains i.site=true/\i.ck=σ.next then none else _
       by_cases h1:i=⟨x.site,σ.next⟩
       ·subst h1;rw[if_pos ⟨f4,rfl⟩,if_pos ⟨f4,rfl⟩]
       ·by_cases h2:i=⟨s,σ.next⟩
        ·subst h2;rw[if_pos ⟨f3,rfl⟩,if_pos ⟨f3,rfl⟩]
        ·simp only[bt,cu,if_neg h1,if_neg h2]
     obtain⟨my,Rn,hG'⟩:∃my,g2=jr (bt (cu σ.get ⟨s,σ.next⟩) ⟨x.site,σ.next⟩ ⟨true,sz,r.rows++rs⟩) ⟨y.site,σ.next⟩ my/\GS X σ.next y env σ.get v' (jr σ.get ⟨y.site,σ.next⟩ my):=by
      unfold GS at hG ⊢
      by_cases wy:aM y.guard env=true
      ·rw[if_pos wy]at hG
       have hcw:y.op.cls≠.write:=by
        unfold k8 at hq
        simp only[Bool.and_eq_true,bne_iff_ne]at hq
        exact hq.2
       obtain⟨my,rfl,_,NR⟩:=vO hcw hG
       exact⟨my,rfl,by rw[if_pos wy];exact NR _ Vt⟩
      ·rw[if_neg wy]at hG
       obtain⟨rfl,rfl⟩:=hG
       exact⟨none,rfl,by rw[if_neg wy];exact⟨rfl,rfl⟩⟩
     subst Rn
     refine(lU hq).2 ⟨v',_,hG',⟨⟨len,by rw[Jm t dH];exact ht⟩,fun id o l he=>hsrc id o l (by rw[<-FF v'];exact he)⟩,?_⟩
     rw[tE hg]
     unfold fG
     have ex':cQ (upd env y.dst v') (.t t)=.own ⟨s,σ.next⟩ 0 len:=by
      show upd env y.dst v' t= _
      rw[Jm t dH];exact ht
     simp only[hx,fZ,ex',FF v']
     have om:bw (jr σ.get ⟨y.site,σ.next⟩ my) (cQ env ys)=some rs:=by
      cases my with
      |none=>exact hr
      |some row=>
       revert hr
       cases hev:cQ env ys<;>simp only[bw,jr]<;>try exact fun h=>h
       rename_i id o l
       have:id≠⟨y.site,σ.next⟩:=fun e=>hsrc id o l hev (by rw[e])
       simp only[bt,if_neg this];exact fun h=>h
     have UP:jr σ.get ⟨y.site,σ.next⟩ my ⟨s,σ.next⟩=some r:=by
      cases my with
      |none=>exact I8
      |some row=>simp only[jr,bt,if_neg (fun e=>LQ e.symm:(⟨s,σ.next⟩:Id)≠⟨y.site,σ.next⟩)];exact I8
     rw[om]
     simp only[Option.bind_some,aY,UP]
     rw[if_pos hcond]
     have hgg:bt (cu (jr σ.get ⟨y.site,σ.next⟩ my) ⟨s,σ.next⟩) ⟨x.site,σ.next⟩ ⟨true,sz,r.rows++rs⟩=jr (bt (cu σ.get ⟨s,σ.next⟩) ⟨x.site,σ.next⟩ ⟨true,sz,r.rows++rs⟩) ⟨y.site,σ.next⟩ my:=by
      cases my with
      |none=>rfl
      |some row=>
       funext i
       simp only[jr,bt,cu]
       by_cases h1:i=⟨y.site,σ.next⟩
       ·subst h1;rw[if_neg Jc,if_neg LQ,if_pos rfl,if_pos rfl]
       ·simp only[if_neg h1]
     have hu:=xF (env:=env) (v:=AV.own ⟨x.site,σ.next⟩ 0 (len+rs.length)) (u:=v') F.dst
     show N (upd (upd env y.dst v') x.dst (.own ⟨x.site,σ.next⟩ 0 (len+rs.length))) ⟨bt (cu (jr σ.get ⟨y.site,σ.next⟩ my) ⟨s,σ.next⟩) ⟨x.site,σ.next⟩ ⟨true,sz,r.rows++rs⟩,σ.next⟩
     rw[hgg,<-hu]
     exact hN
    ·cases hv
   ·exact h.elim
theorem Dz {ops:Array Oper} {vl:List bq} {bs:Array Nat} {listed:Array Bool} {i s:Nat} (h:oO ops vl bs listed i s=true) (j:Nat):oO ops vl bs (listed.setIfInBounds j true) i s=true:=by
 unfold oO at h ⊢
 split at h
 ·rename_i x hx
  simp only[List.all_eq_true,Bool.or_eq_true]at h ⊢
  intro k hk
  rcases h k hk with((h|h)|h)|h
  ·exact .inl (.inl (.inl (getD_set_true h)))
  ·exact .inl (.inl (.inr h))
  ·exact .inl (.inr h)
  ·exact .inr h
 ·cases h
theorem BJ {ops:Array Oper} {vl:List bq} {listed:Array Bool} {i j s:Nat} {vi:bq} (sM:DC ops listed) (h:oO ops vl (jH ops) listed i s=true) (hi:vl[i]? =some vi) (hr:i∈Region.ready .any ops listed) (hj:j∈Region.ready .any ops listed) (mV:j≠i):∃vj,vl[j]? =some vj/\Fm s vi vj=true:=by
 unfold oO at h
 rw[hi]at h
 simp only[List.all_eq_true,Bool.or_eq_true,beq_iff_eq]at h
 obtain⟨_,o,ho,_⟩:=mem_ready.1 hj
 rcases h j (List.mem_range.2 (Array.getElem?_eq_some_iff.1 ho).1)with((h|h)|h)|h
 ·rw[ji hj]at h;cases h
 ·exact absurd h mV
 ·have:=k9 sM hj i h
  rw[ji hr]at this;cases this
 ·split at h
  ·rename_i y hy;exact⟨y,hy,h⟩
  ·cases h
theorem CZ (hK:qh X) {ops:Array Oper} {vl:List bq} {K:Env->ar->Prop} {i t s sz:Nat} {ys:O} {vi:bq} (hi:vl[i]? =some vi) (hx:vi.op=.append sz (.t t) ys) (hg:vi.guard=none):∀(fuel:Nat) (listed:Array Bool) (env:Env) (σ:ar),
  DC ops listed->i∈Region.ready .any ops listed->oO ops vl (jH ops) listed i s=true->Me t s ys env σ.next->step X vi (fun e s=>AX X ops vl K fuel (listed.setIfInBounds i true) e s) env σ->AX X ops vl K (fuel+1) listed env σ:=by
 intro fuel
 induction fuel with
 |zero=>
  intro listed env σ sM hr jG Ql H
  refine⟨fun h=>(by rw[h]at hr;cases hr),fun j hj=>?_⟩
  by_cases mV:j=i
  ·subst mV;exact⟨vi,hi,H⟩
  ·exfalso
   have h0:=ready_mono hj mV
   rw[tE hg]at H
   unfold fG at H
   simp only[hx]at H
   split at H
   ·rw[H.1]at h0;cases h0
   ·exact H
 |succ fuel ih=>
  intro listed env σ sM hr jG Ql H
  refine⟨fun h=>(by rw[h]at hr;cases hr),fun j hj=>?_⟩
  by_cases mV:j=i
  ·subst mV;exact⟨vi,hi,H⟩
  ·obtain⟨vj,L1,Rl⟩:=BJ sM jG hi hr hj mV
   refine⟨vj,L1,?_⟩
   have H2:step X vi (fun e s=>step X vj (fun e s=>AX X ops vl K fuel ((listed.setIfInBounds i true).setIfInBounds j true) e s) e s) env σ:=j0 hK (fun e s h=>by
    obtain⟨vj',Af,h'⟩:=h.2 j (ready_mono hj mV)
    rw[L1]at Af;injection Af with Af;subst Af
    exact h') H
   refine j0 hK (fun e s h=>?_) (EG hx hg Rl Ql H2)
   refine ih _ _ _ (sM.list hj) (ready_mono hr (fun e=>mV e.symm)) (Dz jG j) h.1 ?_
   rw[Array.setIfInBounds_comm _ _ mV]
   exact h.2
theorem JE {ops:Array Oper} {vl:List bq} {bs:Array Nat} {listed:Array Bool} {i i' t s:Nat} {y:O} {vo:bq} (h:Pf ops vl bs listed i=some (i',t,s,y,vo)):i'=i/\vl[i]? =some vo/\(∃sz,vo.op=.append sz (.t t) y)/\vo.guard=none/\oO ops vl bs listed i s=true:=by
 unfold Pf at h
 split at h
 ·rename_i x hx
  split at h
  ·rename_i t' s' y' kq
   split at h
   ·rename_i hf
    simp only[Option.some.injEq,Prod.mk.injEq]at h
    obtain⟨rfl,rfl,rfl,rfl,rfl⟩:=h
    unfold Nv at kq
    split at kq
    ·rename_i sz t2 y2 ho vg
     split at kq
     ·simp only[Option.some.injEq,Prod.mk.injEq]at kq
      obtain⟨rfl,rfl,rfl⟩:=kq
      exact⟨rfl,hx,⟨sz,ho⟩,vg,hf⟩
     ·cases kq
    ·cases kq
   ·cases h
  ·cases h
 ·cases h
theorem yv {X:fH} {Q:Ex->Env->ar->Prop} {env:Env} {σ:ar}:∀{l:List VC} {t:VC},Bt l=some t->dI X t Q env σ->∀c∈l,dI X c Q env σ
 |[],t,h,_,c,hc=>by cases hc
 |[c0],t,h,hw,c,hc=>by
  simp only[Bt,Option.some.injEq]at h
  subst h
  rw[List.mem_singleton]at hc
  subst hc;exact hw
 |c0::c1::r,t,h,hw,c,hc=>by
  simp only[Bt,Option.map_eq_some_iff]at h
  obtain⟨t',HT,rfl⟩:=h
  rcases List.mem_cons.1 hc with rfl|hc
  ·exact hw.1
  ·exact yv HT hw.2 c hc
theorem mapM_mem {α β:Type} {f:α->Option β}:∀{l:List α} {r:List β},l.mapM f=some r->∀i∈l,∃b∈r,f i=some b
 |[],_,_,i,hi=>by cases hi
 |a::l,r,h,i,hi=>by
  simp only[List.mapM_cons,Option.bind_eq_bind,Option.bind_eq_some_iff,Option.pure_def,Option.some.injEq]at h
  obtain⟨b,hb,r',hr,rfl⟩:=h
  rcases List.mem_cons.1 hi with rfl|hi
  ·exact⟨b,by simp,hb⟩
  ·obtain⟨c,hc,hf⟩:=mapM_mem hr i hi
   exact⟨c,List.mem_cons_of_mem _ hc,hf⟩
theorem HF (hK:qh X) {ops:Array Oper} {vl:List bq} {Q:Ex->Env->ar->Prop}:∀(n:Nat) (listed:Array Bool) (t:VC) (env:Env) (σ:ar),xD ops vl (jH ops) n listed=some t->DC ops listed->dI X t Q env σ->AX X ops vl (Q .normal) n listed env σ:=by
 intro n
 induction n with
 |zero=>
  intro listed t env σ h _ hw
  unfold xD at h
  split at h
  ·rename_i hr
   simp only[Option.some.injEq]at h
   subst h
   exact⟨hr,hw⟩
  ·cases h
 |succ n ih=>
  intro listed t env σ h sM hw
  unfold xD at h
  split at h
  ·rename_i hr
   simp only[Option.some.injEq]at h
   subst h
   exact⟨fun _=>hw,fun i hi=>by rw[hr]at hi;cases hi⟩
  ·rename_i r rs hr
   dsimp only at h
   split at h
   ·rename_i i hfind
    have LL:=List.mem_of_find?_eq_some hfind
    have yN:=List.find?_some hfind
    rw[<-hr]at LL
    split at h
    ·rename_i vo qf
     simp only[Option.map_eq_some_iff]at h
     obtain⟨t',HT,rfl⟩:=h
     exact EY hK qf n listed env σ sM LL yN (j0 hK (fun e s h=>ih _ _ _ _ HT (sM.list LL) h) hw)
    ·cases h
   ·split at h
    ·rename_i i t s y vo hfind
     obtain⟨i0,HO,dU⟩:=List.exists_of_findSome?_eq_some hfind
     obtain⟨rfl,qf,⟨sz,er⟩,vg,LJ⟩:=JE dU
     rw[<-hr]at HO
     simp only[Option.map_eq_some_iff]at h
     obtain⟨t',HT,rfl⟩:=h
     exact CZ hK qf er vg n listed env σ sM HO LJ hw.1 (j0 hK (fun e s h=>ih _ _ _ _ HT (sM.list HO) h) hw.2)
    split at h
    ·rename_i l hl
     have dD:=yv h hw
     refine⟨fun h=>(by rw[h]at hr;cases hr),fun i hi=>?_⟩
     rw[hr]at hi
     obtain⟨b,KW,Gy⟩:=mapM_mem hl i hi
     simp only[Option.bind_eq_some_iff,Option.map_eq_some_iff]at Gy
     obtain⟨vo,qf,t',HT,rfl⟩:=Gy
     exact⟨vo,qf,j0 hK (fun e s h=>ih _ _ _ _ HT (sM.list (by rw[hr];exact hi)) h) (dD _ KW)⟩
    ·cases h
theorem EU {ops:Array Oper} {vl:List bq} {nt site0:Nat} {draw mk:Bool} {bs:Array Nat} {hidden:List (Nat×Bool)} {K:Env->ar->Prop} {Q:Exit->Act->World->Prop} (dD:allM (kQ P ops nt site0 draw mk bs hidden) ops.toList 0=some vl):
  ∀(fuel:Nat) (listed:Array Bool) (env:Env) (σ:ar) (a:Act) (w:World) (D:Nat->Prop) (ι:Names) (U:Nat->Prop),AX (Sound P) ops vl K fuel listed env σ->gz P hs D ι σ.get w->Used ι σ.next U->(∀s,U s->∃i,s=site0+i/\listed.getD i false=true)->cr P w D ι env a->a.tmps.size=nt->
  (∀iI σ' a' w' D' ι',K iI σ'->Step hs D ι w D' ι' w'->St P hs nt D' ι' iI σ' a' w'->a'.defers=a.defers->σ.next<=σ'.next->Q .normal a' w')->wpAny P .any ops Q fuel listed a w:=by
 intro fuel
 induction fuel with
 |zero=>intro listed env σ a w D ι U h S Us hU E fo hQ;exact⟨h.1,hQ env _ a w D ι h.2 (Step.refl _ _ _ _) ⟨S,Us.next,E,fo⟩ rfl (Nat.le_succ _)⟩
 |succ fuel ih=>
  intro listed env σ a w D ι U h S Us hU E fo hQ
  refine⟨fun hr=>hQ env _ a w D ι (h.1 hr) (Step.refl _ _ _ _) ⟨S,Us.next,E,fo⟩ rfl (Nat.le_succ _),fun i hi=>?_⟩
  obtain⟨vo,qf,hG⟩:=h.2 i hi
  obtain⟨_,o,ho,_⟩:=mem_ready.1 hi
  obtain⟨vo',mD,Rb⟩:=(oH dD).2 i o (by simpa using ho)
  rw[qf]at mD;injection mD with mD;subst mD
  rw[Nat.zero_add]at Rb
  obtain⟨hc,hd,B5,xY,hg⟩:=pH Rb
  have hw:=tM (ops:=ops) (vo:=vo) E hg
  have Uw:¬U vo.site:=fun hu=>by
   obtain⟨i',he,hl⟩:=hU _ hu
   have:i'=i:=by omega
   subst this
   rw[ji hi]at hl;cases hl
  have jI:i<listed.size:=by
   have h0:=(mem_ready.1 hi).1
   rcases Nat.lt_or_ge i listed.size with h|h
   ·exact h
   ·simp[Array.getElem?_eq_none h]at h0
  unfold wpOp
  simp only[ho]
  rw[<-hw]
  unfold step at hG
  by_cases GL:aM vo.guard env=true
  ·rw[if_pos GL]
   rw[if_pos GL]at hG
   refine .inl (zx hc hG S Us Uw E fun v σ' u D' ι' w' hn T S' hR U' hle=>?_)
   refine ih _ _ _ _ w' D' ι' _ hn S' U' (fun s BZ=>?_) (by rw[hd];exact iz (oN E T) hR xY fo) (by rw[eW];exact fo) fun iI σ2 a2 w2 D2 ι2 hk T2 O5 DM nr=>hQ iI σ2 a2 w2 D2 ι2 hk (T.trans T2) O5 (DM.trans (put_defers _ _ _)) (Nat.le_trans hle nr)
   rcases BZ with h|h
   ·obtain⟨i',he,hl⟩:=hU _ h
    exact⟨i',he,getD_set_true hl⟩
   ·exact⟨i,by rw[h,B5],by simp[jI]⟩
  ·rw[if_neg GL]
   rw[if_neg GL]at hG
   refine ih _ _ _ _ w D ι U hG S Us (fun s BZ=>?_) (by rw[hd];exact iz E cI.undef xY fo) (by rw[eW];exact fo) fun iI σ2 a2 w2 D2 ι2 hk T2 O5 DM nr=>hQ iI σ2 a2 w2 D2 ι2 hk T2 O5 (DM.trans (put_defers _ _ _)) nr
   obtain⟨i',he,hl⟩:=hU _ BZ
   exact⟨i',he,getD_set_true hl⟩
end
end Go.Proofs.YtgoljkjaameagaaGreat.V

namespace Go.Proofs.YtgoljkjaameagaaGreat.V
open Go.RowKit
variable {P:Program} {w w':World} {D D' D2:Nat->Prop} {ι ι' ι2:Names}
def A6 (P:Program) (c:Code) (Q:Exit->Act->World->Prop) (a:Act) (w:World):Prop:=
 ∀(b:Frame) (k:List Item) (cs:List Frame),b.kind≠.early->∃e a' w',Q e a' w'/\Arrives P (lone (b.at a (.code c::k)) cs w) b k cs e a' w'
section
variable {Q:Exit->Act->World->Prop} {a:Act}
theorem kD {c:Code} (h:c.wp P Q a w):A6 P c Q a w:=fun b k cs _=>h b k cs
theorem lT {x y:Code} (h:A6 P x (Exit.then (A6 P y Q) Q) a w):A6 P (.seq x y) Q a w:=by
 intro b k cs hb
 obtain⟨e,a1,w1,hq,jU⟩:=h b (.code y::k) cs hb
 by_cases he:e=.normal
 ·subst he
  obtain⟨e2,a2,w2,uH,IU⟩:=hq b k cs hb
  exact⟨e2,a2,w2,uH,.of_steps (.head step_seq jU) IU⟩
 ·refine⟨e,a1,w1,?_,.of_steps (.one step_seq) (.pass (x:=.code y) rfl (fun _ _=>.inl he) jU)⟩
  cases e<;>first|exact absurd rfl he|exact hq
theorem w6 {c:Operand} {x y:Code} {t:Bool} (hc:a.eval c=.bool t) (h:A6 P (if t then x else y) Q a w):A6 P (.cond c x y) Q a w:=
 fun b k cs hb=>let ⟨e,a',w',q,r⟩:=h b k cs hb;⟨e,a',w',q,.of_steps (.one (step_cond hc)) r⟩
theorem tt {id:Nat} {c:Code} (h:A6 P c (Exit.inBlock id Q) a w):A6 P (.block id c) Q a w:=by
 intro b k cs hb
 obtain⟨e,a1,w1,hq,jU⟩:=h b (.inBlock id::k) cs hb
 cases e with
 |normal=>exact⟨.normal,a1,w1,hq,.head step_block (Steps.trans jU (.one step_inBlock))⟩
 |exit j6=>
  by_cases hid:j6=id
  ·simp only[Exit.inBlock,hid,if_true]at hq
   exact⟨.normal,a1,w1,hq,.head step_block (jU k (by simp[exitTo,hid]))⟩
  ·simp only[Exit.inBlock,hid,if_false]at hq
   exact⟨.exit j6,a1,w1,hq,fun k' hk=>.head step_block (jU k' (by simp[exitTo,Ne.symm hid,hk]))⟩
 |goto l=>exact⟨_,a1,w1,hq,fun k' hk=>.head step_block (jU k' (by simp[gotoIn,hk]))⟩
 |ret=>exact⟨_,a1,w1,hq,.of_steps (.one step_block) jU⟩
 |panic ch=>exact⟨_,a1,w1,hq,.of_steps (.one step_block) jU⟩
 |outgrown=>exact⟨_,a1,w1,hq,.of_steps (b:=b) (k:=k) (cs:=cs) (e:=.outgrown) (.one step_block) jU⟩
def pO (P:Program) (c:Code) (Q:Exit->Act->World->Prop):Nat->Act->World->Prop
 |0=>fun _ _=>False
 |n+1=>A6 P c (Exit.then (pO P c Q n) Q)
theorem Cz {c:Code} (n:Nat) (h:pO P c Q n a w):A6 P (.loop c) Q a w:=by
 intro b k cs hb
 have key:∀n a w,pO P c Q n a w->∃e a' w',Q e a' w'/\Arrives P (lone (b.at a (.code c::.inLoop c::k)) cs w) b k cs e a' w':=by
  intro n
  induction n with
  |zero=>intro a w h;exact h.elim
  |succ n ih=>
   intro a w h
   obtain⟨e,a1,w1,hq,jU⟩:=h b (.inLoop c::k) cs hb
   by_cases he:e=.normal
   ·subst he
    obtain⟨e2,a2,w2,uH,IU⟩:=ih a1 w1 hq
    exact⟨e2,a2,w2,uH,.of_steps (Steps.trans jU (.one step_inLoop)) IU⟩
   ·refine⟨e,a1,w1,?_,.pass (x:=.inLoop c) rfl (fun _ _=>.inl he) jU⟩
    cases e<;>first|exact absurd rfl he|exact hq
 obtain⟨e,a',w',hq,jU⟩:=key n a w h
 exact⟨e,a',w',hq,.of_steps (.one step_loop) jU⟩
theorem zO {f:FuncId} {fn:Func} {c:Code} {args:Array Value} {R:Ending->World->Prop} (hf:P.funcs[f]? =some fn) (hb:fn.body=some c)
  (h:A6 P c (bodyPost P fn R) {tmps:=args++Array.replicate (fn.ntmps-args.size) undef,defers:=[]} w):Calls P f args w R:=by
 intro cs
 have OH:Frame.enter P f args .normal=({(default:Frame)with fn:=f,kind:=.normal}:Frame).at {tmps:=args++Array.replicate (fn.ntmps-args.size) undef,defers:=[]} [.code c]:=by simp[Frame.enter,Frame.at,hf,hb]
 obtain⟨e,a',w',hq,jU⟩:=h {(default:Frame)with fn:=f,kind:=.normal} [] cs (by simp)
 rw[<-OH]at jU
 cases e with
 |normal=>obtain⟨hd,v,hr,hR⟩:=hq;exact⟨.returned v,w',_,hR,Steps.trans jU (.one step_end),rfl,rfl,hd,rfl,fn,hf,hr⟩
 |ret=>obtain⟨hd,v,hr,hR⟩:=hq;obtain⟨todo,hs⟩:=jU;exact⟨.returned v,w',_,hR,hs,rfl,rfl,hd,rfl,fn,hf,hr⟩
 |panic chain=>obtain⟨hd,hR⟩:=hq;obtain⟨todo,hs⟩:=jU;exact⟨.panicked chain,w',_,hR,hs,rfl,rfl,hd,fn,hf⟩
 |exit id=>exact hq.elim
 |goto l=>exact hq.elim
 |outgrown=>exact⟨.outgrown,w',{(default:Frame)with fn:=f,kind:=.normal},hq,jU.resolve_left (by simp),rfl,trivial⟩
def xP (P:Program) (ops:Array Oper) (Q:Exit->Act->World->Prop) (l:List Nat) (a:Act) (w:World):Prop:=
 ∀(b:Frame) (k:List Item) (cs:List Frame),b.kind≠.early->∃e a' w',Q e a' w'/\Arrives P (lone (b.at a (.inRegion ops l::k)) cs w) b k cs e a' w'
theorem Ei {id:Nat} {ops:Array Oper} (h:xP P ops Q (List.range ops.size) a w):A6 P (.region id ops false) Q a w:=
 fun b k cs hb=>let ⟨e,a',w',q,r⟩:=h b k cs hb;⟨e,a',w',q,.of_steps (.one step_region) r⟩
theorem Pq {ops:Array Oper} (h:Q .normal a w):xP P ops Q [] a w:=fun _ _ _ _=>⟨.normal,a,w,h,.one step_region_end⟩
theorem pw {o:Oper} {ys:Nat->Option Bool} (h:o.guard=none):Region.wanted o ys=true:=by simp[Region.wanted,h]
theorem JW {ops:Array Oper} {i:Nat} {rest:List Nat} {o:Oper} {v:Value} (ho:ops[i]? =some o) (hg:o.guard=none) (hr:(execOp a.eval o).run P w=.ok (.value v) w') (h:xP P ops Q rest (a.put o.dst v) w'):xP P ops Q (i::rest) a w:=by
 intro b k cs hb
 obtain⟨e,a',w2,hq,jU⟩:=h b k cs hb
 refine⟨e,a',w2,hq,.of_steps (.one ?_) jU⟩
 have tb:(b.at a (.inRegion ops (i::rest)::k)).finish v=b.at (a.put o.dst v) (.inRegion ops rest::k):=by rw[Frame.finish_at,ho];rfl
 rw[<-tb]
 refine step_lone_go ?_
 have h2:=stepG_op (P:=P) (b:=b) (k:=k) (cs:=cs) (w:=w) (rest:=rest) ho (pw hg (ys:=yielded ops a.tmps))
 rw[h2];simp[stepG.apply,hr]
theorem Mu {ops:Array Oper} {i:Nat} {rest:List Nat} {o:Oper} {v z:Value} {c cap s r:Nat} {buf:Array Value} (ho:ops[i]? =some o) (hg:o.guard=none) (hr:(execOp a.eval o).run P w=.ok (.comm #[Conc.scase c v z] true .send) w)
  (hc:w.heap[c]? =some (.chan cap buf false s r false)) (fV:buf.size<cap) (h:xP P ops Q rest (a.put o.dst undef) (w.setChan c cap (buf.push v) false (s+1) r false)):xP P ops Q (i::rest) a w:=by
 intro b k cs hb
 obtain⟨e,a',w2,hq,jU⟩:=h b k cs hb
 refine⟨e,a',w2,hq,.of_steps (.one ?_) jU⟩
 have tb:(b.at a (.inRegion ops (i::rest)::k)).finish undef=b.at (a.put o.dst undef) (.inRegion ops rest::k):=by rw[Frame.finish_at,ho];rfl
 rw[<-tb,Conc.lone_eq_solo,Conc.lone_eq_solo]
 exact Conc.step_lone_send_room (Conc.stepG_comm ho (pw hg) hb hr) hc fV
theorem Mt {ops:Array Oper} {i:Nat} {rest:List Nat} {o:Oper} {z:Value} {c cap s r:Nat} {buf:Array Value} (ho:ops[i]? =some o) (hg:o.guard=none) (hr:(execOp a.eval o).run P w=.ok (.comm #[Conc.rcase c z] true (.recv false)) w)
  (hc:w.heap[c]? =some (.chan cap buf false s r false)) (Jn:0<buf.size) (h:xP P ops Q rest (a.put o.dst (buf.getD 0 undef)) (w.setChan c cap (buf.extract 1 buf.size) false s (r+1) false)):xP P ops Q (i::rest) a w:=by
 intro b k cs hb
 obtain⟨e,a',w2,hq,jU⟩:=h b k cs hb
 refine⟨e,a',w2,hq,.of_steps (.one ?_) jU⟩
 have tb:(b.at a (.inRegion ops (i::rest)::k)).finish (buf.getD 0 undef)=b.at (a.put o.dst (buf.getD 0 undef)) (.inRegion ops rest::k):=by rw[Frame.finish_at,ho];rfl
 rw[<-tb,Conc.lone_eq_solo,Conc.lone_eq_solo]
 exact Conc.step_lone_recv_buf false (Conc.stepG_comm ho (pw hg) hb hr) hc Jn
end
section
variable {hs:Nat} {g:Rows} {env:Env} {a:Act} {o:Oper}
theorem L8 {x y:O} (hc:rj P o.op=some (.snd x y)):∃x' y',o.op=.send x' y'/\cO P x'=some x/\cO P y'=some y:=by
 unfold rj at hc
 split at hc
 case h_25=>
  rename_i x' y' h
  simp only[Option.bind_eq_bind,Option.bind_eq_some_iff,Option.pure_def,Option.some.injEq,gE.snd.injEq]at hc
  obtain⟨p,h1,q,h2,rfl,rfl⟩:=hc
  exact⟨_,_,h,h1,h2⟩
 all_goals (try unfold nI at hc)<;>(try unfold vV at hc)<;>(try unfold sY at hc)<;>(repeat' (split at hc))<;>(simp only[Option.bind_eq_bind,Option.bind_eq_some_iff,Option.pure_def,Option.some.injEq,Option.map_eq_some_iff,reduceCtorEq,and_false,exists_false]at hc)
theorem L7 {x:O} (hc:rj P o.op=some (.Pu x)):∃t dir e i z x',o.op=.recv t x' false/\P.underlying t=some (.chan dir e)/\P.info? e=some i/\i.zero=some z/\cO P x'=some x:=by
 unfold rj at hc
 split at hc
 case h_26=>
  rename_i t x' h
  split at hc
  ·rename_i dir e ht
   split at hc
   ·rename_i z hz
    simp only[Option.bind_eq_some_iff]at hz
    obtain⟨i,hi,hz⟩:=hz
    simp only[Option.map_eq_some_iff,gE.Pu.injEq]at hc
    obtain⟨p,h1,rfl⟩:=hc
    exact⟨t,dir,e,i,z,x',h,ht,hi,hz,h1⟩
   ·cases hc
  ·cases hc
 all_goals (try unfold nI at hc)<;>(try unfold vV at hc)<;>(try unfold sY at hc)<;>(repeat' (split at hc))<;>(simp only[Option.bind_eq_bind,Option.bind_eq_some_iff,Option.pure_def,Option.some.injEq,Option.map_eq_some_iff,reduceCtorEq,and_false,exists_false]at hc)
theorem QS {x y:O} {g':Rows} (S:gz P hs D ι g w) (hc:rj P o.op=some (.snd x y)) (E:cr P w D ι env a) (hv:ep g (cQ env x) (cQ env y)=some g'):
  ∃c cap s r buf u,(execOp a.eval o).run P w=.ok (.comm #[Conc.scase c u (.tuple #[])] true .send) w/\w.heap[c]? =some (.chan cap buf false s r false)/\buf.size<cap/\gz P hs D ι g' (w.setChan c cap (buf.push u) false (s+1) r false)/\Step hs D ι w D ι (w.setChan c cap (buf.push u) false (s+1) r false):=by
 obtain⟨x',y',ho,hx,hy⟩:=L8 hc
 have rx:=dj E hx
 have ry:=dj E hy
 unfold ep at hv
 split at hv
 ·rename_i i he
  simp only[Option.bind_eq_some_iff]at hv
  obtain⟨r,hg,hv⟩:=hv
  split at hv
  ·rename_i hcond
   simp only[Option.some.injEq]at hv
   subst hv
   obtain⟨B,c,hu,hB,hk,fo,buf,s,q,hb,KX,hR⟩:=zP S rx he hg
   obtain⟨B',dz,RR,_⟩:=S.row i r hg
   rw[hB]at dz;injection dz with dz;subst dz
   have oe:=S.HG (ob:=.chan c (buf.push (a.eval y')) false (s+1) q false) (r':={r with rows:=r.rows++[[cQ env y]]}) hg hcond.1 hB fun hr kr=>⟨RR.sz,fun cs dt=>?_,fun h0=>(by rw[hk]at h0;cases h0),fun m hm=>(by rw[hk]at hm;cases hm),fun c' kT=>?_⟩
   ·exact⟨B.b,c,s,q,buf,a.eval y',by simp[execOp,ho,hu,Conc.scase],hb,by rw[KX];omega,oe.1,oe.2⟩
   ·rcases List.mem_append.1 dt with h|h
    ·exact RR.flat cs h
    ·rw[List.mem_singleton.1 h]
     intro b ta
     rw[List.mem_singleton.1 ta];exact hcond.2.2
   ·rw[hk]at kT
    simp only[Option.some.injEq,BK.chan.injEq]at kT
    subst kT
    refine⟨fo,_,_,_,kr,by simp[KX],fun j cs hj=>?_⟩
    rw[List.getElem?_append]at hj
    split at hj
    ·rename_i dU
     obtain⟨b,u,q1,q2,q3⟩:=hR j cs hj
     refine⟨b,u,q1,?_,hr _ _ q3⟩
     rw[Array.getElem?_push,if_neg (by omega)];exact q2
    ·rename_i qN
     have ig:j=r.rows.length:=by
      have:=(List.getElem?_eq_some_iff.1 hj).1
      simp at this;omega
     subst ig
     simp at hj
     subst hj
     exact⟨_,_,rfl,by rw[Array.getElem?_push,if_pos KX.symm],hr _ _ ry⟩
  ·cases hv
 ·cases hv
theorem QR {x:O} {g':Rows} {v:AV} (S:gz P hs D ι g w) (hc:rj P o.op=some (.Pu x)) (E:cr P w D ι env a) (hv:eo g (cQ env x)=some (v,g')):
  ∃c cap s r buf z,(execOp a.eval o).run P w=.ok (.comm #[Conc.rcase c z] true (.recv false)) w/\w.heap[c]? =some (.chan cap buf false s r false)/\0<buf.size/\gz P hs D ι g' (w.setChan c cap (buf.extract 1 buf.size) false s (r+1) false)/\Step hs D ι w D ι (w.setChan c cap (buf.extract 1 buf.size) false s (r+1) false)/\cI P (w.setChan c cap (buf.extract 1 buf.size) false s (r+1) false) D ι v (buf.getD 0 undef):=by
 obtain⟨t,dir,e,i0,z,x',ho,ht,hi,hz,hx⟩:=L7 hc
 have rx:=dj E hx
 unfold eo at hv
 split at hv
 ·rename_i i he
  simp only[Option.bind_eq_some_iff]at hv
  obtain⟨r,hg,hv⟩:=hv
  split at hv
  ·rename_i v' rest oW
   split at hv
   ·rename_i hcond
    simp only[Option.some.injEq,Prod.mk.injEq]at hv
    obtain⟨rfl,rfl⟩:=hv
    obtain⟨B,c,hu,hB,hk,fo,buf,s,q,hb,KX,hR⟩:=zP S rx he hg
    obtain⟨B',dz,RR,_⟩:=S.row i r hg
    rw[hB]at dz;injection dz with dz;subst dz
    obtain⟨b0,u0,q1,q2,q3⟩:=hR 0 [v'] (by rw[oW];rfl)
    simp only[List.cons.injEq,and_true]at q1
    subst q1
    have kz:0<buf.size:=by rw[KX,oW];simp
    have Tt:buf.getD 0 undef=u0:=by rw[Array.getD_eq_getD_getElem?,q2];rfl
    have oe:=S.HG (ob:=.chan c (buf.extract 1 buf.size) false s (q+1) false) (r':={r with rows:=rest}) hg hcond hB fun hr kr=>⟨RR.sz,fun cs dt=>RR.flat cs (by rw[oW];exact List.mem_cons_of_mem _ dt),fun h0=>(by rw[hk]at h0;cases h0),fun m hm=>(by rw[hk]at hm;cases hm),fun c' kT=>?_⟩
    ·refine⟨B.b,c,s,q,buf,z,?_,hb,kz,oe.1,oe.2,?_⟩
     ·have qR:(zeroValue e).run P w=.ok z w:=by simp[zeroValue,typeInfo,hi,hz]
      simp[execOp,ho,hu,Conc.rcase,run_underlying ht,qR]
     ·rw[Tt];exact oe.2.rep q3
    ·rw[hk]at kT
     simp only[Option.some.injEq,BK.chan.injEq]at kT
     subst kT
     refine⟨fo,_,_,_,kr,by simp[KX,oW],fun j cs hj=>?_⟩
     obtain⟨b,u,k1,k2,k3⟩:=hR (j+1) cs (by rw[oW];simpa using hj)
     refine⟨b,u,k1,?_,hr _ _ k3⟩
     have dU:=(Array.getElem?_eq_some_iff.1 k2).1
     rw[Array.getElem?_extract,if_pos (by omega),Nat.add_comm 1 j];exact k2
   ·cases hv
  ·cases hv
 ·cases hv
theorem Gh {ops:Array Oper} {nt site0:Nat} {K:Env->ar->Prop} {Q:Exit->Act->World->Prop}:∀(l:List Oper) (vl:List bq) (j:Nat) (env:Env) (σ:ar) (a:Act) (w:World) (D:Nat->Prop) (ι:Names),
  ops.toList.drop j=l->allM (kQ P ops nt site0 false false #[] []) l j=some vl->cF vl K env σ->gz P hs D ι σ.get w->Used ι σ.next (fun _=>False)->cr P w D ι env a->a.tmps.size=nt->
  (∀iI σ' a' w' D' ι',K iI σ'->Step hs D ι w D' ι' w'->St P hs nt D' ι' iI σ' a' w'->a'.defers=a.defers->σ.next<=σ'.next->Q .normal a' w')->xP P ops Q (List.range' j l.length) a w:=by
 intro l
 induction l with
 |nil=>
  intro vl j env σ a w D ι _ h hv S Us E fo hQ
  simp[allM]at h;subst h
  exact Pq (hQ env ⟨σ.get,σ.next+1⟩ a w D ι hv (Step.refl _ _ _ _) ⟨S,Us.next,E,fo⟩ rfl (Nat.le_succ _))
 |cons o l ih=>
  intro vl j env σ a w D ι hl h hv S Us E fo hQ
  simp only[allM,Option.bind_eq_bind,Option.bind_eq_some_iff,Option.pure_def,Option.some.injEq]at h
  obtain⟨vo,qf,tL,sQ,rfl⟩:=h
  obtain⟨hc,hd,B5,xY,hg⟩:=pH qf
  obtain⟨Rq,hv⟩:=hv
  have Ve:o.guard=none:=by
   split at hg
   ·assumption
   ·obtain⟨t,_,h⟩:=hg
    rw[Rq]at h;cases h
  have Vf:ops[j]? =some o:=by
   have h0:=congrArg (fun x=>x[0]?) hl
   rw[<-Array.getElem?_toList]
   simpa[List.getElem?_drop]using h0
  have K4:ops.toList.drop (j+1)=l:=by rw[<-List.drop_drop,hl];rfl
  have go:∀(v:AV) (u:Value) (g2:Rows) (w2:World),cF tL K (upd env vo.dst v) ⟨g2,σ.next⟩->gz P hs D ι g2 w2->Step hs D ι w D ι w2->cI P w2 D ι v u->xP P ops Q (List.range' (j+1) l.length) (a.put o.dst u) w2:=fun v u g2 w2 hn S2 T hR=>
   ih tL (j+1) (upd env vo.dst v) ⟨g2,σ.next⟩ (a.put o.dst u) w2 D ι K4 sQ hn S2 Us (by rw[hd];exact iz (oN E T) hR xY fo) (by rw[eW];exact fo) fun iI σ2 a' w3 D3 ι3 hk T2 NM DM nr=>hQ iI σ2 a' w3 D3 ι3 hk (T.trans T2) NM (DM.trans (put_defers _ _ _)) nr
  rw[show List.range' j (o::l).length=j::List.range' (j+1) l.length from rfl]
  split at hv
  ·rename_i x y er
   split at hv
   ·rename_i g2 Qs
    rw[er]at hc
    obtain⟨c,cap,s,r,buf,u,gj,hb,fV,S2,T⟩:=QS S hc E Qs
    exact Mu Vf Ve gj hb fV (go _ _ _ _ hv S2 T cI.undef)
   ·exact hv.elim
  ·rename_i x er
   split at hv
   ·rename_i v g2 Qs
    rw[er]at hc
    obtain⟨c,cap,s,r,buf,z,gj,hb,Jn,S2,T,hR⟩:=QR S hc E Qs
    exact Mt Vf Ve gj hb Jn (go _ _ _ _ hv S2 T hR)
   ·exact hv.elim
  ·split at hv
   ·rename_i v hq
    obtain⟨u,gj,hR⟩:=zl hc hq S E
    exact JW Vf Ve gj (go _ _ _ _ hv S (Step.refl _ _ _ _) hR)
   ·exact hv.elim
end
end Go.Proofs.YtgoljkjaameagaaGreat.V

namespace Go.Proofs.YtgoljkjaameagaaGreat.V
open Go.RowKit
variable {P:Program} {w w':World} {D D' D2:Nat->Prop} {ι ι' ι2:Names}
section
variable {hs:Nat} {X:fH}
def SJ:Ex->Exit
 | .normal=>.normal
 | .exit id=>.exit id
 | .ret=>.ret
theorem St.drew {nt:Nat} {env:Env} {σ:ar} {a:Act} {D:Nat->Prop} {ι:Names} (h:St P hs nt D ι env σ a w):St P hs nt D ι env σ a w.drew/\Step hs D ι w D ι w.drew:=by
 have T:Step hs D ι w D ι w.drew:=Step.stay h.tD (fun _ _=>rfl) (Nat.le_refl _) rfl rfl rfl (fun _ h=>h) (fun _ h=>.inl h) (fun _ _ h=>h)
 exact⟨⟨h.tD.stay (fun _ _=>rfl) (Nat.le_refl _) (fun _ h=>h) h.tD.dead (fun _ h=>.inl h) (fun _ _ h=>h),h.used,oN h.env T,h.size⟩,T⟩
def tP (P:Program) (hs nt:Nat) (ds:List Deferred) (Q:Ex->Env->ar->Prop) (n0:Nat) (D:Nat->Prop) (ι:Names) (w:World) (Q':Exit->Act->World->Prop):Prop:=
 ∀ex env σ a w' D' ι',Q ex env σ->Step hs D ι w D' ι' w'->St P hs nt D' ι' env σ a w'->a.defers=ds->n0<=σ.next->Q' (SJ ex) a w'
theorem tP.later {nt:Nat} {ds:List Deferred} {Q:Ex->Env->ar->Prop} {n0 n1:Nat} {Q':Exit->Act->World->Prop} (h:tP P hs nt ds Q n0 D ι w Q') (T:Step hs D ι w D' ι' w') (hn:n0<=n1):tP P hs nt ds Q n1 D' ι' w' Q':=
 fun ex env σ a w2 D2 ι2 hq T2 dH hd hle=>h ex env σ a w2 D2 ι2 hq (T.trans T2) dH hd (Nat.le_trans hn hle)
theorem qz (hm:P.follows .mixedOrders=true) {md:List (Nat×Nat)} {nt fid:Nat}:∀(c:Code) (vc:VC),ju P md nt fid c=some vc->∀(Q:Ex->Env->ar->Prop) (env:Env) (σ:ar) (a:Act) (w:World) (D:Nat->Prop) (ι:Names) (Q':Exit->Act->World->Prop),
  dI (Sound P) vc Q env σ->St P hs nt D ι env σ a w->tP P hs nt a.defers Q σ.next D ι w Q'->A6 P c Q' a w:=by
 intro c
 induction c with
 |skip=>
  intro vc h Q env σ a w D ι Q' hv dH hQ
  simp[ju]at h;subst h
  exact kD <| wp_skip (hQ .normal env σ a w D ι hv (Step.refl _ _ _ _) dH rfl (Nat.le_refl _))
 |exit id=>
  intro vc h Q env σ a w D ι Q' hv dH hQ
  simp[ju]at h;subst h
  exact kD <| wp_exit (hQ (.exit id) env σ a w D ι hv (Step.refl _ _ _ _) dH rfl (Nat.le_refl _))
 |ret=>
  intro vc h Q env σ a w D ι Q' hv dH hQ
  simp[ju]at h;subst h
  exact kD <| wp_ret (hQ .ret env σ a w D ι hv (Step.refl _ _ _ _) dH rfl (Nat.le_refl _))
 |seq x y ihx ihy=>
  intro vc h Q env σ a w D ι Q' hv dH hQ
  simp only[ju,Option.bind_eq_bind,Option.bind_eq_some_iff,Option.pure_def,Option.some.injEq]at h
  obtain⟨vx,hx,vy,hy,rfl⟩:=h
  refine lT (ihx vx hx _ env σ a w D ι _ hv dH fun ex jl σ1 a1 w1 D1 ι1 hq T kg hd hle=>?_)
  cases ex with
  |normal=>exact ihy vy hy Q jl σ1 a1 w1 D1 ι1 Q' hq kg (by rw[hd];exact hQ.later T hle)
  |exit id=>exact hQ (.exit id) jl σ1 a1 w1 D1 ι1 hq T kg hd hle
  |ret=>exact hQ .ret jl σ1 a1 w1 D1 ι1 hq T kg hd hle
 |cond c x y ihx ihy=>
  intro vc h Q env σ a w D ι Q' hv dH hQ
  simp only[ju,Option.bind_eq_bind,Option.bind_eq_some_iff,Option.pure_def,Option.some.injEq]at h
  obtain⟨c',hc,vx,hx,vy,hy,rfl⟩:=h
  unfold dI at hv
  have hr:=dj dH.env hc
  split at hv
  ·rename_i b hb
   rw[hb]at hr
   refine w6 (e6 hr) ?_
   cases b with
   |true=>exact ihx vx hx Q env σ a w D ι Q' hv dH hQ
   |false=>exact ihy vy hy Q env σ a w D ι Q' hv dH hQ
  ·exact hv.elim
 |block id c ih=>
  intro vc h Q env σ a w D ι Q' hv dH hQ
  simp only[ju,Option.map_eq_some_iff]at h
  obtain⟨vx,hx,rfl⟩:=h
  refine tt (ih vx hx _ env σ a w D ι _ hv dH fun ex jl σ1 a1 w1 D1 ι1 hq T kg hd hle=>?_)
  cases ex with
  |normal=>exact hQ .normal jl σ1 a1 w1 D1 ι1 hq T kg hd hle
  |ret=>exact hQ .ret jl σ1 a1 w1 D1 ι1 hq T kg hd hle
  |exit j6=>
   simp only[bc]at hq
   simp only[SJ,Exit.inBlock]
   by_cases hid:j6=id
   ·rw[if_pos hid]at hq ⊢;exact hQ .normal jl σ1 a1 w1 D1 ι1 hq T kg hd hle
   ·rw[if_neg hid]at hq ⊢;exact hQ (.exit j6) jl σ1 a1 w1 D1 ι1 hq T kg hd hle
 |loop c ih=>
  intro vc h Q env σ a w D ι Q' hv dH hQ
  simp only[ju,Option.map_eq_some_iff]at h
  obtain⟨vx,hx,rfl⟩:=h
  obtain⟨n,hv⟩:=hv
  refine Cz n ?_
  have key:∀n env σ a w D ι,FL (dI (Sound P) vx) Q n env σ->St P hs nt D ι env σ a w->tP P hs nt a.defers Q σ.next D ι w Q'->pO P c Q' n a w:=by
   intro n
   induction n with
   |zero=>intro env σ a w D ι h;exact h.elim
   |succ n ihn=>
    intro env σ a w D ι h dH hQ
    refine ih vx hx _ env σ a w D ι _ h dH fun ex jl σ1 a1 w1 D1 ι1 hq T kg hd hle=>?_
    cases ex with
    |normal=>exact ihn jl σ1 a1 w1 D1 ι1 hq kg (by rw[hd];exact hQ.later T hle)
    |exit id=>exact hQ (.exit id) jl σ1 a1 w1 D1 ι1 hq T kg hd hle
    |ret=>exact hQ .ret jl σ1 a1 w1 D1 ι1 hq T kg hd hle
  exact key n env σ a w D ι hv dH hQ
 |region id ops draw=>
  intro vc h Q env σ a w D ι Q' hv dH hQ
  simp only[ju,QQ]at h
  split at h
  ·rename_i hmode
   have UJ:draw=true:=by
    simp only[Bool.and_eq_true]at hmode;exact hmode.1
   subst UJ
   split at h
   ·rename_i vl dD
    obtain⟨rV,T0⟩:=dH.drew
    have DK:=HF (X:=Sound P) kP ops.size _ vc env σ h (fun k i h=>by
     exfalso
     rcases Nat.lt_or_ge k ops.size with hk|hk
     ·simp[hk]at h
     ·simp[Nat.not_lt.2 hk]at h) hv
    refine kD (wp_region_any hm ?_)
    exact EU dD ops.size _ env σ a w.drew D ι (fun _=>False) DK rV.tD rV.used (fun _ h=>h.elim) rV.env rV.size fun jl σ1 a1 w1 D1 ι1 hk T kg hd hle=>hQ .normal jl σ1 a1 w1 D1 ι1 hk (T0.trans T) kg hd hle
   ·cases h
  split at h
  ·rename_i hcom
   have UJ:draw=false:=by
    simp only[Bool.and_eq_true,Bool.not_eq_true']at hcom;exact hcom.1
   subst UJ
   simp only[Option.map_eq_some_iff]at h
   obtain⟨vl,sQ,rfl⟩:=h
   have dD:allM (kQ P ops nt ((fid*1000+id)*1000) false false #[] []) ops.toList 0=some vl:=by
    unfold rK at sQ
    simp only[Bool.false_eq_true,if_false,Bool.not_false,Bool.true_or,if_true]at sQ
    split at sQ
    ·rename_i tL h;simp at sQ;subst sQ;exact h
    ·cases sQ
   refine Ei ?_
   have:=Gh (Q:=Q') ops.toList vl 0 env σ a w D ι rfl dD hv dH.tD dH.used dH.env dH.size fun jl σ1 a1 w1 D1 ι1 hk T kg hd hle=>hQ .normal jl σ1 a1 w1 D1 ι1 hk T kg hd hle
   rwa [<-List.range_eq_range',Array.length_toList]at this
  generalize (wY md id==1)=mk at h
  simp only[Option.map_eq_some_iff]at h
  obtain⟨vl,sQ,rfl⟩:=h
  cases draw with
  |false=>
   have dD:∃tL,allM (kQ P ops nt ((fid*1000+id)*1000) false mk #[] []) ops.toList 0=some tL/\vl=tL:=by
    unfold rK at sQ
    simp only[Bool.false_eq_true,if_false,Bool.not_false,Bool.true_or,if_true]at sQ
    split at sQ
    ·rename_i tL h;simp at sQ;exact⟨tL,h,sQ.symm⟩
    ·cases sQ
   obtain⟨tL,dD,rfl⟩:=dD
   refine kD (wp_region_list ?_)
   exact zg ops.toList vl 0 env σ a w D ι (fun _=>False) dD hv dH.tD dH.used (fun _ h=>h.elim) dH.env dH.size fun jl σ1 a1 w1 D1 ι1 hk T kg hd hle=>hQ .normal jl σ1 a1 w1 D1 ι1 hk T kg hd hle
  |true=>
   have dD:∃hidden tL,allM (kQ P ops nt ((fid*1000+id)*1000) true mk (jH ops) hidden) ops.toList 0=some tL/\vl=tL/\oM ops tL (jH ops)=true:=by
    unfold rK at sQ
    simp only[if_true,Bool.not_true,Bool.false_or]at sQ
    split at sQ
    ·rename_i tL h
     split at sQ
     ·rename_i wK;simp at sQ;exact⟨_,tL,h,sQ.symm,wK⟩
     ·cases sQ
    ·cases sQ
   obtain⟨hidden,tL,dD,rfl,wK⟩:=dD
   obtain⟨rV,T0⟩:=dH.drew
   obtain⟨hlen,_⟩:=oH dD
   have kU:vl.length=ops.size:=by rw[hlen];simp
   have DK:=xG (X:=Sound P) (K:=Q .normal) (n:=σ.next) wK kU vl 0 (Array.replicate ops.size false) env σ.get (by simp) (by simp) (fun i hi=>by simp[hi]) (by simp[kU]) (fun k i h=>by
    exfalso
    rcases Nat.lt_or_ge k ops.size with hk|hk
    ·simp[hk]at h
    ·simp[Nat.not_lt.2 hk]at h) hv
   refine kD (wp_region_any hm ?_)
   rw[kU]at DK
   exact ym dD ops.size _ env σ.get a w.drew D ι (fun _=>False) DK rV.tD rV.used (fun _ h=>h.elim) rV.env rV.size fun jl g1 a1 w1 D1 ι1 U1 hk T S1 TP E1 Bf hd=>hQ .normal jl ⟨g1,σ.next+1⟩ a1 w1 D1 ι1 hk (T0.trans T) ⟨S1,TP.next,E1,Bf⟩ hd (Nat.le_succ _)
 |_=>
  intro vc h
  simp[ju]at h
def J8 (tmps:Array Value):ResultVar->Sem Value
 | .tmp t=>pure (tmps.getD t undef)
 | .cell a t=>do loadVar t (<-asAddr (tmps.getD a undef))
theorem Eu (fn:Func) (tmps:Array Value):results fn tmps=(do
  let vs <-fn.results.mapM (J8 tmps)
  pure (if h:vs.size=1 then vs[0]else .tuple vs)):=by
 unfold results
 congr 2
theorem uq {nt:Nat} {env:Env} {σ:ar} {a:Act} {D:Nat->Prop} {ι:Names} (dH:St P hs nt D ι env σ a w):∀(rs:List ResultVar) (vr:List nT) (vs:List AV),rs.mapM (Dt P)=some vr->fu env σ.get vr=some vs->
  ∃us:List Value,(rs.mapM (J8 a.tmps)).run P w=.ok us w/\us.length=vs.length/\∀(j:Nat) (v:AV),vs[j]? =some v->∃u,us[j]? =some u/\cI P w D ι v u
 |[],vr,vs,h,hv=>by
  simp at h;subst h
  simp[fu]at hv;subst hv
  exact⟨[],by simp,rfl,fun j v h=>by simp at h⟩
 |r::rs,vr,vs,h,hv=>by
  simp only[List.mapM_cons,Option.bind_eq_bind,Option.bind_eq_some_iff]at h
  obtain⟨x,hx,vr',hr,h⟩:=h
  simp at h;subst h
  simp only[fu,Option.bind_eq_some_iff,Option.map_eq_some_iff]at hv
  obtain⟨v,nP,VE,RQ,rfl⟩:=hv
  obtain⟨us,h1,h2,h3⟩:=uq dH rs vr' VE hr RQ
  have one:∃u,(J8 a.tmps r).run P w=.ok u w/\cI P w D ι v u:=by
   cases r with
   |tmp t=>
    simp[Dt]at hx;subst hx
    simp[iv]at nP;subst nP
    exact⟨_,rfl,dH.env t⟩
   |cell b t=>
    simp only[Dt,Option.bind_eq_bind,Option.bind_eq_some_iff,Option.pure_def,Option.some.injEq]at hx
    obtain⟨ag,vd,n,hn,rfl⟩:=hx
    simp only[iv]at nP
    have gN:=dH.env b
    unfold ld at nP
    split at nP
    ·rename_i j6 i' oo hb
     rw[hb]at gN
     obtain⟨B,he,hB,hk⟩:=iE gN
     simp only[Option.bind_eq_some_iff]at nP
     obtain⟨cs,dt,hp⟩:=nP
     obtain⟨B',r0,C6,dz,R,hi,fl,f,hf⟩:=Kd (S:=dH.tD) dt (fun B2 h2=>by rw[hB]at h2;injection h2 with h2;subst h2;exact hk)
     rw[hB]at dz;injection dz with dz;subst dz
     obtain⟨u,k1,k2⟩:=kK (w:=w) (b:=B.b) (oo:=i'*B.sz+oo) (f:=fun j=>f (oo+j)) vd hn hp (fun a ha=>fl a (List.mem_of_mem_drop ha)) (fun j hj=>by
      rw[Nat.add_assoc];exact(hf _ (by simp at hj;omega)).1) (fun j a ha=>by
      simp at ha;exact(hf _ ((List.getElem?_eq_some_iff.1 ha).1)).2 _ ha)
     exact⟨u,by simp only[J8,he,asAddr,Sem.run_bind,Sem.run_pure,Result.andThen_ok,k1],k2⟩
    ·rename_i cs hb
     rw[hb]at gN
     obtain⟨b',oo,vs2,he,q1,q2,q3,q4⟩:=lf gN
     obtain⟨u,k1,k2⟩:=kK (w:=w) (b:=b') (oo:=oo) (f:=vs2) vd hn nP q2 q3 (fun j a ha=>.eO _ _ (q4 j a ha))
     exact⟨u,by simp only[J8,he,asAddr,Sem.run_bind,Sem.run_pure,Result.andThen_ok,k1],k2⟩
    ·simp at nP
  obtain⟨u,hu,x9⟩:=one
  refine⟨u::us,?_,by simp[h2],fun j v' hj=>?_⟩
  ·rw[List.mapM_cons]
   simp only[Sem.run_bind,hu,h1,Result.andThen_ok,Sem.run_pure]
  ·cases j with
   |zero=>simp at hj;subst hj;exact⟨u,rfl,x9⟩
   |succ j=>simp at hj ⊢;exact h3 j v' hj
theorem vQ {f:Nat} {fn:Func} {c:Code} {args:List AV} {σ:ar} {K:AV->ar->Prop} {vr:List nT} (Qi:P.funcs[f]? =some fn) (hc:fn.body=some c) (hr:fn.results.toList.mapM (Dt P)=some vr) (ha:fn.params.size+fn.nfree=args.length) (hle:fn.params.size+fn.nfree<=fn.ntmps)
  (h:∀(hs:Nat) (w:World) (D:Nat->Prop) (ι:Names) (a:Act) (Q':Exit->Act->World->Prop),St P hs fn.ntmps D ι (cC args) σ a w->tP P hs fn.ntmps a.defers (kJ vr K) σ.next D ι w Q'->A6 P c Q' a w):Sound P f args σ K:=by
 intro hs D ι w vs S Us A
 have fo:vs.size=args.length:=A.1
 refine zO Qi hc ?_
 refine h hs w D ι _ _ ⟨S,Us,fun t=>?_,by simp;omega⟩ fun ex jl σ1 a1 w1 D1 ι1 hq T kg hd hle=>?_
 ·simp only[cC]
  by_cases dU:t<args.length
  ·obtain⟨u,hu,x9⟩:=A.2 t args[t] (List.getElem?_eq_getElem dU)
   have e1:args.getD t .undef=args[t]:=by simp[List.getD_eq_getElem?_getD,dU]
   have e2:(vs++Array.replicate (fn.ntmps-vs.size) undef).getD t undef=u:=by
    simp only[Array.getD_eq_getD_getElem?]
    rw[Array.getElem?_append_left (by omega),hu];rfl
   rw[e1,e2];exact x9
  ·have e1:args.getD t .undef=.undef:=by simp[List.getD_eq_getElem?_getD,Nat.le_of_not_lt dU]
   have e2:(vs++Array.replicate (fn.ntmps-vs.size) undef).getD t undef=undef:=by
    simp only[Array.getD_eq_getD_getElem?]
    rw[Array.getElem?_append_right (by omega),Array.getElem?_replicate]
    split<;>rfl
   rw[e1,e2];exact cI.undef
 ·have fin:(∃vs,fu jl σ1.get vr=some vs/\K (fa vs) σ1)->a1.defers=[]/\∃v,(results fn a1.tmps).run P w1=.ok v w1/\∃r g' n' D' ι' u,Ending.returned v=.returned u/\K r ⟨g',n'⟩/\Step hs D ι w D' ι' w1/\gz P hs D' ι' g' w1/\Used ι' n' (fun _=>False)/\σ.next<=n'/\cI P w1 D' ι' r u:=by
   rintro⟨avs,RQ,hK⟩
   obtain⟨us,h1,h2,h3⟩:=uq kg fn.results.toList vr avs hr RQ
   have O0:(results fn a1.tmps).run P w1=.ok (if h:us.toArray.size=1 then us.toArray[0]else .tuple us.toArray) w1:=by
    rw[Eu,Array.mapM_eq_mapM_toList]
    simp only[Sem.run_bind,Sem.run_map,h1,Result.andThen_ok,Sem.run_pure]
   refine⟨hd,_,O0,fa avs,σ1.get,σ1.next,D1,ι1,_,rfl,hK,T,kg.tD,kg.used,hle,?_⟩
   unfold fa
   split
   ·rename_i v
    have hl:us.length=1:=h2
    obtain⟨u,hu,x9⟩:=h3 0 v rfl
    rw[dif_pos (by simpa using hl)]
    have:us.toArray[0]'(by simp[hl])=u:=by
     have:=(List.getElem?_eq_some_iff.1 hu).2
     simpa using this
    rw[this];exact x9
   ·rename_i gZ
    rw[dif_neg (by
     simp only[List.size_toArray,h2]
     intro h
     obtain⟨v,hv⟩:=List.length_eq_one_iff.1 h
     exact gZ v hv)]
    exact .gD _ _ (fun j=>us.getD j undef) (by simp[h2]) (fun j hj=>by
     have:j<us.length:=by rw[h2];exact hj
     simp[this]) (fun j v hj=>by
     obtain⟨u,hu,x9⟩:=h3 j v hj
     simpa[List.getD_eq_getElem?_getD,hu]using x9)
  cases ex with
  |normal=>exact fin hq
  |ret=>exact fin hq
  |exit id=>exact hq.elim
theorem IP (hm:P.follows .mixedOrders=true) {f:Nat} {md:List (Nat×Nat)} {vf:A7} {args:List AV} {σ:ar} {K:AV->ar->Prop} (hf:xU P f md=some vf) (ha:vf.zb=args.length) (h:dI (Sound P) vf.body (kJ vf.res K) (cC args) σ):Sound P f args σ K:=by
 unfold xU at hf
 split at hf
 ·rename_i fn Qi
  split at hf
  ·rename_i c hc
   simp only[Option.bind_eq_bind,Option.bind_eq_some_iff]at hf
   obtain⟨vb,hb,vr,hr,hf⟩:=hf
   split at hf
   ·rename_i hle
    simp only[Option.pure_def,Option.some.injEq]at hf
    subst hf
    simp only at ha h
    exact vQ Qi hc hr ha hle fun hs w D ι a Q' dH hQ=>qz hm c vb hb (kJ vr K) (cC args) σ a w D ι Q' h dH hQ
   ·simp at hf
  ·simp at hf
 ·simp at hf
def Nz (P:Program) (X:fH):fH:=fun f args σ K=>(∃md vf,xU P f md=some vf/\vf.zb=args.length/\((∀a∈args,eH a)->dI X vf.body (kJ vf.res K) (cC args) σ))∨Sound P f args σ K
def Call (P:Program):fH:=fun f args σ K=>∀X:fH,qh X->(∀f args σ K,Nz P X f args σ K->X f args σ K)->X f args σ K
theorem gr (hm:P.follows .mixedOrders=true) {f:Nat} {args:List AV} {σ:ar} {K:AV->ar->Prop} (h:Call P f args σ K):Sound P f args σ K:=
 h (Sound P) kP fun f args σ K hs=>by
  rcases hs with⟨md,vf,h1,h2,h3⟩|h
  ·intro hs D ι w vs S U A
   exact IP hm h1 h2 (h3 (pa fun j a hj=>by obtain⟨u,_,hr⟩:=A.2 j a hj;exact hr.JB)) hs D ι w vs S U A
  ·exact h
end
end Go.Proofs.YtgoljkjaameagaaGreat.V

namespace Go.Proofs.YtgoljkjaameagaaGreat.V
open Go.RowKit
variable {P:Program} {X Y:fH}
theorem H7 (h:∀f args σ K,X f args σ K->Y f args σ K) {f:Nat} {args:List AV} {σ:ar} {K:AV->Prop} (hp:gy X f args σ K):gy Y f args σ K:=by
 rcases hp with hp|⟨a,h1,h2⟩
 ·exact .inl (h _ _ _ _ hp)
 ·exact .inr ⟨a,h1,h _ _ _ _ h2⟩
theorem Ld (h:∀f args σ K,X f args σ K->Y f args σ K) {f:Nat} {args:List AV} {σ:ar} {sz:Nat} {rows:List (List AV)} (hp:CM X f args σ sz rows):CM Y f args σ sz rows:=by
 obtain⟨h1,a,h2,h3⟩:=hp
 exact⟨h1,a,h2,h _ _ _ _ h3⟩
theorem qx (h:∀f args σ K,X f args σ K->Y f args σ K) (hK:∀f args σ K K',(∀r σ',K r σ'->K' r σ')->Y f args σ K->Y f args σ K') {draw:Bool} {hid:List Nat} {site:Nat} {f:Nat} {args:List AV} {σ:ar} {n n':AV->ar->Prop} (hn:∀v σ',n v σ'->n' v σ') (hp:cH X draw hid site f args σ n):cH Y draw hid site f args σ n':=by
 rcases hp with⟨r,h1,h2⟩|⟨h1,h2⟩|⟨h1,sz,rows,h2,h3⟩
 ·exact .inl ⟨r,H7 h h1,hn _ _ h2⟩
 ·exact .inr (.inl ⟨h1,hK _ _ _ _ _ hn (h _ _ _ _ h2)⟩)
 ·exact .inr (.inr ⟨h1,sz,rows,Ld h h2,hn _ _ h3⟩)
theorem sI (h:∀f args σ K,X f args σ K->Y f args σ K) (hK:∀f args σ K K',(∀r σ',K r σ'->K' r σ')->Y f args σ K->Y f args σ K') {draw:Bool} {o:bq} {env:Env} {σ:ar} {n n':AV->ar->Prop} (hn:∀v σ',n v σ'->n' v σ') (hp:fG X draw o env σ n):fG Y draw o env σ n':=by
 unfold fG at hp ⊢
 split at hp
 ·exact qx h hK hn hp
 ·split at hp
  ·exact qx h hK hn hp
  ·exact qx h hK hn hp
  ·exact hp.elim
 ·split at hp
  ·exact hn _ _ hp
  ·exact hp.elim
 ·split at hp
  ·exact hn _ _ hp
  ·exact hp.elim
 ·split at hp
  ·exact hn _ _ hp
  ·exact hp.elim
 ·split at hp
  ·exact hn _ _ hp
  ·exact hp.elim
 ·split at hp
  ·exact hn _ _ hp
  ·exact hp.elim
 ·split at hp
  ·exact hn _ _ hp
  ·exact hn _ _ hp
  ·exact hp.elim
theorem lp (h:∀f args σ K,X f args σ K->Y f args σ K) (hK:∀f args σ K K',(∀r σ',K r σ'->K' r σ')->Y f args σ K->Y f args σ K') {draw:Bool} {Q Q':Env->ar->Prop} (hQ:∀e s,Q e s->Q' e s):∀(l:List bq) (env:Env) (σ:ar),wpOps X draw l Q env σ->wpOps Y draw l Q' env σ
 |[],env,σ,hp=>hQ _ _ hp
 |o::r,env,σ,hp=>by
  unfold wpOps at hp ⊢
  split at hp
  ·rename_i hw;rw[if_pos hw];exact sI h hK (fun v σ'=>lp h hK hQ r _ _) hp
  ·rename_i hw;rw[if_neg hw];exact lp h hK hQ r _ _ hp
theorem nE {Q Q':Env->ar->Prop} (hQ:∀e s,Q e s->Q' e s):∀(l:List bq) (env:Env) (σ:ar),cF l Q env σ->cF l Q' env σ
 |[],env,σ,hp=>hQ _ _ hp
 |o::r,env,σ,hp=>by
  unfold cF at hp ⊢
  refine⟨hp.1,?_⟩
  replace hp:=hp.2
  split at hp
  ·split at hp
   ·exact nE hQ r _ _ hp
   ·exact hp.elim
  ·split at hp
   ·exact nE hQ r _ _ hp
   ·exact hp.elim
  ·split at hp
   ·exact nE hQ r _ _ hp
   ·exact hp.elim
theorem jE (h:∀f args σ K,X f args σ K->Y f args σ K) (hK:∀f args σ K K',(∀r σ',K r σ'->K' r σ')->Y f args σ K->Y f args σ K'):∀(c:VC) (Q Q':Ex->Env->ar->Prop) (env:Env) (σ:ar),(∀x e s,Q x e s->Q' x e s)->dI X c Q env σ->dI Y c Q' env σ:=by
 intro c
 induction c with
 |skip=>intro Q Q' env σ hQ hp;exact hQ _ _ _ hp
 |exit id=>intro Q Q' env σ hQ hp;exact hQ _ _ _ hp
 |ret=>intro Q Q' env σ hQ hp;exact hQ _ _ _ hp
 |one o c ih=>
  intro Q Q' env σ hQ hp
  unfold dI at hp ⊢
  split at hp
  ·rename_i hw;rw[if_pos hw];exact sI h hK (fun v σ'=>ih Q Q' _ _ hQ) hp
  ·rename_i hw;rw[if_neg hw];exact ih Q Q' _ _ hQ hp
 |both a b iha ihb=>intro Q Q' env σ hQ hp;exact⟨iha Q Q' env σ hQ hp.1,ihb Q Q' env σ hQ hp.2⟩
 |loc t s y c ih=>intro Q Q' env σ hQ hp;exact⟨hp.1,ih Q Q' env σ hQ hp.2⟩
 |N0 ops=>intro Q Q' env σ hQ hp;exact nE (hQ .normal) ops env σ hp
 |eJ draw ops=>intro Q Q' env σ hQ hp;exact lp h hK (hQ .normal) ops env σ hp
 |seq a b iha ihb=>
  intro Q Q' env σ hQ hp
  refine iha _ _ env σ (fun x e s hx=>?_) hp
  cases x with
  |normal=>exact ihb Q Q' e s hQ hx
  |exit id=>exact hQ _ _ _ hx
  |ret=>exact hQ _ _ _ hx
 |cond c a b iha ihb=>
  intro Q Q' env σ hQ hp
  unfold dI at hp ⊢
  split at hp
  ·rename_i t ht
   cases t with
   |true=>exact iha Q Q' env σ hQ hp
   |false=>exact ihb Q Q' env σ hQ hp
  ·exact hp.elim
 |block id a iha=>
  intro Q Q' env σ hQ hp
  refine iha _ _ env σ (fun x e s hx=>?_) hp
  cases x with
  |normal=>exact hQ _ _ _ hx
  |ret=>exact hQ _ _ _ hx
  |exit j6=>
   unfold bc at hx ⊢
   dsimp only at hx ⊢
   split at hx
   ·rename_i hid;rw[if_pos hid];exact hQ _ _ _ hx
   ·rename_i hid;rw[if_neg hid];exact hQ _ _ _ hx
 |loop a iha=>
  intro Q Q' env σ hQ hp
  obtain⟨n,hp⟩:=hp
  refine⟨n,?_⟩
  induction n generalizing env σ with
  |zero=>exact hp
  |succ n ihn=>
   refine iha _ _ env σ (fun x e s hx=>?_) hp
   cases x with
   |normal=>exact ihn e s hx
   |exit id=>exact hQ _ _ _ hx
   |ret=>exact hQ _ _ _ hx
theorem aC:qh (Call P):=fun _ _ _ _ _ hK h X hX hc=>hX _ _ _ _ _ hK (h X hX hc)
theorem yj {f:Nat} {args:List AV} {σ:ar} {K:AV->ar->Prop} (h:Nz P (Call P) f args σ K):Call P f args σ K:=by
 intro X hX hc
 refine hc _ _ _ _ ?_
 rcases h with⟨md,vf,h1,h2,h3⟩|h
 ·exact .inl ⟨md,vf,h1,h2,fun hl=>jE (fun f args σ K h=>h X hX hc) hX _ _ _ _ _ (fun _ _ _ h=>h) (h3 hl)⟩
 ·exact .inr h
theorem vJ {f:Nat} {md:List (Nat×Nat)} {args:List AV} {σ:ar} {K:AV->ar->Prop} {vf:A7} (hf:xU P f md=some vf) (ha:vf.zb=args.length) (h:(∀a∈args,eH a)->dI (Call P) vf.body (kJ vf.res K) (cC args) σ):Call P f args σ K:=
 yj (.inl ⟨md,vf,hf,ha,h⟩)
theorem ml {f:Nat} {args:List AV} {σ:ar} {K:AV->ar->Prop} {vf:A7} (hf:me P f=some vf) (ha:vf.zb=args.length) (h:(∀a∈args,eH a)->dI (Call P) vf.body (kJ vf.res K) (cC args) σ):Call P f args σ K:=
 vJ hf ha h
theorem gP {f:Nat} {args:List AV} {σ:ar} {K:AV->ar->Prop} (h:Sound P f args σ K):Call P f args σ K:=yj (.inr h)
def jO (P:Program) (f:Nat) (args:List AV) (r:AV):Prop:=∀σ,PC (Call P) f args σ (fun r'=>r'=r)
theorem jO.body {f:Nat} {args:List AV} {r:AV} {nt na:Nat} {body:VC} {res:List nT} (hf:me P f=some ⟨nt,na,body,res⟩) (ha:na=args.length) (h:(∀a∈args,eH a)->∀σ:ar,dI (Call P) body (kJ res fun r0 σ'=>∃r',fz σ'.get 6 r0=some r'/\r'=r) (cC args) ⟨V.ro σ.get,σ.next⟩):jO P f args r:=fun σ=>ml hf ha fun hl=>h hl σ
variable {Q:Ex->Env->ar->Prop} {K:Env->ar->Prop} {env:Env} {σ:ar}
theorem F3 {a b:VC} (h:∀N:Env->ar->Prop,(∀e s,dI X b Q e s->N e s)->dI X a (dn N Q) env σ):dI X (.seq a b) Q env σ:=h _ fun _ _ h=>h
theorem A4 (h:Q .normal env σ):dI X .skip Q env σ:=h
theorem AY {id:Nat} (h:Q (.exit id) env σ):dI X (.exit id) Q env σ:=h
theorem F2 (h:Q .ret env σ):dI X .ret Q env σ:=h
theorem vD {id:Nat} {c:VC} (h:dI X c (bc id Q) env σ):dI X (.block id c) Q env σ:=h
theorem F0 {o:bq} {c:VC} (h:∀N:AV->ar->Prop,(∀v s,dI X c Q (upd env o.dst v) s->N v s)->if aM o.guard env then fG X false o env σ N else N .undef σ):dI X (.one o c) Q env σ:=by
 have:=h (fun v s=>dI X c Q (upd env o.dst v) s) fun _ _ h=>h
 unfold dI
 split
 ·rename_i hw;rw[if_pos hw]at this;exact this
 ·rename_i hw;rw[if_neg hw]at this;exact this
def ev (s n:Nat):AV->Prop
 | .own id 0 _=>id=⟨s,n⟩
 |_=>False
def eA (n:Nat):AV->Prop
 | .own id _ _=>¬id.ck=n
 |_=>True
theorem AZ {t s:Nat} {y:O} {c:VC} (h1:ev s σ.next (env t)) (h2:eA σ.next (cQ env y)) (h:dI X c Q env σ):dI X (.loc t s y c) Q env σ:=by
 refine⟨⟨?_,fun id o l he=>?_⟩,h⟩
 ·revert h1
  unfold ev
  split
  ·rename_i id l he;rintro rfl;exact⟨l,he⟩
  ·exact fun h=>h.elim
 ·rw[he]at h2;exact h2
theorem fe {a b:VC} (ha:dI X a Q env σ) (hb:dI X b Q env σ):dI X (.both a b) Q env σ:=⟨ha,hb⟩
theorem F1 {draw:Bool} {ops:List bq} (h:∀N:Env->ar->Prop,(∀e s,Q .normal e s->N e s)->wpOps X draw ops N env σ):dI X (.eJ draw ops) Q env σ:=h _ fun _ _ h=>h
theorem KI {ops:List bq} (h:cF ops (Q .normal) env σ):dI X (.N0 ops) Q env σ:=h
theorem C0 {draw:Bool} (h:K env ⟨σ.get,σ.next+1⟩):wpOps X draw [] K env σ:=h
theorem PO {draw:Bool} {o:bq} {r:List bq} (h:∀N:AV->ar->Prop,(∀v s,wpOps X draw r K (upd env o.dst v) s->N v s)->if aM o.guard env then fG X draw o env σ N else N .undef σ):wpOps X draw (o::r) K env σ:=by
 have:=h (fun v s=>wpOps X draw r K (upd env o.dst v) s) fun _ _ h=>h
 unfold wpOps
 split
 ·rename_i hw;rw[if_pos hw]at this;exact this
 ·rename_i hw;rw[if_neg hw]at this;exact this
theorem KJ {c:O} {x y:VC} {b:Bool} (hc:cQ env c=.bool b) (ht:b=true->dI X x Q env σ) (hf:b=false->dI X y Q env σ):dI X (.cond c x y) Q env σ:=by
 unfold dI
 simp only[hc]
 cases b with
 |true=>exact ht rfl
 |false=>exact hf rfl
inductive ot:AV->Prop->Prop->Prop
 |t {A B:Prop}:A->ot (.bool true) A B
 |f {A B:Prop}:B->ot (.bool false) A B
theorem vG {c:O} {x y:VC} {v:AV} (hv:cQ env c=v) (h:ot v (dI X x Q env σ) (dI X y Q env σ)):dI X (.cond c x y) Q env σ:=by
 cases h with
 |t h=>exact KJ hv (fun _=>h) (fun e=>by cases e)
 |f h=>exact KJ hv (fun e=>by cases e) (fun _=>h)
theorem PN {c:VC} (I:Nat->Env->ar->Prop) (n:Nat) (h0:I n env σ) (step:∀n env σ,I n env σ->dI X c (fun x e s=>match x with| .normal=>∃m,m<n/\I m e s|x=>Q x e s) env σ)
  (hX:∀(c:VC) (Q Q':Ex->Env->ar->Prop) env σ,(∀x e s,Q x e s->Q' x e s)->dI X c Q env σ->dI X c Q' env σ):dI X (.loop c) Q env σ:=by
 have key:∀N n env σ,n<N->I n env σ->FL (dI X c) Q N env σ:=by
  intro N
  induction N with
  |zero=>intro n env σ h;exact absurd h (Nat.not_lt_zero _)
  |succ N ih=>
   intro n env σ hn hI
   refine hX c _ _ env σ (fun x e s hx=>?_) (step n env σ hI)
   cases x with
   |normal=>obtain⟨m,hm,Un⟩:=hx;exact ih m e s (by omega) Un
   |exit id=>exact hx
   |ret=>exact hx
 exact⟨n+1,key _ n env σ (Nat.lt_succ_self _) h0⟩
theorem MO {c:VC} (I:Nat->Env->ar->Prop) (n:Nat) (h0:I n env σ) (step:∀n env σ,I n env σ->dI (Call P) c (fun x e s=>match x with| .normal=>∃m,m<n/\I m e s|x=>Q x e s) env σ):dI (Call P) (.loop c) Q env σ:=
 PN I n h0 step fun c Q Q' env σ hQ h=>jE (fun _ _ _ _ h=>h) aC c Q Q' env σ hQ h
def yn:VC->List Nat
 | .eJ _ ops=>ops.filterMap (·.dst)
 | .seq a b=>yn a++yn b
 | .cond _ a b=>yn a++yn b
 | .block _ a=>yn a
 | .loop a=>yn a
 | .one o c=>o.dst.toList++yn c
 | .both a b=>yn a++yn b
 | .loc _ _ _ c=>yn c
 | .N0 ops=>ops.filterMap (·.dst)
 |_=>[]
def gH (l:List Nat) (env iI:Env):Prop:=∀t,l.contains t=false->iI t=env t
theorem gH.refl (l:List Nat) (env:Env):gH l env env:=fun _ _=>rfl
theorem gH.trans {l:List Nat} {e e' e'':Env} (h:gH l e e') (k:gH l e' e''):gH l e e'':=fun t ht=>(k t ht).trans (h t ht)
theorem gH.sub {l l':List Nat} {e e':Env} (h:gH l e e') (hs:∀t,t∈l->t∈l'):gH l' e e':=fun t ht=>h t (by
 rw[<-Bool.not_eq_true]at ht ⊢
 simp only[List.contains_iff_mem]at ht ⊢
 exact fun hc=>ht (hs t hc))
theorem gH.upd {l:List Nat} {e e':Env} {d:Option Nat} {v:AV} (h:gH l e e') (hd:∀t,d=some t->t∈l):gH l e (upd e' d v):=fun t ht=>by
 cases d with
 |none=>exact h t ht
 |some d=>
  have:t≠d:=fun hc=>by subst hc;rw[<-Bool.not_eq_true,List.contains_iff_mem]at ht;exact ht (hd _ rfl)
  show(if t=d then v else e' t)=e t
  rw[if_neg this];exact h t ht
theorem pz {draw:Bool} {Q:Env->ar->Prop} {l:List Nat} {e0:Env}:∀(ops:List bq) (env:Env) (σ:ar),(∀t,t∈ops.filterMap (·.dst)->t∈l)->gH l e0 env->wpOps (Call P) draw ops Q env σ->wpOps (Call P) draw ops (fun e s=>Q e s/\gH l e0 e) env σ
 |[],env,σ,_,hk,hp=>⟨hp,hk⟩
 |o::r,env,σ,hl,hk,hp=>by
  have hd:∀t,o.dst=some t->t∈l:=fun t ht=>hl t (List.mem_filterMap.2 ⟨o,by simp,ht⟩)
  have hr:∀t,t∈r.filterMap (·.dst)->t∈l:=fun t ht=>hl t (by
   obtain⟨x,hx,h⟩:=List.mem_filterMap.1 ht
   exact List.mem_filterMap.2 ⟨x,List.mem_cons_of_mem _ hx,h⟩)
  unfold wpOps at hp ⊢
  split at hp
  ·rename_i hw;rw[if_pos hw]
   exact sI (fun _ _ _ _ h=>h) aC (fun v σ' h=>pz r _ _ hr (hk.upd hd) h) hp
  ·rename_i hw;rw[if_neg hw];exact pz r _ _ hr (hk.upd hd) hp
theorem lV {Q:Env->ar->Prop} {l:List Nat} {e0:Env}:∀(ops:List bq) (env:Env) (σ:ar),(∀t,t∈ops.filterMap (·.dst)->t∈l)->gH l e0 env->cF ops Q env σ->cF ops (fun e s=>Q e s/\gH l e0 e) env σ
 |[],env,σ,_,hk,hp=>⟨hp,hk⟩
 |o::r,env,σ,hl,hk,hp=>by
  have hd:∀t,o.dst=some t->t∈l:=fun t ht=>hl t (List.mem_filterMap.2 ⟨o,by simp,ht⟩)
  have hr:∀t,t∈r.filterMap (·.dst)->t∈l:=fun t ht=>hl t (by
   obtain⟨x,hx,h⟩:=List.mem_filterMap.1 ht
   exact List.mem_filterMap.2 ⟨x,List.mem_cons_of_mem _ hx,h⟩)
  unfold cF at hp ⊢
  refine⟨hp.1,?_⟩
  replace hp:=hp.2
  split at hp
  ·split at hp
   ·exact lV r _ _ hr (hk.upd hd) hp
   ·exact hp.elim
  ·split at hp
   ·exact lV r _ _ hr (hk.upd hd) hp
   ·exact hp.elim
  ·split at hp
   ·exact lV r _ _ hr (hk.upd hd) hp
   ·exact hp.elim
theorem zy {l:List Nat} {e0:Env}:∀(c:VC) (Q:Ex->Env->ar->Prop) (env:Env) (σ:ar),(∀t,t∈yn c->t∈l)->gH l e0 env->dI (Call P) c Q env σ->dI (Call P) c (fun x e s=>Q x e s/\gH l e0 e) env σ:=by
 intro c
 induction c with
 |skip=>intro Q env σ _ hk hp;exact⟨hp,hk⟩
 |exit id=>intro Q env σ _ hk hp;exact⟨hp,hk⟩
 |ret=>intro Q env σ _ hk hp;exact⟨hp,hk⟩
 |one o c ih=>
  intro Q env σ hl hk hp
  have hd:∀t,o.dst=some t->t∈l:=fun t ht=>hl t (List.mem_append_left _ (by rw[ht];simp))
  have hr:∀t,t∈yn c->t∈l:=fun t ht=>hl t (List.mem_append_right _ ht)
  unfold dI at hp ⊢
  split at hp
  ·rename_i hw;rw[if_pos hw]
   exact sI (fun _ _ _ _ h=>h) aC (fun v σ' h=>ih Q _ _ hr (hk.upd hd) h) hp
  ·rename_i hw;rw[if_neg hw];exact ih Q _ _ hr (hk.upd hd) hp
 |both a b iha ihb=>
  intro Q env σ hl hk hp
  exact⟨iha Q env σ (fun t ht=>hl t (List.mem_append_left _ ht)) hk hp.1,ihb Q env σ (fun t ht=>hl t (List.mem_append_right _ ht)) hk hp.2⟩
 |loc t s y c ih=>intro Q env σ hl hk hp;exact⟨hp.1,ih Q env σ hl hk hp.2⟩
 |N0 ops=>intro Q env σ hl hk hp;exact lV ops env σ hl hk hp
 |eJ draw ops=>intro Q env σ hl hk hp;exact pz ops env σ hl hk hp
 |seq a b iha ihb=>
  intro Q env σ hl hk hp
  refine jE (fun _ _ _ _ h=>h) aC a _ _ env σ (fun x e s hx=>?_) (iha _ env σ (fun t ht=>hl t (List.mem_append_left _ ht)) hk hp)
  cases x with
  |normal=>exact ihb Q e s (fun t ht=>hl t (List.mem_append_right _ ht)) hx.2 hx.1
  |exit id=>exact hx
  |ret=>exact hx
 |cond c a b iha ihb=>
  intro Q env σ hl hk hp
  unfold dI at hp ⊢
  split at hp
  ·rename_i t ht
   cases t with
   |true=>exact iha Q env σ (fun t ht=>hl t (List.mem_append_left _ ht)) hk hp
   |false=>exact ihb Q env σ (fun t ht=>hl t (List.mem_append_right _ ht)) hk hp
  ·exact hp.elim
 |block id a iha=>
  intro Q env σ hl hk hp
  refine jE (fun _ _ _ _ h=>h) aC a _ _ env σ (fun x e s hx=>?_) (iha _ env σ hl hk hp)
  obtain⟨hx,GG⟩:=hx
  cases x with
  |normal=>exact⟨hx,GG⟩
  |ret=>exact⟨hx,GG⟩
  |exit j6=>
   unfold bc at hx ⊢
   dsimp only at hx ⊢
   split at hx
   ·rename_i hid;rw[if_pos hid];exact⟨hx,GG⟩
   ·rename_i hid;rw[if_neg hid];exact⟨hx,GG⟩
 |loop a iha=>
  intro Q env σ hl hk hp
  obtain⟨n,hp⟩:=hp
  refine⟨n,?_⟩
  induction n generalizing env σ with
  |zero=>exact hp
  |succ n ihn=>
   refine jE (fun _ _ _ _ h=>h) aC _ _ _ _ _ (fun x e s hx=>?_) (iha _ env σ hl hk hp)
   obtain⟨hx,GG⟩:=hx
   cases x with
   |normal=>exact ihn e s GG hx
   |exit id=>exact⟨hx,GG⟩
   |ret=>exact⟨hx,GG⟩
theorem aU {c:VC} (I:Nat->Env->ar->Prop) (n:Nat) (h0:I n env σ) (step:∀n e s,I n e s->gH (yn c) env e->dI (Call P) c (fun x e s=>match x with| .normal=>∃m,m<n/\I m e s|x=>Q x e s) e s):dI (Call P) (.loop c) Q env σ:=by
 refine MO (fun n e s=>I n e s/\gH (yn c) env e) n ⟨h0,gH.refl _ _⟩ fun n e s hI=>?_
 refine jE (fun _ _ _ _ h=>h) aC _ _ _ _ _ (fun x e' s' hx=>?_) (zy c _ e s (fun _ h=>h) hI.2 (step n e s hI.1 hI.2))
 obtain⟨hx,hk⟩:=hx
 cases x with
 |normal=>obtain⟨m,hm,h⟩:=hx;exact⟨m,hm,h,hk⟩
 |exit id=>exact hx
 |ret=>exact hx
theorem KM {k:Nat} (h:k<=9223372036854775807):IntKind.i64.wrap (k:Int)=k:=by rw[IntKind.wrap_i64];omega
theorem bz {z:Int} (h: -9223372036854775808<=z/\z<=9223372036854775807):IntKind.i64.wrap z=z:=by rw[IntKind.wrap_i64];omega
theorem aA {k:Nat} (h:(k:Int)+1<=9223372036854775807):IntKind.i64.wrap ((k:Int)+1)=((k+1:Nat):Int):=by rw[IntKind.wrap_i64];omega
theorem all_succ {k:Nat} {p:Nat->Prop} (h:∀j,j<k->p j) (hk:p k):∀j,j<k+1->p j:=fun j hj=>by
 by_cases yP:j=k
 ·subst yP;exact hk
 ·exact h j (by omega)
theorem aD (g:Rows) (n:Nat) (k:IntKind) (m:Int):fz g (n+1) (.int k m)=some (.int k m):=by rw[fz]<;>intros<;>simp_all
theorem bp (g:Rows) (n:Nat) (b:Bool):fz g (n+1) (.bool b)=some (.bool b):=by rw[fz]<;>intros<;>simp_all
theorem bE (g:Rows) (n:Nat) (b:ByteArray):fz g (n+1) (.str b)=some (.str b):=by rw[fz]<;>intros<;>simp_all
theorem cq (g:Rows) (n:Nat) (l:List (List AV)):fz g (n+1) (.sl l)=some (.sl l):=by rw[fz]<;>intros<;>simp_all
theorem aT (g:Rows) (n:Nat):fz g (n+1) .bl=some .bl:=by rw[fz]<;>intros<;>simp_all
theorem Sg {t:Nat} {r r0:AV} {x:Ex} (hx:x=.ret∨x=.normal) (he:env t=r0) (hz:fz σ.get 6 r0=some r):kJ [.tmp t] (fun r0 σ'=>∃r',fz σ'.get 6 r0=some r'/\r'=r) x env σ:=by
 have:∃vs,fu env σ.get [.tmp t]=some vs/\∃r',fz σ.get 6 (fa vs)=some r'/\r'=r:=⟨[env t],rfl,r,by subst he;exact hz,rfl⟩
 rcases hx with rfl|rfl
 ·exact this
 ·exact this
def aq (P:Program) (f:Nat) (args:List AV) (r:AV):Prop:=∀n:Nat,Call P f args ⟨fun _=>none,n⟩ fun r0 σ'=>∃r',gC σ'.get 6 r0=some r'/\r'=r
theorem aq.body {f:Nat} {args:List AV} {r:AV} {nt na:Nat} {body:VC} {res:List nT} (hf:me P f=some ⟨nt,na,body,res⟩) (ha:na=args.length) (h:(∀a∈args,eH a)->∀n:Nat,dI (Call P) body (kJ res fun r0 σ'=>∃r',gC σ'.get 6 r0=some r'/\r'=r) (cC args) ⟨fun _=>none,n⟩):aq P f args r:=fun n=>ml hf ha fun hl=>h hl n
theorem aq.x {f:Nat} {args eu:List AV} {r:AV} (h:aq P f eu r) {σ:ar} (hv:cJ (dJ σ.get) 6 args=some eu):gy (Call P) f args σ (fun r'=>r'=r):=.inr ⟨eu,hv,h _⟩
theorem jO.x {f:Nat} {args:List AV} {r:AV} (h:jO P f args r) (σ:ar):gy (Call P) f args σ (fun r'=>r'=r):=.inl (h σ)
theorem eG (g:Rows) (n:Nat) (k:IntKind) (m:Int):gC g (n+1) (.int k m)=some (.int k m):=by rw[gC]<;>intros<;>simp_all
theorem fK (g:Rows) (n:Nat) (b:Bool):gC g (n+1) (.bool b)=some (.bool b):=by rw[gC]<;>intros<;>simp_all
theorem Ly (g:Rows) (n:Nat) (b:ByteArray):gC g (n+1) (.str b)=some (.str b):=by rw[gC]<;>intros<;>simp_all
theorem jw (g:Rows) (n:Nat):gC g (n+1) .bl=some .bl:=by rw[gC]<;>intros<;>simp_all
theorem eS (g:Rows) (n:Nat) (l:List AV):gC g (n+1) (.gD l)=(ez g n l).map AV.gD:=by rw[gC]
theorem uY (g:Rows) (n:Nat) (l:List AV):gC g (n+1) (.agg l)=(ez g n l).map AV.agg:=by rw[gC]
theorem uZ {g:Rows} {n:Nat} {id:Id} {off len sz:Nat} {rows rows':List (List AV)} (h:g id=some ⟨true,sz,rows⟩) (hl:off+len<=rows.length) (hr:il g n ((rows.drop off).take len)=some rows'):gC g (n+1) (.own id off len)=some (.sl rows'):=by
 rw[gC];simp only[h,if_true,if_pos hl,hr,Option.map_some]
theorem cw (g:Rows) (n:Nat):ez g n []=some []:=by rw[ez]
theorem bB (g:Rows) (n:Nat) (a:AV) (l:List AV):ez g n (a::l)=match gC g n a with
  |some b=>(ez g n l).map (b::·)
  |none=>none:=by rw[ez];cases gC g n a<;>rfl
theorem tY {g:Rows} {n:Nat}:∀{l:List (List AV)},(∀c∈l,ez g n c=some c)->il g n l=some l
 |[],_=>by rw[il]
 |c::r,h=>by rw[il,h c (by simp),tY fun d hd=>h d (List.mem_cons_of_mem _ hd)];rfl
theorem bd (g:Rows) (n:Nat) (l:List AV):fz g (n+1) (.agg l)=(cJ g n l).map AV.agg:=by rw[fz]
theorem aX (g:Rows) (n:Nat) (l:List AV):fz g (n+1) (.di l)=some (.di l):=by rw[fz]<;>intros<;>simp_all
theorem wu {g:Rows} {n:Nat} {id:Id} {i off sz:Nat} {rows:List (List AV)} {cs qk:List AV} (h:g id=some ⟨true,sz,rows⟩) (hi:rows[i]? =some cs) (hr:cJ g n (cs.drop off)=some qk):fz g (n+1) (.ptr id i off)=some (.di qk):=by
 rw[fz];simp only[h,if_true,hi,hr,Option.map_some]
theorem aj (g:Rows) (n:Nat):cJ g n []=some []:=by rw[cJ]
theorem ai (g:Rows) (n:Nat) (a:AV) (l:List AV):cJ g n (a::l)=match fz g n a with
  |some b=>(cJ g n l).map (b::·)
  |none=>none:=by rw[cJ];cases fz g n a<;>rfl
theorem xj {t:Nat} {r r0:AV} {x:Ex} (hx:x=.ret∨x=.normal) (he:env t=r0) (hz:gC σ.get 6 r0=some r):kJ [.tmp t] (fun r0 σ'=>∃r',gC σ'.get 6 r0=some r'/\r'=r) x env σ:=by
 have:∃vs,fu env σ.get [.tmp t]=some vs/\∃r',gC σ.get 6 (fa vs)=some r'/\r'=r:=⟨[env t],rfl,r,by subst he;exact hz,rfl⟩
 rcases hx with rfl|rfl
 ·exact this
 ·exact this
theorem aW {t:Nat} {b c:Bool} {x:Ex} (hx:x=.ret∨x=.normal) (he:env t=.bool b) (hb:b=c):kJ [.tmp t] (fun r0 σ'=>∃r',gC σ'.get 6 r0=some r'/\r'=.bool c) x env σ:=xj hx he (by rw[fK,hb])
theorem bW {t:Nat} {k:IntKind} {b c:Int} {x:Ex} (hx:x=.ret∨x=.normal) (he:env t=.int k b) (hb:b=c):kJ [.tmp t] (fun r0 σ'=>∃r',gC σ'.get 6 r0=some r'/\r'=.int k c) x env σ:=xj hx he (by rw[eG,hb])
theorem jC {t u:Nat} {r r1 r2:AV} {x:Ex} (hx:x=.ret∨x=.normal) (h1:env t=r1) (h2:env u=r2) (hz:gC σ.get 6 (.gD [r1,r2])=some r):kJ [.tmp t,.tmp u] (fun r0 σ'=>∃r',gC σ'.get 6 r0=some r'/\r'=r) x env σ:=by
 have:∃vs,fu env σ.get [.tmp t,.tmp u]=some vs/\∃r',gC σ.get 6 (fa vs)=some r'/\r'=r:=⟨[env t,env u],rfl,r,by subst h1;subst h2;exact hz,rfl⟩
 rcases hx with rfl|rfl
 ·exact this
 ·exact this
structure Pn (p:Prop):Prop where
 out:p
theorem tw {A B:Prop} (a:A) (b:B):A/\B:=⟨a,b⟩
theorem wk {A R G:Prop} (a:A) (r:R) (h:A->R->G:=by
  intro fL kk
  (repeat(refine Pn.mk ?_;intro N hN))
  (first|((first|apply F3|apply F1);intro N hN)|((first|(apply PO;intro N hN)|(apply F0;intro N hN));simp only[go_sem, ↓reduceIte,Nat.reduceEqDiff,Nat.reduceAdd,Nat.reduceSub,Nat.reduceMul,Nat.reduceLeDiff,Nat.reduceBEq,reduceCtorEq,Nat.reduceLT,Int.reduceLE,Int.reduceLT,Int.reduceToNat,Int.reduceNeg,Int.reduceAdd,Int.reduceEq,fL];first|(refine hN _ _ ?_;clear hN N)|skip)|(apply vG;(simp only[go_sem, ↓reduceIte,Nat.reduceEqDiff,Nat.reduceAdd,Nat.reduceSub,Nat.reduceMul,Nat.reduceLeDiff,Nat.reduceBEq,reduceCtorEq,Nat.reduceLT,Int.reduceLE,Int.reduceLT,Int.reduceToNat,Int.reduceNeg,Int.reduceAdd,Int.reduceEq,fL];rfl);first|with_reducible apply ot.t|with_reducible apply ot.f)|(apply C0;refine hN _ _ ?_;clear hN N;try(simp only[dn,bc, ↓reduceIte,Nat.reduceEqDiff]);try(refine hN _ _ ?_;clear hN N))|apply vD|(refine AZ ?_ ?_ ?_;(focus(simp only[go_sem, ↓reduceIte,Nat.reduceEqDiff,Nat.reduceAdd,Nat.reduceSub,Nat.reduceMul,Nat.reduceLeDiff,Nat.reduceBEq,reduceCtorEq,Nat.reduceLT,Int.reduceLE,Int.reduceLT,Int.reduceToNat,Int.reduceNeg,Int.reduceAdd,Int.reduceEq,fL];done));(focus(simp only[go_sem, ↓reduceIte,Nat.reduceEqDiff,Nat.reduceAdd,Nat.reduceSub,Nat.reduceMul,Nat.reduceLeDiff,Nat.reduceBEq,reduceCtorEq,Nat.reduceLT,Int.reduceLE,Int.reduceLT,Int.reduceToNat,Int.reduceNeg,Int.reduceAdd,Int.reduceEq,fL];done)))|((first|apply A4|apply AY|apply F2);try(simp only[dn,bc, ↓reduceIte,Nat.reduceEqDiff]);try(refine hN _ _ ?_;clear hN N))|((first|refine hN _ _ ?_|(clear hN N;first|refine hN _ _ ?_|(clear hN N;first|refine hN _ _ ?_|(clear hN N;first|refine hN _ _ ?_|(clear hN N;refine hN _ _ ?_)))));clear hN N))
  (repeat(first|((first|apply F3|apply F1);intro N hN)|((first|(apply PO;intro N hN)|(apply F0;intro N hN));simp only[go_sem, ↓reduceIte,Nat.reduceEqDiff,Nat.reduceAdd,Nat.reduceSub,Nat.reduceMul,Nat.reduceLeDiff,Nat.reduceBEq,reduceCtorEq,Nat.reduceLT,Int.reduceLE,Int.reduceLT,Int.reduceToNat,Int.reduceNeg,Int.reduceAdd,Int.reduceEq,fL];first|(refine hN _ _ ?_;clear hN N)|skip)|(apply vG;(simp only[go_sem, ↓reduceIte,Nat.reduceEqDiff,Nat.reduceAdd,Nat.reduceSub,Nat.reduceMul,Nat.reduceLeDiff,Nat.reduceBEq,reduceCtorEq,Nat.reduceLT,Int.reduceLE,Int.reduceLT,Int.reduceToNat,Int.reduceNeg,Int.reduceAdd,Int.reduceEq,fL];rfl);first|with_reducible apply ot.t|with_reducible apply ot.f)|(apply C0;refine hN _ _ ?_;clear hN N;try(simp only[dn,bc, ↓reduceIte,Nat.reduceEqDiff]);try(refine hN _ _ ?_;clear hN N))|apply vD|(refine AZ ?_ ?_ ?_;(focus(simp only[go_sem, ↓reduceIte,Nat.reduceEqDiff,Nat.reduceAdd,Nat.reduceSub,Nat.reduceMul,Nat.reduceLeDiff,Nat.reduceBEq,reduceCtorEq,Nat.reduceLT,Int.reduceLE,Int.reduceLT,Int.reduceToNat,Int.reduceNeg,Int.reduceAdd,Int.reduceEq,fL];done));(focus(simp only[go_sem, ↓reduceIte,Nat.reduceEqDiff,Nat.reduceAdd,Nat.reduceSub,Nat.reduceMul,Nat.reduceLeDiff,Nat.reduceBEq,reduceCtorEq,Nat.reduceLT,Int.reduceLE,Int.reduceLT,Int.reduceToNat,Int.reduceNeg,Int.reduceAdd,Int.reduceEq,fL];done)))|((first|apply A4|apply AY|apply F2);try(simp only[dn,bc, ↓reduceIte,Nat.reduceEqDiff]);try(refine hN _ _ ?_;clear hN N))|((first|refine hN _ _ ?_|(clear hN N;first|refine hN _ _ ?_|(clear hN N;first|refine hN _ _ ?_|(clear hN N;first|refine hN _ _ ?_|(clear hN N;refine hN _ _ ?_)))));clear hN N)))
  (repeat(revert hN;revert N;apply Pn.out))
  exact kk):G:=h a r
theorem wa {A R G:Prop} (a:A) (r:R) (h:A->R->G:=by
  intro fL kk
  (repeat(refine Pn.mk ?_;intro N hN))
  (first|((first|apply F3|apply F1);intro N hN)|((first|(refine NC rfl fun N hN=>?_)|(apply F0;intro N hN));simp only[go_sem, ↓reduceIte,Nat.reduceEqDiff,Nat.reduceAdd,Nat.reduceSub,Nat.reduceMul,Nat.reduceLeDiff,Nat.reduceBEq,reduceCtorEq,Nat.reduceLT,Int.reduceLE,Int.reduceLT,Int.reduceToNat,Int.reduceNeg,Int.reduceAdd,Int.reduceEq,fL];first|(refine hN _ _ ?_;clear hN N)|skip)|(apply vG;(simp only[go_sem, ↓reduceIte,Nat.reduceEqDiff,Nat.reduceAdd,Nat.reduceSub,Nat.reduceMul,Nat.reduceLeDiff,Nat.reduceBEq,reduceCtorEq,Nat.reduceLT,Int.reduceLE,Int.reduceLT,Int.reduceToNat,Int.reduceNeg,Int.reduceAdd,Int.reduceEq,fL];rfl);first|with_reducible apply ot.t|with_reducible apply ot.f)|(apply C0;refine hN _ _ ?_;clear hN N;try(simp only[dn,bc, ↓reduceIte,Nat.reduceEqDiff]);try(refine hN _ _ ?_;clear hN N))|apply vD|(refine AZ ?_ ?_ ?_;(focus(simp only[go_sem, ↓reduceIte,Nat.reduceEqDiff,Nat.reduceAdd,Nat.reduceSub,Nat.reduceMul,Nat.reduceLeDiff,Nat.reduceBEq,reduceCtorEq,Nat.reduceLT,Int.reduceLE,Int.reduceLT,Int.reduceToNat,Int.reduceNeg,Int.reduceAdd,Int.reduceEq,fL];done));(focus(simp only[go_sem, ↓reduceIte,Nat.reduceEqDiff,Nat.reduceAdd,Nat.reduceSub,Nat.reduceMul,Nat.reduceLeDiff,Nat.reduceBEq,reduceCtorEq,Nat.reduceLT,Int.reduceLE,Int.reduceLT,Int.reduceToNat,Int.reduceNeg,Int.reduceAdd,Int.reduceEq,fL];done)))|((first|apply A4|apply AY|apply F2);try(simp only[dn,bc, ↓reduceIte,Nat.reduceEqDiff]);try(refine hN _ _ ?_;clear hN N))|((first|refine hN _ _ ?_|(clear hN N;first|refine hN _ _ ?_|(clear hN N;first|refine hN _ _ ?_|(clear hN N;first|refine hN _ _ ?_|(clear hN N;refine hN _ _ ?_)))));clear hN N))
  (repeat(first|((first|apply F3|apply F1);intro N hN)|((first|(refine NC rfl fun N hN=>?_)|(apply F0;intro N hN));simp only[go_sem, ↓reduceIte,Nat.reduceEqDiff,Nat.reduceAdd,Nat.reduceSub,Nat.reduceMul,Nat.reduceLeDiff,Nat.reduceBEq,reduceCtorEq,Nat.reduceLT,Int.reduceLE,Int.reduceLT,Int.reduceToNat,Int.reduceNeg,Int.reduceAdd,Int.reduceEq,fL];first|(refine hN _ _ ?_;clear hN N)|skip)|(apply vG;(simp only[go_sem, ↓reduceIte,Nat.reduceEqDiff,Nat.reduceAdd,Nat.reduceSub,Nat.reduceMul,Nat.reduceLeDiff,Nat.reduceBEq,reduceCtorEq,Nat.reduceLT,Int.reduceLE,Int.reduceLT,Int.reduceToNat,Int.reduceNeg,Int.reduceAdd,Int.reduceEq,fL];rfl);first|with_reducible apply ot.t|with_reducible apply ot.f)|(apply C0;refine hN _ _ ?_;clear hN N;try(simp only[dn,bc, ↓reduceIte,Nat.reduceEqDiff]);try(refine hN _ _ ?_;clear hN N))|apply vD|(refine AZ ?_ ?_ ?_;(focus(simp only[go_sem, ↓reduceIte,Nat.reduceEqDiff,Nat.reduceAdd,Nat.reduceSub,Nat.reduceMul,Nat.reduceLeDiff,Nat.reduceBEq,reduceCtorEq,Nat.reduceLT,Int.reduceLE,Int.reduceLT,Int.reduceToNat,Int.reduceNeg,Int.reduceAdd,Int.reduceEq,fL];done));(focus(simp only[go_sem, ↓reduceIte,Nat.reduceEqDiff,Nat.reduceAdd,Nat.reduceSub,Nat.reduceMul,Nat.reduceLeDiff,Nat.reduceBEq,reduceCtorEq,Nat.reduceLT,Int.reduceLE,Int.reduceLT,Int.reduceToNat,Int.reduceNeg,Int.reduceAdd,Int.reduceEq,fL];done)))|((first|apply A4|apply AY|apply F2);try(simp only[dn,bc, ↓reduceIte,Nat.reduceEqDiff]);try(refine hN _ _ ?_;clear hN N))|((first|refine hN _ _ ?_|(clear hN N;first|refine hN _ _ ?_|(clear hN N;first|refine hN _ _ ?_|(clear hN N;first|refine hN _ _ ?_|(clear hN N;refine hN _ _ ?_)))));clear hN N)))
  (repeat(revert hN;revert N;apply Pn.out))
  exact kk):G:=h a r
theorem sd {A G:Prop} (a:A) (h:A->G:=by
  intro fL
  first|(simp only[go_sem, ↓reduceIte,Nat.reduceEqDiff,Nat.reduceAdd,Nat.reduceSub,Nat.reduceMul,Nat.reduceLeDiff,Nat.reduceBEq,reduceCtorEq,Nat.reduceLT,Int.reduceLE,Int.reduceLT,Int.reduceToNat,Int.reduceNeg,Int.reduceAdd,Int.reduceEq,fL,fu,iv];done)|fail):G:=h a
theorem sl {A G:Prop} (a:A) (h:A->G:=by
  intro fL
  (try simp only[go_sem, ↓reduceIte,Nat.reduceEqDiff,Nat.reduceAdd,Nat.reduceSub,Nat.reduceMul,Nat.reduceLeDiff,Nat.reduceBEq,reduceCtorEq,Nat.reduceLT,Int.reduceLE,Int.reduceLT,Int.reduceToNat,Int.reduceNeg,Int.reduceAdd,Int.reduceEq,fL])
  try rfl):G:=h a
end Go.Proofs.YtgoljkjaameagaaGreat.V

namespace Go.Proofs.YtgoljkjaameagaaGreat.V
open Go.RowKit
variable {P:Program} {X:fH} {env:Env} {σ:ar}
theorem bG (g:Rows) (n:Nat) (l:List AV):fz g (n+1) (.gD l)=(cJ g n l).map AV.gD:=by rw[fz]
theorem cR (g:Rows) (n:Nat) (f:Nat) (l:List AV):fz g (n+1) (.fn f l)=if l.all AV.cell then(cJ g n l).map (AV.fn f)else none:=by rw[fz]
theorem bj (g:Rows) (n:Nat) (id:Id) (i off:Nat):fz g (n+1) (.ptr id i off)=match g id with
  |some r=>if r.w then(match r.rows[i]? with
   |some cs=>(cJ g n (cs.drop off)).map AV.di
   |none=>none)else none
  |none=>none:=by rw[fz];rfl
theorem iA (g:Rows) (n:Nat) (id:Id) (off len:Nat):fz g (n+1) (.own id off len)=match g id with
  |some r=>if r.w then(if off+len<=r.rows.length then(eb g n ((r.rows.drop off).take len)).map AV.sl else none)else none
  |none=>none:=by rw[fz];rfl
theorem oU (g:Rows) (n:Nat):eb g n []=some []:=by rw[eb]
theorem zX (g:Rows) (n:Nat) (c:List AV) (l:List (List AV)):eb g n (c::l)=match cJ g n c with
  |some b=>(eb g n l).map (b::·)
  |none=>none:=by rw[eb];cases cJ g n c<;>rfl
theorem wo {g:Rows} {n:Nat}:∀{l:List (List AV)},(∀c∈l,cJ g n c=some c)->eb g n l=some l
 |[],_=>by rw[eb]
 |c::r,h=>by rw[eb,h c (by simp),wo fun d hd=>h d (List.mem_cons_of_mem _ hd)];rfl
theorem qI {α:Type} {g:Rows} {n:Nat} {e:α->List AV} {l:List α} (h:∀x,cJ g n (e x)=some (e x)):eb g n (l.map e)=some (l.map e):=wo fun c hc=>by
 obtain⟨x,_,rfl⟩:=List.mem_map.1 hc
 exact h x
theorem ua {α:Type} {g:Rows} {n:Nat} {e:α->List AV} {l:List α} (h:∀x,ez g n (e x)=some (e x)):il g n (l.map e)=some (l.map e):=tY fun c hc=>by
 obtain⟨x,_,rfl⟩:=List.mem_map.1 hc
 exact h x
theorem fM {α:Type} {g:Rows} {n:Nat} {e:α->List AV} {l:List α} {id:Id} {sz len:Nat} (hg:g id=some ⟨true,sz,l.map e⟩) (hl:len=l.length) (h:∀x,cJ g n (e x)=some (e x)):fz g (n+1) (.own id 0 len)=some (.sl (l.map e)):=by
 subst hl
 rw[iA];simp only[hg,if_true]
 rw[if_pos (by simp),List.drop_zero,List.take_of_length_le (by simp),qI h];rfl
theorem fj {α:Type} {g:Rows} {n:Nat} {e:α->List AV} {l:List α} {id:Id} {sz len:Nat} (hg:g id=some ⟨true,sz,l.map e⟩) (hl:len=l.length) (h:∀x,ez g n (e x)=some (e x)):gC g (n+1) (.own id 0 len)=some (.sl (l.map e)):=by
 subst hl
 exact uZ hg (by simp) (by rw[List.drop_zero,List.take_of_length_le (by simp),ua h])
theorem all_map {α:Type} {e:α->List AV} {sz:Nat} {l:List α} (h:∀x,(e x).length=sz/\(e x).all AV.cell=true):(l.map e).all (fun c=>c.length==sz&&c.all AV.cell)=true:=by
 rw[List.all_eq_true]
 intro c hc
 obtain⟨x,_,rfl⟩:=List.mem_map.1 hc
 simp[(h x).1,(h x).2]
def QK (P:Program) (f:Nat) (args:List AV) (sz:Nat) (rows:List (List AV)):Prop:=(∀c∈rows,∀a∈c,a.plain=true)/\∀n:Nat,Call P f args ⟨fun _=>none,n⟩ fun r σ'=>∃id,r=.own id 0 rows.length/\σ'.get id=some ⟨true,sz,rows⟩
theorem QK.x {f sz:Nat} {args eu:List AV} {rows:List (List AV)} (h:QK P f eu sz rows) {σ:ar} (hv:cJ (dJ σ.get) 6 args=some eu):CM (Call P) f args σ sz rows:=⟨h.1,eu,hv,h.2 _⟩
theorem uM {res:List nT} {r:AV} {vs:List AV} {x:Ex} (hx:x=.ret∨x=.normal) (hv:fu env σ.get res=some vs) (hz:fz σ.get 6 (fa vs)=some r):kJ res (fun r0 σ'=>∃r',fz σ'.get 6 r0=some r'/\r'=r) x env σ:=by
 rcases hx with rfl|rfl
 ·exact⟨vs,hv,r,hz,rfl⟩
 ·exact⟨vs,hv,r,hz,rfl⟩
theorem qn {res:List nT} {r:AV} {vs:List AV} {x:Ex} (hx:x=.ret∨x=.normal) (hv:fu env σ.get res=some vs) (hz:gC σ.get 6 (fa vs)=some r):kJ res (fun r0 σ'=>∃r',gC σ'.get 6 r0=some r'/\r'=r) x env σ:=by
 rcases hx with rfl|rfl
 ·exact⟨vs,hv,r,hz,rfl⟩
 ·exact⟨vs,hv,r,hz,rfl⟩
theorem e9 {res:List nT} {K:AV->ar->Prop} {vs:List AV} {x:Ex} (hx:x=.ret∨x=.normal) (hv:fu env σ.get res=some vs) (hK:K (fa vs) σ):kJ res K x env σ:=by
 rcases hx with rfl|rfl
 ·exact⟨vs,hv,hK⟩
 ·exact⟨vs,hv,hK⟩
theorem eL {f:Nat} {args:List AV} {σ:ar} {K:AV->ar->Prop} {nt na:Nat} {body:VC} {res:List nT} (hf:me P f=some ⟨nt,na,body,res⟩) (ha:na=args.length) (h:(∀a∈args,eH a)->dI (Call P) body (kJ res K) (cC args) σ):Call P f args σ K:=ml hf ha h
theorem H0 {f:Nat} {md:List (Nat×Nat)} {args:List AV} {σ:ar} {K:AV->ar->Prop} {nt na:Nat} {body:VC} {res:List nT} (hf:xU P f md=some ⟨nt,na,body,res⟩) (ha:na=args.length) (h:(∀a∈args,eH a)->dI (Call P) body (kJ res K) (cC args) σ):Call P f args σ K:=vJ hf ha h
theorem dr {i:Id} {n:Nat} (h:i.ck<n):(∀s,(i=⟨s,n⟩)=False/\(i=⟨s,n+1⟩)=False/\(i=⟨s,n+1+1⟩)=False/\(i=⟨s,n+1+1+1⟩)=False/\(i=⟨s,n+1+1+1+1⟩)=False/\(i=⟨s,n+1+1+1+1+1⟩)=False/\(i=⟨s,n+1+1+1+1+1+1⟩)=False/\(i=⟨s,n+1+1+1+1+1+1+1⟩)=False/\(i=⟨s,n+1+1+1+1+1+1+1+1⟩)=False/\(i=⟨s,n+1+1+1+1+1+1+1+1+1⟩)=False/\(⟨s,n⟩=i)=False/\(⟨s,n+1⟩=i)=False/\(⟨s,n+1+1⟩=i)=False/\(⟨s,n+1+1+1⟩=i)=False/\(⟨s,n+1+1+1+1⟩=i)=False/\(⟨s,n+1+1+1+1+1⟩=i)=False/\(⟨s,n+1+1+1+1+1+1⟩=i)=False/\(⟨s,n+1+1+1+1+1+1+1⟩=i)=False/\(⟨s,n+1+1+1+1+1+1+1+1⟩=i)=False/\(⟨s,n+1+1+1+1+1+1+1+1+1⟩=i)=False)/\(i.ck=n)=False/\(i.ck=n+1)=False/\(i.ck=n+1+1)=False/\(i.ck=n+1+1+1)=False/\(i.ck=n+1+1+1+1)=False/\(i.ck=n+1+1+1+1+1)=False/\(i.ck=n+1+1+1+1+1+1)=False/\(i.ck=n+1+1+1+1+1+1+1)=False/\(i.ck=n+1+1+1+1+1+1+1+1)=False/\(i.ck=n+1+1+1+1+1+1+1+1+1)=False:=by
 refine⟨fun s=>?_,?_⟩
 ·obtain⟨a,b⟩:=i
  simp only[Id.mk.injEq,eq_iff_iff,iff_false,not_and]
  simp only at h
  refine⟨?_,?_,?_,?_,?_,?_,?_,?_,?_,?_,?_,?_,?_,?_,?_,?_,?_,?_,?_,?_⟩<;>(intros;omega)
 ·simp only[eq_iff_iff,iff_false]
  refine⟨?_,?_,?_,?_,?_,?_,?_,?_,?_,?_⟩<;>omega
def fW (a b:Nat) (ids:List Id):Prop:=ids.Nodup/\∀i∈ids,a<=i.ck/\i.ck<b
def Kept (σ σ':ar):Prop:=σ.next<=σ'.next/\∀j:Id,j.ck<σ.next->σ'.get j=σ.get j
theorem Kept.trans {a b c:ar} (h:Kept a b) (k:Kept b c):Kept a c:=⟨Nat.le_trans h.1 k.1,fun j hj=>(k.2 j (Nat.lt_of_lt_of_le hj h.1)).trans (h.2 j hj)⟩
theorem fW.wide {a b a' b':Nat} {ids:List Id} (h:fW a b ids) (h1:a'<=a) (h2:b<=b'):fW a' b' ids:=⟨h.1,fun i hi=>⟨Nat.le_trans h1 (h.2 i hi).1,Nat.lt_of_lt_of_le (h.2 i hi).2 h2⟩⟩
theorem fW.app {a b c d:Nat} {i j:List Id} (h:fW a b i) (k:fW c d j) (OG:b<=c) (qM:a<=b) (hcd:c<=d):fW a d (i++j):=
 ⟨List.nodup_append.2 ⟨h.1,k.1,fun x hx y hy e=>by subst e;have:=(h.2 x hx).2;have:=(k.2 x hy).1;omega⟩,fun x hx=>by
  rcases List.mem_append.1 hx with hx|hx
  ·have:=h.2 x hx;omega
  ·have:=k.2 x hx;omega⟩
end Go.Proofs.YtgoljkjaameagaaGreat.V

namespace Go.Proofs.YtgoljkjaameagaaGreat.V
open Go.RowKit
attribute [local irreducible] dI wpOps gy Call
attribute [local go_sem] aM fG eQ fZ fY cQ upd cC K.av cP AV.cells AV.cell rowOf rowsOf part ld rowAt bt cu dE ee ik bJ dh ew fX eX dp ej dd dc dQ dR bQ bf cW bP cY cX eh ek ei cV b4 de ef bK aP da cG ij bw cK bU aY dn bc dF AV.undef bF bI dS ec dM dK cH ev eA cF ep eo cZ db List.getD_cons_zero List.getD_cons_succ List.getD_nil List.all_cons List.all_nil Bool.and_true Bool.true_and Bool.and_self Bool.not_true Bool.not_false Option.map_some Option.map_none Option.bind_some Option.bind_none List.length_cons List.length_nil List.take_succ_cons List.take_zero List.take_nil List.drop_succ_cons List.drop_zero List.drop_nil List.head?_cons List.map_cons List.map_nil List.getElem?_cons_zero List.getElem?_cons_succ List.cons_append List.nil_append List.append_nil List.length_map List.set_cons_zero List.set_cons_succ Nat.reduceMul eq_self Int.toNat_natCast Int.natCast_nonneg and_self true_and and_true decide_true decide_false Bool.false_eq_true Nat.zero_add Nat.add_zero List.contains_cons List.contains_nil Bool.or_false Bool.false_or beq_self_eq_true Nat.reduceBEq ne_eq not_true_eq_false not_false_eq_true Id.mk.injEq false_and and_false Nat.reduceLT Int.reduceLE Int.reduceLT Int.reduceToNat Int.reduceNeg Int.reduceAdd Nat.le_refl List.length_append beq_true beq_false Bool.not_eq_eq_eq_not or_false false_or dJ ai aj aD bp bE cq aT bd aX bj cR bG
variable {P:Program}
def Kn (f g z:Nat):A7:=let s:=f*1000000
 ⟨27,2,(.seq (.eJ false [q 4 (.dm (.k (.int .i64 0))) s]) (.seq (.eJ false [q 6 (.dm (.t 1)) (s+1000),q 7 (.dm (.t 0)) (s+1001),q 8 (.len (.t 7)) (s+1002),q 9 (.bin .sub .i64 (.t 6) (.t 8)) (s+1003),q 1 (.dm (.t 9)) (s+1004)]) (.seq (.seq (.eJ false [q 10 (.dm (.t 1)) (s+2000),q 11 (.bin .lss .i64 (.t 10) (.k (.int .i64 0))) (s+2001)]) (.cond (.t 11) (.seq (.eJ false [q 4 (.dm (.k (.int .i64 (-1)))) (s+3000)]) .ret) .skip)) (.seq (.seq (.eJ false [q 5 (.dm (.k (.int .i64 0))) (s+4000)]) (.block 0 (.loop (.seq (.seq (.eJ false [q 12 (.dm (.t 5)) (s+5000),q 13 (.dm (.t 0)) (s+5001),q 14 (.len (.t 13)) (s+5002),q 15 (.bin .lss .i64 (.t 12) (.t 14)) (s+5003)]) (.cond (.t 15) .skip (.exit 0))) (.seq (.block 1 (.seq (.eJ false [q 18 (.dm (.t 0)) (s+7000),q 19 (.dm (.t 5)) (s+7001),q 20 (.dL z (.t 18) (.t 19)) (s+7002),q 21 (.load true z (.t 20)) (s+7003),q 22 (.dm (.t 1)) (s+7004),q 23 (.call g [(.t 21),(.t 22)]) (s+7005),q 1 (.dm (.t 23)) (s+7006)]) (.seq (.eJ false [q 24 (.dm (.t 1)) (s+8000),q 25 (.bin .lss .i64 (.t 24) (.k (.int .i64 0))) (s+8001)]) (.cond (.t 25) (.seq (.eJ false [q 4 (.dm (.k (.int .i64 (-1)))) (s+9000)]) .ret) .skip)))) (.eJ false [q 16 (.dm (.t 5)) (s+6000),q 17 (.bin .add .i64 (.t 16) (.k (.int .i64 1))) (s+6001),q 5 (.dm (.t 17)) (s+6002)])))))) (.seq (.eJ false [q 26 (.dm (.t 1)) (s+10000),q 4 (.dm (.t 26)) (s+10001)]) .ret))))),[(.tmp 4)]⟩
def Kl (f:Nat):A7:=let s:=f*1000000
 ⟨12,2,(.seq (.eJ false [q 4 (.dm (.k (.int .i64 0))) s]) (.seq (.eJ false [q 5 (.dm (.t 1)) (s+1000),q 6 (.dm (.t 0)) (s+1001),q 7 (.len (.t 6)) (s+1002),q 8 (.bin .sub .i64 (.t 5) (.t 7)) (s+1003),q 1 (.dm (.t 8)) (s+1004)]) (.seq (.seq (.eJ false [q 9 (.dm (.t 1)) (s+2000),q 10 (.bin .lss .i64 (.t 9) (.k (.int .i64 0))) (s+2001)]) (.cond (.t 10) (.seq (.eJ false [q 4 (.dm (.k (.int .i64 (-1)))) (s+3000)]) .ret) .skip)) (.seq (.eJ false [q 11 (.dm (.t 1)) (s+4000),q 4 (.dm (.t 11)) (s+4001)]) .ret)))),[(.tmp 4)]⟩
def BG (f g z:Nat):A7:=let s:=f*1000000
 ⟨27,2,(.seq (.eJ false [q 4 (.dm (.k (.bool false))) s]) (.seq (.seq (.eJ false [q 6 (.dm (.t 0)) (s+1000),q 7 (.len (.t 6)) (s+1001),q 8 (.dm (.t 1)) (s+1002),q 9 (.len (.t 8)) (s+1003),q 10 (.Oa true .tI (.t 7) (.t 9)) (s+1004)]) (.cond (.t 10) (.seq (.eJ false [q 4 (.dm (.k (.bool false))) (s+2000)]) .ret) .skip)) (.seq (.seq (.eJ false [q 5 (.dm (.k (.int .i64 0))) (s+3000)]) (.block 0 (.loop (.seq (.seq (.eJ false [q 11 (.dm (.t 5)) (s+4000),q 12 (.dm (.t 0)) (s+4001),q 13 (.len (.t 12)) (s+4002),q 14 (.bin .lss .i64 (.t 11) (.t 13)) (s+4003)]) (.cond (.t 14) .skip (.exit 0))) (.seq (.block 1 (.seq (.eJ true [q 17 (.dm (.t 0)) (s+6000),q 18 (.dm (.t 5)) (s+6001),q 19 (.dL z (.t 17) (.t 18)) (s+6002),q 20 (.load true z (.t 19)) (s+6003),q 21 (.dm (.t 1)) (s+6004),q 22 (.dm (.t 5)) (s+6005),q 23 (.dL z (.t 21) (.t 22)) (s+6006),q 24 (.load true z (.t 23)) (s+6007),q 25 (.call g [(.t 20),(.t 24)]) (s+6008),q 26 (.not (.t 25)) (s+6009)]) (.cond (.t 26) (.seq (.eJ false [q 4 (.dm (.k (.bool false))) (s+7000)]) .ret) .skip))) (.eJ false [q 15 (.dm (.t 5)) (s+5000),q 16 (.bin .add .i64 (.t 15) (.k (.int .i64 1))) (s+5001),q 5 (.dm (.t 16)) (s+5002)])))))) (.seq (.eJ false [q 4 (.dm (.k (.bool true))) (s+8000)]) .ret)))),[(.tmp 4)]⟩
def M4 (f:Nat) (t:TS):A7:=let s:=f*1000000
 ⟨26,2,(.seq (.eJ false [q 4 (.dm (.k (.bool false))) s]) (.seq (.seq (.eJ false [q 6 (.dm (.t 0)) (s+1000),q 7 (.len (.t 6)) (s+1001),q 8 (.dm (.t 1)) (s+1002),q 9 (.len (.t 8)) (s+1003),q 10 (.Oa true .tI (.t 7) (.t 9)) (s+1004)]) (.cond (.t 10) (.seq (.eJ false [q 4 (.dm (.k (.bool false))) (s+2000)]) .ret) .skip)) (.seq (.seq (.eJ false [q 5 (.dm (.k (.int .i64 0))) (s+3000)]) (.block 0 (.loop (.seq (.seq (.eJ false [q 11 (.dm (.t 5)) (s+4000),q 12 (.dm (.t 0)) (s+4001),q 13 (.len (.t 12)) (s+4002),q 14 (.bin .lss .i64 (.t 11) (.t 13)) (s+4003)]) (.cond (.t 14) .skip (.exit 0))) (.seq (.block 1 (.seq (.eJ true [q 17 (.dm (.t 0)) (s+6000),q 18 (.dm (.t 5)) (s+6001),q 19 (.dL 1 (.t 17) (.t 18)) (s+6002),q 20 (.load false 1 (.t 19)) (s+6003),q 21 (.dm (.t 1)) (s+6004),q 22 (.dm (.t 5)) (s+6005),q 23 (.dL 1 (.t 21) (.t 22)) (s+6006),q 24 (.load false 1 (.t 23)) (s+6007),q 25 (.Oa true t (.t 20) (.t 24)) (s+6008)]) (.cond (.t 25) (.seq (.eJ false [q 4 (.dm (.k (.bool false))) (s+7000)]) .ret) .skip))) (.eJ false [q 15 (.dm (.t 5)) (s+5000),q 16 (.bin .add .i64 (.t 15) (.k (.int .i64 1))) (s+5001),q 5 (.dm (.t 16)) (s+5002)])))))) (.seq (.eJ false [q 4 (.dm (.k (.bool true))) (s+8000)]) .ret)))),[(.tmp 4)]⟩
def uv (f g z:Nat) (zero:List K):A7:=let s:=f*1000000
 ⟨23,1,(.seq (.eJ false [q 2 (.dm (.k .bl)) s]) (.seq (.eJ false [q 5 (.dm (.t 0)) (s+1000),q 6 (.len (.t 5)) (s+1001),q 7 (.j7 zero (.t 6) (.t 6)) (s+1002),q 3 (.dm (.t 7)) (s+1003)]) (.seq (.seq (.eJ false [q 4 (.dm (.k (.int .i64 0))) (s+2000)]) (.block 0 (.loop (.seq (.seq (.eJ false [q 8 (.dm (.t 4)) (s+3000),q 9 (.dm (.t 0)) (s+3001),q 10 (.len (.t 9)) (s+3002),q 11 (.bin .lss .i64 (.t 8) (.t 10)) (s+3003)]) (.cond (.t 11) .skip (.exit 0))) (.seq (.block 1 (.eJ false [q 14 (.dm (.t 3)) (s+5000),q 15 (.dm (.t 4)) (s+5001),q 16 (.dm (.t 0)) (s+5002),q 17 (.dm (.t 4)) (s+5003),q 18 (.dL z (.t 16) (.t 17)) (s+5004),q 19 (.load true z (.t 18)) (s+5005),q 20 (.call g [(.t 19)]) (s+5006),q 21 (.dL z (.t 14) (.t 15)) (s+5007),⟨none,(.store z (.t 21) (.t 20)),none,(s+5008),[]⟩])) (.eJ false [q 12 (.dm (.t 4)) (s+4000),q 13 (.bin .add .i64 (.t 12) (.k (.int .i64 1))) (s+4001),q 4 (.dm (.t 13)) (s+4002)])))))) (.seq (.eJ false [q 22 (.dm (.t 3)) (s+6000),q 2 (.dm (.t 22)) (s+6001)]) .ret)))),[(.tmp 2)]⟩
def KB (f:Nat) (zero:K):A7:=let s:=f*1000000
 ⟨22,1,(.seq (.eJ false [q 2 (.dm (.k .bl)) s]) (.seq (.eJ false [q 5 (.dm (.t 0)) (s+1000),q 6 (.len (.t 5)) (s+1001),q 7 (.j7 [zero] (.t 6) (.t 6)) (s+1002),q 3 (.dm (.t 7)) (s+1003)]) (.seq (.seq (.eJ false [q 4 (.dm (.k (.int .i64 0))) (s+2000)]) (.block 0 (.loop (.seq (.seq (.eJ false [q 8 (.dm (.t 4)) (s+3000),q 9 (.dm (.t 0)) (s+3001),q 10 (.len (.t 9)) (s+3002),q 11 (.bin .lss .i64 (.t 8) (.t 10)) (s+3003)]) (.cond (.t 11) .skip (.exit 0))) (.seq (.block 1 (.eJ false [q 14 (.dm (.t 3)) (s+5000),q 15 (.dm (.t 4)) (s+5001),q 16 (.dm (.t 0)) (s+5002),q 17 (.dm (.t 4)) (s+5003),q 18 (.dL 1 (.t 16) (.t 17)) (s+5004),q 19 (.load false 1 (.t 18)) (s+5005),q 20 (.dL 1 (.t 14) (.t 15)) (s+5006),⟨none,(.store 1 (.t 20) (.t 19)),none,(s+5007),[]⟩])) (.eJ false [q 12 (.dm (.t 4)) (s+4000),q 13 (.bin .add .i64 (.t 12) (.k (.int .i64 1))) (s+4001),q 4 (.dm (.t 13)) (s+4002)])))))) (.seq (.eJ false [q 21 (.dm (.t 3)) (s+6000),q 2 (.dm (.t 21)) (s+6001)]) .ret)))),[(.tmp 2)]⟩
def yh (n:Nat) (l:Int):Int:=if (n:Int)<=l then l-n else -1
theorem Km {fk:Nat} (hc:me P fk=some (Kl fk)) (rows:List (List AV)) (left:Int) (h0:0<=left) (h1:left<=1048576):aq P fk [.sl rows,.int .i64 left] (.int .i64 (yh rows.length left)):=by
 refine aq.body hc rfl fun hl n0=>?_
 try simp only[q]
 have hn:rows.length<=9223372036854775807:=(hl (.sl rows) (by simp)).len
 clear hl
 have hw:IntKind.i64.wrap (left-(rows.length:Int))=left-rows.length:=bz (by omega)
 by_cases hf:(rows.length:Int)<=left
 ·have kI:¬left-(rows.length:Int)<0:=by omega
  (try((repeat(revert hN;revert N;apply Pn.out));refine wk (tw @hw @kI) ?_;(repeat(refine Pn.mk ?_;intro N hN))))
  exact bW (b:=left-(rows.length:Int)) (.inl rfl) (sd @Nat.zero_add) (by rw[yh,if_pos hf])
 ·have kI:left-(rows.length:Int)<0:=by omega
  (try((repeat(revert hN;revert N;apply Pn.out));refine wk (tw @hw @kI) ?_;(repeat(refine Pn.mk ?_;intro N hN))))
  exact bW (b:=-1) (.inl rfl) (sd @Nat.zero_add) (by rw[yh,if_neg hf])
def iJ {α:Type} (f:α->Nat) (xs:List α) (k:Nat):Nat:=((xs.take k).map f).sum
theorem mN {α:Type} (f:α->Nat) (xs:List α):iJ f xs 0=0:=by simp[iJ]
theorem CO {α:Type} (f:α->Nat) (xs:List α):iJ f xs xs.length=(xs.map f).sum:=by simp[iJ]
theorem xu {α:Type} (f:α->Nat) {xs:List α} {k:Nat} (hk:k<xs.length):iJ f xs (k+1)=iJ f xs k+f xs[k]:=by
 unfold iJ
 rw[List.take_succ_eq_append_getElem hk,List.map_append,List.sum_append];simp
theorem qq {α:Type} (f:α->Nat) (xs:List α) (k:Nat):iJ f xs k<=(xs.map f).sum:=by
 unfold iJ
 conv=>rhs;rw[<-List.take_append_drop k xs]
 rw[List.map_append,List.sum_append];omega
theorem Ko {α:Type} {e:α->List AV} {z fk gk:Nat} (wt:α->Nat) (hc:me P fk=some (Kn fk gk z)) (hz:∀x,(e x).length=z) (C5:∀x g,cJ g 6 [.agg (e x)]=some [.agg (e x)]) (xs:List α) (left:Int) (h0:0<=left) (h1:left<=1048576)
  (hg:∀x∈xs,∀l:Int,0<=l->l<=1048576->aq P gk [.agg (e x),.int .i64 l] (.int .i64 (yh (wt x) l))):aq P fk [.sl (xs.map e),.int .i64 left] (.int .i64 (yh (xs.length+(xs.map wt).sum) left)):=by
 refine aq.body hc rfl fun hl n0=>?_
 try simp only[q]
 have hn:xs.length<=9223372036854775807:=by simpa using(hl (.sl (xs.map e)) (by simp)).len
 clear hl
 have hw:IntKind.i64.wrap (left-(xs.length:Int))=left-xs.length:=bz (by omega)
 by_cases hf:(xs.length:Int)<=left
 ·have kI:¬left-(xs.length:Int)<0:=by omega
  (try((repeat(revert hN;revert N;apply Pn.out));refine wk (tw @hw @kI) ?_;(repeat(refine Pn.mk ?_;intro N hN))))
  refine aU (fun n env st=>∃k:Nat,n=(xs.length)-k/\k<=(xs.length)/\env 5=.int .i64 (k:Int)/\env 1=(.int .i64 (left-xs.length-(iJ wt xs k:Nat)))/\(0<=left-xs.length-(iJ wt xs k:Nat))) (xs.length) ⟨0,by omega,by omega,sl (tw @mN (tw @Int.natCast_zero @Int.sub_zero)),sl (tw @mN (tw @Int.natCast_zero @Int.sub_zero)),(by rw[mN];omega)⟩ ?_
  rintro n_a env_a st_a ⟨k,rfl,ale,a5,a1,lZ⟩ dC
  have a0:=dC 0 (by kernel_rfl)
  simp only[go_sem, ↓reduceIte,Nat.reduceEqDiff,Nat.reduceAdd,Nat.reduceSub,Nat.reduceLeDiff,reduceCtorEq,mN,Int.natCast_zero,Int.sub_zero]at a0
  clear dC
  by_cases hk:(k:Int)<(xs.length:Int)
  ·have cD:∀{e:Env},(e 5=.int .i64 (IntKind.i64.wrap ((k:Int)+1)))->(e 1=(.int .i64 (left-xs.length-(iJ wt xs (k+1):Nat))))->(0<=left-xs.length-(iJ wt xs (k+1):Nat))->∃m0,m0<(xs.length)-k/\∃k:Nat,m0=(xs.length)-k/\k<=(xs.length)/\e 5=.int .i64 (k:Int)/\e 1=(.int .i64 (left-xs.length-(iJ wt xs k:Nat)))/\(0<=left-xs.length-(iJ wt xs k:Nat)):=fun x1 x2 x3=>⟨_,by omega,k+1,rfl,by omega,(by rw[x1,aA (by omega)]),x2,x3⟩
   have fA:k<xs.length:=by omega
   have eR:(xs.map e)[k]? =some (e xs[k]):=by simp[fA]
   have ue:=hz xs[k]
   have ht:(e xs[k]).take z=e xs[k]:=by rw[<-ue,List.take_length]
   have hs:=xu wt fA
   have C9:=qq wt xs (k+1)
   have iu:=hg _ (List.getElem_mem fA) (left-xs.length-(iJ wt xs k:Nat)) lZ (by omega)
   have lu:cJ (dJ st_a.get) 6 [.agg (e xs[k]),.int .i64 (left-xs.length-(iJ wt xs k:Nat))]=some [.agg (e xs[k]),.int .i64 (left-xs.length-(iJ wt xs k:Nat))]:=by
    have q1:=C5 xs[k] (dJ st_a.get)
    rw[ai,aj]at q1
    rw[ai,ai,aj,aD]
    revert q1
    cases V.fz (dJ st_a.get) 6 (.agg (e xs[k]))<;>simp
   by_cases td:(wt xs[k]:Int)<=left-xs.length-(iJ wt xs k:Nat)
   ·rw[yh,if_pos td]at iu
    have x7:¬left-xs.length-(iJ wt xs k:Nat)-(wt xs[k]:Int)<0:=by omega
    have qO:left-xs.length-(iJ wt xs k:Nat)-(wt xs[k]:Int)=left-xs.length-(iJ wt xs (k+1):Nat):=by rw[hs];omega
    generalize hex:e xs[k]=c at iu lu eR ue ht
    (try((repeat(revert hN;revert N;apply Pn.out));refine wk (tw @a5 (tw @a1 (tw @a0 (tw @hk (tw @eR (tw @ue (tw @ht @Nat.le_refl))))))) ?_;(repeat(refine Pn.mk ?_;intro N hN))))
    refine .inl ⟨_,aq.x iu lu,?_⟩
    refine hN _ _ ?_
    clear hN N
    (try((repeat(revert hN;revert N;apply Pn.out));refine wk (tw @a5 (tw @a1 (tw @a0 @x7))) ?_;(repeat(refine Pn.mk ?_;intro N hN))))
    refine cD ?_ ?_ ((by rw[hs];omega))
    all_goals simp only[go_sem, ↓reduceIte,Nat.reduceEqDiff,Nat.reduceAdd,Nat.reduceSub,Nat.reduceLeDiff,reduceCtorEq,a5,a1,a0,qO]
   ·rw[yh,if_neg td]at iu
    generalize hex:e xs[k]=c at iu lu eR ue ht
    (try((repeat(revert hN;revert N;apply Pn.out));refine wk (tw @a5 (tw @a1 (tw @a0 (tw @hk (tw @eR (tw @ue (tw @ht @Nat.le_refl))))))) ?_;(repeat(refine Pn.mk ?_;intro N hN))))
    refine .inl ⟨_,aq.x iu lu,?_⟩
    refine hN _ _ ?_
    clear hN N
    (try((repeat(revert hN;revert N;apply Pn.out));refine wk (tw @a5 (tw @a1 @a0)) ?_;(repeat(refine Pn.mk ?_;intro N hN))))
    exact bW (b:=-1) (.inl rfl) (sd @Nat.zero_add) (by rw[yh,if_neg (by omega)])
  ·(try((repeat(revert hN;revert N;apply Pn.out));refine wk (tw @a5 (tw @a1 (tw @a0 @hk))) ?_;(repeat(refine Pn.mk ?_;intro N hN))))
   have fA:k=xs.length:=by omega
   subst fA
   have S4:=CO wt xs
   exact bW (b:=left-xs.length-(iJ wt xs xs.length:Nat)) (.inl rfl) (sd (tw @a5 (tw @a1 @a0))) (by rw[yh,if_pos (by omega)];omega)
 ·have kI:left-(xs.length:Int)<0:=by omega
  (try((repeat(revert hN;revert N;apply Pn.out));refine wk (tw @hw @kI) ?_;(repeat(refine Pn.mk ?_;intro N hN))))
  exact bW (b:=-1) (.inl rfl) (sd @Nat.zero_add) (by rw[yh,if_neg (by omega)])
theorem IH {α:Type} {xs ys:List α} (hl:xs.length=ys.length) (h:∀j:Nat,j<xs.length->∀(h1:j<xs.length) (h2:j<ys.length),xs[j]=ys[j]):xs=ys:=List.ext_getElem hl fun j h1 h2=>h j h1 h1 h2
theorem zU {α:Type} [DecidableEq α] {e:α->List AV} {z fk gk:Nat} (hc:me P fk=some (BG fk gk z)) (hz:∀x,(e x).length=z) (C5:∀x g,cJ g 6 [.agg (e x)]=some [.agg (e x)]) (xs ys:List α)
  (hg:∀x y,aq P gk [.agg (e x),.agg (e y)] (.bool (decide (x=y)))):aq P fk [.sl (xs.map e),.sl (ys.map e)] (.bool (decide (xs=ys))):=by
 refine aq.body hc rfl fun hl n0=>?_
 try simp only[q]
 have hn:xs.length<=9223372036854775807:=by simpa using(hl (.sl (xs.map e)) (by simp)).len
 clear hl
 by_cases hlen:xs.length=ys.length
 ·have kU:decide ((xs.length:Int)=(ys.length:Int))=true:=by simp[hlen]
  (try((repeat(revert hN;revert N;apply Pn.out));refine wk @kU ?_;(repeat(refine Pn.mk ?_;intro N hN))))
  refine aU (fun n env st=>∃k:Nat,n=(xs.length)-k/\k<=(xs.length)/\env 5=.int .i64 (k:Int)/\(∀j:Nat,j<k->∀(h1:j<xs.length) (h2:j<ys.length),xs[j]=ys[j])) (xs.length) ⟨0,by omega,by omega,sl @Nat.zero_add,fun _ h=>absurd h (Nat.not_lt_zero _)⟩ ?_
  rintro n_a env_a st_a ⟨k,rfl,ale,a5,mc⟩ dC
  have a0:=dC 0 (by kernel_rfl);have a1:=dC 1 (by kernel_rfl)
  simp only[go_sem, ↓reduceIte,Nat.reduceEqDiff,Nat.reduceAdd,Nat.reduceSub,Nat.reduceLeDiff,reduceCtorEq]at a0 a1
  clear dC
  by_cases hk:(k:Int)<(xs.length:Int)
  ·have cD:∀{e:Env},(e 5=.int .i64 (IntKind.i64.wrap ((k:Int)+1)))->(∀(h1:k<xs.length) (h2:k<ys.length),xs[k]=ys[k])->∃m0,m0<(xs.length)-k/\∃k:Nat,m0=(xs.length)-k/\k<=(xs.length)/\e 5=.int .i64 (k:Int)/\(∀j:Nat,j<k->∀(h1:j<xs.length) (h2:j<ys.length),xs[j]=ys[j]):=fun x1 x2=>⟨_,by omega,k+1,rfl,by omega,(by rw[x1,aA (by omega)]),(all_succ mc x2)⟩
   have fA:k<xs.length:=by omega
   have Ti:k<ys.length:=by omega
   have eR:(xs.map e)[k]? =some (e xs[k]):=by simp[fA]
   have DQ:(ys.map e)[k]? =some (e ys[k]):=by simp[Ti]
   have ue:=hz xs[k]
   have DZ:=hz ys[k]
   have ht:(e xs[k]).take z=e xs[k]:=by rw[<-ue,List.take_length]
   have HT:(e ys[k]).take z=e ys[k]:=by rw[<-DZ,List.take_length]
   have iu:=hg xs[k] ys[k]
   have lu:∀g,cJ g 6 [.agg (e xs[k]),.agg (e ys[k])]=some [.agg (e xs[k]),.agg (e ys[k])]:=fun g=>by
    have q1:=C5 xs[k] g
    have q2:=C5 ys[k] g
    rw[ai,aj]at q1
    rw[ai,q2]
    revert q1
    cases V.fz g 6 (.agg (e xs[k]))<;>simp
   by_cases heq:xs[k]=ys[k]
   ·rw[decide_eq_true heq]at iu
    generalize hex:e xs[k]=c at iu lu eR ue ht
    generalize hey:e ys[k]=d at iu lu DQ DZ HT
    (try((repeat(revert hN;revert N;apply Pn.out));refine wk (tw @a5 (tw @a0 (tw @a1 (tw @hk (tw @eR (tw @DQ (tw @ue (tw @DZ (tw @ht (tw @HT @Nat.le_refl)))))))))) ?_;(repeat(refine Pn.mk ?_;intro N hN))))
    refine⟨_,aq.x iu (lu _),?_⟩
    refine hN _ _ ?_
    clear hN N
    (try((repeat(revert hN;revert N;apply Pn.out));refine wk (tw @a5 (tw @a0 @a1)) ?_;(repeat(refine Pn.mk ?_;intro N hN))))
    exact cD (sd (tw @a5 (tw @a0 @a1))) (fun _ _=>heq)
   ·rw[decide_eq_false heq]at iu
    generalize hex:e xs[k]=c at iu lu eR ue ht
    generalize hey:e ys[k]=d at iu lu DQ DZ HT
    (try((repeat(revert hN;revert N;apply Pn.out));refine wk (tw @a5 (tw @a0 (tw @a1 (tw @hk (tw @eR (tw @DQ (tw @ue (tw @DZ (tw @ht (tw @HT @Nat.le_refl)))))))))) ?_;(repeat(refine Pn.mk ?_;intro N hN))))
    refine⟨_,aq.x iu (lu _),?_⟩
    refine hN _ _ ?_
    clear hN N
    (try((repeat(revert hN;revert N;apply Pn.out));refine wk (tw @a5 (tw @a0 @a1)) ?_;(repeat(refine Pn.mk ?_;intro N hN))))
    exact aW (b:=false) (.inl rfl) (sd @Nat.zero_add) (decide_eq_false fun h=>heq (List.getElem_of_eq h _)).symm
  ·(try((repeat(revert hN;revert N;apply Pn.out));refine wk (tw @a5 (tw @a0 (tw @a1 @hk))) ?_;(repeat(refine Pn.mk ?_;intro N hN))))
   exact aW (b:=true) (.inl rfl) (sd @Nat.zero_add) (decide_eq_true (IH hlen fun j hj h1 h2=>mc j (by omega) h1 h2)).symm
 ·have kU:decide ((xs.length:Int)=(ys.length:Int))=false:=decide_eq_false fun h=>hlen (by omega)
  (try((repeat(revert hN;revert N;apply Pn.out));refine wk @kU ?_;(repeat(refine Pn.mk ?_;intro N hN))))
  exact aW (b:=false) (.inl rfl) (sd @Nat.zero_add) (decide_eq_false fun h=>hlen (by subst h;rfl)).symm
theorem QX {fk:Nat} (hc:me P fk=some (M4 fk .tI)) (xs ys:List Int):
  aq P fk [.sl (xs.map fun x=>[AV.int .i64 x]),.sl (ys.map fun x=>[AV.int .i64 x])] (.bool (decide (xs=ys))):=by
 refine aq.body hc rfl fun hl n0=>?_
 try simp only[q]
 have hn:xs.length<=9223372036854775807:=by simpa using(hl (.sl (xs.map fun x=>[AV.int .i64 x])) (by simp)).len
 clear hl
 by_cases hlen:xs.length=ys.length
 ·have kU:decide ((xs.length:Int)=(ys.length:Int))=true:=by simp[hlen]
  (try((repeat(revert hN;revert N;apply Pn.out));refine wk @kU ?_;(repeat(refine Pn.mk ?_;intro N hN))))
  refine aU (fun n env st=>∃k:Nat,n=(xs.length)-k/\k<=(xs.length)/\env 5=.int .i64 (k:Int)/\(∀j:Nat,j<k->∀(h1:j<xs.length) (h2:j<ys.length),xs[j]=ys[j])) (xs.length) ⟨0,by omega,by omega,sl @Nat.zero_add,fun _ h=>absurd h (Nat.not_lt_zero _)⟩ ?_
  rintro n_a env_a st_a ⟨k,rfl,ale,a5,mc⟩ dC
  have a0:=dC 0 (by kernel_rfl);have a1:=dC 1 (by kernel_rfl)
  simp only[go_sem, ↓reduceIte,Nat.reduceEqDiff,Nat.reduceAdd,Nat.reduceSub,Nat.reduceLeDiff,reduceCtorEq]at a0 a1
  clear dC
  by_cases hk:(k:Int)<(xs.length:Int)
  ·have cD:∀{e:Env},(e 5=.int .i64 (IntKind.i64.wrap ((k:Int)+1)))->(∀(h1:k<xs.length) (h2:k<ys.length),xs[k]=ys[k])->∃m0,m0<(xs.length)-k/\∃k:Nat,m0=(xs.length)-k/\k<=(xs.length)/\e 5=.int .i64 (k:Int)/\(∀j:Nat,j<k->∀(h1:j<xs.length) (h2:j<ys.length),xs[j]=ys[j]):=fun x1 x2=>⟨_,by omega,k+1,rfl,by omega,(by rw[x1,aA (by omega)]),(all_succ mc x2)⟩
   have fA:k<xs.length:=by omega
   have Ti:k<ys.length:=by omega
   have eR:(xs.map fun x=>[AV.int .i64 x])[k]? =some [.int .i64 xs[k]]:=by simp[fA]
   have DQ:(ys.map fun x=>[AV.int .i64 x])[k]? =some [.int .i64 ys[k]]:=by simp[Ti]
   by_cases heq:xs[k]=ys[k]
   ·have hq:=decide_eq_true heq
    (try((repeat(revert hN;revert N;apply Pn.out));refine wk (tw @a5 (tw @a0 (tw @a1 (tw @hk (tw @eR (tw @DQ @hq)))))) ?_;(repeat(refine Pn.mk ?_;intro N hN))))
    exact cD (sd (tw @a5 (tw @a0 @a1))) (fun _ _=>heq)
   ·have hq:=decide_eq_false heq
    (try((repeat(revert hN;revert N;apply Pn.out));refine wk (tw @a5 (tw @a0 (tw @a1 (tw @hk (tw @eR (tw @DQ @hq)))))) ?_;(repeat(refine Pn.mk ?_;intro N hN))))
    exact aW (b:=false) (.inl rfl) (sd @Nat.zero_add) (decide_eq_false fun h=>heq (List.getElem_of_eq h _)).symm
  ·(try((repeat(revert hN;revert N;apply Pn.out));refine wk (tw @a5 (tw @a0 (tw @a1 @hk))) ?_;(repeat(refine Pn.mk ?_;intro N hN))))
   exact aW (b:=true) (.inl rfl) (sd @Nat.zero_add) (decide_eq_true (IH hlen fun j hj h1 h2=>mc j (by omega) h1 h2)).symm
 ·have kU:decide ((xs.length:Int)=(ys.length:Int))=false:=decide_eq_false fun h=>hlen (by omega)
  (try((repeat(revert hN;revert N;apply Pn.out));refine wk @kU ?_;(repeat(refine Pn.mk ?_;intro N hN))))
  exact aW (b:=false) (.inl rfl) (sd @Nat.zero_add) (decide_eq_false fun h=>hlen (by subst h;rfl)).symm
theorem vP (l:List AV):l++[]=l:=List.append_nil l
def gR {α:Type} (e:α->List AV) (zc:List AV) (xs:List α) (k:Nat):List (List AV):=(xs.take k).map e++List.replicate (xs.length-k) zc
theorem oK {α:Type} (e:α->List AV) (zc:List AV) (xs:List α):List.replicate xs.length zc=gR e zc xs 0:=by simp[gR]
theorem qC {α:Type} (e:α->List AV) (zc:List AV) (xs:List α):gR e zc xs xs.length=xs.map e:=by simp[gR]
theorem qD {α:Type} (e:α->List AV) (zc:List AV) (xs:List α) {k:Nat} (hk:k<xs.length):(gR e zc xs k)[k]? =some zc:=by
 have h1:((xs.take k).map e).length=k:=by simp;omega
 rw[gR,List.getElem?_append_right (by omega),h1,Nat.sub_self,List.getElem?_replicate,if_pos (by omega)]
theorem qE {α:Type} (e:α->List AV) (zc:List AV) (xs:List α) {k:Nat} (hk:k<xs.length):(gR e zc xs k).set k (e xs[k])=gR e zc xs (k+1):=by
 have h1:((xs.take k).map e).length=k:=by simp;omega
 rw[gR,List.set_append_right _ _ (by omega),h1,Nat.sub_self,gR,List.take_succ_eq_append_getElem hk,List.map_append,List.append_assoc]
 congr 1
 obtain⟨m,hm⟩:∃m,xs.length-k=m+1:=⟨xs.length-k-1,by omega⟩
 rw[hm,show xs.length-(k+1)=m by omega,List.replicate_succ]
 rfl
theorem ER {α:Type} {en:α->List AV} {z fk gk:Nat} {zero:List K} (hc:me P fk=some (uv fk gk z zero)) (HW:zero.length=z) (hz:∀x,(en x).length=z) (kE:∀x,(en x).all AV.cell=true) (C5:∀x g,cJ g 5 (en x)=some (en x)) (xs:List α) (hlen:xs.length<=1048576)
  (hg:∀x∈xs,jO P gk [.agg (en x)] (.agg (en x))):jO P fk [.sl (xs.map en)] (.sl (xs.map en)):=by
 refine jO.body hc rfl fun hl σ=>?_
 try simp only[q]
 clear hl
 have hm:(xs.length:Int)<=((16777216:Nat):Int):=by omega
 have h0:(0:Int)<=(xs.length:Int):=by omega
 (try((repeat(revert hN;revert N;apply Pn.out));refine wk (tw @hm (tw @h0 (tw @Int.le_refl (tw (oK en (zero.map K.av) xs) @HW)))) ?_;(repeat(refine Pn.mk ?_;intro N hN))))
 refine aU (fun n env st=>∃k:Nat,n=(xs.length)-k/\k<=(xs.length)/\env 4=.int .i64 (k:Int)/\st.get ⟨fk*1000000+1002,σ.next+1⟩=some ⟨true,z,gR en (zero.map K.av) xs k⟩) (xs.length) ⟨0,by omega,by omega,sl @Nat.zero_add,sl @Nat.zero_add⟩ ?_
 rintro n_a env_a st_a ⟨k,rfl,ale,a4,ag0⟩ dC
 have a0:=dC 0 (by kernel_rfl);have a3:=dC 3 (by kernel_rfl)
 simp only[go_sem, ↓reduceIte,Nat.reduceEqDiff,Nat.reduceAdd,Nat.reduceSub,Nat.reduceLeDiff,reduceCtorEq]at a0 a3
 clear dC
 by_cases hk:(k:Int)<(xs.length:Int)
 ·have cD:∀{e:Env} {gg:Rows},(e 4=.int .i64 (IntKind.i64.wrap ((k:Int)+1)))->(gg ⟨fk*1000000+1002,σ.next+1⟩=some ⟨true,z,gR en (zero.map K.av) xs (k+1)⟩)->∃m0,m0<(xs.length)-k/\∃k:Nat,m0=(xs.length)-k/\k<=(xs.length)/\e 4=.int .i64 (k:Int)/\gg ⟨fk*1000000+1002,σ.next+1⟩=some ⟨true,z,gR en (zero.map K.av) xs k⟩:=fun x1 x2=>⟨_,by omega,k+1,rfl,by omega,(by rw[x1,aA (by omega)]),x2⟩
  have fA:k<xs.length:=by omega
  have eR:(xs.map en)[k]? =some (en xs[k]):=by simp[fA]
  have ue:=hz xs[k]
  have KY:=kE xs[k]
  have ht:(en xs[k]).take z=en xs[k]:=by rw[<-ue,List.take_length]
  have iu:=hg _ (List.getElem_mem fA)
  have fS:=qD en (zero.map K.av) xs fA
  have eE:=qE en (zero.map K.av) xs fA
  have IZ:(zero.map K.av).drop z=[]:=List.drop_of_length_le (by simp[HW])
  generalize hex:en xs[k]=c at iu eR ue ht KY eE
  (repeat(first|((repeat(revert hN;revert N;apply Pn.out));refine wk (tw @a4 (tw @ag0 (tw @a0 (tw @a3 (tw @hk (tw @eR (tw @ue (tw @ht (tw @Nat.le_refl (tw @fS (tw @eE (tw @IZ (tw @vP (tw @KY @HW)))))))))))))) ?_;(repeat(refine Pn.mk ?_;intro N hN)))|((try apply Or.inl);refine⟨_,jO.x (iu) _,?_⟩;refine hN _ _ ?_;clear hN N)))
  refine cD ?_ ?_
  all_goals simp only[go_sem, ↓reduceIte,Nat.reduceEqDiff,Nat.reduceAdd,Nat.reduceSub,Nat.reduceLeDiff,reduceCtorEq,a4,ag0,a0,a3]
 ·(try((repeat(revert hN;revert N;apply Pn.out));refine wk (tw @a4 (tw @ag0 (tw @a0 (tw @a3 @hk)))) ?_;(repeat(refine Pn.mk ?_;intro N hN))))
  have fA:k=xs.length:=by omega
  subst fA
  refine Sg (.inl rfl) (r0:=.own ⟨fk*1000000+1002,σ.next+1⟩ 0 xs.length) (sd (tw @a4 (tw @ag0 (tw @a0 @a3)))) ?_
  rw[qC]at ag0
  exact fM ag0 (by simp) fun x=>C5 x _
theorem Sk {fk:Nat} (hc:me P fk=some (KB fk (.int .i64 0))) (xs:List Int) (hlen:xs.length<=1048576):jO P fk [.sl (xs.map fun x=>[AV.int .i64 x])] (.sl (xs.map fun x=>[AV.int .i64 x])):=by
 refine jO.body hc rfl fun hl σ=>?_
 try simp only[q]
 clear hl
 obtain⟨en,HM⟩:∃en:Int->List AV,en=fun x=>[AV.int .i64 x]:=⟨_,rfl⟩
 rw[<-HM]
 have hm:(xs.length:Int)<=((16777216:Nat):Int):=by omega
 have h0:(0:Int)<=(xs.length:Int):=by omega
 (try((repeat(revert hN;revert N;apply Pn.out));refine wk (tw @hm (tw @h0 (tw @Int.le_refl (oK en [AV.int .i64 0] xs)))) ?_;(repeat(refine Pn.mk ?_;intro N hN))))
 refine aU (fun n env st=>∃k:Nat,n=(xs.length)-k/\k<=(xs.length)/\env 4=.int .i64 (k:Int)/\st.get ⟨fk*1000000+1002,σ.next+1⟩=some ⟨true,1,gR en [AV.int .i64 0] xs k⟩) (xs.length) ⟨0,by omega,by omega,sl @Nat.zero_add,sl @Nat.zero_add⟩ ?_
 rintro n_a env_a st_a ⟨k,rfl,ale,a4,ag0⟩ dC
 have a0:=dC 0 (by kernel_rfl);have a3:=dC 3 (by kernel_rfl)
 simp only[go_sem, ↓reduceIte,Nat.reduceEqDiff,Nat.reduceAdd,Nat.reduceSub,Nat.reduceLeDiff,reduceCtorEq]at a0 a3
 clear dC
 by_cases hk:(k:Int)<(xs.length:Int)
 ·have cD:∀{e:Env} {gg:Rows},(e 4=.int .i64 (IntKind.i64.wrap ((k:Int)+1)))->(gg ⟨fk*1000000+1002,σ.next+1⟩=some ⟨true,1,gR en [AV.int .i64 0] xs (k+1)⟩)->∃m0,m0<(xs.length)-k/\∃k:Nat,m0=(xs.length)-k/\k<=(xs.length)/\e 4=.int .i64 (k:Int)/\gg ⟨fk*1000000+1002,σ.next+1⟩=some ⟨true,1,gR en [AV.int .i64 0] xs k⟩:=fun x1 x2=>⟨_,by omega,k+1,rfl,by omega,(by rw[x1,aA (by omega)]),x2⟩
  have fA:k<xs.length:=by omega
  have eR:(xs.map en)[k]? =some [AV.int .i64 xs[k]]:=by simp[fA,HM]
  have fS:=qD en [AV.int .i64 0] xs fA
  have eE:=qE en [AV.int .i64 0] xs fA
  rw[show en xs[k]=[AV.int .i64 xs[k]] by rw[HM]]at eE
  (try((repeat(revert hN;revert N;apply Pn.out));refine wk (tw @a4 (tw @ag0 (tw @a0 (tw @a3 (tw @hk (tw @eR (tw @fS @eE))))))) ?_;(repeat(refine Pn.mk ?_;intro N hN))))
  refine cD ?_ ?_
  all_goals simp only[go_sem, ↓reduceIte,Nat.reduceEqDiff,Nat.reduceAdd,Nat.reduceSub,Nat.reduceLeDiff,reduceCtorEq,a4,ag0,a0,a3]
 ·(try((repeat(revert hN;revert N;apply Pn.out));refine wk (tw @a4 (tw @ag0 (tw @a0 (tw @a3 @hk)))) ?_;(repeat(refine Pn.mk ?_;intro N hN))))
  have fA:k=xs.length:=by omega
  subst fA
  refine Sg (.inl rfl) (r0:=.own ⟨fk*1000000+1002,σ.next+1⟩ 0 xs.length) (sd (tw @a4 (tw @ag0 (tw @a0 @a3)))) ?_
  rw[qC]at ag0
  exact fM ag0 (by simp) fun x=>by simp[HM,ai,aj,aD]
end Go.Proofs.YtgoljkjaameagaaGreat.V

namespace Go.Proofs.YtgoljkjaameagaaGreat
open Go.RowKit
def Sl (w:World) (fp:List Nat) (v:Value) (n:Nat) (xs:List Value):Prop:=
 ∃A c,v=.slice A n c/\n<=c/\c<=maxLen/\
  ((fp=[]/\n=0)∨∃b o,fp=[b]/\A=some ⟨b,o,none⟩/\∀j u,xs[j]? =some u->w.cell? ⟨b,o+j,none⟩=some u)
def fI (fp:List Nat) (lo hi:Nat):Prop:=∀b∈fp,lo<=b/\b<hi
theorem fI.nil (lo hi:Nat):fI [] lo hi:=fun _ h=>by cases h
theorem Sl.nil (w:World):Sl w [] (.slice none 0 0) 0 []:=⟨none,0,rfl,Nat.le_refl _,by simp[maxLen],.inl ⟨rfl,rfl⟩⟩
def NL {α:Type} (rep:World->List Nat->List Value->α->Prop) (sz:Nat) (w:World) (oL:List (List Value)) (Fk:List (List Nat)) (ds:List α):Prop:=
 oL.length=ds.length/\Fk.length=ds.length/\∀(i:Nat) (cs:List Value) (f:List Nat) (d:α),oL[i]? =some cs->Fk[i]? =some f->ds[i]? =some d->rep w f cs d/\cs.length=sz
def ni {α:Type} (rep:World->List Nat->List Value->α->Prop) (sz:Nat) (w:World) (fp:List Nat) (v:Value) (ds:List α):Prop:=
 ∃oL Fk T6,fp=T6++Fk.flatten/\Sl w T6 v ds.length oL.flatten/\NL rep sz w oL Fk ds
theorem qY {α:Type} {Fk:List (List α)} {i:Nat} {f:List α} (h:Fk[i]? =some f):∀b∈f,b∈Fk.flatten:=fun b hb=>
 List.mem_flatten.2 ⟨f,List.mem_of_getElem? h,hb⟩
theorem tX {α:Type} {oL:List (List α)} {sz:Nat} (h:∀cs∈oL,cs.length=sz) {i j:Nat} {cs:List α} (hi:oL[i]? =some cs) (hj:j<sz):oL.flatten[i*sz+j]? =cs[j]? :=by
 induction oL generalizing i with
 |nil=>simp at hi
 |cons c r ih=>
  have hc:c.length=sz:=h c (by simp)
  cases i with
  |zero=>
   simp at hi;subst hi
   rw[List.flatten_cons,List.getElem?_append_left (by omega)];simp
  |succ i=>
   rw[List.flatten_cons,List.getElem?_append_right (by rw[hc,Nat.succ_mul];omega)]
   have:(i+1)*sz+j-c.length=i*sz+j:=by rw[hc,Nat.succ_mul];omega
   rw[this]
   exact ih (fun cs dt=>h cs (List.mem_cons_of_mem _ dt)) (by simpa using hi)
theorem NL.lens {α:Type} {rep:World->List Nat->List Value->α->Prop} {sz:Nat} {w:World} {oL:List (List Value)} {Fk:List (List Nat)} {ds:List α}
  (h:NL rep sz w oL Fk ds):∀cs∈oL,cs.length=sz:=fun cs dt=>by
 obtain⟨i,hi,rfl⟩:=List.getElem_of_mem dt
 have h1:i<Fk.length:=by rw[h.2.1,<-h.1];exact hi
 have h2:i<ds.length:=by rw[<-h.1];exact hi
 exact(h.2.2 i _ _ _ (List.getElem?_eq_getElem hi) (List.getElem?_eq_getElem h1) (List.getElem?_eq_getElem h2)).2
theorem ni.at_ {α:Type} {rep:World->List Nat->List Value->α->Prop} {sz:Nat} {w:World} {fp:List Nat} {A:Option Addr} {n c:Nat} {ds:List α}
  (h:ni rep sz w fp (.slice A n c) ds) (k:Nat) (hk:k<ds.length):
  ∃b o cs f,A=some ⟨b,o,none⟩/\b∈fp/\(∀x∈f,x∈fp)/\rep w f cs ds[k]/\cs.length=sz/\∀j u,cs[j]? =some u->w.cell? ⟨b,o+(k*sz+j),none⟩=some u:=by
 obtain⟨oL,Fk,T6,rfl,⟨A',c',hv,_,_,hc⟩,hr⟩:=h
 simp only[Value.slice.injEq]at hv
 obtain⟨rfl,hn,rfl⟩:=hv
 rcases hc with⟨_,h0⟩|⟨b,o,rfl,rfl,hc⟩
 ·omega
 have h1:k<oL.length:=by rw[hr.1];exact hk
 have h2:k<Fk.length:=by rw[hr.2.1];exact hk
 obtain⟨gN,hl⟩:=hr.2.2 k _ _ _ (List.getElem?_eq_getElem h1) (List.getElem?_eq_getElem h2) (List.getElem?_eq_getElem hk)
 refine⟨b,o,oL[k],Fk[k],rfl,by simp,fun x hx=>List.mem_append_right _ (qY (List.getElem?_eq_getElem h2) x hx),gN,hl,fun j u hj=>?_⟩
 have ig:j<sz:=by rw[<-hl];exact(List.getElem?_eq_some_iff.1 hj).1
 exact hc _ u (by rw[tX hr.lens (List.getElem?_eq_getElem h1) ig];exact hj)
theorem ni.len {α:Type} {rep:World->List Nat->List Value->α->Prop} {sz:Nat} {w:World} {fp:List Nat} {v:Value} {ds:List α}
  (h:ni rep sz w fp v ds):∃A c,v=.slice A ds.length c/\ds.length<=c/\c<=maxLen:=by
 obtain⟨_,_,_,_,⟨A,c,hv,h1,h2,_⟩,_⟩:=h
 exact⟨A,c,hv,h1,h2⟩
theorem ni.nil {α:Type} (rep:World->List Nat->List Value->α->Prop) (sz:Nat) (w:World):ni rep sz w [] (.slice none 0 0) ([]:List α):=
 ⟨[],[],[],rfl,Sl.nil w,rfl,rfl,fun i cs f d hc=>by simp at hc⟩
def Flat {α:Type} (enc:α->List Value):World->List Nat->List Value->α->Prop:=fun _ f cs d=>f=[]/\cs=enc d
def Q (w w':World):Prop:=∃q,w'=w.drewN q
theorem Q.refl (w:World):Q w w:=⟨0,rfl⟩
theorem Q.d {w w':World} (h:Q w w') (n:Nat):Q w (w'.drewN n):=by obtain⟨q,rfl⟩:=h;exact⟨q+n,by rw[World.drewN_drewN]⟩
theorem Q.d1 {w w':World} (h:Q w w'):Q w w'.drew:=by obtain⟨q,rfl⟩:=h;exact⟨q+1,rfl⟩
theorem Q.n (w:World) (n:Nat):Q w (w.drewN n):=⟨n,rfl⟩
theorem Q.trans {a b c:World} (h:Q a b) (k:Q b c):Q a c:=by obtain⟨q,rfl⟩:=k;exact h.d q
theorem Iq {B:Nat} {a w:World} (h:Below B a w) (n:Nat):Below B a (w.drewN n):=⟨h.os,h.tape,h.output,h.size,h.block⟩
theorem Q.below {w w':World} (h:Q w w'):Below w.heap.size w w':=by obtain⟨q,rfl⟩:=h;exact Iq (Below.refl _ _) q
theorem iH {a b:Bool} (h:a=b):Ending.returned (.bool a)=.returned (.bool b):=by rw[h]
theorem FU {k:IntKind} {a b:Int} (h:a=b):Ending.returned (.int k a)=.returned (.int k b):=by rw[h]
structure aI where
 eZ:Int
 eU:Int
deriving DecidableEq
structure ad where
 aO:aI
 aV:Int
deriving DecidableEq
structure dP where
 ah:List ad
deriving DecidableEq
structure fB where
 aE:ByteArray
 eB:Int
deriving DecidableEq
structure eT where
 aE:ByteArray
 bx:List Int
deriving DecidableEq
structure aw where
 ax:List fB
 ah:List eT
deriving DecidableEq
structure az where
 aH:aw
 aZ:dP
 aB:Int
deriving DecidableEq
def Gq (d:Int):List Value:=[.int .i64 d]
def E6:=Flat Gq
def eV (d:ad):List Value:=[.int .i64 d.aO.eZ,.int .i64 d.aO.eU,.int .i64 d.aV]
def Bi:=Flat eV
def jf:=ni Bi 3
def IC (d:fB):List Value:=[.string d.aE,.int .i64 d.eB]
def H8:=Flat IC
def rq:=ni H8 2
def vN:=ni E6 1
def H9 (w:World) (f:List Nat) (cs:List Value) (d:eT):Prop:=
 ∃v1 f1,f=f1/\cs=[.string d.aE,v1]/\vN w f1 v1 d.bx
def rz:=ni H9 2
end Go.Proofs.YtgoljkjaameagaaGreat

namespace Go.Proofs.YtgoljkjaameagaaGreat.V
open Go.RowKit
variable {P:Program} {w:World} {D:Nat->Prop}
def H4 (P:Program) (w:World) (D:Nat->Prop) (al:List AV) (cs:List Value):Prop:=∀(j:Nat) (a:AV),al[j]? =some a->∃u:Value,cs[j]? =some u/\jM P w D a u
theorem sq {α:Type} {rep:World->List Nat->List Value->α->Prop} {e:α->List AV} {sz:Nat} {f:List Nat} {v:Value} {xs:List α} (h:ni rep sz w f v xs) (hD:∀b∈f,D b)
  (hl:∀x∈xs,(e x).length=sz) (hc:∀x∈xs,∀a∈e x,a.cell=true) (hr:∀x∈xs,∀f' cs,rep w f' cs x->(∀b∈f',D b)->H4 P w D (e x) cs):jM P w D (.sl (xs.map e)) v:=by
 obtain⟨A,c,rfl,h1,h2⟩:=ni.len h
 by_cases h0:xs=[]
 ·subst h0;exact .Bg _ _ h2
 have kz:0<xs.length:=List.length_pos_iff.2 h0
 obtain⟨b,o,Qe,f0,rfl,hb,Te,Vm,LG,jQ⟩:=ni.at_ h 0 kz
 have key:∀(i:Nat) (hi:i<xs.length),∃cs f',(∀x∈f',x∈f)/\rep w f' cs xs[i]/\cs.length=sz/\∀j u,cs[j]? =some u->w.cell? ⟨b,o+(i*sz+j),none⟩=some u:=by
  intro i hi
  obtain⟨b',o',cs,f',S6,_,kI,om,dt,kT⟩:=ni.at_ h i hi
  simp only[Option.some.injEq,Addr.mk.injEq,and_true]at S6
  obtain⟨rfl,rfl⟩:=S6
  exact⟨cs,f',kI,om,dt,kT⟩
 refine .sl _ b o _ c sz (fun i j=>(w.cell? ⟨b,o+(i*sz+j),none⟩).getD Go.undef) (by simp) h1 h2 (hD b hb) ?_ ?_ ?_ ?_
 ·intro cs dt
  obtain⟨x,hx,rfl⟩:=List.mem_map.1 dt
  exact hl x hx
 ·intro cs dt
  obtain⟨x,hx,rfl⟩:=List.mem_map.1 dt
  exact hc x hx
 ·intro i j hi hj
  obtain⟨cs,f',_,_,dt,kT⟩:=key i hi
  rw[kT j cs[j] (List.getElem?_eq_getElem (by omega))]
  rfl
 ·intro i j cs a dt ha
  have hi:i<xs.length:=by
   have:=(List.getElem?_eq_some_iff.1 dt).1
   simpa using this
  obtain⟨qk,f',kI,om,hcs',kT⟩:=key i hi
  simp[hi]at dt
  subst dt
  obtain⟨u,hu,him⟩:=hr _ (List.getElem_mem hi) f' qk om (fun b hb=>hD b (kI b hb)) j a ha
  rw[kT j u hu]
  exact him
end Go.Proofs.YtgoljkjaameagaaGreat.V

namespace Go.Proofs.YtgoljkjaameagaaGreat.V
open Go.RowKit
variable {P:Program} {w:World} {D:Nat->Prop}
def bh (d:Int):List AV:=[.int .i64 d]
def ae (d:aI):List AV:=[.int .i64 d.eZ,.int .i64 d.eU]
def aa (d:ad):List AV:=[.int .i64 d.aO.eZ,.int .i64 d.aO.eU,.int .i64 d.aV]
def aQ (d:dP):List AV:=[.sl (d.ah.map aa)]
def bV (d:fB):List AV:=[.str d.aE,.int .i64 d.eB]
def bH (d:eT):List AV:=[.str d.aE,.sl (d.bx.map bh)]
def ab (d:aw):List AV:=[.sl (d.ax.map bV),.sl (d.ah.map bH)]
def au (d:az):List AV:=[.sl (d.aH.ax.map bV),.sl (d.aH.ah.map bH),.sl (d.aZ.ah.map aa),.int .i64 d.aB]
theorem tO {f:List Nat} {v:Value} {xs:List ad} (h:jf w f v xs) (hD:∀b∈f,D b):jM P w D (.sl (xs.map aa)) v:=
 sq h hD (fun _ _=>rfl) (fun x _ a ha=>by simp[aa]at ha;rcases ha with rfl|rfl|rfl<;>rfl) fun x _ f' cs hr hf=>by
  obtain⟨_,rfl⟩:=hr
  intro j a ha
  match j,ha with
  |0,ha=>simp[aa]at ha;subst ha;exact⟨_,rfl,.int _ _⟩
  |1,ha=>simp[aa]at ha;subst ha;exact⟨_,rfl,.int _ _⟩
  |2,ha=>simp[aa]at ha;subst ha;exact⟨_,rfl,.int _ _⟩
  |j+3,ha=>simp[aa]at ha
theorem zz {d:dP} {f0:List Nat} {v0:Value} (h0:jf w f0 v0 d.ah) (d0:∀b∈f0,D b):jM P w D (.agg (aQ d)) (.agg #[v0]):=by
 refine .agg _ _ (fun j=>(#[v0]:Array Value).getD j Go.undef) rfl (fun a ha=>by simp[aQ]at ha;rcases ha with rfl<;>rfl) (fun j hj=>?_) (fun j a ha=>?_)
 ·match j,hj with
  |0,_=>rfl
  |j+1,hj=>simp[aQ]at hj<;>omega
 ·match j,ha with
  |0,ha=>simp[aQ]at ha;subst ha;exact tO h0 d0
  |j+1,ha=>simp[aQ]at ha
theorem F5 {f:List Nat} {v:Value} {xs:List fB} (h:rq w f v xs) (hD:∀b∈f,D b):jM P w D (.sl (xs.map bV)) v:=
 sq h hD (fun _ _=>rfl) (fun x _ a ha=>by simp[bV]at ha;rcases ha with rfl|rfl<;>rfl) fun x _ f' cs hr hf=>by
  obtain⟨_,rfl⟩:=hr
  intro j a ha
  match j,ha with
  |0,ha=>simp[bV]at ha;subst ha;exact⟨_,rfl,.str _⟩
  |1,ha=>simp[bV]at ha;subst ha;exact⟨_,rfl,.int _ _⟩
  |j+2,ha=>simp[bV]at ha
theorem Dg {f:List Nat} {v:Value} {xs:List Int} (h:vN w f v xs) (hD:∀b∈f,D b):jM P w D (.sl (xs.map bh)) v:=
 sq h hD (fun _ _=>rfl) (fun x _ a ha=>by simp[bh]at ha;rcases ha with rfl<;>rfl) fun x _ f' cs hr hf=>by
  obtain⟨_,rfl⟩:=hr
  intro j a ha
  match j,ha with
  |0,ha=>simp[bh]at ha;subst ha;exact⟨_,rfl,.int _ _⟩
  |j+1,ha=>simp[bh]at ha
theorem F9 {f:List Nat} {v:Value} {xs:List eT} (h:rz w f v xs) (hD:∀b∈f,D b):jM P w D (.sl (xs.map bH)) v:=
 sq h hD (fun _ _=>rfl) (fun x _ a ha=>by simp[bH]at ha;rcases ha with rfl|rfl<;>rfl) fun x _ f' cs hr hf=>by
  obtain⟨v1,f1,rfl,rfl,h1⟩:=hr
  intro j a ha
  match j,ha with
  |0,ha=>simp[bH]at ha;subst ha;exact⟨_,rfl,.str _⟩
  |1,ha=>simp[bH]at ha;subst ha;exact⟨_,rfl,Dg h1 hf⟩
  |j+2,ha=>simp[bH]at ha
theorem Dj {d:az} {f0:List Nat} {v0:Value} (h0:rq w f0 v0 d.aH.ax) (d0:∀b∈f0,D b) {f1:List Nat} {v1:Value} (h1:rz w f1 v1 d.aH.ah) (d1:∀b∈f1,D b) {f2:List Nat} {v2:Value} (h2:jf w f2 v2 d.aZ.ah) (d2:∀b∈f2,D b):jM P w D (.agg (au d)) (.agg #[v0,v1,v2,.int .i64 d.aB]):=by
 refine .agg _ _ (fun j=>(#[v0,v1,v2,.int .i64 d.aB]:Array Value).getD j Go.undef) rfl (fun a ha=>by simp[au]at ha;rcases ha with rfl|rfl|rfl|rfl<;>rfl) (fun j hj=>?_) (fun j a ha=>?_)
 ·match j,hj with
  |0,_=>rfl
  |1,_=>rfl
  |2,_=>rfl
  |3,_=>rfl
  |j+4,hj=>simp[au]at hj<;>omega
 ·match j,ha with
  |0,ha=>simp[au]at ha;subst ha;exact F5 h0 d0
  |1,ha=>simp[au]at ha;subst ha;exact F9 h1 d1
  |2,ha=>simp[au]at ha;subst ha;exact tO h2 d2
  |3,ha=>simp[au]at ha;subst ha;exact .int _ _
  |j+4,ha=>simp[au]at ha
end Go.Proofs.YtgoljkjaameagaaGreat.V

namespace Go.Proofs.YtgoljkjaameagaaGreat.V
open Go.RowKit
attribute [local irreducible] dI wpOps gy Call
attribute [local go_sem] aM fG eQ fZ fY cQ upd cC K.av cP AV.cells AV.cell rowOf rowsOf part ld rowAt bt cu dE ee ik bJ dh ew fX eX dp ej dd dc dQ dR bQ bf cW bP cY cX eh ek ei cV b4 de ef bK aP da cG ij bw cK bU aY dn bc dF AV.undef bF bI dS ec dM dK cH ev eA cF ep eo cZ db List.getD_cons_zero List.getD_cons_succ List.getD_nil List.all_cons List.all_nil Bool.and_true Bool.true_and Bool.and_self Bool.not_true Bool.not_false Option.map_some Option.map_none Option.bind_some Option.bind_none List.length_cons List.length_nil List.take_succ_cons List.take_zero List.take_nil List.drop_succ_cons List.drop_zero List.drop_nil List.head?_cons List.map_cons List.map_nil List.getElem?_cons_zero List.getElem?_cons_succ List.cons_append List.nil_append List.append_nil List.length_map List.set_cons_zero List.set_cons_succ Nat.reduceMul eq_self Int.toNat_natCast Int.natCast_nonneg and_self true_and and_true decide_true decide_false Bool.false_eq_true Nat.zero_add Nat.add_zero List.contains_cons List.contains_nil Bool.or_false Bool.false_or beq_self_eq_true Nat.reduceBEq ne_eq not_true_eq_false not_false_eq_true Id.mk.injEq false_and and_false Nat.reduceLT Int.reduceLE Int.reduceLT Int.reduceToNat Int.reduceNeg Int.reduceAdd Nat.le_refl List.length_append beq_true beq_false Bool.not_eq_eq_eq_not or_false false_or dJ ai aj aD bp bE cq aT bd aX bj cR bG
variable {P:Program}
theorem KK {X:fH} {Q:Ex->Env->ar->Prop} {N:Env->ar->Prop} {c:VC} {env:Env} {σ:ar} (I:Env->ar->Prop) (h2:∀e s,I e s->N e s) (h1:∀N':Env->ar->Prop,(∀e s,I e s->N' e s)->dI X c (dn N' Q) env σ):dI X c (dn N Q) env σ:=h1 N h2
def tj (f z:Nat) (a:Bool):A7:=let s:=f*1000000
 ⟨19,2,(.seq (.eJ false [q 4 (.dm (.k (.int .i64 0))) s]) (.seq (.seq (.eJ false [q 6 (.dm (.t 0)) (s+1000),q 7 (.len (.t 6)) (s+1001),q 8 (.dm (.k (.int .i64 0))) (s+1002)]) (.block 0 (.loop (.seq (.eJ false [q 9 (.bin .lss .i64 (.t 8) (.t 7)) (s+2000)]) (.seq (.cond (.t 9) .skip (.exit 0)) (.seq (.block 1 (.seq (.eJ false [q 10 (.dm (.t 8)) (s+3000),q 5 (.dm (.t 10)) (s+3001)]) (.seq (.eJ false [q 11 (.dm (.t 1)) (s+4000),q 12 (.dm (.t 0)) (s+4001),q 13 (.dm (.t 5)) (s+4002),q 14 (.dL z (.t 12) (.t 13)) (s+4003),q 15 (.load a z (.t 14)) (s+4004),q 16 (.tU (.t 11) [(.t 15)]) (s+4005)]) (.cond (.t 16) (.seq (.eJ false [q 17 (.dm (.t 5)) (s+5000),q 4 (.dm (.t 17)) (s+5001)]) .ret) .skip)))) (.eJ false [q 18 (.bin .add .i64 (.t 8) (.k (.int .i64 1))) (s+6000),q 8 (.dm (.t 18)) (s+6001)]))))))) (.seq (.eJ false [q 4 (.dm (.k (.int .i64 (-1)))) (s+7000)]) .ret))),[(.tmp 4)]⟩
def Aa (f g:Nat):A7:=let s:=f*1000000
 ⟨9,2,(.seq (.eJ false [q 4 (.dm (.k (.bool false))) s]) (.seq (.eJ false [q 5 (.dm (.t 0)) (s+1000),q 6 (.dm (.t 1)) (s+1001),q 7 (.call g [(.t 5),(.t 6)]) (s+1002),q 8 (.bin .geq .i64 (.t 7) (.k (.int .i64 0))) (s+1003),q 4 (.dm (.t 8)) (s+1004)]) .ret)),[(.tmp 4)]⟩
def ko {α:Type} (p:α->Bool) (xs:List α):Int:=if xs.findIdx p<xs.length then(xs.findIdx p:Int)else -1
theorem II {α:Type} (p:α->Bool) (xs:List α):decide (0<=ko p xs)=xs.any p:=by
 unfold ko
 by_cases h:xs.findIdx p<xs.length
 ·rw[if_pos h]
  have:xs.any p=true:=List.any_eq_true.2 (List.findIdx_lt_length.1 h)
  rw[this];simp
 ·rw[if_neg h]
  have:xs.any p=false:=by
   rw[Bool.eq_false_iff]
   intro hc
   exact h (List.findIdx_lt_length.2 (List.any_eq_true.1 hc))
  rw[this];rfl
theorem uP (a:AV) (l m:List AV):a::l++m=a::(l++m):=rfl
theorem zK (l:List AV):[]++l=l:=rfl
structure QH {α:Type} (e:α->List AV) (v:α->AV) (z:Nat) (a:Bool):Prop where
 len:∀x,(e x).length=z
 val:∀x,if a=true then v x=.agg (e x)else e x=[v x]
 fz:∀x g,cJ g 6 [v x]=some [v x]
theorem uf {α:Type} {e:α->List AV} {v:α->AV} {z fk:Nat} {a:Bool} (hE:QH e v z a) (hc:me P fk=some (tj fk z a)) (xs:List α) (hlen:xs.length<=1048576) (f:Nat) (cN:List AV) (p:α->Bool)
  (hf:∀x∈xs,aq P f (v x::cN) (.bool (p x))) (I3:∀g,cJ g 6 cN=some cN):
  aq P fk [.sl (xs.map e),.fn f cN] (.int .i64 (ko p xs)):=by
 refine aq.body hc rfl fun hl n0=>?_
 try simp only[q]
 clear hl
 (try((repeat(revert hN;revert N;apply Pn.out));refine wk @Nat.zero_add ?_;(repeat(refine Pn.mk ?_;intro N hN))))
 refine aU (fun n env st=>∃k:Nat,n=(xs.length)-k/\k<=(xs.length)/\env 8=.int .i64 (k:Int)/\(∀j:Nat,j<k->∀h:j<xs.length,p xs[j]=false)) (xs.length) ⟨0,by omega,by omega,sl @Nat.zero_add,fun _ h=>absurd h (Nat.not_lt_zero _)⟩ ?_
 rintro n_a env_a st_a ⟨k,rfl,ale,a8,mc⟩ dC
 have a0:=dC 0 (by kernel_rfl);have a1:=dC 1 (by kernel_rfl);have a7:=dC 7 (by kernel_rfl)
 simp only[go_sem, ↓reduceIte,Nat.reduceEqDiff,Nat.reduceAdd,Nat.reduceSub,Nat.reduceLeDiff,reduceCtorEq]at a0 a1 a7
 clear dC
 by_cases hk:(k:Int)<(xs.length:Int)
 ·have cD:∀{e:Env},(e 8=.int .i64 (IntKind.i64.wrap ((k:Int)+1)))->(∀h:k<xs.length,p xs[k]=false)->∃m0,m0<(xs.length)-k/\∃k:Nat,m0=(xs.length)-k/\k<=(xs.length)/\e 8=.int .i64 (k:Int)/\(∀j:Nat,j<k->∀h:j<xs.length,p xs[j]=false):=fun x1 x2=>⟨_,by omega,k+1,rfl,by omega,(by rw[x1,aA (by omega)]),(all_succ mc x2)⟩
  have fA:k<xs.length:=by omega
  have hg:(xs.map e)[k]? =some (e xs[k]):=by simp[fA]
  have FA:=hf _ (List.getElem_mem fA)
  have hz:=hE.len xs[k]
  have hv:=hE.val xs[k]
  have lu:cJ (dJ st_a.get) 6 (v xs[k]::cN)=some (v xs[k]::cN):=by
   have h1:=hE.fz xs[k] (dJ st_a.get)
   rw[ai,aj]at h1
   rw[ai,I3]
   revert h1
   cases V.fz (dJ st_a.get) 6 (v xs[k])<;>simp
  have fin:∀hN:True,(p xs[k]=true->xs.findIdx p=k):=fun _ hp=>by
   rw[List.findIdx_eq fA];exact⟨hp,fun j hj=>mc j hj (by omega)⟩
  cases hp:p xs[k]
  ·have Tp:=hp
   cases a
   ·rw[if_neg (by simp)]at hv
    have Bf:z=1:=by rw[<-hz,hv];rfl
    subst Bf
    rw[hv]at hg hz
    rw[hp]at FA
    generalize v xs[k]=c at FA lu hg hz
    (try((repeat(revert hN;revert N;apply Pn.out));refine wk (tw @a8 (tw @a0 (tw @a1 (tw @a7 (tw @hk (tw @hg (tw @hz (tw @uP @zK)))))))) ?_;(repeat(refine Pn.mk ?_;intro N hN))))
    refine .inl ⟨_,aq.x FA lu,?_⟩
    refine hN _ _ ?_
    clear hN N
    (try((repeat(revert hN;revert N;apply Pn.out));refine wk (tw @a8 (tw @a0 (tw @a1 @a7))) ?_;(repeat(refine Pn.mk ?_;intro N hN))))
    exact cD (sd (tw @a8 (tw @a0 (tw @a1 @a7)))) (fun _=>Tp)
   ·rw[if_pos rfl]at hv
    have ht:(e xs[k]).take z=e xs[k]:=by rw[<-hz,List.take_length]
    rw[hv]at FA lu
    rw[hp]at FA
    generalize e xs[k]=c at FA lu hg hz ht
    (try((repeat(revert hN;revert N;apply Pn.out));refine wk (tw @a8 (tw @a0 (tw @a1 (tw @a7 (tw @hk (tw @hg (tw @hz (tw @ht (tw @uP (tw @zK @Nat.le_refl)))))))))) ?_;(repeat(refine Pn.mk ?_;intro N hN))))
    refine .inl ⟨_,aq.x FA lu,?_⟩
    refine hN _ _ ?_
    clear hN N
    (try((repeat(revert hN;revert N;apply Pn.out));refine wk (tw @a8 (tw @a0 (tw @a1 @a7))) ?_;(repeat(refine Pn.mk ?_;intro N hN))))
    exact cD (sd (tw @a8 (tw @a0 (tw @a1 @a7)))) (fun _=>Tp)
  ·have hi:=fin trivial hp
   cases a
   ·rw[if_neg (by simp)]at hv
    have Bf:z=1:=by rw[<-hz,hv];rfl
    subst Bf
    rw[hv]at hg hz
    rw[hp]at FA
    generalize v xs[k]=c at FA lu hg hz
    (try((repeat(revert hN;revert N;apply Pn.out));refine wk (tw @a8 (tw @a0 (tw @a1 (tw @a7 (tw @hk (tw @hg (tw @hz (tw @uP @zK)))))))) ?_;(repeat(refine Pn.mk ?_;intro N hN))))
    refine .inl ⟨_,aq.x FA lu,?_⟩
    refine hN _ _ ?_
    clear hN N
    (try((repeat(revert hN;revert N;apply Pn.out));refine wk (tw @a8 (tw @a0 (tw @a1 @a7))) ?_;(repeat(refine Pn.mk ?_;intro N hN))))
    exact bW (b:=(k:Int)) (.inl rfl) (sd @Nat.zero_add) (by rw[ko,hi,if_pos fA])
   ·rw[if_pos rfl]at hv
    have ht:(e xs[k]).take z=e xs[k]:=by rw[<-hz,List.take_length]
    rw[hv]at FA lu
    rw[hp]at FA
    generalize e xs[k]=c at FA lu hg hz ht
    (try((repeat(revert hN;revert N;apply Pn.out));refine wk (tw @a8 (tw @a0 (tw @a1 (tw @a7 (tw @hk (tw @hg (tw @hz (tw @ht (tw @uP (tw @zK @Nat.le_refl)))))))))) ?_;(repeat(refine Pn.mk ?_;intro N hN))))
    refine .inl ⟨_,aq.x FA lu,?_⟩
    refine hN _ _ ?_
    clear hN N
    (try((repeat(revert hN;revert N;apply Pn.out));refine wk (tw @a8 (tw @a0 (tw @a1 @a7))) ?_;(repeat(refine Pn.mk ?_;intro N hN))))
    exact bW (b:=(k:Int)) (.inl rfl) (sd @Nat.zero_add) (by rw[ko,hi,if_pos fA])
 ·(try((repeat(revert hN;revert N;apply Pn.out));refine wk (tw @a8 (tw @a0 (tw @a1 (tw @a7 @hk)))) ?_;(repeat(refine Pn.mk ?_;intro N hN))))
  have hi:¬xs.findIdx p<xs.length:=by
   rw[List.findIdx_lt_length]
   rintro⟨x,hx,LX⟩
   obtain⟨j,hj,rfl⟩:=List.getElem_of_mem hx
   rw[mc j (by omega) hj]at LX;cases LX
  exact bW (b:=-1) (.inl rfl) (sd @Nat.zero_add) (by rw[ko,if_neg hi])
theorem kR {α:Type} {e:α->List AV} {v:α->AV} {z fk gk:Nat} {a:Bool} (hE:QH e v z a) (hc:me P fk=some (Aa fk gk)) (GA:me P gk=some (tj gk z a)) (xs:List α) (hlen:xs.length<=1048576) (f:Nat) (cN:List AV) (p:α->Bool) (IV:cN.all AV.cell=true) (C5:∀g,cJ g 5 cN=some cN)
  (hf:∀x∈xs,aq P f (v x::cN) (.bool (p x))) (I3:∀g,cJ g 6 cN=some cN):
  aq P fk [.sl (xs.map e),.fn f cN] (.bool (xs.any p)):=by
 refine aq.body hc rfl fun hl n0=>?_
 try simp only[q]
 clear hl
 have hi:=uf hE GA xs hlen f cN p hf I3
 (repeat(first|((repeat(revert hN;revert N;apply Pn.out));refine wk (tw @IV @C5) ?_;(repeat(refine Pn.mk ?_;intro N hN)))|((try apply Or.inl);refine⟨_,aq.x (hi) (sd (tw @IV @C5)),?_⟩;refine hN _ _ ?_;clear hN N)))
 exact aW (b:=decide (0<=ko p xs)) (.inl rfl) (sd @Nat.zero_add) (II p xs)
end Go.Proofs.YtgoljkjaameagaaGreat.V

namespace Go.Proofs.YtgoljkjaameagaaGreat.V
open Go.RowKit
def r5 (P:Program) (mk:Bool):List Oper->Nat->List Nat
 |[],_=>[]
 |o::r,i=>match rj P o.op with
  |some v=>if qW v||mk&&v.l6 then i::r5 P mk r (i+1)else r5 P mk r (i+1)
  |none=>r5 P mk r (i+1)
def zN (P:Program) (ops:Array Oper) (site0:Nat) (mk:Bool) (bs:Array Nat) (hidden:List Nat):List Oper->Nat->Option (List bq)
 |[],_=>some []
 |o::r,j=>do
  let v <-rj P o.op
  let g <-Ds ops o
  pure ({dst:=o.dst,op:=v,guard:=g,site:=site0+j,hid:=(hidden.filter fun i=> !(bs.getD j 0).testBit i&&(i !=j||mk&&v.l6)).map fun i=>site0+i}::(<-zN P ops site0 mk bs hidden r (j+1)))
def qv (P:Program) (md:List (Nat×Nat)) (fid:Nat):Code->Option VC
 | .skip=>some .skip
 | .region id ops draw=>if draw then(zN P ops ((fid*1000+id)*1000) (wY md id==1) (jH ops) (r5 P (wY md id==1) ops.toList 0) ops.toList 0).map (VC.eJ true)else(zN P ops ((fid*1000+id)*1000) false #[] [] ops.toList 0).map (if ops.toList.any fun o=>Nt o.op then VC.N0 else VC.eJ false)
 | .seq a b=>do pure (.seq (<-qv P md fid a) (<-qv P md fid b))
 | .cond c x y=>do pure (.cond (<-cO P c) (<-qv P md fid x) (<-qv P md fid y))
 | .block id c=>(qv P md fid c).map (VC.block id)
 | .loop c=>(qv P md fid c).map VC.loop
 | .exit id=>some (.exit id)
 | .ret=>some .ret
 |_=>none
def QO (P:Program) (md:List (Nat×Nat)) (f:Nat):Option A7:=
 match P.funcs[f]? with
 |some fn=>match fn.body with
  |some c=>do
   let b <-qv P md f c
   let r <-fn.results.toList.mapM (Dt P)
   pure {ntmps:=fn.ntmps,zb:=fn.params.size+fn.nfree,body:=b,res:=r}
  |none=>none
 |none=>none
theorem cfM {P:Program} (md:List (Nat×Nat)) {f:Nat} {v:A7} (_:QO P md f=some v:=by(conv=>lhs;cbv)<;>exact rfl) (h:xU P f md=some v:=by kernel_rfl):xU P f md=some v:=h
theorem dX {P:Program} {f:Nat} {v:A7} (_:QO P [] f=some v:=by(conv=>lhs;cbv)<;>exact rfl) (h:me P f=some v:=by kernel_rfl):me P f=some v:=h
def PJ:A7:=⟨77,2,(.seq (.eJ false [q 4 (.dm (.k .gT)) 251000000]) (.seq (.eJ false [q 7 (.dm (.t 0)) 251001000,q 8 (.dm (.t 1)) 251001001,q 9 (.build [(.int .i64 0),.bl,.bl,.bl] [(0,(1,(.t 7))),(1,(1,(.t 8)))]) 251001002,q 10 (.box (.t 9)) 251001003,q 5 (.dm (.t 10)) 251001004]) (.seq (.eJ false [q 11 (.dm (.t 5)) 251002000,q 12 (.dm (.t 0)) 251002001,q 13 (.j7 [.bl] (.t 12) (.t 12)) 251002002,q 14 (.A8 (.t 11)) 251002003,q 15 (.fU 2 (.t 14)) 251002004,⟨none,(.store 1 (.t 15) (.t 13)),none,251002005,[]⟩]) (.seq (.eJ false [q 16 (.dm (.t 5)) 251003000,q 17 (.dm (.t 1)) 251003001,q 18 (.len (.t 17)) 251003002,q 19 (.j7 [(.int .i64 0)] (.t 18) (.t 18)) 251003003,q 20 (.A8 (.t 16)) 251003004,q 21 (.fU 3 (.t 20)) 251003005,⟨none,(.store 1 (.t 21) (.t 19)),none,251003006,[]⟩]) (.seq (.seq (.eJ false [q 6 (.dm (.k (.int .i64 0))) 251004000]) (.block 0 (.loop (.seq (.seq (.eJ false [q 22 (.dm (.t 6)) 251005000,q 23 (.dm (.t 1)) 251005001,q 24 (.len (.t 23)) 251005002,q 25 (.bin .lss .i64 (.t 22) (.t 24)) 251005003]) (.cond (.t 25) .skip (.exit 0))) (.seq (.block 1 (.seq (.one ⟨(some 28),(.dm (.t 5)),none,251007000,[251007021,251007022,251007024]⟩ (.one ⟨(some 29),(.A8 (.t 28)),none,251007001,[251007021,251007022,251007024]⟩ (.one ⟨(some 30),(.fU 2 (.t 29)),none,251007002,[251007021,251007022,251007024]⟩ (.one ⟨(some 32),(.dm (.t 1)),none,251007004,[251007021,251007022,251007024]⟩ (.one ⟨(some 33),(.dm (.t 6)),none,251007005,[251007021,251007022,251007024]⟩ (.one ⟨(some 37),(.dm (.t 5)),none,251007009,[251007021,251007022,251007024]⟩ (.one ⟨(some 38),(.A8 (.t 37)),none,251007010,[251007021,251007022,251007024]⟩ (.one ⟨(some 39),(.fU 2 (.t 38)),none,251007011,[251007021,251007022,251007024]⟩ (.one ⟨(some 40),(.load false 1 (.t 39)),none,251007012,[251007021,251007022,251007024]⟩ (.one ⟨(some 41),(.dm (.t 1)),none,251007013,[251007021,251007022,251007024]⟩ (.one ⟨(some 42),(.dm (.t 6)),none,251007014,[251007021,251007022,251007024]⟩ (.one ⟨(some 43),(.dL 3 (.t 41) (.t 42)),none,251007015,[251007021,251007022,251007024]⟩ (.one ⟨(some 44),(.fU 0 (.t 43)),none,251007016,[251007021,251007022,251007024]⟩ (.one ⟨(some 45),(.load false 1 (.t 44)),none,251007017,[251007021,251007022,251007024]⟩ (.one ⟨(some 46),(.dL 1 (.t 40) (.t 45)),none,251007018,[251007021,251007022,251007024]⟩ (.one ⟨(some 47),(.load false 1 (.t 46)),none,251007019,[251007021,251007022,251007024]⟩ (.one ⟨(some 48),(.dm (.t 6)),none,251007020,[251007021,251007022,251007024]⟩ (.one ⟨(some 49),(.l5 1 1 [(.t 48)]),none,251007021,[251007022,251007024]⟩ (.both (.one ⟨(some 31),(.load false 1 (.t 30)),none,251007003,[251007021,251007022,251007024]⟩ (.both (.one ⟨(some 34),(.dL 3 (.t 32) (.t 33)),none,251007006,[251007021,251007022,251007024]⟩ (.one ⟨(some 35),(.fU 0 (.t 34)),none,251007007,[251007021,251007022,251007024]⟩ (.both (.one ⟨(some 36),(.load false 1 (.t 35)),none,251007008,[251007021,251007022,251007024]⟩ (.one ⟨(some 50),(.append 1 (.t 47) (.t 49)),none,251007022,[251007024]⟩ (.one ⟨(some 51),(.dL 1 (.t 31) (.t 36)),none,251007023,[251007024]⟩ (.one ⟨none,(.store 1 (.t 51) (.t 50)),none,251007024,[]⟩ (.eJ false []))))) (.one ⟨(some 50),(.append 1 (.t 47) (.t 49)),none,251007022,[251007024]⟩ (.one ⟨(some 36),(.load false 1 (.t 35)),none,251007008,[251007021,251007022,251007024]⟩ (.one ⟨(some 51),(.dL 1 (.t 31) (.t 36)),none,251007023,[251007024]⟩ (.one ⟨none,(.store 1 (.t 51) (.t 50)),none,251007024,[]⟩ (.eJ false [])))))))) (.one ⟨(some 50),(.append 1 (.t 47) (.t 49)),none,251007022,[251007024]⟩ (.one ⟨(some 34),(.dL 3 (.t 32) (.t 33)),none,251007006,[251007021,251007022,251007024]⟩ (.one ⟨(some 35),(.fU 0 (.t 34)),none,251007007,[251007021,251007022,251007024]⟩ (.one ⟨(some 36),(.load false 1 (.t 35)),none,251007008,[251007021,251007022,251007024]⟩ (.one ⟨(some 51),(.dL 1 (.t 31) (.t 36)),none,251007023,[251007024]⟩ (.one ⟨none,(.store 1 (.t 51) (.t 50)),none,251007024,[]⟩ (.eJ false []))))))))) (.both (.one ⟨(some 34),(.dL 3 (.t 32) (.t 33)),none,251007006,[251007021,251007022,251007024]⟩ (.one ⟨(some 35),(.fU 0 (.t 34)),none,251007007,[251007021,251007022,251007024]⟩ (.both (.one ⟨(some 31),(.load false 1 (.t 30)),none,251007003,[251007021,251007022,251007024]⟩ (.both (.one ⟨(some 36),(.load false 1 (.t 35)),none,251007008,[251007021,251007022,251007024]⟩ (.one ⟨(some 50),(.append 1 (.t 47) (.t 49)),none,251007022,[251007024]⟩ (.one ⟨(some 51),(.dL 1 (.t 31) (.t 36)),none,251007023,[251007024]⟩ (.one ⟨none,(.store 1 (.t 51) (.t 50)),none,251007024,[]⟩ (.eJ false []))))) (.one ⟨(some 50),(.append 1 (.t 47) (.t 49)),none,251007022,[251007024]⟩ (.one ⟨(some 36),(.load false 1 (.t 35)),none,251007008,[251007021,251007022,251007024]⟩ (.one ⟨(some 51),(.dL 1 (.t 31) (.t 36)),none,251007023,[251007024]⟩ (.one ⟨none,(.store 1 (.t 51) (.t 50)),none,251007024,[]⟩ (.eJ false []))))))) (.both (.one ⟨(some 36),(.load false 1 (.t 35)),none,251007008,[251007021,251007022,251007024]⟩ (.both (.one ⟨(some 31),(.load false 1 (.t 30)),none,251007003,[251007021,251007022,251007024]⟩ (.one ⟨(some 50),(.append 1 (.t 47) (.t 49)),none,251007022,[251007024]⟩ (.one ⟨(some 51),(.dL 1 (.t 31) (.t 36)),none,251007023,[251007024]⟩ (.one ⟨none,(.store 1 (.t 51) (.t 50)),none,251007024,[]⟩ (.eJ false []))))) (.one ⟨(some 50),(.append 1 (.t 47) (.t 49)),none,251007022,[251007024]⟩ (.one ⟨(some 31),(.load false 1 (.t 30)),none,251007003,[251007021,251007022,251007024]⟩ (.one ⟨(some 51),(.dL 1 (.t 31) (.t 36)),none,251007023,[251007024]⟩ (.one ⟨none,(.store 1 (.t 51) (.t 50)),none,251007024,[]⟩ (.eJ false []))))))) (.one ⟨(some 50),(.append 1 (.t 47) (.t 49)),none,251007022,[251007024]⟩ (.one ⟨(some 31),(.load false 1 (.t 30)),none,251007003,[251007021,251007022,251007024]⟩ (.one ⟨(some 36),(.load false 1 (.t 35)),none,251007008,[251007021,251007022,251007024]⟩ (.one ⟨(some 51),(.dL 1 (.t 31) (.t 36)),none,251007023,[251007024]⟩ (.one ⟨none,(.store 1 (.t 51) (.t 50)),none,251007024,[]⟩ (.eJ false [])))))))))) (.one ⟨(some 50),(.append 1 (.t 47) (.t 49)),none,251007022,[251007024]⟩ (.one ⟨(some 31),(.load false 1 (.t 30)),none,251007003,[251007021,251007022,251007024]⟩ (.one ⟨(some 34),(.dL 3 (.t 32) (.t 33)),none,251007006,[251007021,251007022,251007024]⟩ (.one ⟨(some 35),(.fU 0 (.t 34)),none,251007007,[251007021,251007022,251007024]⟩ (.one ⟨(some 36),(.load false 1 (.t 35)),none,251007008,[251007021,251007022,251007024]⟩ (.one ⟨(some 51),(.dL 1 (.t 31) (.t 36)),none,251007023,[251007024]⟩ (.one ⟨none,(.store 1 (.t 51) (.t 50)),none,251007024,[]⟩ (.eJ false [])))))))))))))))))))))))))))) (.one ⟨(some 52),(.dm (.t 5)),none,251008000,[251008021,251008022,251008024]⟩ (.one ⟨(some 53),(.A8 (.t 52)),none,251008001,[251008021,251008022,251008024]⟩ (.one ⟨(some 54),(.fU 2 (.t 53)),none,251008002,[251008021,251008022,251008024]⟩ (.one ⟨(some 56),(.dm (.t 1)),none,251008004,[251008021,251008022,251008024]⟩ (.one ⟨(some 57),(.dm (.t 6)),none,251008005,[251008021,251008022,251008024]⟩ (.one ⟨(some 61),(.dm (.t 5)),none,251008009,[251008021,251008022,251008024]⟩ (.one ⟨(some 62),(.A8 (.t 61)),none,251008010,[251008021,251008022,251008024]⟩ (.one ⟨(some 63),(.fU 2 (.t 62)),none,251008011,[251008021,251008022,251008024]⟩ (.one ⟨(some 64),(.load false 1 (.t 63)),none,251008012,[251008021,251008022,251008024]⟩ (.one ⟨(some 65),(.dm (.t 1)),none,251008013,[251008021,251008022,251008024]⟩ (.one ⟨(some 66),(.dm (.t 6)),none,251008014,[251008021,251008022,251008024]⟩ (.one ⟨(some 67),(.dL 3 (.t 65) (.t 66)),none,251008015,[251008021,251008022,251008024]⟩ (.one ⟨(some 68),(.fU 1 (.t 67)),none,251008016,[251008021,251008022,251008024]⟩ (.one ⟨(some 69),(.load false 1 (.t 68)),none,251008017,[251008021,251008022,251008024]⟩ (.one ⟨(some 70),(.dL 1 (.t 64) (.t 69)),none,251008018,[251008021,251008022,251008024]⟩ (.one ⟨(some 71),(.load false 1 (.t 70)),none,251008019,[251008021,251008022,251008024]⟩ (.one ⟨(some 72),(.dm (.t 6)),none,251008020,[251008021,251008022,251008024]⟩ (.one ⟨(some 73),(.l5 1 1 [(.t 72)]),none,251008021,[251008022,251008024]⟩ (.both (.one ⟨(some 55),(.load false 1 (.t 54)),none,251008003,[251008021,251008022,251008024]⟩ (.both (.one ⟨(some 58),(.dL 3 (.t 56) (.t 57)),none,251008006,[251008021,251008022,251008024]⟩ (.one ⟨(some 59),(.fU 1 (.t 58)),none,251008007,[251008021,251008022,251008024]⟩ (.both (.one ⟨(some 60),(.load false 1 (.t 59)),none,251008008,[251008021,251008022,251008024]⟩ (.one ⟨(some 74),(.append 1 (.t 71) (.t 73)),none,251008022,[251008024]⟩ (.one ⟨(some 75),(.dL 1 (.t 55) (.t 60)),none,251008023,[251008024]⟩ (.one ⟨none,(.store 1 (.t 75) (.t 74)),none,251008024,[]⟩ (.eJ false []))))) (.one ⟨(some 74),(.append 1 (.t 71) (.t 73)),none,251008022,[251008024]⟩ (.one ⟨(some 60),(.load false 1 (.t 59)),none,251008008,[251008021,251008022,251008024]⟩ (.one ⟨(some 75),(.dL 1 (.t 55) (.t 60)),none,251008023,[251008024]⟩ (.one ⟨none,(.store 1 (.t 75) (.t 74)),none,251008024,[]⟩ (.eJ false [])))))))) (.one ⟨(some 74),(.append 1 (.t 71) (.t 73)),none,251008022,[251008024]⟩ (.one ⟨(some 58),(.dL 3 (.t 56) (.t 57)),none,251008006,[251008021,251008022,251008024]⟩ (.one ⟨(some 59),(.fU 1 (.t 58)),none,251008007,[251008021,251008022,251008024]⟩ (.one ⟨(some 60),(.load false 1 (.t 59)),none,251008008,[251008021,251008022,251008024]⟩ (.one ⟨(some 75),(.dL 1 (.t 55) (.t 60)),none,251008023,[251008024]⟩ (.one ⟨none,(.store 1 (.t 75) (.t 74)),none,251008024,[]⟩ (.eJ false []))))))))) (.both (.one ⟨(some 58),(.dL 3 (.t 56) (.t 57)),none,251008006,[251008021,251008022,251008024]⟩ (.one ⟨(some 59),(.fU 1 (.t 58)),none,251008007,[251008021,251008022,251008024]⟩ (.both (.one ⟨(some 55),(.load false 1 (.t 54)),none,251008003,[251008021,251008022,251008024]⟩ (.both (.one ⟨(some 60),(.load false 1 (.t 59)),none,251008008,[251008021,251008022,251008024]⟩ (.one ⟨(some 74),(.append 1 (.t 71) (.t 73)),none,251008022,[251008024]⟩ (.one ⟨(some 75),(.dL 1 (.t 55) (.t 60)),none,251008023,[251008024]⟩ (.one ⟨none,(.store 1 (.t 75) (.t 74)),none,251008024,[]⟩ (.eJ false []))))) (.one ⟨(some 74),(.append 1 (.t 71) (.t 73)),none,251008022,[251008024]⟩ (.one ⟨(some 60),(.load false 1 (.t 59)),none,251008008,[251008021,251008022,251008024]⟩ (.one ⟨(some 75),(.dL 1 (.t 55) (.t 60)),none,251008023,[251008024]⟩ (.one ⟨none,(.store 1 (.t 75) (.t 74)),none,251008024,[]⟩ (.eJ false []))))))) (.both (.one ⟨(some 60),(.load false 1 (.t 59)),none,251008008,[251008021,251008022,251008024]⟩ (.both (.one ⟨(some 55),(.load false 1 (.t 54)),none,251008003,[251008021,251008022,251008024]⟩ (.one ⟨(some 74),(.append 1 (.t 71) (.t 73)),none,251008022,[251008024]⟩ (.one ⟨(some 75),(.dL 1 (.t 55) (.t 60)),none,251008023,[251008024]⟩ (.one ⟨none,(.store 1 (.t 75) (.t 74)),none,251008024,[]⟩ (.eJ false []))))) (.one ⟨(some 74),(.append 1 (.t 71) (.t 73)),none,251008022,[251008024]⟩ (.one ⟨(some 55),(.load false 1 (.t 54)),none,251008003,[251008021,251008022,251008024]⟩ (.one ⟨(some 75),(.dL 1 (.t 55) (.t 60)),none,251008023,[251008024]⟩ (.one ⟨none,(.store 1 (.t 75) (.t 74)),none,251008024,[]⟩ (.eJ false []))))))) (.one ⟨(some 74),(.append 1 (.t 71) (.t 73)),none,251008022,[251008024]⟩ (.one ⟨(some 55),(.load false 1 (.t 54)),none,251008003,[251008021,251008022,251008024]⟩ (.one ⟨(some 60),(.load false 1 (.t 59)),none,251008008,[251008021,251008022,251008024]⟩ (.one ⟨(some 75),(.dL 1 (.t 55) (.t 60)),none,251008023,[251008024]⟩ (.one ⟨none,(.store 1 (.t 75) (.t 74)),none,251008024,[]⟩ (.eJ false [])))))))))) (.one ⟨(some 74),(.append 1 (.t 71) (.t 73)),none,251008022,[251008024]⟩ (.one ⟨(some 55),(.load false 1 (.t 54)),none,251008003,[251008021,251008022,251008024]⟩ (.one ⟨(some 58),(.dL 3 (.t 56) (.t 57)),none,251008006,[251008021,251008022,251008024]⟩ (.one ⟨(some 59),(.fU 1 (.t 58)),none,251008007,[251008021,251008022,251008024]⟩ (.one ⟨(some 60),(.load false 1 (.t 59)),none,251008008,[251008021,251008022,251008024]⟩ (.one ⟨(some 75),(.dL 1 (.t 55) (.t 60)),none,251008023,[251008024]⟩ (.one ⟨none,(.store 1 (.t 75) (.t 74)),none,251008024,[]⟩ (.eJ false [])))))))))))))))))))))))))))))) (.eJ false [q 26 (.dm (.t 6)) 251006000,q 27 (.bin .add .i64 (.t 26) (.k (.int .i64 1))) 251006001,q 6 (.dm (.t 27)) 251006002])))))) (.seq (.eJ false [q 76 (.dm (.t 5)) 251009000,q 4 (.dm (.t 76)) 251009001]) .ret)))))),[(.tmp 4)]⟩
theorem NY:xU Tryz.prog 251 [(7,2),(8,2)]=some PJ:=by kernel_rfl
def PK:A7:=⟨118,2,(.seq (.eJ false [q 4 (.dm (.k .bl)) 320000000]) (.seq (.eJ false [q 17 (.dm (.t 0)) 320001000,q 18 (.j7 [.gT] (.t 17) (.t 17)) 320001001,q 5 (.dm (.t 18)) 320001002]) (.seq (.seq (.eJ false [q 19 (.dm (.t 5)) 320002000,q 20 (.len (.t 19)) 320002001,q 21 (.dm (.k (.int .i64 0))) 320002002]) (.block 0 (.loop (.seq (.eJ false [q 22 (.bin .lss .i64 (.t 21) (.t 20)) 320003000]) (.seq (.cond (.t 22) .skip (.exit 0)) (.seq (.block 1 (.seq (.eJ false [q 23 (.dm (.t 21)) 320004000,q 6 (.dm (.t 23)) 320004001]) (.eJ false [q 24 (.dm (.t 5)) 320005000,q 25 (.dm (.t 6)) 320005001,q 26 (.dm (.t 6)) 320005002,q 27 (.build [.gT,(.int .i64 0)] [(1,(1,(.t 26)))]) 320005003,q 28 (.box (.t 27)) 320005004,q 29 (.dL 1 (.t 24) (.t 25)) 320005005,⟨none,(.store 1 (.t 29) (.t 28)),none,320005006,[]⟩]))) (.eJ false [q 30 (.bin .add .i64 (.t 21) (.k (.int .i64 1))) 320006000,q 21 (.dm (.t 30)) 320006001]))))))) (.seq (.seq (.eJ false [q 31 (.dm (.t 1)) 320007000,q 32 (.len (.t 31)) 320007001,q 33 (.dm (.k (.int .i64 0))) 320007002]) (.block 2 (.loop (.seq (.eJ false [q 34 (.bin .lss .i64 (.t 33) (.t 32)) 320008000]) (.seq (.cond (.t 34) .skip (.exit 2)) (.seq (.block 3 (.seq (.eJ false [q 35 (.dL 3 (.t 31) (.t 33)) 320009000,q 36 (.load true 3 (.t 35)) 320009001,q 8 (.new [(.int .i64 0),(.int .i64 0),(.int .i64 0)]) 320009002,⟨none,(.store 3 (.t 8) (.t 36)),none,320009003,[]⟩]) (.seq (.one (q 37 (.dm (.t 5)) 320010000) (.one (q 38 (.fU 0 (.t 8)) 320010001) (.one (q 39 (.load false 1 (.t 38)) 320010002) (.one (q 40 (.dL 1 (.t 37) (.t 39)) 320010003) (.one (q 41 (.load false 1 (.t 40)) 320010004) (.one (q 43 (.dm (.t 5)) 320010006) (.one (q 44 (.fU 1 (.t 8)) 320010007) (.both (.one (q 42 (.call 334 [(.t 41)]) 320010005) (.one (q 45 (.load false 1 (.t 44)) 320010008) (.one (q 46 (.dL 1 (.t 43) (.t 45)) 320010009) (.one (q 47 (.load false 1 (.t 46)) 320010010) (.one (q 48 (.call 334 [(.t 47)]) 320010011) (.one (q 9 (.dm (.t 42)) 320010012) (.one (q 10 (.dm (.t 48)) 320010013) (.eJ false [])))))))) (.one (q 45 (.load false 1 (.t 44)) 320010008) (.both (.one (q 42 (.call 334 [(.t 41)]) 320010005) (.one (q 46 (.dL 1 (.t 43) (.t 45)) 320010009) (.one (q 47 (.load false 1 (.t 46)) 320010010) (.one (q 48 (.call 334 [(.t 47)]) 320010011) (.one (q 9 (.dm (.t 42)) 320010012) (.one (q 10 (.dm (.t 48)) 320010013) (.eJ false []))))))) (.one (q 46 (.dL 1 (.t 43) (.t 45)) 320010009) (.both (.one (q 42 (.call 334 [(.t 41)]) 320010005) (.one (q 47 (.load false 1 (.t 46)) 320010010) (.one (q 48 (.call 334 [(.t 47)]) 320010011) (.one (q 9 (.dm (.t 42)) 320010012) (.one (q 10 (.dm (.t 48)) 320010013) (.eJ false [])))))) (.one (q 47 (.load false 1 (.t 46)) 320010010) (.one (q 42 (.call 334 [(.t 41)]) 320010005) (.one (q 48 (.call 334 [(.t 47)]) 320010011) (.one (q 9 (.dm (.t 42)) 320010012) (.one (q 10 (.dm (.t 48)) 320010013) (.eJ false [])))))))))))))))))) (.block 4 (.seq (.eJ true [q 50 (.dm (.t 9)) 320011000,q 51 (.A8 (.t 50)) 320011001,q 52 (.fU 1 (.t 51)) 320011002,q 53 (.load false 1 (.t 52)) 320011003,q 54 (.dm (.t 10)) 320011004,q 55 (.A8 (.t 54)) 320011005,q 56 (.fU 1 (.t 55)) 320011006,q 57 (.load false 1 (.t 56)) 320011007,q 58 (.bin .lss .i64 (.t 53) (.t 57)) 320011008,q 49 (.dm (.t 58)) 320011009]) (.cond (.t 49) (.eJ false [q 59 (.dm (.t 10)) 320012000,q 60 (.dm (.t 9)) 320012001,q 61 (.A8 (.t 59)) 320012002,q 62 (.fU 0 (.t 61)) 320012003,⟨none,(.store 1 (.t 62) (.t 60)),none,320012004,[]⟩]) (.seq (.eJ true [q 64 (.dm (.t 10)) 320013000,q 65 (.A8 (.t 64)) 320013001,q 66 (.fU 1 (.t 65)) 320013002,q 67 (.load false 1 (.t 66)) 320013003,q 68 (.dm (.t 9)) 320013004,q 69 (.A8 (.t 68)) 320013005,q 70 (.fU 1 (.t 69)) 320013006,q 71 (.load false 1 (.t 70)) 320013007,q 72 (.bin .lss .i64 (.t 67) (.t 71)) 320013008,q 63 (.dm (.t 72)) 320013009]) (.cond (.t 63) (.eJ false [q 73 (.dm (.t 9)) 320014000,q 74 (.dm (.t 10)) 320014001,q 75 (.A8 (.t 73)) 320014002,q 76 (.fU 0 (.t 75)) 320014003,⟨none,(.store 1 (.t 76) (.t 74)),none,320014004,[]⟩]) .skip)))))))) (.eJ false [q 77 (.bin .add .i64 (.t 33) (.k (.int .i64 1))) 320015000,q 33 (.dm (.t 77)) 320015001]))))))) (.seq (.eJ false [q 11 (.dm (.k .bl)) 320016000]) (.seq (.eJ false [⟨(some 78),(.mq (.new ⟨false,[.tI]⟩) []),none,320017000,[]⟩,q 12 (.dm (.t 78)) 320017001]) (.seq (.seq (.eJ false [q 79 (.dm (.t 5)) 320018000,q 80 (.len (.t 79)) 320018001,q 81 (.dm (.k (.int .i64 0))) 320018002]) (.block 5 (.loop (.seq (.eJ false [q 82 (.bin .lss .i64 (.t 81) (.t 80)) 320019000]) (.seq (.cond (.t 82) .skip (.exit 5)) (.seq (.block 6 (.seq (.eJ false [q 83 (.dm (.t 81)) 320020000,q 84 (.dL 1 (.t 79) (.t 81)) 320020001,q 85 (.load false 1 (.t 84)) 320020002,q 13 (.dm (.t 83)) 320020003,q 14 (.dm (.t 85)) 320020004]) (.seq (.eJ false [q 87 (.dm (.t 12)) 320021000,q 88 (.dm (.t 14)) 320021001,q 89 (.call 334 [(.t 88)]) 320021002,q 90 (.A8 (.t 89)) 320021003,q 91 (.fU 1 (.t 90)) 320021004,q 92 (.load false 1 (.t 91)) 320021005,⟨(some 93),(.mq (.look ⟨false,[.tI]⟩ true (.int .i64 0)) [(.t 87),(.t 92)]),none,320021006,[]⟩,q 86 (.dm (.t 93)) 320021007,q 94 (.extract 0 (.t 86)) 320021008,q 95 (.extract 1 (.t 86)) 320021009,q 15 (.dm (.t 94)) 320021010,q 16 (.dm (.t 95)) 320021011]) (.seq (.seq (.eJ false [q 96 (.dm (.t 16)) 320022000,q 97 (.not (.t 96)) 320022001]) (.cond (.t 97) (.seq (.eJ false [q 98 (.dm (.t 11)) 320023000,q 99 (.len (.t 98)) 320023001,q 15 (.dm (.t 99)) 320023002]) (.seq (.eJ false [q 100 (.dm (.t 12)) 320024000,q 101 (.dm (.t 13)) 320024001,q 102 (.dm (.t 15)) 320024002,⟨none,(.mw (.set ⟨false,[.tI]⟩) [(.t 100),(.t 101),(.t 102)]),none,320024003,[]⟩]) (.eJ false [q 103 (.dm (.t 11)) 320025000,q 104 (.l5 1 1 [(.k .bl)]) 320025001,q 105 (.append 1 (.t 103) (.t 104)) 320025002,q 11 (.dm (.t 105)) 320025003]))) .skip)) (.eJ false [q 106 (.dm (.t 11)) 320026000,q 107 (.dm (.t 15)) 320026001,q 108 (.dm (.t 11)) 320026002,q 109 (.dm (.t 15)) 320026003,q 110 (.dL 1 (.t 108) (.t 109)) 320026004,q 111 (.load false 1 (.t 110)) 320026005,q 112 (.dm (.t 13)) 320026006,q 113 (.l5 1 1 [(.t 112)]) 320026007,q 114 (.append 1 (.t 111) (.t 113)) 320026008,q 115 (.dL 1 (.t 106) (.t 107)) 320026009,⟨none,(.store 1 (.t 115) (.t 114)),none,320026010,[]⟩]))))) (.eJ false [q 116 (.bin .add .i64 (.t 81) (.k (.int .i64 1))) 320027000,q 81 (.dm (.t 116)) 320027001]))))))) (.seq (.eJ false [q 117 (.dm (.t 11)) 320028000,q 4 (.dm (.t 117)) 320028001]) .ret)))))))),[(.tmp 4)]⟩
theorem NZ:xU Tryz.prog 320 [(10,2)]=some PK:=by kernel_rfl
end Go.Proofs.YtgoljkjaameagaaGreat.V

namespace Go.Proofs.YtgoljkjaameagaaGreat.V
open Go.RowKit
attribute [local irreducible] dI wpOps gy Call
attribute [local go_sem] aM fG eQ fZ fY cQ upd cC K.av cP AV.cells AV.cell rowOf rowsOf part ld rowAt bt cu dE ee ik bJ dh ew fX eX dp ej dd dc dQ dR bQ bf cW bP cY cX eh ek ei cV b4 de ef bK aP da cG ij bw cK bU aY dn bc dF AV.undef bF bI dS ec dM dK cH ev eA cF ep eo cZ db List.getD_cons_zero List.getD_cons_succ List.getD_nil List.all_cons List.all_nil Bool.and_true Bool.true_and Bool.and_self Bool.not_true Bool.not_false Option.map_some Option.map_none Option.bind_some Option.bind_none List.length_cons List.length_nil List.take_succ_cons List.take_zero List.take_nil List.drop_succ_cons List.drop_zero List.drop_nil List.head?_cons List.map_cons List.map_nil List.getElem?_cons_zero List.getElem?_cons_succ List.cons_append List.nil_append List.append_nil List.length_map List.set_cons_zero List.set_cons_succ Nat.reduceMul eq_self Int.toNat_natCast Int.natCast_nonneg and_self true_and and_true decide_true decide_false Bool.false_eq_true Nat.zero_add Nat.add_zero List.contains_cons List.contains_nil Bool.or_false Bool.false_or beq_self_eq_true Nat.reduceBEq ne_eq not_true_eq_false not_false_eq_true Id.mk.injEq false_and and_false Nat.reduceLT Int.reduceLE Int.reduceLT Int.reduceToNat Int.reduceNeg Int.reduceAdd Nat.le_refl List.length_append beq_true beq_false Bool.not_eq_eq_eq_not or_false false_or dJ ai aj aD bp bE cq aT bd aX bj cR bG
theorem BO (x:fB) (g:Rows):cJ g 6 [.agg (bV x)]=some [.agg (bV x)]:=by simp[bV,ai,aj,bd,bE,aD]
theorem BP (x:eT) (g:Rows):cJ g 6 [.agg (bH x)]=some [.agg (bH x)]:=by simp[bH,ai,aj,bd,bE,cq]
theorem wz (x:ad) (g:Rows):cJ g 6 [.agg (aa x)]=some [.agg (aa x)]:=by simp[aa,ai,aj,bd,aD]
theorem iF {n:Nat} {l:Int} (h:(n:Int)<=l):yh n l=l-n:=if_pos h
theorem iK {n:Nat} {l:Int} (h:¬(n:Int)<=l):yh n l= -1:=if_neg h
def kG (t:eT):Nat:=t.aE.size+t.bx.length
def uN (s:aw):Nat:=(s.ax.length+(s.ax.map fun g=>g.aE.size).sum)+(s.ah.length+(s.ah.map kG).sum)
def xH (s:az):Nat:=uN s.aH+s.aZ.ah.length
def fC (s:aw):Prop:=(∀g∈s.ax,g.aE.size<=9223372036854775807)/\∀t∈s.ah,t.aE.size<=9223372036854775807
theorem Kj (g:fB) (l:Int) (h0:0<=l) (h1:l<=1048576) (hs:g.aE.size<=9223372036854775807):aq Tryz.prog 187 [.agg (bV g),.int .i64 l] (.int .i64 (yh g.aE.size l)):=by
 refine aq.body dX rfl fun hl n0=>?_
 clear hl
 have hw:IntKind.i64.wrap (l-(g.aE.size:Int))=l-g.aE.size:=bz (by omega)
 by_cases hf:(g.aE.size:Int)<=l
 ·have kI:¬l-(g.aE.size:Int)<0:=by omega
  (try((repeat(revert hN;revert N;apply Pn.out));refine wk (tw @bV.eq_1 (tw @hw @kI)) ?_;(repeat(refine Pn.mk ?_;intro N hN))))
  exact bW (b:=l-(g.aE.size:Int)) (.inl rfl) (sd @Nat.zero_add) (iF hf).symm
 ·have kI:l-(g.aE.size:Int)<0:=by omega
  (try((repeat(revert hN;revert N;apply Pn.out));refine wk (tw @bV.eq_1 (tw @hw @kI)) ?_;(repeat(refine Pn.mk ?_;intro N hN))))
  exact bW (b:=-1) (.inl rfl) (sd @Nat.zero_add) (iK hf).symm
theorem Kk (xs:List Int) (l:Int) (h0:0<=l) (h1:l<=1048576):aq Tryz.prog 140 [.sl (xs.map bh),.int .i64 l] (.int .i64 (yh xs.length l)):=by
 have h:=Km (show me Tryz.prog 140=some (Kl 140) by kernel_rfl) (xs.map bh) l h0 h1
 rwa [List.length_map]at h
theorem Kp (t:eT) (l:Int) (h0:0<=l) (h1:l<=1048576) (hs:t.aE.size<=9223372036854775807):aq Tryz.prog 188 [.agg (bH t),.int .i64 l] (.int .i64 (yh (kG t) l)):=by
 refine aq.body dX rfl fun hl n0=>?_
 clear hl
 have hw:IntKind.i64.wrap (l-(t.aE.size:Int))=l-t.aE.size:=bz (by omega)
 by_cases hf:(t.aE.size:Int)<=l
 ·have kI:¬l-(t.aE.size:Int)<0:=by omega
  have hc:=Kk t.bx (l-t.aE.size) (by omega) (by omega)
  by_cases hg:(t.bx.length:Int)<=l-t.aE.size
  ·rw[iF hg]at hc
   have Fw:¬l-(t.aE.size:Int)-(t.bx.length:Int)<0:=by omega
   (repeat(first|((repeat(revert hN;revert N;apply Pn.out));refine wk (tw @bH.eq_1 (tw @hw (tw @kI @Fw))) ?_;(repeat(refine Pn.mk ?_;intro N hN)))|((try apply Or.inl);refine⟨_,aq.x (hc) (sd (tw @bH.eq_1 (tw @hw (tw @kI @Fw)))),?_⟩;refine hN _ _ ?_;clear hN N)))
   exact bW (b:=l-(t.aE.size:Int)-(t.bx.length:Int)) (.inl rfl) (sd @Nat.zero_add) (by rw[iF (by unfold kG;omega)];unfold kG;omega)
  ·rw[iK hg]at hc
   (repeat(first|((repeat(revert hN;revert N;apply Pn.out));refine wk (tw @bH.eq_1 (tw @hw @kI)) ?_;(repeat(refine Pn.mk ?_;intro N hN)))|((try apply Or.inl);refine⟨_,aq.x (hc) (sd (tw @bH.eq_1 (tw @hw @kI))),?_⟩;refine hN _ _ ?_;clear hN N)))
   exact bW (b:=-1) (.inl rfl) (sd @Nat.zero_add) (iK (by unfold kG;omega)).symm
 ·have kI:l-(t.aE.size:Int)<0:=by omega
  (try((repeat(revert hN;revert N;apply Pn.out));refine wk (tw @bH.eq_1 (tw @hw @kI)) ?_;(repeat(refine Pn.mk ?_;intro N hN))))
  exact bW (b:=-1) (.inl rfl) (sd @Nat.zero_add) (iK (by unfold kG;omega)).symm
theorem Hw (xs:List fB) (l:Int) (h0:0<=l) (h1:l<=1048576) (hs:∀g∈xs,g.aE.size<=9223372036854775807):aq Tryz.prog 120 [.sl (xs.map bV),.int .i64 l] (.int .i64 (yh (xs.length+(xs.map fun g=>g.aE.size).sum) l)):=
 Ko (fun g:fB=>g.aE.size) (show me Tryz.prog 120=some (Kn 120 187 2) by kernel_rfl) (fun _=>rfl) BO xs l h0 h1 fun x hx l a b=>Kj x l a b (hs x hx)
theorem Hx (xs:List eT) (l:Int) (h0:0<=l) (h1:l<=1048576) (hs:∀t∈xs,t.aE.size<=9223372036854775807):aq Tryz.prog 121 [.sl (xs.map bH),.int .i64 l] (.int .i64 (yh (xs.length+(xs.map kG).sum) l)):=
 Ko kG (show me Tryz.prog 121=some (Kn 121 188 2) by kernel_rfl) (fun _=>rfl) BP xs l h0 h1 fun x hx l a b=>Kp x l a b (hs x hx)
theorem EL (xs:List ad) (l:Int) (h0:0<=l) (h1:l<=1048576):aq Tryz.prog 76 [.sl (xs.map aa),.int .i64 l] (.int .i64 (yh xs.length l)):=by
 have h:=Km (show me Tryz.prog 76=some (Kl 76) by kernel_rfl) (xs.map aa) l h0 h1
 rwa [List.length_map]at h
theorem CQ (s:aw) (l:Int) (h0:0<=l) (h1:l<=1048576) (hs:fC s):aq Tryz.prog 61 [.agg (ab s),.int .i64 l] (.int .i64 (yh (uN s) l)):=by
 refine aq.body dX rfl fun hl n0=>?_
 clear hl
 have ha:=Hw s.ax l h0 h1 hs.1
 have he:uN s=(s.ax.length+(s.ax.map fun g=>g.aE.size).sum)+(s.ah.length+(s.ah.map kG).sum):=rfl
 by_cases hf:((s.ax.length+(s.ax.map fun g=>g.aE.size).sum:Nat):Int)<=l
 ·rw[iF hf]at ha
  obtain⟨A,hA⟩:∃A:Int,A=l-((s.ax.length+(s.ax.map fun g=>g.aE.size).sum:Nat):Int):=⟨_,rfl⟩
  rw[<-hA]at ha
  have kI:¬A<0:=by omega
  have hb:=Hx s.ah A (by omega) (by omega) hs.2
  by_cases hg:((s.ah.length+(s.ah.map kG).sum:Nat):Int)<=A
  ·rw[iF hg]at hb
   obtain⟨B,hB⟩:∃B:Int,B=A-((s.ah.length+(s.ah.map kG).sum:Nat):Int):=⟨_,rfl⟩
   rw[<-hB]at hb
   have Fw:¬B<0:=by omega
   (repeat(first|((repeat(revert hN;revert N;apply Pn.out));refine wk (tw @ab.eq_1 (tw @kI @Fw)) ?_;(repeat(refine Pn.mk ?_;intro N hN)))|((try apply Or.inl);refine⟨_,aq.x (ha) (sd (tw @ab.eq_1 (tw @kI @Fw))),?_⟩;refine hN _ _ ?_;clear hN N)|((try apply Or.inl);refine⟨_,aq.x (hb) (sd (tw @ab.eq_1 (tw @kI @Fw))),?_⟩;refine hN _ _ ?_;clear hN N)))
   exact bW (b:=B) (.inl rfl) (sd @Nat.zero_add) (by rw[iF (by omega)];omega)
  ·rw[iK hg]at hb
   (repeat(first|((repeat(revert hN;revert N;apply Pn.out));refine wk (tw @ab.eq_1 @kI) ?_;(repeat(refine Pn.mk ?_;intro N hN)))|((try apply Or.inl);refine⟨_,aq.x (ha) (sd (tw @ab.eq_1 @kI)),?_⟩;refine hN _ _ ?_;clear hN N)|((try apply Or.inl);refine⟨_,aq.x (hb) (sd (tw @ab.eq_1 @kI)),?_⟩;refine hN _ _ ?_;clear hN N)))
   exact bW (b:=-1) (.inl rfl) (sd @Nat.zero_add) (iK (by omega)).symm
 ·rw[iK hf]at ha
  (repeat(first|((repeat(revert hN;revert N;apply Pn.out));refine wk @ab.eq_1 ?_;(repeat(refine Pn.mk ?_;intro N hN)))|((try apply Or.inl);refine⟨_,aq.x (ha) (sd @ab.eq_1),?_⟩;refine hN _ _ ?_;clear hN N)))
  exact bW (b:=-1) (.inl rfl) (sd @Nat.zero_add) (iK (by omega)).symm
theorem sw (a:dP) (l:Int) (h0:0<=l) (h1:l<=1048576):aq Tryz.prog 14 [.agg (aQ a),.int .i64 l] (.int .i64 (yh a.ah.length l)):=by
 refine aq.body dX rfl fun hl n0=>?_
 clear hl
 have ha:=EL a.ah l h0 h1
 by_cases hf:(a.ah.length:Int)<=l
 ·rw[iF hf]at ha
  have kI:¬l-(a.ah.length:Int)<0:=by omega
  (repeat(first|((repeat(revert hN;revert N;apply Pn.out));refine wk (tw @aQ.eq_1 @kI) ?_;(repeat(refine Pn.mk ?_;intro N hN)))|((try apply Or.inl);refine⟨_,aq.x (ha) (sd (tw @aQ.eq_1 @kI)),?_⟩;refine hN _ _ ?_;clear hN N)))
  exact bW (b:=l-(a.ah.length:Int)) (.inl rfl) (sd @Nat.zero_add) (iF hf).symm
 ·rw[iK hf]at ha
  (repeat(first|((repeat(revert hN;revert N;apply Pn.out));refine wk @aQ.eq_1 ?_;(repeat(refine Pn.mk ?_;intro N hN)))|((try apply Or.inl);refine⟨_,aq.x (ha) (sd @aQ.eq_1),?_⟩;refine hN _ _ ?_;clear hN N)))
  exact bW (b:=-1) (.inl rfl) (sd @Nat.zero_add) (iK hf).symm
theorem EM (s:az) (l:Int) (h0:0<=l) (h1:l<=1048576) (hs:fC s.aH):aq Tryz.prog 13 [.agg (au s),.int .i64 l] (.int .i64 (yh (xH s) l)):=by
 refine aq.body dX rfl fun hl n0=>?_
 clear hl
 have ha:=CQ s.aH l h0 h1 hs
 rw[ab]at ha
 have he:xH s=uN s.aH+s.aZ.ah.length:=rfl
 by_cases hf:(uN s.aH:Int)<=l
 ·rw[iF hf]at ha
  have kI:¬l-(uN s.aH:Int)<0:=by omega
  have hb:=sw s.aZ (l-uN s.aH) (by omega) (by omega)
  rw[aQ]at hb
  by_cases hg:(s.aZ.ah.length:Int)<=l-uN s.aH
  ·rw[iF hg]at hb
   have Fw:¬l-(uN s.aH:Int)-(s.aZ.ah.length:Int)<0:=by omega
   (repeat(first|((repeat(revert hN;revert N;apply Pn.out));refine wk (tw @au.eq_1 (tw @kI @Fw)) ?_;(repeat(refine Pn.mk ?_;intro N hN)))|((try apply Or.inl);refine⟨_,aq.x (ha) (sd (tw @au.eq_1 (tw @kI @Fw))),?_⟩;refine hN _ _ ?_;clear hN N)|((try apply Or.inl);refine⟨_,aq.x (hb) (sd (tw @au.eq_1 (tw @kI @Fw))),?_⟩;refine hN _ _ ?_;clear hN N)))
   exact bW (b:=l-(uN s.aH:Int)-(s.aZ.ah.length:Int)) (.inl rfl) (sd @Nat.zero_add) (by rw[iF (by omega)];omega)
  ·rw[iK hg]at hb
   (repeat(first|((repeat(revert hN;revert N;apply Pn.out));refine wk (tw @au.eq_1 @kI) ?_;(repeat(refine Pn.mk ?_;intro N hN)))|((try apply Or.inl);refine⟨_,aq.x (ha) (sd (tw @au.eq_1 @kI)),?_⟩;refine hN _ _ ?_;clear hN N)|((try apply Or.inl);refine⟨_,aq.x (hb) (sd (tw @au.eq_1 @kI)),?_⟩;refine hN _ _ ?_;clear hN N)))
   exact bW (b:=-1) (.inl rfl) (sd @Nat.zero_add) (iK (by omega)).symm
 ·rw[iK hf]at ha
  (repeat(first|((repeat(revert hN;revert N;apply Pn.out));refine wk @au.eq_1 ?_;(repeat(refine Pn.mk ?_;intro N hN)))|((try apply Or.inl);refine⟨_,aq.x (ha) (sd @au.eq_1),?_⟩;refine hN _ _ ?_;clear hN N)))
  exact bW (b:=-1) (.inl rfl) (sd @Nat.zero_add) (iK (by omega)).symm
theorem Mx (x:fB) (g:Rows):cJ g 5 (bV x)=some (bV x):=by simp[bV,ai,aj,bE,aD]
theorem My (x:eT) (g:Rows):cJ g 5 (bH x)=some (bH x):=by simp[bH,ai,aj,bE,cq]
theorem Hh (x:ad) (g:Rows):cJ g 5 (aa x)=some (aa x):=by simp[aa,ai,aj,aD]
theorem zw (p:aI):jO Tryz.prog 109 [.agg (ae p)] (.agg (ae p)):=by
 refine jO.body dX rfl fun hl σ=>?_
 clear hl
 (try((repeat(revert hN;revert N;apply Pn.out));refine wk @ae.eq_1 ?_;(repeat(refine Pn.mk ?_;intro N hN))))
 exact uM (.inl rfl) (vs:=[.agg (ae p)]) (by simp only[go_sem, ↓reduceIte,Nat.reduceEqDiff,Nat.reduceAdd,Nat.reduceSub,Nat.reduceLeDiff,reduceCtorEq,fu,iv,ae]) (by simp[fa,ae,bd,ai,aj,aD])
theorem EP (p:ad):jO Tryz.prog 149 [.agg (aa p)] (.agg (aa p)):=by
 refine jO.body dX rfl fun hl σ=>?_
 clear hl
 have h:=zw p.aO
 rw[ae]at h
 (repeat(first|((repeat(revert hN;revert N;apply Pn.out));refine wk @aa.eq_1 ?_;(repeat(refine Pn.mk ?_;intro N hN)))|((try apply Or.inl);refine⟨_,jO.x (h) _,?_⟩;refine hN _ _ ?_;clear hN N)))
 exact uM (.inl rfl) (vs:=[.agg (aa p)]) (by simp only[go_sem, ↓reduceIte,Nat.reduceEqDiff,Nat.reduceAdd,Nat.reduceSub,Nat.reduceLeDiff,reduceCtorEq,fu,iv,aa]) (by simp[fa,aa,bd,ai,aj,aD])
theorem Ky (p:fB):jO Tryz.prog 197 [.agg (bV p)] (.agg (bV p)):=by
 refine jO.body dX rfl fun hl σ=>?_
 clear hl
 (try((repeat(revert hN;revert N;apply Pn.out));refine wk @bV.eq_1 ?_;(repeat(refine Pn.mk ?_;intro N hN))))
 exact uM (.inl rfl) (vs:=[.agg (bV p)]) (by simp only[go_sem, ↓reduceIte,Nat.reduceEqDiff,Nat.reduceAdd,Nat.reduceSub,Nat.reduceLeDiff,reduceCtorEq,fu,iv,bV]) (by simp[fa,bV,bd,ai,aj,aD,bE])
theorem KA (xs:List Int) (h:xs.length<=1048576):jO Tryz.prog 17 [.sl (xs.map bh)] (.sl (xs.map bh)):=
 Sk (show me Tryz.prog 17=some (KB 17 (.int .i64 0)) by kernel_rfl) xs h
def sU (t:eT):Prop:=t.bx.length<=1048576
theorem KD (p:eT) (hs:sU p):jO Tryz.prog 198 [.agg (bH p)] (.agg (bH p)):=by
 refine jO.body dX rfl fun hl σ=>?_
 clear hl
 have h:=KA p.bx hs
 (repeat(first|((repeat(revert hN;revert N;apply Pn.out));refine wk @bH.eq_1 ?_;(repeat(refine Pn.mk ?_;intro N hN)))|((try apply Or.inl);refine⟨_,jO.x (h) _,?_⟩;refine hN _ _ ?_;clear hN N)))
 exact uM (.inl rfl) (vs:=[.agg (bH p)]) (by simp only[go_sem, ↓reduceIte,Nat.reduceEqDiff,Nat.reduceAdd,Nat.reduceSub,Nat.reduceLeDiff,reduceCtorEq,fu,iv,bH]) (by simp[fa,bH,bd,ai,aj,cq,bE])
theorem BE (xs ys:List Int):aq Tryz.prog 20 [.sl (xs.map bh),.sl (ys.map bh)] (.bool (decide (xs=ys))):=
 QX (show me Tryz.prog 20=some (M4 20 .tI) by kernel_rfl) xs ys
theorem IG (a b:eT):aq Tryz.prog 212 [.agg (bH a),.agg (bH b)] (.bool (decide (a=b))):=by
 refine aq.body dX rfl fun hl n0=>?_
 clear hl
 have h:=BE a.bx b.bx
 by_cases h1:a.aE=b.aE
 ·have e1:decide (a.aE=b.aE)=true:=decide_eq_true h1
  by_cases h2:a.bx=b.bx
  ·rw[decide_eq_true h2]at h
   (repeat(first|((repeat(revert hN;revert N;apply Pn.out));refine wk (tw @bH.eq_1 @e1) ?_;(repeat(refine Pn.mk ?_;intro N hN)))|((try apply Or.inl);refine⟨_,aq.x (h) (sd (tw @bH.eq_1 @e1)),?_⟩;refine hN _ _ ?_;clear hN N)))
   exact aW (b:=true) (.inl rfl) (sd @Nat.zero_add) (decide_eq_true (by cases a;cases b;simp_all)).symm
  ·rw[decide_eq_false h2]at h
   (repeat(first|((repeat(revert hN;revert N;apply Pn.out));refine wk (tw @bH.eq_1 @e1) ?_;(repeat(refine Pn.mk ?_;intro N hN)))|((try apply Or.inl);refine⟨_,aq.x (h) (sd (tw @bH.eq_1 @e1)),?_⟩;refine hN _ _ ?_;clear hN N)))
   exact aW (b:=false) (.inl rfl) (sd @Nat.zero_add) (decide_eq_false (by rintro rfl;exact h2 rfl)).symm
 ·have e1:decide (a.aE=b.aE)=false:=decide_eq_false h1
  (try((repeat(revert hN;revert N;apply Pn.out));refine wk (tw @bH.eq_1 @e1) ?_;(repeat(refine Pn.mk ?_;intro N hN))))
  exact aW (b:=false) (.inl rfl) (sd @Nat.zero_add) (decide_eq_false (by rintro rfl;exact h1 rfl)).symm
theorem HC (xs:List fB) (h:xs.length<=1048576):jO Tryz.prog 129 [.sl (xs.map bV)] (.sl (xs.map bV)):=
 ER (show me Tryz.prog 129=some (uv 129 197 2 [.str [],.int .i64 0]) by kernel_rfl) rfl (fun _=>rfl) (fun _=>rfl) Mx xs h fun x _=>Ky x
theorem HE (xs:List eT) (h:xs.length<=1048576) (hs:∀t∈xs,sU t):jO Tryz.prog 130 [.sl (xs.map bH)] (.sl (xs.map bH)):=
 ER (show me Tryz.prog 130=some (uv 130 198 2 [.str [],.bl]) by kernel_rfl) rfl (fun _=>rfl) (fun _=>rfl) My xs h fun x hx=>KD x (hs x hx)
theorem CU (xs:List ad) (h:xs.length<=1048576):jO Tryz.prog 80 [.sl (xs.map aa)] (.sl (xs.map aa)):=
 ER (show me Tryz.prog 80=some (uv 80 149 3 [.int .i64 0,.int .i64 0,.int .i64 0]) by kernel_rfl) rfl (fun _=>rfl) (fun _=>rfl) Hh xs h fun x _=>EP x
structure Ib (s:aw):Prop where
 g:s.ax.length<=1048576
 t:s.ah.length<=1048576
 s:∀t∈s.ah,sU t
structure qi (y:az):Prop where
 s:Ib y.aH
 a:y.aZ.ah.length<=1048576
theorem CW (p:aw) (hs:Ib p):jO Tryz.prog 63 [.agg (ab p)] (.agg (ab p)):=by
 refine jO.body dX rfl fun hl σ=>?_
 clear hl
 have h1:=HC p.ax hs.g
 have h2:=HE p.ah hs.t hs.s
 (repeat(first|((repeat(revert hN;revert N;apply Pn.out));refine wk @ab.eq_1 ?_;(repeat(refine Pn.mk ?_;intro N hN)))|((try apply Or.inl);refine⟨_,jO.x (h1) _,?_⟩;refine hN _ _ ?_;clear hN N)|((try apply Or.inl);refine⟨_,jO.x (h2) _,?_⟩;refine hN _ _ ?_;clear hN N)))
 exact uM (.inl rfl) (vs:=[.agg (ab p)]) (by simp only[go_sem, ↓reduceIte,Nat.reduceEqDiff,Nat.reduceAdd,Nat.reduceSub,Nat.reduceLeDiff,reduceCtorEq,fu,iv,ab]) (by simp[fa,ab,bd,ai,aj,cq])
theorem sE (p:dP) (hs:p.ah.length<=1048576):jO Tryz.prog 18 [.agg (aQ p)] (.agg (aQ p)):=by
 refine jO.body dX rfl fun hl σ=>?_
 clear hl
 have h1:=CU p.ah hs
 (repeat(first|((repeat(revert hN;revert N;apply Pn.out));refine wk @aQ.eq_1 ?_;(repeat(refine Pn.mk ?_;intro N hN)))|((try apply Or.inl);refine⟨_,jO.x (h1) _,?_⟩;refine hN _ _ ?_;clear hN N)))
 exact uM (.inl rfl) (vs:=[.agg (aQ p)]) (by simp only[go_sem, ↓reduceIte,Nat.reduceEqDiff,Nat.reduceAdd,Nat.reduceSub,Nat.reduceLeDiff,reduceCtorEq,fu,iv,aQ]) (by simp[fa,aQ,bd,ai,aj,cq])
theorem ET (p:az) (hs:qi p):jO Tryz.prog 16 [.agg (au p)] (.agg (au p)):=by
 refine jO.body dX rfl fun hl σ=>?_
 clear hl
 have h1:=CW p.aH hs.s
 have h2:=sE p.aZ hs.a
 rw[ab]at h1
 rw[aQ]at h2
 (repeat(first|((repeat(revert hN;revert N;apply Pn.out));refine wk @au.eq_1 ?_;(repeat(refine Pn.mk ?_;intro N hN)))|((try apply Or.inl);refine⟨_,jO.x (h1) _,?_⟩;refine hN _ _ ?_;clear hN N)|((try apply Or.inl);refine⟨_,jO.x (h2) _,?_⟩;refine hN _ _ ?_;clear hN N)))
 exact uM (.inl rfl) (vs:=[.agg (au p)]) (by simp only[go_sem, ↓reduceIte,Nat.reduceEqDiff,Nat.reduceAdd,Nat.reduceSub,Nat.reduceLeDiff,reduceCtorEq,fu,iv,au]) (by simp[fa,au,bd,ai,aj,cq,aD])
theorem IE (a b:fB):aq Tryz.prog 211 [.agg (bV a),.agg (bV b)] (.bool (decide (a=b))):=by
 refine aq.body dX rfl fun hl n0=>?_
 clear hl
 by_cases h1:a.aE=b.aE
 ·have e1:decide (a.aE=b.aE)=true:=decide_eq_true h1
  by_cases h2:a.eB=b.eB
  ·have e2:decide (a.eB=b.eB)=true:=decide_eq_true h2
   (try((repeat(revert hN;revert N;apply Pn.out));refine wk (tw @bV.eq_1 (tw @e1 @e2)) ?_;(repeat(refine Pn.mk ?_;intro N hN))))
   exact aW (b:=true) (.inl rfl) (sd @Nat.zero_add) (decide_eq_true (by cases a;cases b;simp_all)).symm
  ·have e2:decide (a.eB=b.eB)=false:=decide_eq_false h2
   (try((repeat(revert hN;revert N;apply Pn.out));refine wk (tw @bV.eq_1 (tw @e1 @e2)) ?_;(repeat(refine Pn.mk ?_;intro N hN))))
   exact aW (b:=false) (.inl rfl) (sd @Nat.zero_add) (decide_eq_false (by rintro rfl;exact h2 rfl)).symm
 ·have e1:decide (a.aE=b.aE)=false:=decide_eq_false h1
  (try((repeat(revert hN;revert N;apply Pn.out));refine wk (tw @bV.eq_1 @e1) ?_;(repeat(refine Pn.mk ?_;intro N hN))))
  exact aW (b:=false) (.inl rfl) (sd @Nat.zero_add) (decide_eq_false (by rintro rfl;exact h1 rfl)).symm
theorem yF (a b:aI):aq Tryz.prog 112 [.agg (ae a),.agg (ae b)] (.bool (decide (a=b))):=by
 refine aq.body dX rfl fun hl n0=>?_
 clear hl
 by_cases h1:a.eZ=b.eZ
 ·have e1:decide (a.eZ=b.eZ)=true:=decide_eq_true h1
  by_cases h2:a.eU=b.eU
  ·have e2:decide (a.eU=b.eU)=true:=decide_eq_true h2
   (try((repeat(revert hN;revert N;apply Pn.out));refine wk (tw @ae.eq_1 (tw @e1 @e2)) ?_;(repeat(refine Pn.mk ?_;intro N hN))))
   exact aW (b:=true) (.inl rfl) (sd @Nat.zero_add) (decide_eq_true (by cases a;cases b;simp_all)).symm
  ·have e2:decide (a.eU=b.eU)=false:=decide_eq_false h2
   (try((repeat(revert hN;revert N;apply Pn.out));refine wk (tw @ae.eq_1 (tw @e1 @e2)) ?_;(repeat(refine Pn.mk ?_;intro N hN))))
   exact aW (b:=false) (.inl rfl) (sd @Nat.zero_add) (decide_eq_false (by rintro rfl;exact h2 rfl)).symm
 ·have e1:decide (a.eZ=b.eZ)=false:=decide_eq_false h1
  (try((repeat(revert hN;revert N;apply Pn.out));refine wk (tw @ae.eq_1 @e1) ?_;(repeat(refine Pn.mk ?_;intro N hN))))
  exact aW (b:=false) (.inl rfl) (sd @Nat.zero_add) (decide_eq_false (by rintro rfl;exact h1 rfl)).symm
theorem Dv (a b:ad):aq Tryz.prog 119 [.agg (aa a),.agg (aa b)] (.bool (decide (a=b))):=by
 refine aq.body dX rfl fun hl n0=>?_
 clear hl
 have h:=yF a.aO b.aO
 rw[ae,ae]at h
 by_cases h1:a.aO=b.aO
 ·rw[decide_eq_true h1]at h
  by_cases h2:a.aV=b.aV
  ·have e2:decide (a.aV=b.aV)=true:=decide_eq_true h2
   (repeat(first|((repeat(revert hN;revert N;apply Pn.out));refine wk (tw @aa.eq_1 @e2) ?_;(repeat(refine Pn.mk ?_;intro N hN)))|((try apply Or.inl);refine⟨_,aq.x (h) (sd (tw @aa.eq_1 @e2)),?_⟩;refine hN _ _ ?_;clear hN N)))
   exact aW (b:=true) (.inl rfl) (sd @Nat.zero_add) (decide_eq_true (by cases a;cases b;simp_all)).symm
  ·have e2:decide (a.aV=b.aV)=false:=decide_eq_false h2
   (repeat(first|((repeat(revert hN;revert N;apply Pn.out));refine wk (tw @aa.eq_1 @e2) ?_;(repeat(refine Pn.mk ?_;intro N hN)))|((try apply Or.inl);refine⟨_,aq.x (h) (sd (tw @aa.eq_1 @e2)),?_⟩;refine hN _ _ ?_;clear hN N)))
   exact aW (b:=false) (.inl rfl) (sd @Nat.zero_add) (decide_eq_false (by rintro rfl;exact h2 rfl)).symm
 ·rw[decide_eq_false h1]at h
  (repeat(first|((repeat(revert hN;revert N;apply Pn.out));refine wk @aa.eq_1 ?_;(repeat(refine Pn.mk ?_;intro N hN)))|((try apply Or.inl);refine⟨_,aq.x (h) (sd @aa.eq_1),?_⟩;refine hN _ _ ?_;clear hN N)))
  exact aW (b:=false) (.inl rfl) (sd @Nat.zero_add) (decide_eq_false (by rintro rfl;exact h1 rfl)).symm
theorem Gr (xs ys:List fB):aq Tryz.prog 136 [.sl (xs.map bV),.sl (ys.map bV)] (.bool (decide (xs=ys))):=
 zU (show me Tryz.prog 136=some (BG 136 211 2) by kernel_rfl) (fun _=>rfl) BO xs ys IE
theorem Gs (xs ys:List eT):aq Tryz.prog 137 [.sl (xs.map bH),.sl (ys.map bH)] (.bool (decide (xs=ys))):=
 zU (show me Tryz.prog 137=some (BG 137 212 2) by kernel_rfl) (fun _=>rfl) BP xs ys IG
theorem tV (xs ys:List ad):aq Tryz.prog 58 [.sl (xs.map aa),.sl (ys.map aa)] (.bool (decide (xs=ys))):=
 zU (show me Tryz.prog 58=some (BG 58 119 3) by kernel_rfl) (fun _=>rfl) wz xs ys Dv
theorem Dw (a:az):aq Tryz.prog 21 [.agg (au a),.agg (au a)] (.bool true):=by
 have q1:aq Tryz.prog 66 [.agg (ab a.aH),.agg (ab a.aH)] (.bool true):=by
  refine aq.body dX rfl fun hl n0=>?_
  clear hl
  have h1:=Gr a.aH.ax a.aH.ax
  have h2:=Gs a.aH.ah a.aH.ah
  rw[decide_eq_true rfl]at h1 h2
  (repeat(first|((repeat(revert hN;revert N;apply Pn.out));refine wk @ab.eq_1 ?_;(repeat(refine Pn.mk ?_;intro N hN)))|((try apply Or.inl);refine⟨_,aq.x (h1) (sd @ab.eq_1),?_⟩;refine hN _ _ ?_;clear hN N)|((try apply Or.inl);refine⟨_,aq.x (h2) (sd @ab.eq_1),?_⟩;refine hN _ _ ?_;clear hN N)))
  exact aW (b:=true) (.inl rfl) (sd @Nat.zero_add) rfl
 have q2:aq Tryz.prog 22 [.agg (aQ a.aZ),.agg (aQ a.aZ)] (.bool true):=by
  refine aq.body dX rfl fun hl n0=>?_
  clear hl
  have h1:=tV a.aZ.ah a.aZ.ah
  rw[decide_eq_true rfl]at h1
  (repeat(first|((repeat(revert hN;revert N;apply Pn.out));refine wk @aQ.eq_1 ?_;(repeat(refine Pn.mk ?_;intro N hN)))|((try apply Or.inl);refine⟨_,aq.x (h1) (sd @aQ.eq_1),?_⟩;refine hN _ _ ?_;clear hN N)))
  exact aW (b:=true) (.inl rfl) (sd @Nat.zero_add) rfl
 rw[ab]at q1
 rw[aQ]at q2
 refine aq.body dX rfl fun hl n0=>?_
 clear hl
 have e:decide (a.aB=a.aB)=true:=decide_eq_true rfl
 (repeat(first|((repeat(revert hN;revert N;apply Pn.out));refine wk (tw @au.eq_1 @e) ?_;(repeat(refine Pn.mk ?_;intro N hN)))|((try apply Or.inl);refine⟨_,aq.x (q1) (sd (tw @au.eq_1 @e)),?_⟩;refine hN _ _ ?_;clear hN N)|((try apply Or.inl);refine⟨_,aq.x (q2) (sd (tw @au.eq_1 @e)),?_⟩;refine hN _ _ ?_;clear hN N)))
 exact aW (b:=true) (.inl rfl) (sd @Nat.zero_add) rfl
end Go.Proofs.YtgoljkjaameagaaGreat.V

namespace Go.Proofs.YtgoljkjaameagaaGreat.V
open Go.RowKit
def isApp:gE->Bool
 | .append .. =>true
 |_=>false
variable {P:Program} {X:fH} {K:Env->ar->Prop} {env:Env} {σ:ar}
theorem NC {draw:Bool} {o:bq} {r:List bq} (_:isApp o.op=false) (h:∀N:AV->ar->Prop,(∀v s,wpOps X draw r K (upd env o.dst v) s->N v s)->if aM o.guard env then fG X draw o env σ N else N .undef σ):wpOps X draw (o::r) K env σ:=PO h
end Go.Proofs.YtgoljkjaameagaaGreat.V

namespace Go.Proofs.YtgoljkjaameagaaGreat.V
open Go.RowKit
section
variable {α:Type} {enc:α->List AV} {sz:Nat} {g g':Rows} {a:AV} {xs:List α} {ids:List Id}
end
abbrev C2 (α:Type):=Rows->List AV->α->List Id->Prop
structure xO {α:Type} (R:C2 α) (sz:Nat):Prop where
 frame:∀{g g':Rows} {cs x ids},R g cs x ids->(∀i∈ids,g' i=g i)->R g' cs x ids
 len:∀{g cs x ids},R g cs x ids->cs.length=sz
 cell:∀{g cs x ids},R g cs x ids->cs.all AV.cell=true
 live:∀{g cs x ids},R g cs x ids->∀i∈ids,∃r,g i=some r/\r.w=true/\r.sz<r8
 small:sz<r8
inductive eI {α:Type} (R:C2 α) (g:Rows):List (List AV)->List α->List Id->Prop
 |nil:eI R g [] [] []
 |cons {cs x i1 rs xs i2}:R g cs x i1->eI R g rs xs i2->eI R g (cs::rs) (x::xs) (i1++i2)
section
variable {α:Type} {R:C2 α} {sz:Nat} {g g':Rows} {rows r1 r2:List (List AV)} {xs x1 x2:List α} {ids i1 i2:List Id}
theorem eI.len (h:eI R g rows xs ids):rows.length=xs.length:=by
 induction h with
 |nil=>rfl
 |cons _ _ ih=>simp[ih]
theorem eI.frame (ok:xO R sz) (h:eI R g rows xs ids) (hf:∀i∈ids,g' i=g i):eI R g' rows xs ids:=by
 induction h with
 |nil=>exact .nil
 |cons h1 _ ih=>exact .cons (ok.frame h1 fun i hi=>hf i (List.mem_append_left _ hi)) (ih fun i hi=>hf i (List.mem_append_right _ hi))
theorem eI.app (h1:eI R g r1 x1 i1) (h2:eI R g r2 x2 i2):eI R g (r1++r2) (x1++x2) (i1++i2):=by
 induction h1 with
 |nil=>exact h2
 |cons h _ ih=>rw[List.append_assoc];exact .cons h ih
theorem eI.one {cs:List AV} {x:α} (h:R g cs x ids):eI R g [cs] [x] ids:=by
 have:=eI.cons h eI.nil
 rwa [List.append_nil]at this
theorem eI.split (h:eI R g rows xs ids):∀k (hk:k<xs.length),∃r1 cs r2 i1 ic i2,rows=r1++cs::r2/\r1.length=k/\ids=i1++(ic++i2)/\eI R g r1 (xs.take k) i1/\R g cs xs[k] ic/\eI R g r2 (xs.drop (k+1)) i2:=by
 induction h with
 |nil=>intro k hk;simp at hk
 |cons h1 h2 ih=>
  rename_i cs x j1 rs xs j2
  intro k hk
  cases k with
  |zero=>exact⟨[],cs,rs,[],j1,j2,rfl,rfl,rfl,.nil,h1,h2⟩
  |succ k=>
   obtain⟨r1,qk,r2,i1,ic,i2,rfl,hl,rfl,h3,h4,h5⟩:=ih k (by simpa using hk)
   exact⟨cs::r1,qk,r2,j1++i1,ic,i2,rfl,by simp[hl],by rw[List.append_assoc],.cons h1 h3,h4,h5⟩
theorem eI.at_ (h:eI R g rows xs ids) (k:Nat) (hk:k<xs.length):∃cs ic,rows[k]? =some cs/\R g cs xs[k] ic/\∀i∈ic,i∈ids:=by
 obtain⟨r1,cs,r2,i1,ic,i2,rfl,hl,rfl,h3,h4,h5⟩:=h.split k hk
 refine⟨cs,ic,by rw[List.getElem?_append_right (by omega)];simp[hl],h4,fun i hi=>by simp[hi]⟩
theorem eI.fz {n:Nat} {e:α->List AV} (h:eI R g rows xs ids) (hz:∀{cs x ids},R g cs x ids->cJ (dJ g) n cs=some (e x)):eb (dJ g) n rows=some (xs.map e):=by
 induction h with
 |nil=>rw[eb];rfl
 |cons h1 _ ih=>rw[eb,hz h1,ih];rfl
end
section
variable {α:Type} {R:C2 α} {sz:Nat} {g g':Rows} {a:AV} {xs:List α} {ids:List Id}
end
end Go.Proofs.YtgoljkjaameagaaGreat.V
