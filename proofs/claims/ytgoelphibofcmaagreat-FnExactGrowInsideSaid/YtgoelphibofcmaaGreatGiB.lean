/- One operation, calls among them. -/
import Derived.Test.YtgoelphibofcmaaGreatGiA
import Derived.Orders
import Derived.Conc.LoneCalls
import Derived.WalkKit
import Derived.WalkSpells
import Derived.WalkLawsBesides
import Derived.Lib.Hide
import Derived.Deep.QuietTactic
import Derived.BigQuiet
import Derived.StillTailTactics
import Derived.Deep.RegionWith
import Derived.Deep.RegionHeld3
import Derived.Deep.LoopGhost
import Derived.Deep.CutRange
import Derived.Deep.DeepCutAuto
import Derived.Test.YtgoelphibofcmaaGreatChecked
set_option linter.unusedVariables false
set_option linter.unusedSimpArgs false
set_option maxRecDepth 100000
set_option maxHeartbeats 16000000
namespace Go.Proofs.YtgoelphibofcmaaGreat.V
open Go.RowKit
variable {P:Program} {w w':World} {D D' D2:Nat->Prop} {ι ι' ι2:Names}
def Sound (P:Program):fG:=fun f args σ K=>∀(hs:Nat) (D:Nat->Prop) (ι:Names) (w:World) (vs:Array Value),gw P hs D ι σ.get w->Used ι σ.next (fun _=>False)->fe P w D ι args vs->
 Calls P f vs w fun e w'=>∃r g' n' D' ι' u,e=.returned u/\K r ⟨g',n'⟩/\Step hs D ι w D' ι' w'/\gw P hs D' ι' g' w'/\Used ι' n' (fun _=>False)/\σ.next<=n'/\cI P w' D' ι' r u
section
variable {g:Rows} {hs:Nat} {env:Env} {a:Act} {o:Oper} {id:Id} {v:AV}
theorem gw.ro (S:gw P hs D ι g w):gw P w.heap.size D ι (ro g) w:=by
 refine⟨Nat.le_refl _,S.dead,fun id r h=>?_,fun id jW r r' B B' h h' hw=>?_⟩
 ·unfold V.ro at h
  simp only[Option.map_eq_some_iff]at h
  obtain⟨r0,h0,rfl⟩:=h
  obtain⟨B,hB,R,_,_⟩:=S.row id r0 h0
  exact⟨B,hB,R.flag false,fun h=>by simp at h,fun h=>by simp at h⟩
 ·unfold V.ro at h
  simp only[Option.map_eq_some_iff]at h
  obtain⟨r0,h0,rfl⟩:=h
  simp at hw
theorem AX {g0:Rows} {f:Nat} {args:List AV} {n:Nat} {K:AV->Prop} {vs:Array Value} (h:PC (Sound P) f args ⟨g0,n⟩ K) (qH:∀id r,g0 id=some r->g id=some r) (S:gw P hs D ι g w) (U:Used ι n (fun _=>False)) (A:fe P w D ι args vs):
  Calls P f vs w fun e w'=>∃r D' u,e=.returned u/\K r/\Step hs D ι w D' ι w'/\gw P hs D' ι g w'/\cI P w' D' ι r u:=by
 refine(h w.heap.size D ι w vs (S.sub qH).ro U A).mono ?_
 rintro e w' ⟨r0,g',n',D1,ι1,u,rfl,⟨r,hr,hK⟩,T,S1,_,_,hR⟩
 have hb:∀b,b<w.heap.size->w'.heap[b]? =w.heap[b]? :=T.below.block
 have hz:=T.below.size
 have q:=rI (D2:=fun b=>D b∨(w.heap.size<=b/\b<w'.heap.size)) (ι2:=ι) (fun b hd=>by
  rcases T.new b hd with h|h
  ·exact .inl h
  ·exact .inr ⟨h,S1.dead b hd⟩) (fun id row hg hw=>by
  obtain⟨B,hB,R,h1,_⟩:=S1.row id row hg
  exact⟨B,hB,R,.inr ⟨h1 hw,R.lt⟩⟩) 6 r0 u r hR hr
 refine⟨r,_,u,rfl,hK,?_,?_,q.1⟩
 ·exact Step.stay S hb hz T.below.os T.below.tape T.below.output (fun _ h=>.inl h) (fun b h=>by rcases h with h|h;exact .inl h;exact .inr h.1) (fun _ _ h=>h)
 ·exact S.stay hb hz (fun _ h=>.inl h) (fun b h=>by rcases h with h|h;exact Nat.lt_of_lt_of_le (S.dead b h) hz;exact h.2) (fun b h=>by rcases h with h|h;exact .inl h;exact .inr h.1) (fun _ _ h=>h)
theorem x9 {g0:Rows} {f:Nat} {args:List AV} {n:Nat} {K:AV->Prop} {vs:Array Value} (h:PCv (Sound P) f args ⟨g0,n⟩ K) (qH:∀id r,g0 id=some r->g id=some r) (S:gw P hs D ι g w) (U:Used ι n (fun _=>False)) (A:fe P w D ι args vs):
  Calls P f vs w fun e w'=>∃r D' u,e=.returned u/\K r/\Step hs D ι w D' ι w'/\gw P hs D' ι g w'/\cI P w' D' ι r u:=by
 obtain⟨eE,ha,h⟩:=h
 let D1:Nat->Prop:=fun b=>D b∨∃id r B,g id=some r/\ι id=some B/\b=B.b
 have lt:∀id r B,g id=some r->ι id=some B->B.b<w.heap.size:=fun id r B h1 h2=>by
  obtain⟨B',dz,R,_⟩:=S.row id r h1
  rw[h2]at dz;injection dz with dz;subst dz
  exact R.lt
 have S0:gw P w.heap.size D1 ι (fun _=>none) w:=⟨Nat.le_refl _,fun b hb=>by
  rcases hb with hb|⟨id,r,B,h1,h2,rfl⟩
  ·exact S.dead b hb
  ·exact lt id r B h1 h2,fun id r h=>(by cases h),fun id jW r r' B B' h=>(by cases h)⟩
 obtain⟨l1,l2⟩:=gF ha
 have A':fe P w D1 ι eE vs:=⟨by rw[A.1,l1],fun j a hj=>by
  obtain⟨a0,lg,hf⟩:=l2 j a hj
  obtain⟨u,hu,hr⟩:=A.2 j a0 lg
  refine⟨u,hu,(rI (D2:=D1) (ι2:=ι) (fun b h=>.inl h) (fun id row hg hw=>?_) 6 a0 u a hr hf).1⟩
  unfold dL at hg
  simp only[Option.map_eq_some_iff]at hg
  obtain⟨r,oe,rfl⟩:=hg
  obtain⟨B,hB,R,_,_⟩:=S.row id r (qH id r oe)
  exact⟨B,hB,R.flag true,.inr ⟨id,r,B,qH id r oe,hB,rfl⟩⟩⟩
 refine(h w.heap.size D1 ι w vs S0 U A').mono ?_
 rintro e w' ⟨r0,g',n',D2,ι1,u,rfl,⟨r,hr,hK⟩,T,S1,_,_,hR⟩
 have hb:∀b,b<w.heap.size->w'.heap[b]? =w.heap[b]? :=T.below.block
 have hz:=T.below.size
 have q:=Gd (D2:=fun b=>D b∨(w.heap.size<=b/\b<w'.heap.size)) (ι2:=ι) (fun id row hg hw=>by
  obtain⟨B,hB,R,h1,_⟩:=S1.row id row hg
  exact⟨B,hB,R,.inr ⟨h1 hw,R.lt⟩⟩) 6 r0 u r hR hr
 refine⟨r,_,u,rfl,hK,?_,?_,q.1⟩
 ·exact Step.stay S hb hz T.below.os T.below.tape T.below.output (fun _ h=>.inl h) (fun b h=>by rcases h with h|h;exact .inl h;exact .inr h.1) (fun _ _ h=>h)
 ·exact S.stay hb hz (fun _ h=>.inl h) (fun b h=>by rcases h with h|h;exact Nat.lt_of_lt_of_le (S.dead b h) hz;exact h.2) (fun b h=>by rcases h with h|h;exact .inl h;exact .inr h.1) (fun _ _ h=>h)
theorem FP {g0:Rows} {f:Nat} {args:List AV} {n:Nat} {K:AV->Prop} {vs:Array Value} (h:gy (Sound P) f args ⟨g0,n⟩ K) (qH:∀id r,g0 id=some r->g id=some r) (S:gw P hs D ι g w) (U:Used ι n (fun _=>False)) (A:fe P w D ι args vs):
  Calls P f vs w fun e w'=>∃r D' u,e=.returned u/\K r/\Step hs D ι w D' ι w'/\gw P hs D' ι g w'/\cI P w' D' ι r u:=by
 rcases h with h|h
 ·exact AX h qH S U A
 ·exact x9 h qH S U A
theorem G0 {D1 D2:Nat->Prop} {ι1 ι2:Names} {w1:World} {a:AV} {v:Value} (hp:a.plain=true) (h:cI P w D1 ι1 a v):cI P w1 D2 ι2 a v:=by
 cases h with
 |eM a v h=>cases h<;>first|(simp[AV.plain]at hp;done)|exact .eM _ _ (by constructor)
 |_=>simp[AV.plain]at hp
theorem gw.add {r:Row} {B:sC} (S:gw P hs D ι g w) (S':gw P hs D ι g w') (hf:ι id=none) (ki:w.heap.size<=B.b) (R:gM P w' D (kE ι id B) B r):gw P hs D (kE ι id B) (bq g id r) w':=by
 have lt:∀jW r' B',g jW=some r'->ι jW=some B'->B'.b<w.heap.size:=fun jW r' B' h1 h2=>by
  obtain⟨B2,pV,R2,_⟩:=S.row jW r' h1
  rw[h2]at pV;injection pV with pV;subst pV
  exact R2.lt
 have ne:∀jW r',g jW=some r'->jW≠id:=fun jW r' h he=>by
  subst he
  obtain⟨B2,pV,_⟩:=S.row _ r' h
  rw[hf]at pV;cases pV
 refine⟨S'.lo,S'.dead,fun jW r' h=>?_,fun Ru id2 r1 r2 B1 B2 h1 h2 hw AN pV hb=>?_⟩
 ·unfold bq at h
  split at h
  ·rename_i he
   subst he
   injection h with h;subst h
   exact⟨B,dX _ _ _,R,fun _=>Nat.le_trans S.lo ki,fun _ hd=>Nat.lt_irrefl _ (Nat.lt_of_lt_of_le (S.dead _ hd) ki)⟩
  ·obtain⟨B',dz,R',k1,k2⟩:=S'.row jW r' h
   exact⟨B',by rw[gn (ne _ _ h)];exact dz,R'.frame rfl (fun a v hr=>hr.frame (fun _ _=>rfl) (fun _ h=>h) (e9 hf)),k1,k2⟩
 ·unfold bq at h1 h2
  split at h1
  ·rename_i e1
   split at h2
   ·rename_i e2;rw[e1,e2]
   ·exfalso
    subst e1
    rw[dX]at AN;injection AN with AN;subst AN
    rw[gn (ne _ _ h2)]at pV
    have:=lt _ _ _ h2 pV
    omega
  ·rw[gn (ne _ _ h1)]at AN
   split at h2
   ·rename_i e2
    exfalso
    subst e2
    rw[dX]at pV;injection pV with pV;subst pV
    have:=lt _ _ _ h1 AN
    omega
   ·rw[gn (ne _ _ h2)]at pV
    exact S'.inj Ru id2 r1 r2 B1 B2 h1 h2 hw AN pV hb
theorem HF {g0:Rows} {f:Nat} {args:List AV} {n sz:Nat} {rows:List (List AV)} {vs:Array Value} (h:CM (Sound P) f args ⟨g0,n⟩ sz rows) (qH:∀id r,g0 id=some r->g id=some r) (S:gw P hs D ι g w) (U:Used ι n (fun _=>False)) (A:fe P w D ι args vs) (hf:ι id=none):
  Calls P f vs w fun e w'=>∃u B,e=.returned u/\Step hs D ι w D (kE ι id B) w'/\gw P hs D (kE ι id B) (bq g id ⟨true,sz,rows⟩) w'/\cI P w' D (kE ι id B) (.own id 0 rows.length) u:=by
 obtain⟨l8,eE,ha,h⟩:=h
 let D1:Nat->Prop:=fun b=>D b∨∃id r B,g id=some r/\ι id=some B/\b=B.b
 have lt:∀id r B,g id=some r->ι id=some B->B.b<w.heap.size:=fun id r B h1 h2=>by
  obtain⟨B',dz,R,_⟩:=S.row id r h1
  rw[h2]at dz;injection dz with dz;subst dz
  exact R.lt
 have S0:gw P w.heap.size D1 ι (fun _=>none) w:=⟨Nat.le_refl _,fun b hb=>by
  rcases hb with hb|⟨id,r,B,h1,h2,rfl⟩
  ·exact S.dead b hb
  ·exact lt id r B h1 h2,fun id r h=>(by cases h),fun id jW r r' B B' h=>(by cases h)⟩
 obtain⟨l1,l2⟩:=gF ha
 have A':fe P w D1 ι eE vs:=⟨by rw[A.1,l1],fun j a hj=>by
  obtain⟨a0,lg,hz⟩:=l2 j a hj
  obtain⟨u,hu,hr⟩:=A.2 j a0 lg
  refine⟨u,hu,(rI (D2:=D1) (ι2:=ι) (fun b h=>.inl h) (fun id row hg hw=>?_) 6 a0 u a hr hz).1⟩
  unfold dL at hg
  simp only[Option.map_eq_some_iff]at hg
  obtain⟨r,oe,rfl⟩:=hg
  obtain⟨B,hB,R,_,_⟩:=S.row id r (qH id r oe)
  exact⟨B,hB,R.flag true,.inr ⟨id,r,B,qH id r oe,hB,rfl⟩⟩⟩
 refine(h w.heap.size D1 ι w vs S0 U A').mono ?_
 rintro e w' ⟨r0,g',n',D2,ι1,u,rfl,⟨i0,hr,hg⟩,T,S1,_,_,hR⟩
 subst hr
 have hb:∀b,b<w.heap.size->w'.heap[b]? =w.heap[b]? :=T.below.block
 have hz:=T.below.size
 obtain⟨B,hB,R,k1,_⟩:=S1.row i0 _ hg
 have ki:w.heap.size<=B.b:=k1 rfl
 obtain⟨o,cap,B',rfl,dz,q2,q3,q4,q5,hk⟩:=iQ hR
 rw[hB]at dz;injection dz with dz;subst dz
 replace R:=R.row hk
 have S':gw P hs D ι g w':=S.stay hb hz (fun _ h=>h) (fun b h=>Nat.lt_of_lt_of_le (S.dead b h) hz) (fun b h=>.inl h) (fun _ _ h=>h)
 have R':lv P w' D (kE ι id B) B ⟨true,sz,rows⟩:=⟨R.sz,R.xH,R.fits,R.len,R.flat,fun i j cs a hi hj=>by
  obtain⟨v,h1,h2⟩:=R.at_ i j cs a hi hj
  exact⟨v,h1,G0 (l8 cs (List.mem_of_getElem? hi) a (List.mem_of_getElem? hj)) h2⟩⟩
 exact⟨_,B,rfl,Step.stay S hb hz T.below.os T.below.tape T.below.output (fun _ h=>h) (fun _ h=>.inl h) (e9 hf),S.add S' hf ki (R'.obj hk),.own id 0 _ _ _ B (dX _ _ _) hk q2 q3 q4 q5⟩
theorem jx {f:Nat} {args:Array Value} (hc:fI P f=true):(callFunc f args).run P w=.ok (.enter f args) w:=by
 unfold fI at hc
 split at hc
 ·rename_i fn hf
  simp only[Bool.and_eq_true,Bool.not_eq_true']at hc
  have hb:fn.body.isNone=false:=by cases hq:fn.body<;>simp_all
  simp only[callFunc,Sem.run_bind,run_program,Result.andThen_ok,hf,hc.2,Bool.false_eq_true,if_false,hb]
  rfl
 ·simp at hc
theorem BT {f:Nat} {args:List O} (hc:qV P o.op=some (.call f args)):∃c,o.op=.call c/\c.callee=.value (.func f)/\fI P f=true/\c.args.toList.mapM (cO P)=some args:=by
 unfold qV at hc
 split at hc
 case h_23=>
  rename_i c ho
  refine⟨c,ho,?_⟩
  unfold nC at hc
  split at hc
  all_goals (try(repeat' (split at hc))<;>(simp only[Option.bind_eq_bind,Option.bind_eq_some_iff,Option.pure_def,Option.some.injEq,Option.map_eq_some_iff,reduceCtorEq,and_false,exists_false]at hc))
  all_goals simp_all
 all_goals (try unfold vG at hc)<;>(try unfold sM at hc)<;>(repeat' (split at hc))<;>(simp only[Option.bind_eq_bind,Option.bind_eq_some_iff,Option.pure_def,Option.some.injEq,Option.map_eq_some_iff,reduceCtorEq,and_false,exists_false]at hc)
theorem tb {x:O} {args:List O} (hc:qV P o.op=some (.tK x args)):∃c t,o.op=.call c/\c.callee=.value (.tmp t)/\x=.t t/\c.args.toList.mapM (cO P)=some args:=by
 unfold qV at hc
 split at hc
 case h_23=>
  rename_i c ho
  refine⟨c,?_⟩
  unfold nC at hc
  split at hc
  all_goals (try(repeat' (split at hc))<;>(simp only[Option.bind_eq_bind,Option.bind_eq_some_iff,Option.pure_def,Option.some.injEq,Option.map_eq_some_iff,reduceCtorEq,and_false,exists_false]at hc))
  all_goals simp_all
 all_goals (try unfold vG at hc)<;>(try unfold sM at hc)<;>(repeat' (split at hc))<;>(simp only[Option.bind_eq_bind,Option.bind_eq_some_iff,Option.pure_def,Option.some.injEq,Option.map_eq_some_iff,reduceCtorEq,and_false,exists_false]at hc)
theorem Gz {n:Nat} {x y:O} (hc:qV P o.op=some (.store n x y)):∃t x' y',o.op=.store t x' y'/\dY P t=some n/\cO P x'=some x/\cO P y'=some y:=by
 unfold qV at hc
 split at hc
 case h_7=>
  rename_i t x' y' ho
  refine⟨t,x',y',ho,?_⟩
  simp only[Option.bind_eq_bind,Option.bind_eq_some_iff,Option.pure_def,Option.some.injEq]at hc
  obtain⟨n',h1,x2,h2,y2,h3,he⟩:=hc
  injection he with e1 e2 e3
  subst e1;subst e2;subst e3
  exact⟨h1,h2,h3⟩
 all_goals (try unfold vG at hc)<;>(try unfold sM at hc)<;>(try unfold nC at hc)<;>(repeat' (split at hc))<;>(simp only[Option.bind_eq_bind,Option.bind_eq_some_iff,Option.pure_def,Option.some.injEq,Option.map_eq_some_iff,reduceCtorEq,and_false,exists_false]at hc)
theorem DK {n:Nat} {x y:O} (hc:qV P o.op=some (.append n x y)):∃(t e:TypeId) (m:Nat) (z:List K) (i:TypeInfo) (x' y':Operand),n=m+1/\o.op=.call {callee:=.builtin .append,args:= #[x',y'],argTypes:= #[t,t]}/\
  P.underlying t=some (.slice e)/\dY P e=some (m+1)/\jH P e=some z/\P.info? e=some i/\i.bytes<=32768/\cO P x'=some x/\cO P y'=some y:=by
 unfold qV at hc
 split at hc
 case h_23=>
  rename_i c ho
  unfold nC at hc
  split at hc
  case h_2=>
   rename_i kr
   split at hc
   ·rename_i x' y' t u h1 h2
    split at hc
    ·rename_i e ht
     split at hc
     ·rename_i m z i e1 e2 e3
      split at hc
      ·rename_i hb
       simp only[Option.bind_eq_bind,Option.bind_eq_some_iff,Option.pure_def,Option.some.injEq]at hc
       obtain⟨x2,h3,y2,h4,he⟩:=hc
       injection he with k1 k2 k3
       subst k1;subst k2;subst k3
       obtain⟨KC,rfl⟩:=hb
       refine⟨t,e,m,z,i,x',y',rfl,?_,ht,e1,e2,e3,KC,h3,h4⟩
       rw[ho]
       obtain⟨ca,cb,cc⟩:=c
       simp only at h1 h2 kr
       subst kr
       congr
       ·exact Array.ext' h1
       ·exact Array.ext' h2
      ·simp at hc
     ·simp at hc
    ·simp at hc
   ·simp at hc
  all_goals (repeat' (split at hc))<;>(simp only[Option.bind_eq_bind,Option.bind_eq_some_iff,Option.pure_def,Option.some.injEq,Option.map_eq_some_iff,reduceCtorEq,and_false,exists_false]at hc)
 all_goals (try unfold vG at hc)<;>(try unfold sM at hc)<;>(repeat' (split at hc))<;>(simp only[Option.bind_eq_bind,Option.bind_eq_some_iff,Option.pure_def,Option.some.injEq,Option.map_eq_some_iff,reduceCtorEq,and_false,exists_false]at hc)
theorem I9 {n:Nat} {x y:O} (hc:qV P o.op=some (.copy n x y)):∃(t t2 e:TypeId) (m:Nat) (x' y':Operand),n=m+1/\o.op=.call {callee:=.builtin .copy,args:= #[x',y'],argTypes:= #[t,t2]}/\
  P.underlying t=some (.slice e)/\dY P e=some (m+1)/\cO P x'=some x/\cO P y'=some y:=by
 unfold qV at hc
 split at hc
 case h_23=>
  rename_i c ho
  unfold nC at hc
  split at hc
  case h_7=>
   rename_i kr
   split at hc
   ·rename_i x' y' t t2 h1 h2
    split at hc
    ·rename_i e ht
     split at hc
     ·rename_i m e1
      simp only[Option.bind_eq_bind,Option.bind_eq_some_iff,Option.pure_def,Option.some.injEq,gz.copy.injEq]at hc
      obtain⟨x2,h3,y2,h4,k0,k1,k2⟩:=hc
      subst k1;subst k2
      refine⟨t,t2,e,m,x',y',k0.symm,?_,ht,e1,h3,h4⟩
      rw[ho]
      obtain⟨ca,cb,cc⟩:=c
      simp only at h1 h2 kr
      subst kr
      congr
      ·exact Array.ext' h1
      ·exact Array.ext' h2
     ·simp at hc
    ·simp at hc
   ·simp at hc
  all_goals (repeat' (split at hc))<;>(simp only[Option.bind_eq_bind,Option.bind_eq_some_iff,Option.pure_def,Option.some.injEq,Option.map_eq_some_iff,reduceCtorEq,and_false,exists_false]at hc)
 all_goals (try unfold vG at hc)<;>(try unfold sM at hc)<;>(repeat' (split at hc))<;>(simp only[Option.bind_eq_bind,Option.bind_eq_some_iff,Option.pure_def,Option.some.injEq,Option.map_eq_some_iff,reduceCtorEq,and_false,exists_false]at hc)
theorem Gy {z:List K} {x:O} (hc:qV P o.op=some (.clear z x)):∃(t e:TypeId) (m:Nat) (x':Operand),o.op=.call {callee:=.builtin .clear,args:= #[x'],argTypes:= #[t]}/\
  P.underlying t=some (.slice e)/\dY P e=some (m+1)/\jH P e=some z/\cO P x'=some x:=by
 unfold qV at hc
 split at hc
 case h_23=>
  rename_i c ho
  unfold nC at hc
  split at hc
  case h_3=>
   rename_i kr
   split at hc
   ·rename_i x' t h1 h2
    split at hc
    ·rename_i e ht
     split at hc
     ·rename_i m z' e1 e2
      simp only[Option.map_eq_some_iff]at hc
      obtain⟨x2,h3,he⟩:=hc
      injection he with k1 k2
      subst k1;subst k2
      refine⟨t,e,m,x',?_,ht,e1,e2,h3⟩
      rw[ho]
      obtain⟨ca,cb,cc⟩:=c
      simp only at h1 h2 kr
      subst kr
      congr
      ·exact Array.ext' h1
      ·exact Array.ext' h2
     ·simp at hc
    ·simp at hc
   ·simp at hc
  all_goals (repeat' (split at hc))<;>(simp only[Option.bind_eq_bind,Option.bind_eq_some_iff,Option.pure_def,Option.some.injEq,Option.map_eq_some_iff,reduceCtorEq,and_false,exists_false]at hc)
 all_goals (try unfold vG at hc)<;>(try unfold sM at hc)<;>(repeat' (split at hc))<;>(simp only[Option.bind_eq_bind,Option.bind_eq_some_iff,Option.pure_def,Option.some.injEq,Option.map_eq_some_iff,reduceCtorEq,and_false,exists_false]at hc)
theorem OJ {q:MW} {xs:List O} (hc:qV P o.op=some (.mw q xs)):
  (∃t x k y m z x' k' y',(o.op=.mapUpdate t x k y∨o.op=.insert t x k y)/\sN P t=some (m,z)/\cO P x=some x'/\cO P k=some k'/\cO P y=some y'/\q=.set m/\xs=[x',k',y'])∨
  (∃t t' x k m z x' k',o.op=.call {callee:=.builtin .delete,args:= #[x,k],argTypes:= #[t,t']}/\sN P t=some (m,z)/\cO P x=some x'/\cO P k=some k'/\q=.del m/\xs=[x',k']):=by
 unfold qV at hc
 split at hc
 case h_23=>
  rename_i c ho
  right
  unfold nC at hc
  split at hc
  case h_6=>
   rename_i kr
   split at hc
   ·rename_i x k t t' h1 h2
    split at hc
    ·rename_i m z x' k' e1 e2 e3
     injection hc with hc
     injection hc with q1 q2
     refine⟨t,t',x,k,m,z,x',k',?_,e1,e2,e3,q1.symm,q2.symm⟩
     rw[ho]
     obtain⟨ca,cb,cc⟩:=c
     simp only at h1 h2 kr
     subst kr
     congr
     ·exact Array.ext' h1
     ·exact Array.ext' h2
    ·cases hc
   ·cases hc
  all_goals (repeat' (split at hc))<;>(simp only[Option.bind_eq_bind,Option.bind_eq_some_iff,Option.pure_def,Option.some.injEq,Option.map_eq_some_iff,reduceCtorEq,and_false,exists_false]at hc)
 case h_29=>
  rename_i t x k y ho
  left
  split at hc
  ·rename_i m z x' k' y' e1 e2 e3 e4
   injection hc with hc
   injection hc with q1 q2
   exact⟨t,x,k,y,m,z,x',k',y',.inl ho,e1,e2,e3,e4,q1.symm,q2.symm⟩
  ·cases hc
 case h_30=>
  rename_i t x k y ho
  left
  split at hc
  ·rename_i m z x' k' y' e1 e2 e3 e4
   injection hc with hc
   injection hc with q1 q2
   exact⟨t,x,k,y,m,z,x',k',y',.inr ho,e1,e2,e3,e4,q1.symm,q2.symm⟩
  ·cases hc
 all_goals (try unfold vG at hc)<;>(try unfold sM at hc)<;>(repeat' (split at hc))<;>(simp only[Option.bind_eq_bind,Option.bind_eq_some_iff,Option.pure_def,Option.some.injEq,Option.map_eq_some_iff,reduceCtorEq,and_false,exists_false]at hc)
def jl (g:Rows) (id:Id):Option Row->Rows
 |some r=>bq g id r
 |none=>g
def vI (X:fG) (hid:List Nat) (site n:Nat) (f:Nat) (args:List AV) (g:Rows) (v:AV) (g':Rows):Prop:=
 (gy X f args ⟨fW hid n g,n+1⟩ (fun r=>r=v)/\g'=g)∨
 (hid.contains site=true/\∃sz rows,CM X f args ⟨fW hid n g,n+1⟩ sz rows/\v=.own ⟨site,n⟩ 0 rows.length/\g'=bq g ⟨site,n⟩ ⟨true,sz,rows⟩)
def VS (X:fG) (n:Nat) (vo:bj) (env:Env) (g:Rows) (v:AV) (g':Rows):Prop:=
 match vo.op with
 | .call f args=>vI X vo.hid vo.site n f (args.map (cQ env)) g v g'
 | .tK x args=>∃f l,vH (cQ env x) (args.map (cQ env))=some (f,l)/\vI X vo.hid vo.site n f l g v g'
 | .store .. | .append .. | .copy .. | .clear .. | .mw .. =>ga vo.op (cQ env) g ⟨vo.site,n⟩=some (v,g')
 |_=>∃mr,eP vo.op (cQ env) (fW vo.hid n g) ⟨vo.site,n⟩=some (v,mr)/\g'=jl g ⟨vo.site,n⟩ mr
def MA (P:Program) (hs:Nat) (D:Nat->Prop) (ι:Names) (w:World) (U:Nat->Prop) (site n:Nat) (a:Act) (dst:Option Tmp) (v:AV) (g':Rows) (a':Act) (w':World):Prop:=
 ∃u D' ι',a'=a.put dst u/\Step hs D ι w D' ι' w'/\gw P hs D' ι' g' w'/\cI P w' D' ι' v u/\Used ι' n (fun s=>U s∨s=site)
theorem fresh {n:Nat} {U:Nat->Prop} {s:Nat} (h:Used ι n U) (hU:¬U s):ι ⟨s,n⟩=none:=by
 cases hq:ι ⟨s,n⟩with
 |none=>rfl
 |some B=>
  rcases h ⟨s,n⟩ (by rw[hq];simp)with h|⟨_,h⟩
  ·exact absurd h (Nat.lt_irrefl _)
  ·exact absurd h hU
theorem Used.more {n:Nat} {U U':Nat->Prop} (h:Used ι n U) (hU:∀s,U s->U' s):Used ι n U':=fun id hid=>by
 rcases h id hid with h|⟨h1,h2⟩
 ·exact .inl h
 ·exact .inr ⟨h1,hU _ h2⟩
theorem Used.next {n:Nat} {U:Nat->Prop} (h:Used ι n U):Used ι (n+1) (fun _=>False):=fun id hid=>by
 rcases h id hid with h|⟨h1,_⟩
 ·exact .inl (Nat.lt_succ_of_lt h)
 ·exact .inl (by omega)
theorem Used.upd {n:Nat} {U:Nat->Prop} {s:Nat} {B:sC} (h:Used ι n U):Used (kE ι ⟨s,n⟩ B) n (fun x=>U x∨x=s):=fun id hid=>by
 by_cases he:id=⟨s,n⟩
 ·subst he;exact .inr ⟨rfl,.inr rfl⟩
 ·rw[gn he]at hid
  exact(h.more (U':=fun x=>U x∨x=s) fun _ h=>Or.inl h) id hid
theorem oz {xs:Array Operand} {ys:List O} (E:cq P w D ι env a) (h:xs.toList.mapM (cO P)=some ys):fe P w D ι (ys.map (cQ env)) (xs.map a.eval):=by
 obtain⟨h1,h2⟩:=D8 E h
 refine⟨by simpa using h1,fun j b hj=>?_⟩
 simp only[List.getElem?_map,Option.map_eq_some_iff]at hj
 obtain⟨y,hy,rfl⟩:=hj
 have dS:j<xs.size:=by have:=(List.getElem?_eq_some_iff.1 hy).1;simp at h1;omega
 refine⟨a.eval xs[j],by simp[dS],?_⟩
 have:=h2 j y hy
 simpa[List.getD_eq_getElem?_getD,dS]using this
theorem pa {xs ys:List AV} {vs us:Array Value} (h:fe P w D ι xs vs) (k:fe P w D ι ys us):fe P w D ι (xs++ys) (vs++us):=
 ⟨by simp[h.1,k.1],fun j b hj=>by
  by_cases dS:j<xs.length
  ·rw[List.getElem?_append_left dS]at hj
   obtain⟨u,hu,xR⟩:=h.2 j b hj
   exact⟨u,by rw[Array.getElem?_append_left (by rw[h.1];exact dS)];exact hu,xR⟩
  ·rw[List.getElem?_append_right (by omega)]at hj
   obtain⟨u,hu,xR⟩:=k.2 _ b hj
   exact⟨u,by rw[Array.getElem?_append_right (by rw[h.1];omega),h.1];exact hu,xR⟩⟩
theorem wY:fe P w D ι [] #[]:=⟨rfl,fun j b hj=>by simp at hj⟩
theorem vJ {x:AV} {l l':List AV} {f:Nat} {vs:Array Value} {v:Value} (h:vH x l=some (f,l')) (hr:cI P w D ι x v) (hA:fe P w D ι l vs):
  ∃first cL,v=.func (.func f) first cL/\fI P f=true/\fe P w D ι l' (first++vs++cL):=by
 unfold vH at h
 split at h
 ·simp only[Option.some.injEq,Prod.mk.injEq]at h
  obtain⟨rfl,rfl⟩:=h
  obtain⟨us,q,he,E8,n1,q1,q2⟩:=Ai hr
  refine⟨#[],us,he,E8,?_⟩
  rw[Array.empty_append]
  exact pa hA ⟨n1,fun j b hj=>⟨q j,q1 j (List.getElem?_eq_some_iff.1 hj).1,q2 j b hj⟩⟩
 ·simp only[Option.some.injEq,Prod.mk.injEq]at h
  obtain⟨rfl,rfl⟩:=h
  obtain⟨us,q,he,E8,n1,q1,q2⟩:=Mh hr
  refine⟨us, #[],he,E8,?_⟩
  rw[Array.append_empty]
  exact pa ⟨n1,fun j b hj=>⟨q j,q1 j (List.getElem?_eq_some_iff.1 hj).1,q2 j b hj⟩⟩ hA
 ·cases h
theorem A4 {n:Nat} {vo:bj} {g':Rows} {U:Nat->Prop} {Q:Exit->Act->World->Prop} {K:Act->World->Prop} (hc:qV P o.op=some vo.op) (hv:VS (Sound P) n vo env g v g') (S:gw P hs D ι g w) (Us:Used ι n U) (hU:¬U vo.site) (E:cq P w D ι env a)
  (hK:∀a' w',MA P hs D ι w U vo.site n a o.dst v g' a' w'->K a' w'):o.wp P a w K Q:=by
 have hf:=fresh Us hU
 have Bd:∀(f:Nat) (args:List AV) (vs:Array Value),vI (Sound P) vo.hid vo.site n f args g v g'->fe P w D ι args vs->(execOp a.eval o).run P w=.ok (.enter f vs) w->o.wp P a w K Q:=by
  intro f args vs hP hA gh
  unfold Oper.wp
  rw[gh]
  rcases hP with⟨hP,rfl⟩|⟨_,sz,rows,hM,rfl,rfl⟩
  ·refine(FP hP AB S Us.next hA).mono ?_
   rintro e w' ⟨r,D',u,rfl,rfl,T,S',hR⟩
   exact hK _ _ ⟨u,D',ι,rfl,T,S',hR,Us.more fun _ h=>.inl h⟩
  ·refine(HF hM AB S Us.next hA hf).mono ?_
   rintro e w' ⟨u,B,rfl,T,S',hR⟩
   exact hK _ _ ⟨u,D,_,rfl,T,S',hR,Us.upd⟩
 have quiet:∀(mr:Option Row),eP vo.op (cQ env) (fW vo.hid n g) ⟨vo.site,n⟩=some (v,mr)->g'=jl g ⟨vo.site,n⟩ mr->o.wp P a w K Q:=by
  intro mr hq hg
  have hqs:=y8 hc hq (S.sub AB) E
  unfold Oper.wp
  cases mr with
  |none=>
   obtain⟨u,gh,hR⟩:=hqs
   rw[gh]
   subst hg
   exact hK _ _ ⟨u,D,ι,rfl,Step.refl _ _ _ _,S,hR,Us.more fun _ h=>.inl h⟩
  |some r=>
   rcases hqs with⟨u,cells,T,gh,h1,h2,h3,h4,h5,h6⟩|⟨m,gh,KO,Dz⟩|⟨c,gh,KO,Dz⟩
   case inr.inr=>
    rw[gh]
    subst hg KO Dz
    have fj:w.heap.size<(w.alloc (.chan c #[] false 0 0 false)).heap.size:=by simp
    have S':=S.stay (w':=w.alloc (.chan c #[] false 0 0 false)) (D':=D) (ι':=ι) (fun k hk=>Below.heap_alloc _ _ _ hk) (by simp) (fun _ h=>h) (fun b hd=>Nat.lt_trans (S.dead b hd) fj) (fun _ h=>.inl h) (fun _ _ h=>h)
    have S1:=S.add S' (id:=⟨vo.site,n⟩) (B:=⟨w.heap.size,qu+c,0,some (.chan c)⟩) (r:=⟨true,qu+c,[]⟩) hf (Nat.le_refl _) ⟨rfl,fun cs h=>by simp at h,fun h=>by simp at h,fun m' h=>(by simp at h),fun c' h=>by
     simp only[Option.some.injEq,BK.chan.injEq]at h;subst h
     exact⟨rfl, #[],0,0,(show(w.heap.push (Obj.chan c #[] false 0 0 false))[w.heap.size]? =some (Obj.chan c #[] false 0 0 false) by simp),rfl,fun i cs h=>by simp at h⟩⟩
    exact hK _ _ ⟨_,D,_,rfl,Step.stay S (fun k hk=>Below.heap_alloc _ _ _ hk) (by simp) rfl rfl rfl (fun _ h=>h) (fun _ h=>.inl h) (e9 hf),S1,.rE _ _ _ (dX _ _ _) rfl,Us.upd⟩
   case inr.inl=>
    rw[gh]
    subst hg KO Dz
    have fj:w.heap.size<(w.alloc (.map #[] 0)).heap.size:=by simp
    have S':=S.stay (w':=w.alloc (.map #[] 0)) (D':=D) (ι':=ι) (fun k hk=>Below.heap_alloc _ _ _ hk) (by simp) (fun _ h=>h) (fun b hd=>Nat.lt_trans (S.dead b hd) fj) (fun _ h=>.inl h) (fun _ _ h=>h)
    have S1:=S.add S' (id:=⟨vo.site,n⟩) (B:=⟨w.heap.size,m.pG,0,some (.map m)⟩) (r:=⟨true,m.pG,[]⟩) hf (Nat.le_refl _) ⟨rfl,fun cs h=>by simp at h,fun h=>by simp at h,fun m' h=>by
     simp only[Option.some.injEq,BK.map.injEq]at h;subst h
     exact⟨rfl, #[],0,(show(w.heap.push (Obj.map #[] 0))[w.heap.size]? =some (Obj.map #[] 0) by simp),rfl,⟨fun cs h=>by simp at h,fun x h=>by simp at h,by simp⟩,fun i cs h=>by simp at h⟩,fun c h=>by simp at h⟩
    exact hK _ _ ⟨_,D,_,rfl,Step.stay S (fun k hk=>Below.heap_alloc _ _ _ hk) (by simp) rfl rfl rfl (fun _ h=>h) (fun _ h=>.inl h) (e9 hf),S1,.map _ _ _ (dX _ _ _) rfl,Us.upd⟩
   rw[gh]
   subst hg
   have S1:=S.alloc (id:=⟨vo.site,n⟩) (w':=w.alloc (.cells cells T)) rfl hf h1 h2 h3 h4 h5
   refine hK _ _ ⟨u,D,_,rfl,Step.stay S (fun k hk=>Below.heap_alloc _ _ _ hk) (by simp) rfl rfl rfl (fun _ h=>h) (fun _ h=>.inl h) (e9 hf),S1,(h6 (kE ι _ _) (dX _ _ _)).frame (fun b hd=>Below.heap_alloc _ _ _ (S.dead b hd)) (fun _ h=>h) (fun _ _ h=>h),Us.upd⟩
 have PL:ga vo.op (cQ env) g ⟨vo.site,n⟩=some (v,g')->(∀KP,CT P hs a o KP D ι ⟨vo.site,n⟩ v g'->KP=w->o.wp P a w K Q):=by
  intro _ KP hE he
  subst he
  obtain⟨u,w',ι',gh,T,S',hR,hι⟩:=hE
  have Iy:MA P hs D ι KP U vo.site n a o.dst v g' (a.put o.dst u) w':=⟨u,D,ι',rfl,T,S',hR,fun id hid=>by
   by_cases he:id=⟨vo.site,n⟩
   ·subst he;exact .inr ⟨rfl,.inr rfl⟩
   ·rw[hι id he]at hid
    exact(Us.more (U':=fun x=>U x∨x=vo.site) fun _ h=>Or.inl h) id hid⟩
  unfold Oper.wp
  rcases gh with gh|⟨gh,rfl⟩
  ·rw[gh];exact hK _ _ Iy
  ·rw[gh];exact hK _ _ Iy
 unfold VS at hv
 split at hv
 ·rename_i f args eb
  rw[eb]at hc
  obtain⟨c,ho,kr,E8,nG⟩:=BT hc
  refine Bd f _ (c.args.map a.eval) hv (oz E nG) ?_
  simp only[execOp,ho,resolve,kr,Deferred.ofValue,Act.eval,Sem.run_bind,Sem.run_pure,Result.andThen_ok,invoke,Array.empty_append,Array.append_empty]
  exact jx E8
 ·rename_i x args eb
  obtain⟨f,l,hx,hP⟩:=hv
  rw[eb]at hc
  obtain⟨c,t,ho,kr,rfl,nG⟩:=tb hc
  obtain⟨first,cL,he,E8,hL⟩:=vJ (v:=a.eval (.tmp t)) hx (E t) (oz E nG)
  refine Bd f _ (first++c.args.map a.eval++cL) hP hL ?_
  simp only[execOp,ho,resolve,kr,he,Deferred.ofValue,Sem.run_bind,Sem.run_pure,Result.andThen_ok,invoke]
  exact jx E8
 ·rename_i m x y eb
  have kN:=hc
  rw[eb]at kN
  obtain⟨t,x',y',ho,h1,h2,h3⟩:=Gz kN
  have nW:=hv
  rw[eb]at nW
  simp only[ga,Option.map_eq_some_iff,Prod.mk.injEq]at nW
  obtain⟨g1,AP,rfl,rfl⟩:=nW
  exact PL hv w (K8 S E ho h1 h2 h3 AP) rfl
 ·rename_i m x y eb
  have kN:=hc
  rw[eb]at kN
  obtain⟨t,e,m',z,i,x',y',rfl,ho,h1,h2,h3,h4,h5,h6,h7⟩:=DK kN
  have nW:=hv
  rw[eb]at nW
  simp only[ga,Option.bind_eq_some_iff]at nW
  obtain⟨ys,Fm,nW⟩:=nW
  exact PL hv w (Ic S E hf ho h1 h2 h3 h4 h5 h6 h7 Fm nW) rfl
 ·rename_i m x y eb
  have kN:=hc
  rw[eb]at kN
  obtain⟨t,t2,e,m',x',y',rfl,ho,h1,h2,h3,h4⟩:=I9 kN
  have nW:=hv
  rw[eb]at nW
  simp only[ga,Option.bind_eq_some_iff]at nW
  obtain⟨ys,Fm,nW⟩:=nW
  exact PL hv w (NJ S E ho h1 h2 h3 h4 Fm nW) rfl
 ·rename_i z x eb
  have kN:=hc
  rw[eb]at kN
  obtain⟨t,e,m',x',ho,h1,h2,h3,h4⟩:=Gy kN
  have nW:=hv
  rw[eb]at nW
  simp only[ga,Option.map_eq_some_iff,Prod.mk.injEq]at nW
  obtain⟨g1,AP,rfl,rfl⟩:=nW
  exact PL hv w (K7 S E ho h1 h2 h3 h4 AP) rfl
 ·rename_i q xs eb
  have kN:=hc
  rw[eb]at kN
  have nW:=hv
  rw[eb]at nW
  simp only[ga,Option.map_eq_some_iff,Prod.mk.injEq]at nW
  obtain⟨g1,AP,rfl,rfl⟩:=nW
  rcases OJ kN with⟨t,x,k,y,m,z,x',k',y',ho,h1,h2,h3,h4,rfl,rfl⟩|⟨t,t',x,k,m,z,x',k',ho,h1,h2,h3,rfl,rfl⟩
  ·exact PL hv w (NL S E ho h1 h2 h3 h4 AP) rfl
  ·exact PL hv w (NK S E ho h1 h2 h3 AP) rfl
 ·obtain⟨mr,hq,hg⟩:=hv
  exact quiet mr hq hg
end
end Go.Proofs.YtgoelphibofcmaaGreat.V

namespace Go.Proofs.YtgoelphibofcmaaGreat.V
open Go.RowKit
variable {P:Program} {w w':World} {D D' D2:Nat->Prop} {ι ι' ι2:Names}
section
variable {g:Rows} {hs:Nat} {env:Env} {a:Act} {o:Oper} {id:Id} {v:AV}
theorem po {ops:Array Oper} {nt site0 j:Nat} {draw mk:Bool} {bs:Array Nat} {hidden:List (Nat×Bool)} {vo:bj} (h:kI P ops nt site0 draw mk bs hidden j o=some vo):
  qV P o.op=some vo.op/\vo.dst=o.dst/\vo.site=site0+j/\(∀d,o.dst=some d->d<nt)/\(match o.guard with
   |none=>vo.guard=none
   |some (i,b)=>∃t,(ops[i]?).bind (·.dst)=some t/\vo.guard=some (t,b)):=by
 unfold kI at h
 simp only[Option.bind_eq_bind,Option.bind_eq_some_iff]at h
 obtain⟨v,hv,gd,hg,h⟩:=h
 split at h
 ·rename_i hd
  simp only[Option.pure_def,Option.some.injEq]at h
  subst h
  refine⟨hv,rfl,rfl,fun d SA=>?_,?_⟩
  ·rw[SA]at hd;simpa using hd
  ·unfold C7 at hg
   cases rK:o.guard with
   |none=>rw[rK]at hg;simp at hg;exact hg.symm
   |some p=>
    obtain⟨i,b⟩:=p
    rw[rK]at hg
    dsimp only at hg ⊢
    split at hg
    ·rename_i t ht
     simp at hg;exact⟨t,ht,hg.symm⟩
    ·simp at hg
 ·simp at h
theorem tC {ops:Array Oper} {vo:bj} (E:cq P w D ι env a) (hg:match o.guard with
   |none=>vo.guard=none
   |some (i,b)=>∃t,(ops[i]?).bind (·.dst)=some t/\vo.guard=some (t,b)):aM vo.guard env=Region.wanted o (yielded ops a.tmps):=by
 unfold Region.wanted
 cases rK:o.guard with
 |none=>rw[rK]at hg;simp only at hg;rw[hg];rfl
 |some p=>
  obtain⟨i,b⟩:=p
  rw[rK]at hg
  obtain⟨t,ht,hv⟩:=hg
  rw[hv]
  simp only[aM,yielded,ht,Option.bind_some]
  have hr:=E t
  by_cases dS:t<a.tmps.size
  ·have fu:a.tmps[t]? =some a.tmps[t]:=Array.getElem?_eq_getElem dS
   have hd:a.tmps.getD t undef=a.tmps[t]:=by simp[dS]
   rw[hd]at hr
   rw[fu]
   generalize a.tmps[t]=u at hr
   cases he:env t with
   |bool c=>rw[he]at hr;rw[e6 hr];simp
   |_=>
    rw[he]at hr
    have:∀c,u≠.bool c:=by
     intro c hu
     subst hu
     cases hr with
     |eM _ _ h=>cases h
    cases u<;>simp_all
  ·have fu:a.tmps[t]? =none:=Array.getElem?_eq_none (Nat.le_of_not_lt dS)
   have hd:a.tmps.getD t undef=undef:=by simp[fu]
   rw[hd]at hr
   rw[fu]
   cases he:env t with
   |bool c=>rw[he]at hr;have:=e6 hr;simp[undef]at this
   |_=>simp
theorem iv {dst:Option Nat} {nt:Nat} {u:Value} (E:cq P w D ι env a) (hr:cI P w D ι v u) (hd:∀d,dst=some d->d<nt) (hs:a.tmps.size=nt):cq P w D ι (upd env dst v) (a.put dst u):=by
 intro t
 cases dst with
 |none=>exact E t
 |some d=>
  have dS:d<a.tmps.size:=by rw[hs];exact hd d rfl
  simp only[upd,Act.put]
  by_cases ht:t=d
  ·subst ht
   simp[dS];exact hr
  ·rw[if_neg ht]
   have:(a.tmps.setIfInBounds d u).getD t undef=a.tmps.getD t undef:=by
    simp only[Array.getD_eq_getD_getElem?]
    rw[Array.getElem?_setIfInBounds_ne (fun e=>ht e.symm)]
   rw[this];exact E t
theorem oI {hs:Nat} (E:cq P w D ι env a) (T:Step hs D ι w D' ι' w'):cq P w' D' ι' env a:=fun t=>T.rep (E t)
theorem eW (a:Act) (dst:Option Tmp) (u:Value):(a.put dst u).tmps.size=a.tmps.size:=by cases dst<;>simp[Act.put]
theorem put_defers (a:Act) (dst:Option Tmp) (u:Value):(a.put dst u).defers=a.defers:=by cases dst<;>rfl
theorem zi {draw:Bool} {vo:bj} {σ:ar} {next:AV->ar->Prop} {U:Nat->Prop} {Q:Exit->Act->World->Prop} {K:Act->World->Prop} (hc:qV P o.op=some vo.op) (hv:fF (Sound P) draw vo env σ next) (S:gw P hs D ι σ.get w) (Us:Used ι σ.next U) (hU:¬U vo.site) (E:cq P w D ι env a)
  (hK:∀v σ' u D' ι' w',next v σ'->Step hs D ι w D' ι' w'->gw P hs D' ι' σ'.get w'->cI P w' D' ι' v u->Used ι' σ'.next (fun s=>U s∨s=vo.site)->σ.next<=σ'.next->K (a.put o.dst u) w'):o.wp P a w K Q:=by
 have close:∀v g',VS (Sound P) σ.next vo env σ.get v g'->next v ⟨g',σ.next⟩->o.wp P a w K Q:=fun v g' h1 h2=>
  A4 hc h1 S Us hU E fun a' w' ⟨u,D',ι',ha,T,S',hR,U'⟩=>by subst ha;exact hK v ⟨g',σ.next⟩ u D' ι' w' h2 T S' hR U' (Nat.le_refl _)
 have JA:∀(f:Nat) (args:List AV) (vs:Array Value),Sound P f args ⟨σ.get,σ.next+1⟩ next->fe P w D ι args vs->(execOp a.eval o).run P w=.ok (.enter f vs) w->o.wp P a w K Q:=by
  intro f args vs h hA gh
  unfold Oper.wp
  rw[gh]
  refine(h hs D ι w vs S Us.next hA).mono ?_
  rintro e w' ⟨r,g',n',D',ι',u,rfl,hn,T,S',U',hle,hR⟩
  exact hK r ⟨g',n'⟩ u D' ι' w' hn T S' hR (U'.more fun _ h=>h.elim) (Nat.le_trans (Nat.le_succ _) hle)
 unfold fF at hv
 split at hv
 ·rename_i f args eb
  rcases hv with⟨r,hP,hn⟩|⟨_,hX⟩|⟨Fi,sz,rows,hM,hn⟩
  ·exact close r σ.get (by unfold VS;rw[eb];exact .inl ⟨hP,rfl⟩) hn
  rotate_left
  ·exact close _ _ (by unfold VS;rw[eb];exact .inr ⟨Fi,sz,rows,hM,rfl,rfl⟩) hn
  ·have kN:=hc
   rw[eb]at kN
   obtain⟨c,ho,kr,E8,nG⟩:=BT kN
   refine JA f _ (c.args.map a.eval) hX (oz E nG) ?_
   simp only[execOp,ho,resolve,kr,Deferred.ofValue,Act.eval,Sem.run_bind,Sem.run_pure,Result.andThen_ok,invoke,Array.empty_append,Array.append_empty]
   exact jx E8
 ·rename_i x args eb
  split at hv
  ·rename_i f cL hx
   have uS:vH (cQ env x) (args.map (cQ env))=some (f,args.map (cQ env)++cL):=by rw[hx];rfl
   rcases hv with⟨r,hP,hn⟩|⟨_,hX⟩|⟨Fi,sz,rows,hM,hn⟩
   ·exact close r σ.get (by unfold VS;rw[eb];exact⟨f,_,uS,.inl ⟨hP,rfl⟩⟩) hn
   rotate_left
   ·exact close _ _ (by unfold VS;rw[eb];exact⟨f,_,uS,.inr ⟨Fi,sz,rows,hM,rfl,rfl⟩⟩) hn
   ·have kN:=hc
    rw[eb]at kN
    obtain⟨c,t,ho,kr,rfl,nG⟩:=tb kN
    obtain⟨first,us,he,E8,hL⟩:=vJ (v:=a.eval (.tmp t)) uS (E t) (oz E nG)
    refine JA f _ (first++c.args.map a.eval++us) hX hL ?_
    simp only[execOp,ho,resolve,kr,he,Deferred.ofValue,Sem.run_bind,Sem.run_pure,Result.andThen_ok,invoke]
    exact jx E8
  ·rename_i f cL hx
   have uS:vH (cQ env x) (args.map (cQ env))=some (f,cL++args.map (cQ env)):=by rw[hx];rfl
   rcases hv with⟨r,hP,hn⟩|⟨_,hX⟩|⟨Fi,sz,rows,hM,hn⟩
   ·exact close r σ.get (by unfold VS;rw[eb];exact⟨f,_,uS,.inl ⟨hP,rfl⟩⟩) hn
   rotate_left
   ·exact close _ _ (by unfold VS;rw[eb];exact⟨f,_,uS,.inr ⟨Fi,sz,rows,hM,rfl,rfl⟩⟩) hn
   ·have kN:=hc
    rw[eb]at kN
    obtain⟨c,t,ho,kr,rfl,nG⟩:=tb kN
    obtain⟨first,us,he,E8,hL⟩:=vJ (v:=a.eval (.tmp t)) uS (E t) (oz E nG)
    refine JA f _ (first++c.args.map a.eval++us) hX hL ?_
    simp only[execOp,ho,resolve,kr,he,Deferred.ofValue,Sem.run_bind,Sem.run_pure,Result.andThen_ok,invoke]
    exact jx E8
  ·exact hv.elim
 ·rename_i m x y eb
  split at hv
  ·rename_i v' g' he
   exact close v' g' (by unfold VS;rw[eb];rw[eb]at he;exact he) hv
  ·exact hv.elim
 ·rename_i m x y eb
  split at hv
  ·rename_i v' g' he
   exact close v' g' (by unfold VS;rw[eb];rw[eb]at he;exact he) hv
  ·exact hv.elim
 ·rename_i m x y eb
  split at hv
  ·rename_i v' g' he
   exact close v' g' (by unfold VS;rw[eb];rw[eb]at he;exact he) hv
  ·exact hv.elim
 ·rename_i m x eb
  split at hv
  ·rename_i v' g' he
   exact close v' g' (by unfold VS;rw[eb];rw[eb]at he;exact he) hv
  ·exact hv.elim
 ·rename_i m x eb
  split at hv
  ·rename_i v' g' he
   exact close v' g' (by unfold VS;rw[eb];rw[eb]at he;exact he) hv
  ·exact hv.elim
 ·rename_i n1 n2 n3 n4 n5 n6 n7
  split at hv
  ·rename_i v' r hq
   refine close v' (bq σ.get ⟨vo.site,σ.next⟩ r) ?_ hv
   unfold VS
   split
   ·rename_i h;exact(n1 _ _ h).elim
   ·rename_i h;exact(n2 _ _ h).elim
   ·rename_i h;exact(n3 _ _ _ h).elim
   ·rename_i h;exact(n4 _ _ _ h).elim
   ·rename_i h;exact(n5 _ _ _ h).elim
   ·rename_i h;exact(n6 _ _ h).elim
   ·rename_i h;exact(n7 _ _ h).elim
   ·exact⟨some r,hq,rfl⟩
  ·rename_i v' hq
   refine close v' σ.get ?_ hv
   unfold VS
   split
   ·rename_i h;exact(n1 _ _ h).elim
   ·rename_i h;exact(n2 _ _ h).elim
   ·rename_i h;exact(n3 _ _ _ h).elim
   ·rename_i h;exact(n4 _ _ _ h).elim
   ·rename_i h;exact(n5 _ _ _ h).elim
   ·rename_i h;exact(n6 _ _ h).elim
   ·rename_i h;exact(n7 _ _ h).elim
   ·exact⟨none,hq,rfl⟩
  ·exact hv.elim
structure St (P:Program) (hs nt:Nat) (D:Nat->Prop) (ι:Names) (env:Env) (σ:ar) (a:Act) (w:World):Prop where
 tp:gw P hs D ι σ.get w
 used:Used ι σ.next (fun _=>False)
 env:cq P w D ι env a
 size:a.tmps.size=nt
theorem wQ (rest:List Oper) {ops:Array Oper} {nt site0:Nat} {draw mk:Bool} {bs:Array Nat} {hidden:List (Nat×Bool)} {K:Env->ar->Prop} {Q:Exit->Act->World->Prop}:∀(l:List Oper) (vl:List bj) (j:Nat) (env:Env) (σ:ar) (a:Act) (w:World) (D:Nat->Prop) (ι:Names) (U:Nat->Prop),
  allM (kI P ops nt site0 draw mk bs hidden) l j=some vl->wpOps (Sound P) draw vl K env σ->gw P hs D ι σ.get w->Used ι σ.next U->(∀s,U s->s<site0+j)->cq P w D ι env a->a.tmps.size=nt->
  (∀iG σ' a' w' D' ι',K iG σ'->Step hs D ι w D' ι' w'->St P hs nt D' ι' iG σ' a' w'->a'.defers=a.defers->σ.next<=σ'.next->wpList P ops Q rest a' w')->wpList P ops Q (l++rest) a w:=by
 intro l
 induction l with
 |nil=>
  intro vl j env σ a w D ι U h hv S Us _ E fj hQ
  simp[allM]at h;subst h
  exact hQ env ⟨σ.get,σ.next+1⟩ a w D ι hv (Step.refl _ _ _ _) ⟨S,Us.next,E,fj⟩ rfl (Nat.le_succ _)
 |cons o l ih=>
  intro vl j env σ a w D ι U h hv S Us hU E fj hQ
  simp only[allM,Option.bind_eq_bind,Option.bind_eq_some_iff,Option.pure_def,Option.some.injEq]at h
  obtain⟨vo,p4,tA,sI,rfl⟩:=h
  obtain⟨hc,hd,BL,xO,hg⟩:=po p4
  have hw:=tC (ops:=ops) (vo:=vo) E hg
  unfold wpOps at hv
  show wpList P ops Q (o::(l++rest)) a w
  unfold wpList
  rw[<-hw]
  split at hv
  ·rename_i Gu
   rw[if_pos Gu]
   refine .inl (zi hc hv S Us (fun h=>by have:=hU _ h;omega) E fun v σ' u D' ι' w' hn T S' hR U' hle=>?_)
   refine ih tA (j+1) (upd env vo.dst v) σ' (a.put o.dst u) w' D' ι' _ sI hn S' U' (fun s BH=>by
    rcases BH with h|h
    ·have:=hU _ h;omega
    ·omega) (by rw[hd];exact iv (oI E T) hR xO fj) (by rw[eW];exact fj) fun iG σ2 a' w2 D2 ι2 hk T2 Nr Dr nf=>hQ iG σ2 a' w2 D2 ι2 hk (T.trans T2) Nr (Dr.trans (put_defers _ _ _)) (Nat.le_trans hle nf)
  ·rename_i Gu
   rw[if_neg Gu]
   refine ih tA (j+1) (upd env vo.dst .undef) σ (a.put o.dst undef) w D ι U sI hv S Us (fun s BH=>by have:=hU _ BH;omega) (by rw[hd];exact iv E cI.undef xO fj) (by rw[eW];exact fj) fun iG σ2 a' w2 D2 ι2 hk T2 Nr Dr nf=>hQ iG σ2 a' w2 D2 ι2 hk T2 Nr (Dr.trans (put_defers _ _ _)) nf
theorem yZ {ops:Array Oper} {nt site0:Nat} {draw mk:Bool} {bs:Array Nat} {hidden:List (Nat×Bool)} {K:Env->ar->Prop} {Q:Exit->Act->World->Prop}:∀(l:List Oper) (vl:List bj) (j:Nat) (env:Env) (σ:ar) (a:Act) (w:World) (D:Nat->Prop) (ι:Names) (U:Nat->Prop),
  allM (kI P ops nt site0 draw mk bs hidden) l j=some vl->wpOps (Sound P) draw vl K env σ->gw P hs D ι σ.get w->Used ι σ.next U->(∀s,U s->s<site0+j)->cq P w D ι env a->a.tmps.size=nt->
  (∀iG σ' a' w' D' ι',K iG σ'->Step hs D ι w D' ι' w'->St P hs nt D' ι' iG σ' a' w'->a'.defers=a.defers->σ.next<=σ'.next->Q .normal a' w')->wpList P ops Q l a w:=fun l vl j env σ a w D ι U h hv S Us hU E fj hQ=>by
 have:=wQ [] l vl j env σ a w D ι U h hv S Us hU E fj hQ
 rwa [List.append_nil]at this
end
end Go.Proofs.YtgoelphibofcmaaGreat.V

namespace Go.Proofs.YtgoelphibofcmaaGreat.V
open Go.RowKit
variable {P:Program} {w w':World} {D D' D2:Nat->Prop} {ι ι' ι2:Names}
section
variable {hs:Nat} {X:fG}
theorem bp {env iT:Env} {x:O} (h:∀t∈gS x,env t=iT t):cQ env x=cQ iT x:=by
 cases x with
 |t n=>exact h n (by simp[gS])
 |_=>rfl
theorem map_congr {env iT:Env} {l:List O} (h:∀t∈l.flatMap gS,env t=iT t):l.map (cQ env)=l.map (cQ iT):=
 List.map_congr_left fun x hx=>bp fun t ht=>h t (List.mem_flatMap.2 ⟨x,hx,ht⟩)
theorem pE {env iT:Env} {x:Option O} (h:∀t∈wR x,env t=iT t):x.map (cQ env)=x.map (cQ iT):=by
 cases x with
 |none=>rfl
 |some y=>simp only[Option.map_some];rw[bp h]
theorem tk {env iT:Env} {o:gz} {g:Rows} {id:Id} (h:∀t∈o.gI,env t=iT t):eP o (cQ env) g id=eP o (cQ iT) g id:=by
 cases o<;>simp only[gz.gI,List.mem_append]at h<;>simp only[eP]
 case dm x=>rw[bp h]
 case pick c a b=>rw[bp (x:=c) fun t ht=>h t (.inl (.inl ht)),bp (x:=a) fun t ht=>h t (.inl (.inr ht)),bp (x:=b) fun t ht=>h t (.inr ht)]
 case box x=>rw[bp h]
 case build z ps=>
  have:(ps.map fun(x:Nat×Nat×O)=>(x.1,x.2.1,cQ env x.2.2))=ps.map fun(x:Nat×Nat×O)=>(x.1,x.2.1,cQ iT x.2.2):=List.map_congr_left fun x hx=>by
   rw[bp (x:=x.2.2) fun t ht=>h t (List.mem_flatMap.2 ⟨x,hx,ht⟩)]
  rw[this]
 case lS a b l=>rw[map_congr h]
 case load a n x=>rw[bp h]
 case AL x=>rw[bp h]
 case bin a b x y=>rw[bp (x:=x) fun t ht=>h t (.inl ht),bp (x:=y) fun t ht=>h t (.inr ht)]
 case sh a x y=>rw[bp (x:=x) fun t ht=>h t (.inl ht),bp (x:=y) fun t ht=>h t (.inr ht)]
 case K4 a x y=>rw[bp (x:=x) fun t ht=>h t (.inl ht),bp (x:=y) fun t ht=>h t (.inr ht)]
 case NM a b x y=>rw[bp (x:=x) fun t ht=>h t (.inl ht),bp (x:=y) fun t ht=>h t (.inr ht)]
 case Sc a b x y=>rw[bp (x:=x) fun t ht=>h t (.inl ht),bp (x:=y) fun t ht=>h t (.inr ht)]
 case Qw a b x=>rw[bp h]
 case Sd a x=>rw[bp h]
 case not x=>rw[bp h]
 case neg x=>rw[bp h]
 case conv k x=>rw[bp h]
 case EP x=>rw[bp h]
 case slice s x lo hi=>rw[bp (x:=x) fun t ht=>h t (.inl (.inl ht)),pE (x:=lo) fun t ht=>h t (.inl (.inr ht)),pE (x:=hi) fun t ht=>h t (.inr ht)]
 case Ar x lo hi=>rw[bp (x:=x) fun t ht=>h t (.inl (.inl ht)),pE (x:=lo) fun t ht=>h t (.inl (.inr ht)),pE (x:=hi) fun t ht=>h t (.inr ht)]
 case fR k x=>rw[bp h]
 case field a b c x=>rw[bp h]
 case dJ s x y=>rw[bp (x:=x) fun t ht=>h t (.inl ht),bp (x:=y) fun t ht=>h t (.inr ht)]
 case LJ n s x y=>rw[bp (x:=x) fun t ht=>h t (.inl ht),bp (x:=y) fun t ht=>h t (.inr ht)]
 case LL x y=>rw[bp (x:=x) fun t ht=>h t (.inl ht),bp (x:=y) fun t ht=>h t (.inr ht)]
 case eD a b c x y=>rw[bp (x:=x) fun t ht=>h t (.inl ht),bp (x:=y) fun t ht=>h t (.inr ht)]
 case extract i x=>rw[bp h]
 case len x=>rw[bp h]
 case LR x=>rw[bp h]
 case Jt x=>rw[bp h]
 case Jj x=>rw[bp h]
 case LY f l=>rw[map_congr h]
 case LZ f l=>rw[map_congr h]
 case mq f l=>rw[map_congr h]
 case jX z x y=>rw[bp (x:=x) fun t ht=>h t (.inl ht),bp (x:=y) fun t ht=>h t (.inr ht)]
theorem gV {env iT:Env} {o:gz} {g:Rows} {id:Id} (h:∀t∈o.gI,env t=iT t):ga o (cQ env) g id=ga o (cQ iT) g id:=by
 cases o<;>simp only[gz.gI,List.mem_append]at h<;>simp only[ga]
 case clear z x=>rw[bp h]
 case mw f l=>rw[map_congr h]
 all_goals rename_i a x y
 all_goals rw[bp (x:=x) fun t ht=>h t (.inl ht),bp (x:=y) fun t ht=>h t (.inr ht)]
theorem HS {n:Nat} {vo:bj} {env iT:Env} {g g':Rows} {v:AV} (h:∀t∈vo.op.gI,env t=iT t) (hv:VS X n vo env g v g'):VS X n vo iT g v g':=by
 unfold VS at hv ⊢
 split at hv
 ·rename_i f args eb
  rw[eb]at h
  simp only[gz.gI]at h
  rw[<-map_congr h];exact hv
 ·rename_i x args eb
  rw[eb]at h
  simp only[gz.gI,List.mem_append]at h
  rw[<-map_congr (l:=args) fun t ht=>h t (.inr ht),<-bp (x:=x) fun t ht=>h t (.inl ht)];exact hv
 ·rw[<-gV h];exact hv
 ·rw[<-gV h];exact hv
 ·rw[<-gV h];exact hv
 ·rw[<-gV h];exact hv
 ·rw[<-gV h];exact hv
 ·rw[<-tk h];exact hv
theorem DT {q:MQ} {vs:List AV} {g:Rows} {id:Id} {v:AV} {r:Row} (h:bD q vs g id=some (v,some r)):∃m,q=.new m:=by
 unfold bD at h
 split at h
 ·exact⟨_,rfl⟩
 ·simp[Option.bind_eq_some_iff]at h
 ·simp at h
 ·cases h
theorem wU {o:gz} {ρ:O->AV} {g:Rows} {id:Id} {v:AV} {r:Row} (h:eP o ρ g id=some (v,some r)):qO o=true:=by
 cases o<;>simp only[eP]at h<;>(try rfl)<;>(try simp at h)
 case mq q xs=>obtain⟨m,rfl⟩:=DT h;rfl
 all_goals (try(split at h<;>simp at h))
theorem wV {o:gz} {ρ:O->AV} {g g2:Rows} {id id2:Id} (h:o.cls=.pure):eP o ρ g id=eP o ρ g2 id2:=by
 cases o<;>(try simp[gz.cls]at h)<;>(try simp only[eP])
 case mq q xs=>cases q<;>simp[gz.cls]at h
theorem vp {n:Nat} {vo:bj} {env:Env} {g g':Rows} {v:AV} (hw:vo.op.cls≠.write) (hv:VS X n vo env g v g'):∃mr,g'=jl g ⟨vo.site,n⟩ mr/\(mr≠none->vo.makes=true)/\∀g0,fW vo.hid n g0=fW vo.hid n g->VS X n vo env g0 v (jl g0 ⟨vo.site,n⟩ mr):=by
 unfold VS at hv
 split at hv
 ·rename_i f args eb
  rcases hv with⟨h1,rfl⟩|⟨hs,sz,rows,hM,rfl,rfl⟩
  ·refine⟨none,rfl,fun h=>(h rfl).elim,fun g0 h0=>?_⟩
   unfold VS;rw[eb];simp only;unfold vI;rw[h0];exact .inl ⟨h1,rfl⟩
  ·refine⟨some _,rfl,fun _=>by unfold bj.makes;rw[eb,hs];simp[gz.lT],fun g0 h0=>?_⟩
   unfold VS;rw[eb];simp only;unfold vI;rw[h0];exact .inr ⟨hs,sz,rows,hM,rfl,rfl⟩
 ·rename_i x args eb
  obtain⟨f,cL,hx,hv⟩:=hv
  rcases hv with⟨h1,rfl⟩|⟨hs,sz,rows,hM,rfl,rfl⟩
  ·refine⟨none,rfl,fun h=>(h rfl).elim,fun g0 h0=>?_⟩
   unfold VS;rw[eb];simp only;unfold vI;rw[h0];exact⟨f,cL,hx,.inl ⟨h1,rfl⟩⟩
  ·refine⟨some _,rfl,fun _=>by unfold bj.makes;rw[eb,hs];simp[gz.lT],fun g0 h0=>?_⟩
   unfold VS;rw[eb];simp only;unfold vI;rw[h0];exact⟨f,cL,hx,.inr ⟨hs,sz,rows,hM,rfl,rfl⟩⟩
 ·rename_i eb;rw[eb]at hw;exact(hw rfl).elim
 ·rename_i eb;rw[eb]at hw;exact(hw rfl).elim
 ·rename_i eb;rw[eb]at hw;exact(hw rfl).elim
 ·rename_i eb;rw[eb]at hw;exact(hw rfl).elim
 ·rename_i eb;rw[eb]at hw;exact(hw rfl).elim
 ·rename_i n1 n2 n3 n4 n5 n6 n7
  obtain⟨mr,hq,rfl⟩:=hv
  refine⟨mr,rfl,fun h=>?_,fun g0 h0=>?_⟩
  ·cases mr with
   |none=>exact(h rfl).elim
   |some r=>unfold bj.makes;rw[wU hq];rfl
  ·unfold VS
   split
   ·rename_i hh;exact(n1 _ _ hh).elim
   ·rename_i hh;exact(n2 _ _ hh).elim
   ·rename_i hh;exact(n3 _ _ _ hh).elim
   ·rename_i hh;exact(n4 _ _ _ hh).elim
   ·rename_i hh;exact(n5 _ _ _ hh).elim
   ·rename_i hh;exact(n6 _ _ hh).elim
   ·rename_i hh;exact(n7 _ _ hh).elim
   ·rw[h0];exact⟨mr,hq,rfl⟩
theorem zq {n:Nat} {vo:bj} {env:Env} {g g':Rows} {v:AV} (hp:vo.op.cls=.pure) (hv:VS X n vo env g v g'):g'=g/\∀g0,VS X n vo env g0 v g0:=by
 unfold VS at hv
 split at hv
 ·rename_i eb;rw[eb]at hp;simp[gz.cls]at hp
 ·rename_i eb;rw[eb]at hp;simp[gz.cls]at hp
 ·rename_i eb;rw[eb]at hp;simp[gz.cls]at hp
 ·rename_i eb;rw[eb]at hp;simp[gz.cls]at hp
 ·rename_i eb;rw[eb]at hp;simp[gz.cls]at hp
 ·rename_i eb;rw[eb]at hp;simp[gz.cls]at hp
 ·rename_i eb;rw[eb]at hp;simp[gz.cls]at hp
 ·rename_i n1 n2 n3 n4 n5 n6 n7
  obtain⟨mr,hq,rfl⟩:=hv
  have UA:mr=none:=by
   cases mr with
   |none=>rfl
   |some r=>have:=wU hq;simp[qO,hp]at this
  subst UA
  refine⟨rfl,fun g0=>?_⟩
  unfold VS
  split
  ·rename_i hh;exact(n1 _ _ hh).elim
  ·rename_i hh;exact(n2 _ _ hh).elim
  ·rename_i hh;exact(n3 _ _ _ hh).elim
  ·rename_i hh;exact(n4 _ _ _ hh).elim
  ·rename_i hh;exact(n5 _ _ _ hh).elim
  ·rename_i hh;exact(n6 _ _ hh).elim
  ·rename_i hh;exact(n7 _ _ hh).elim
  ·exact⟨none,by rw[wV hp];exact hq,rfl⟩
def GS (X:fG) (n:Nat) (vo:bj) (env:Env) (g:Rows) (v:AV) (g':Rows):Prop:=
 if aM vo.guard env then VS X n vo env g v g' else v=.undef/\g'=g
theorem CB {hid:List Nat} {g:Rows} {s n:Nat} {mr:Option Row} (h:mr≠none->hid.contains s=true):fW hid n (jl g ⟨s,n⟩ mr)=fW hid n g:=by
 cases mr with
 |none=>rfl
 |some r=>
  have hc:=h (by simp)
  cases hid with
  |nil=>simp at hc
  |cons a l=>
   funext i
   show(if (a::l).contains i.site=true/\i.ck=n then none else jl g ⟨s,n⟩ (some r) i)=if (a::l).contains i.site=true/\i.ck=n then none else g i
   by_cases hi:i=⟨s,n⟩
   ·subst hi;rw[if_pos ⟨hc,rfl⟩,if_pos ⟨hc,rfl⟩]
   ·simp only[jl,bq,if_neg hi]
theorem FR {g:Rows} {i j:Id} (h:i≠j) (m1 m2:Option Row):jl (jl g i m1) j m2=jl (jl g j m2) i m1:=by
 cases m1<;>cases m2<;>simp only[jl]
 funext k
 simp only[bq]
 by_cases h1:k=i
 ·subst h1;rw[if_neg h,if_pos rfl];simp
 ·by_cases h2:k=j
  ·subst h2;simp[h1]
  ·simp[h1,h2]
theorem xq {env:Env} {d e:Option Nat} {v u:AV} (h:∀k,d=some k->e≠some k):upd (upd env d v) e u=upd (upd env e u) d v:=by
 cases d with
 |none=>rfl
 |some d=>
  cases e with
  |none=>rfl
  |some e=>
   have gW:d≠e:=fun he=>h d rfl (by rw[he])
   funext t
   simp only[upd]
   by_cases h1:t=d
   ·subst h1;rw[if_neg gW,if_pos rfl,if_pos rfl]
   ·by_cases h2:t=e
    ·subst h2;rw[if_pos rfl,if_neg h1,if_pos rfl]
    ·simp[h1,h2]
theorem mL {env:Env} {d:Option Nat} {v:AV} {l:List Nat} (h:∀k,d=some k->k∉l):∀t∈l,upd env d v t=env t:=by
 intro t ht
 cases d with
 |none=>rfl
 |some d=>
  have:t≠d:=fun he=>h d rfl (he▸ht)
  simp[upd,this]
structure CU (x y:bj):Prop where
 xy:∀k,x.dst=some k->k∉y.gI
 yx:∀k,y.dst=some k->k∉x.gI
 dst:∀k,x.dst=some k->y.dst≠some k
 cls:clash x.op.cls y.op.cls=false
 hx:x.makes=true->y.hid.contains x.site=true
 hy:y.makes=true->x.hid.contains y.site=true
 site:x.site≠y.site
theorem CU.symm {x y:bj} (h:CU x y):CU y x:=
 ⟨h.yx,h.xy,fun k hk he=>h.dst k he hk,by have:=h.cls;revert this;cases x.op.cls<;>cases y.op.cls<;>simp[clash],h.hy,h.hx,fun e=>h.site e.symm⟩
theorem qw {x y:bj} (h:E0 x y=true):CU x y:=by
 unfold E0 at h
 simp only[Bool.and_eq_true,Bool.not_eq_true',Bool.or_eq_true,bne_iff_ne]at h
 obtain⟨⟨⟨⟨h1,h2⟩,h3⟩,h4⟩,h5⟩:=h
 unfold tz at h1
 simp only[Bool.and_eq_true]at h1
 obtain⟨a1,a2⟩:=h1
 refine⟨fun k hk=>?_,fun k hk=>?_,fun k hk=>?_,h2,fun hm=>?_,fun hm=>?_,h5⟩
 ·rw[hk]at a1;simp at a1;exact a1.1
 ·rw[hk]at a2;simpa using a2
 ·rw[hk]at a1;simp at a1;exact a1.2
 ·rcases h3 with h3|h3
  ·rw[hm]at h3;cases h3
  ·exact h3
 ·rcases h4 with h4|h4
  ·rw[hm]at h4;cases h4
  ·exact h4
theorem se {vo:bj} {t:Nat} (h:t∈vo.op.gI):t∈vo.gI:=List.mem_append_left _ h
theorem nw {vo:bj} {env iT:Env} (h:∀t∈vo.gI,env t=iT t):aM vo.guard env=aM vo.guard iT:=by
 unfold aM
 cases hg:vo.guard with
 |none=>rfl
 |some p=>
  obtain⟨t,b⟩:=p
  have:env t=iT t:=h t (List.mem_append_right _ (by rw[hg];simp))
  simp only[this]
theorem vg {n:Nat} {vo:bj} {env iT:Env} {g g':Rows} {v:AV} (h:∀t∈vo.gI,env t=iT t) (hv:GS X n vo env g v g'):GS X n vo iT g v g':=by
 unfold GS at hv ⊢
 rw[<-nw h]
 split at hv
 ·rename_i hw;rw[if_pos hw];exact HS (fun t ht=>h t (se ht)) hv
 ·rename_i hw;rw[if_neg hw];exact hv
theorem EF {n:Nat} {x y:bj} {env:Env} {g g1 g2:Rows} {v v':AV} (F:CU x y) (h1:GS X n x env g v g1) (h2:GS X n y (upd env x.dst v) g1 v' g2):
  ∃Lf,GS X n y env g v' Lf/\GS X n x (upd env y.dst v') Lf v g2/\upd (upd env x.dst v) y.dst v'=upd (upd env y.dst v') x.dst v:=by
 have M1:=xq (env:=env) (v:=v) (u:=v') F.dst
 replace h2:GS X n y env g1 v' g2:=vg (mL F.xy) h2
 have back:∀{Lf},GS X n x env Lf v g2->GS X n x (upd env y.dst v') Lf v g2:=fun h=>vg (fun t ht=>(mL F.yx t ht).symm) h
 unfold GS at h1 h2
 by_cases wx:aM x.guard env=true
 ·rw[if_pos wx]at h1
  by_cases wy:aM y.guard env=true
  ·rw[if_pos wy]at h2
   by_cases cx:x.op.cls=.write
   ·have cy:y.op.cls=.pure:=by
     have:=F.cls;rw[cx]at this
     cases hc:y.op.cls<;>simp[clash,hc]at this ⊢
    obtain⟨rfl,dI⟩:=zq cy h2
    exact⟨g,by unfold GS;rw[if_pos wy];exact dI g,back (by unfold GS;rw[if_pos wx];exact h1),M1⟩
   ·by_cases cy:y.op.cls=.write
    ·have cx':x.op.cls=.pure:=by
      have:=F.cls;rw[cy]at this
      cases hc:x.op.cls<;>simp[clash,hc]at this ⊢
     obtain⟨rfl,dI⟩:=zq cx' h1
     exact⟨g2,by unfold GS;rw[if_pos wy];exact h2,back (by unfold GS;rw[if_pos wx];exact dI g2),M1⟩
    ·obtain⟨mx,rfl,kx,Tm⟩:=vp cx h1
     obtain⟨my,rfl,ky,Nw⟩:=vp cy h2
     have gW:(⟨x.site,n⟩:Id)≠⟨y.site,n⟩:=fun e=>F.site (by injection e)
     refine⟨jl g ⟨y.site,n⟩ my,?_,back ?_,M1⟩
     ·unfold GS;rw[if_pos wy]
      exact Nw g (CB fun h=>F.hx (kx h)).symm
     ·unfold GS;rw[if_pos wx,FR gW]
      exact Tm _ (CB fun h=>F.hy (ky h))
  ·rw[if_neg wy]at h2
   obtain⟨rfl,rfl⟩:=h2
   exact⟨g,by unfold GS;rw[if_neg wy];exact⟨rfl,rfl⟩,back (by unfold GS;rw[if_pos wx];exact h1),M1⟩
 ·rw[if_neg wx]at h1
  obtain⟨rfl,rfl⟩:=h1
  exact⟨g2,h2,back (by unfold GS;rw[if_neg wx];exact⟨rfl,rfl⟩),M1⟩
end
end Go.Proofs.YtgoelphibofcmaaGreat.V

namespace Go.Proofs.YtgoelphibofcmaaGreat.V
open Go.RowKit
variable {P:Program} {w w':World} {D D' D2:Nat->Prop} {ι ι' ι2:Names}
section
variable {hs:Nat} {X:fG}
def jm (acc:Array Nat) (o:Oper):Nat:=o.after.foldl (fun s e=>if Region.binds .any e then s|||2 ^ e.on|||acc.getD e.on 0 else s) 0
theorem KZ (ops:Array Oper):jC ops=ops.foldl (fun acc o=>acc.push (jm acc o)) #[]:=rfl
theorem A9 {acc:Array Nat} {o:Oper} {i:Nat} (h:(jm acc o).testBit i=true):∃e∈o.after,Region.binds .any e=true/\(e.on=i∨(acc.getD e.on 0).testBit i=true):=by
 unfold jm at h
 rw[<-Array.foldl_toList]at h
 have gen:∀(l:List Edge) (s:Nat),(l.foldl (fun s e=>if Region.binds .any e then s|||2 ^ e.on|||acc.getD e.on 0 else s) s).testBit i=true->s.testBit i=true∨∃e∈l,Region.binds .any e=true/\(e.on=i∨(acc.getD e.on 0).testBit i=true):=by
  intro l
  induction l with
  |nil=>intro s h;exact .inl h
  |cons e r ih=>
   intro s h
   rw[List.foldl_cons]at h
   rcases ih _ h with h|⟨e',Lm,h'⟩
   ·by_cases hb:Region.binds .any e=true
    ·rw[if_pos hb]at h
     simp only[Nat.testBit_or,Bool.or_eq_true]at h
     rcases h with(h|h)|h
     ·exact .inl h
     ·refine .inr ⟨e,by simp,hb,.inl ?_⟩
      rw[Nat.testBit_two_pow]at h
      simpa using h
     ·exact .inr ⟨e,by simp,hb,.inr h⟩
    ·rw[if_neg hb]at h;exact .inl h
   ·exact .inr ⟨e',List.mem_cons_of_mem _ Lm,h'⟩
 rcases gen _ _ h with h|⟨e,he,h⟩
 ·simp at h
 ·exact⟨e,Array.mem_toList_iff.1 he,h⟩
theorem H0 {ops:Array Oper} {j i:Nat} (h:((jC ops).getD j 0).testBit i=true):∃o,ops[j]? =some o/\∃e∈o.after,Region.binds .any e=true/\(e.on=i∨((jC ops).getD e.on 0).testBit i=true):=by
 have key:∀(l pre:List Oper) (acc:Array Nat),acc.size=pre.length->(∀j i,(acc.getD j 0).testBit i=true->∃o,pre[j]? =some o/\∃e∈o.after,Region.binds .any e=true/\(e.on=i∨(acc.getD e.on 0).testBit i=true))->
   ∀j i,((l.foldl (fun acc o=>acc.push (jm acc o)) acc).getD j 0).testBit i=true->∃o,(pre++l)[j]? =some o/\∃e∈o.after,Region.binds .any e=true/\(e.on=i∨((l.foldl (fun acc o=>acc.push (jm acc o)) acc).getD e.on 0).testBit i=true):=by
  intro l
  induction l with
  |nil=>intro pre acc _ h j i hb;simpa using h j i hb
  |cons o r ih=>
   intro pre acc fj h j i hb
   have yY:∀k,k<acc.size->(acc.push (jm acc o)).getD k 0=acc.getD k 0:=fun k hk=>by
    simp only[Array.getD_eq_getD_getElem?,Array.getElem?_push]
    rw[if_neg (by omega)]
   have big:∀k,acc.size<=k->acc.getD k 0=0:=fun k hk=>by simp[Array.getElem?_eq_none hk]
   have lift:∀k i,(acc.getD k 0).testBit i=true->((acc.push (jm acc o)).getD k 0).testBit i=true:=fun k i hk=>by
    by_cases dS:k<acc.size
    ·rw[yY k dS];exact hk
    ·rw[big k (by omega)]at hk;simp at hk
   have:=ih (pre++[o]) (acc.push (jm acc o)) (by simp[fj]) (fun j i hb=>by
    by_cases dS:j<acc.size
    ·rw[yY j dS]at hb
     obtain⟨o',CN,e,he,fP,h2⟩:=h j i hb
     refine⟨o',by rw[List.getElem?_append_left (by omega)];exact CN,e,he,fP,?_⟩
     rcases h2 with h2|h2
     ·exact .inl h2
     ·exact .inr (lift _ _ h2)
    ·by_cases hj:j=acc.size
     ·subst hj
      have e0:(acc.push (jm acc o)).getD acc.size 0=jm acc o:=by simp
      rw[e0]at hb
      obtain⟨e,he,fP,h2⟩:=A9 hb
      refine⟨o,by rw[List.getElem?_append_right (by omega),fj];simp,e,he,fP,?_⟩
      rcases h2 with h2|h2
      ·exact .inl h2
      ·exact .inr (lift _ _ h2)
     ·have:(acc.push (jm acc o)).getD j 0=0:=by
       simp only[Array.getD_eq_getD_getElem?]
       rw[Array.getElem?_eq_none (by simp;omega)];rfl
      rw[this]at hb;simp at hb) j i (by simpa using hb)
   simpa using this
 rw[KZ,<-Array.foldl_toList]at h ⊢
 have:=key ops.toList [] #[] rfl (fun j i h=>by simp at h) j i h
 simpa using this
def DC (ops:Array Oper) (listed:Array Bool):Prop:=∀k i,listed.getD k false=true->((jC ops).getD k 0).testBit i=true->listed.getD i false=true
theorem kV {ops:Array Oper} {listed:Array Bool} (h:DC ops listed) {j:Nat} (hj:j∈Region.ready .any ops listed):∀i,((jC ops).getD j 0).testBit i=true->listed.getD i false=true:=by
 intro i hb
 obtain⟨_,o,ho,dI⟩:=mem_ready.1 hj
 obtain⟨o',CN,e,he,fP,h2⟩:=H0 hb
 rw[ho]at CN;injection CN with CN;subst CN
 have hl:=dI e he fP
 rcases h2 with h2|h2
 ·rw[<-h2];exact hl
 ·exact h _ _ hl h2
theorem DC.list {ops:Array Oper} {listed:Array Bool} (h:DC ops listed) {j:Nat} (hj:j∈Region.ready .any ops listed):DC ops (listed.setIfInBounds j true):=by
 intro k i hk hb
 by_cases hkj:k=j
 ·subst hkj;exact getD_set_true (kV h hj i hb)
 ·rw[getD_set_ne false (fun e=>hkj e.symm)]at hk
  exact getD_set_true (h k i hk hb)
theorem je {ops:Array Oper} {listed:Array Bool} {j:Nat} (hj:j∈Region.ready .any ops listed):listed.getD j false=false:=by
 have h0:=(mem_ready.1 hj).1
 rcases Nat.lt_or_ge j listed.size with h|h
 ·simp[h]at h0 ⊢;exact h0
 ·simp[Array.getElem?_eq_none h]at h0
def Kn (X:fG) (n:Nat) (ops:Array Oper) (vl:List bj) (K:Env->Rows->Prop):Nat->Array Bool->Env->Rows->Prop
 |0,listed,env,g=>Region.ready .any ops listed=[]/\K env g
 |f+1,listed,env,g=>(Region.ready .any ops listed=[]->K env g)/\∀i∈Region.ready .any ops listed,∃vo,vl[i]? =some vo/\∃v g',GS X n vo env g v g'/\Kn X n ops vl K f (listed.setIfInBounds i true) (upd env vo.dst v) g'
theorem Bl {ops:Array Oper} {vl:List bj} (h:oH ops vl (jC ops)=true) {i j:Nat} {x y:bj} (hi:vl[i]? =some x) (hj:vl[j]? =some y) (Dw:i≠j) (h1:((jC ops).getD j 0).testBit i=false) (h2:((jC ops).getD i 0).testBit j=false):CU x y:=by
 unfold oH at h
 simp only[Bool.and_eq_true,List.all_eq_true]at h
 obtain⟨_,h⟩:=h
 have mem:∀(k:Nat) (z:bj),vl[k]? =some z->(z,k)∈vl.zipIdx:=fun k z hk=>by
  rw[List.mem_iff_getElem?]
  exact⟨k,by simp[List.getElem?_zipIdx,hk]⟩
 rcases Nat.lt_or_gt_of_ne Dw with dS|Lp
 ·have:=h _ (mem j y hj) _ (mem i x hi)
  simp only[dS,decide_true,Bool.not_true,Bool.false_or,h1]at this
  exact qw this
 ·have:=h _ (mem i x hi) _ (mem j y hj)
  simp only[Lp,decide_true,Bool.not_true,Bool.false_or,h2]at this
  exact(qw this).symm
theorem EC {n:Nat} {ops:Array Oper} {vl:List bj} {K:Env->Rows->Prop} (wm:oH ops vl (jC ops)=true) (hlen:vl.length=ops.size) {i:Nat} {vi:bj} (hi:vl[i]? =some vi) {v:AV}:∀(fuel:Nat) (listed:Array Bool) (env:Env) (g g1:Rows),
  DC ops listed->i∈Region.ready .any ops listed->GS X n vi env g v g1->Kn X n ops vl K fuel (listed.setIfInBounds i true) (upd env vi.dst v) g1->Kn X n ops vl K (fuel+1) listed env g:=by
 intro fuel
 induction fuel with
 |zero=>
  intro listed env g g1 _ hr hG H
  refine⟨fun h=>(by rw[h]at hr;cases hr),fun j hj=>?_⟩
  by_cases mN:j=i
  ·subst mN;exact⟨vi,hi,v,g1,hG,H⟩
  ·have:=ready_mono hj mN
   rw[H.1]at this;cases this
 |succ fuel ih=>
  intro listed env g g1 sE hr hG H
  refine⟨fun h=>(by rw[h]at hr;cases hr),fun j hj=>?_⟩
  by_cases mN:j=i
  ·subst mN;exact⟨vi,hi,v,g1,hG,H⟩
  ·obtain⟨vj,LH,v',g2,hG2,H2⟩:=H.2 j (ready_mono hj mN)
   have b1:((jC ops).getD j 0).testBit i=false:=by
    cases hb:((jC ops).getD j 0).testBit i with
    |false=>rfl
    |true=>have:=kV sE hj i hb;rw[je hr]at this;cases this
   have b2:((jC ops).getD i 0).testBit j=false:=by
    cases hb:((jC ops).getD i 0).testBit j with
    |false=>rfl
    |true=>have:=kV sE hr j hb;rw[je hj]at this;cases this
   have F:=Bl wm hi LH (fun e=>mN e.symm) b1 b2
   obtain⟨Lf,q1,q2,q3⟩:=EF F hG hG2
   refine⟨vj,LH,v',Lf,q1,ih _ _ _ g2 (sE.list hj) (ready_mono hr (fun e=>mN e.symm)) q2 ?_⟩
   rw[<-q3,Array.setIfInBounds_comm _ _ mN]
   exact H2
theorem Nt {n:Nat} {vo:bj} {env:Env} {g:Rows} {v:AV} {mr:Option Row} (h:eP vo.op (cQ env) (fW vo.hid n g) ⟨vo.site,n⟩=some (v,mr)):VS X n vo env g v (jl g ⟨vo.site,n⟩ mr):=by
 unfold VS
 split
 ·rename_i eb;rw[eb]at h;simp[eP]at h
 ·rename_i eb;rw[eb]at h;simp[eP]at h
 ·rename_i eb;rw[eb]at h;simp[eP]at h
 ·rename_i eb;rw[eb]at h;simp[eP]at h
 ·rename_i eb;rw[eb]at h;simp[eP]at h
 ·rename_i eb;rw[eb]at h;simp[eP]at h
 ·rename_i eb;rw[eb]at h;simp[eP]at h
 ·exact⟨mr,h,rfl⟩
theorem HT {n:Nat} {vo:bj} {env:Env} {g g':Rows} {v:AV} (h:ga vo.op (cQ env) g ⟨vo.site,n⟩=some (v,g')):VS X n vo env g v g':=by
 unfold VS
 split
 ·rename_i eb;rw[eb]at h;simp[ga]at h
 ·rename_i eb;rw[eb]at h;simp[ga]at h
 ·exact h
 ·exact h
 ·exact h
 ·exact h
 ·exact h
 ·rename_i n1 n2 n3 n4 n5 n6 n7
  exfalso
  unfold ga at h
  split at h
  ·rename_i hh;exact n3 _ _ _ hh
  ·rename_i hh;exact n4 _ _ _ hh
  ·rename_i hh;exact n5 _ _ _ hh
  ·rename_i hh;exact n6 _ _ hh
  ·rename_i hh;exact n7 _ _ hh
  ·simp at h
theorem Pf {vo:bj} {env:Env} {σ:ar} {next:AV->ar->Prop} (hv:fF X true vo env σ next):∃v g',VS X σ.next vo env σ.get v g'/\next v ⟨g',σ.next⟩:=by
 unfold fF at hv
 split at hv
 ·rename_i f args eb
  rcases hv with⟨r,hP,hn⟩|⟨h,_⟩|⟨hs,sz,rows,hM,hn⟩
  ·exact⟨r,σ.get,by unfold VS;rw[eb];exact .inl ⟨hP,rfl⟩,hn⟩
  ·cases h
  ·exact⟨_,_,by unfold VS;rw[eb];exact .inr ⟨hs,sz,rows,hM,rfl,rfl⟩,hn⟩
 ·rename_i x args eb
  split at hv
  ·rename_i f cL hx
   have uS:vH (cQ env x) (args.map (cQ env))=some (f,args.map (cQ env)++cL):=by rw[hx];rfl
   rcases hv with⟨r,hP,hn⟩|⟨h,_⟩|⟨hs,sz,rows,hM,hn⟩
   ·exact⟨r,σ.get,by unfold VS;rw[eb];exact⟨f,_,uS,.inl ⟨hP,rfl⟩⟩,hn⟩
   ·cases h
   ·exact⟨_,_,by unfold VS;rw[eb];exact⟨f,_,uS,.inr ⟨hs,sz,rows,hM,rfl,rfl⟩⟩,hn⟩
  ·rename_i f cL hx
   have uS:vH (cQ env x) (args.map (cQ env))=some (f,cL++args.map (cQ env)):=by rw[hx];rfl
   rcases hv with⟨r,hP,hn⟩|⟨h,_⟩|⟨hs,sz,rows,hM,hn⟩
   ·exact⟨r,σ.get,by unfold VS;rw[eb];exact⟨f,_,uS,.inl ⟨hP,rfl⟩⟩,hn⟩
   ·cases h
   ·exact⟨_,_,by unfold VS;rw[eb];exact⟨f,_,uS,.inr ⟨hs,sz,rows,hM,rfl,rfl⟩⟩,hn⟩
  ·exact hv.elim
 ·split at hv
  ·rename_i v g h;exact⟨v,g,HT h,hv⟩
  ·exact hv.elim
 ·split at hv
  ·rename_i v g h;exact⟨v,g,HT h,hv⟩
  ·exact hv.elim
 ·split at hv
  ·rename_i v g h;exact⟨v,g,HT h,hv⟩
  ·exact hv.elim
 ·split at hv
  ·rename_i v g h;exact⟨v,g,HT h,hv⟩
  ·exact hv.elim
 ·split at hv
  ·rename_i v g h;exact⟨v,g,HT h,hv⟩
  ·exact hv.elim
 ·split at hv
  ·rename_i v r h;exact⟨v,_,Nt h,hv⟩
  ·rename_i v h;exact⟨v,_,Nt h,hv⟩
  ·exact hv.elim
theorem xr {ops:Array Oper} {vl:List bj} {K:Env->ar->Prop} {n:Nat} (wm:oH ops vl (jC ops)=true) (hlen:vl.length=ops.size):∀(r:List bj) (k:Nat) (listed:Array Bool) (env:Env) (g:Rows),
  (∀j,r[j]? =vl[k+j]?)->listed.size=ops.size->(∀i,i<ops.size->listed[i]? =some (decide (i<k)))->k+r.length=ops.size->DC ops listed->wpOps X true r K env ⟨g,n⟩->Kn X n ops vl (fun env g=>K env ⟨g,n+1⟩) r.length listed env g
 |[],k,listed,env,g,_,fj,hl,hk,_,hv=>by
  refine⟨?_,hv⟩
  rw[List.eq_nil_iff_forall_not_mem]
  intro j hj
  obtain⟨h0,o,ho,_⟩:=mem_ready.1 hj
  have dS:j<ops.size:=(Array.getElem?_eq_some_iff.1 ho).1
  have:=hl j dS
  simp at hk
  simp[this,show j<k by omega]at h0
 |vo::r,k,listed,env,g,hr,fj,hl,hk,sE,hv=>by
  simp only[List.length_cons]at hk
  have p4:vl[k]? =some vo:=by simpa using(hr 0).symm
  have l7:k<ops.size:=by omega
  have IY:k∈Region.ready .any ops listed:=by
   rw[mem_ready]
   refine⟨by simp[hl k l7],ops[k],Array.getElem?_eq_getElem l7,fun e he hb=>?_⟩
   unfold oH ET at wm
   simp only[Bool.and_eq_true,List.all_eq_true]at wm
   have hm:(ops[k],k)∈ops.toList.zipIdx:=by
    rw[List.mem_iff_getElem?]
    exact⟨k,by simp[List.getElem?_zipIdx,l7]⟩
   have:=wm.1 _ hm
   rw[Array.all_eq_true_iff_forall_mem]at this
   have:=this e he
   simp only[hb,Bool.not_true,Bool.false_or,decide_eq_true_eq]at this
   simp[hl e.on (by omega),this]
  have hGS:∃v g',GS X n vo env g v g'/\wpOps X true r K (upd env vo.dst v) ⟨g',n⟩:=by
   unfold wpOps at hv
   unfold GS
   split at hv
   ·rename_i hw
    simp only[hw,if_true]
    exact Pf hv
   ·rename_i hw
    simp only[hw]
    exact⟨.undef,g,⟨rfl,rfl⟩,hv⟩
  obtain⟨v,g',h1,h2⟩:=hGS
  refine EC wm hlen p4 r.length listed env g g' sE IY h1 ?_
  refine xr wm hlen r (k+1) _ _ _ (fun j=>by have:=hr (j+1);simpa[Nat.add_assoc,Nat.add_comm 1 j]using this) (by simp[fj]) (fun i hi=>?_) (by omega) (sE.list IY) h2
  by_cases yz:i=k
  ·subst yz;simp[fj,l7]
  ·rw[Array.getElem?_setIfInBounds_ne (fun e=>yz e.symm),hl i hi]
   congr 1
   have:(i<k)=(i<k+1):=by apply propext;omega
   simp[this]
theorem oy {f:Nat->Oper->Option bj}:∀{l:List Oper} {vl:List bj} {j:Nat},allM f l j=some vl->vl.length=l.length/\∀(i:Nat) (o:Oper),l[i]? =some o->∃vo,vl[i]? =some vo/\f (j+i) o=some vo
 |[],vl,j,h=>by simp[allM]at h;subst h;simp
 |o::l,vl,j,h=>by
  simp only[allM,Option.bind_eq_bind,Option.bind_eq_some_iff,Option.pure_def,Option.some.injEq]at h
  obtain⟨vo,p4,tA,sI,rfl⟩:=h
  obtain⟨h1,h2⟩:=oy sI
  refine⟨by simp[h1],fun i o' hi=>?_⟩
  cases i with
  |zero=>simp at hi;subst hi;exact⟨vo,rfl,p4⟩
  |succ i=>
   simp at hi
   obtain⟨q,hq,hf⟩:=h2 i o' hi
   exact⟨q,by simpa using hq,by rw[<-hf];congr 1;omega⟩
theorem yc {ops:Array Oper} {vl:List bj} {nt site0:Nat} {draw mk:Bool} {bs:Array Nat} {hidden:List (Nat×Bool)} {n:Nat} {K:Env->Rows->Prop} {Q:Exit->Act->World->Prop} (dI:allM (kI P ops nt site0 draw mk bs hidden) ops.toList 0=some vl):
  ∀(fuel:Nat) (listed:Array Bool) (env:Env) (g:Rows) (a:Act) (w:World) (D:Nat->Prop) (ι:Names) (U:Nat->Prop),Kn (Sound P) n ops vl K fuel listed env g->gw P hs D ι g w->Used ι n U->(∀s,U s->∃i,s=site0+i/\listed.getD i false=true)->cq P w D ι env a->a.tmps.size=nt->
  (∀iG g' a' w' D' ι' U',K iG g'->Step hs D ι w D' ι' w'->gw P hs D' ι' g' w'->Used ι' n U'->cq P w' D' ι' iG a'->a'.tmps.size=nt->a'.defers=a.defers->Q .normal a' w')->wpAny P .any ops Q fuel listed a w:=by
 intro fuel
 induction fuel with
 |zero=>intro listed env g a w D ι U h S Us hU E fj hQ;exact⟨h.1,hQ env g a w D ι U h.2 (Step.refl _ _ _ _) S Us E fj rfl⟩
 |succ fuel ih=>
  intro listed env g a w D ι U h S Us hU E fj hQ
  refine⟨fun hr=>hQ env g a w D ι U (h.1 hr) (Step.refl _ _ _ _) S Us E fj rfl,fun i hi=>?_⟩
  obtain⟨vo,p4,v,g',hG,MY⟩:=h.2 i hi
  obtain⟨_,o,ho,_⟩:=mem_ready.1 hi
  obtain⟨vo',mu,QJ⟩:=(oy dI).2 i o (by simpa using ho)
  rw[p4]at mu;injection mu with mu;subst mu
  rw[Nat.zero_add]at QJ
  obtain⟨hc,hd,BL,xO,hg⟩:=po QJ
  have hw:=tC (ops:=ops) (vo:=vo) E hg
  have TX:¬U vo.site:=fun hu=>by
   obtain⟨i',he,hl⟩:=hU _ hu
   have:i'=i:=by omega
   subst this
   rw[je hi]at hl;cases hl
  have jD:i<listed.size:=by
   have h0:=(mem_ready.1 hi).1
   rcases Nat.lt_or_ge i listed.size with h|h
   ·exact h
   ·simp[Array.getElem?_eq_none h]at h0
  unfold wpOp
  simp only[ho]
  rw[<-hw]
  unfold GS at hG
  by_cases Gu:aM vo.guard env=true
  ·rw[if_pos Gu]
   rw[if_pos Gu]at hG
   refine .inl (A4 hc hG S Us TX E fun a' w' ⟨u,D',ι',ha,T,S',hR,U'⟩=>?_)
   subst ha
   refine ih _ _ _ _ w' D' ι' _ MY S' U' (fun s BH=>?_) (by rw[hd];exact iv (oI E T) hR xO fj) (by rw[eW];exact fj) fun iG g2 a2 w2 D2 ι2 U2 hk T2 S2 Tl E2 lI Dr=>hQ iG g2 a2 w2 D2 ι2 U2 hk (T.trans T2) S2 Tl E2 lI (Dr.trans (put_defers _ _ _))
   rcases BH with h|h
   ·obtain⟨i',he,hl⟩:=hU _ h
    exact⟨i',he,getD_set_true hl⟩
   ·exact⟨i,by rw[h,BL],by simp[jD]⟩
  ·rw[if_neg Gu]
   rw[if_neg Gu]at hG
   obtain⟨rfl,rfl⟩:=hG
   refine ih _ _ _ _ w D ι U MY S Us (fun s BH=>?_) (by rw[hd];exact iv E cI.undef xO fj) (by rw[eW];exact fj) fun iG g2 a2 w2 D2 ι2 U2 hk T2 S2 Tl E2 lI Dr=>hQ iG g2 a2 w2 D2 ι2 U2 hk T2 S2 Tl E2 lI (Dr.trans (put_defers _ _ _))
   obtain⟨i',he,hl⟩:=hU _ BH
   exact⟨i',he,getD_set_true hl⟩
end
end Go.Proofs.YtgoelphibofcmaaGreat.V

namespace Go.Proofs.YtgoelphibofcmaaGreat.V
open Go.RowKit
variable {P:Program} {w w':World} {D D' D2:Nat->Prop} {ι ι' ι2:Names}
section
variable {hs:Nat} {X:fG}
def p9 (X:fG):Prop:=∀f args σ K K',(∀r σ',K r σ'->K' r σ')->X f args σ K->X f args σ K'
theorem kH:p9 (Sound P):=fun _ _ _ _ _ hK h hs D ι w vs S U A=>
 (h hs D ι w vs S U A).mono fun _ _ ⟨r,g',n',D',ι',u,he,hk,rest⟩=>⟨r,g',n',D',ι',u,he,hK _ _ hk,rest⟩
def step (X:fG) (vo:bj) (N:Env->ar->Prop) (env:Env) (σ:ar):Prop:=
 if aM vo.guard env then fF X false vo env σ fun v σ'=>N (upd env vo.dst v) σ' else N (upd env vo.dst .undef) σ
theorem qn (hK:p9 X) {draw:Bool} {hid:List Nat} {site f:Nat} {args:List AV} {σ:ar} {n n':AV->ar->Prop} (hn:∀v σ',n v σ'->n' v σ') (hp:cH X draw hid site f args σ n):cH X draw hid site f args σ n':=by
 rcases hp with⟨r,h1,h2⟩|⟨h1,h2⟩|⟨h1,sz,rows,h2,h3⟩
 ·exact .inl ⟨r,h1,hn _ _ h2⟩
 ·exact .inr (.inl ⟨h1,hK _ _ _ _ _ hn h2⟩)
 ·exact .inr (.inr ⟨h1,sz,rows,h2,hn _ _ h3⟩)
theorem CC (hK:p9 X) {draw:Bool} {o:bj} {env:Env} {σ:ar} {n n':AV->ar->Prop} (hn:∀v σ',n v σ'->n' v σ') (hp:fF X draw o env σ n):fF X draw o env σ n':=by
 unfold fF at hp ⊢
 split at hp
 ·exact qn hK hn hp
 ·split at hp
  ·exact qn hK hn hp
  ·exact qn hK hn hp
  ·exact hp.elim
 ·split at hp
  ·exact hn _ _ hp
  ·exact hp.elim
 ·split at hp
  ·exact hn _ _ hp
  ·exact hp.elim
 ·split at hp
  ·exact hn _ _ hp
  ·exact hp.elim
 ·split at hp
  ·exact hn _ _ hp
  ·exact hp.elim
 ·split at hp
  ·exact hn _ _ hp
  ·exact hp.elim
 ·split at hp
  ·exact hn _ _ hp
  ·exact hn _ _ hp
  ·exact hp.elim
theorem jT (hK:p9 X) {vo:bj} {N N':Env->ar->Prop} (h:∀e s,N e s->N' e s) {env:Env} {σ:ar} (hp:step X vo N env σ):step X vo N' env σ:=by
 unfold step at hp ⊢
 split at hp
 ·rename_i hw;rw[if_pos hw];exact CC hK (fun v σ'=>h _ _) hp
 ·rename_i hw;rw[if_neg hw];exact h _ _ hp
theorem Hq {env iT:Env} {vo:bj} {σ:ar} {n:AV->ar->Prop} (h:∀t∈vo.op.gI,env t=iT t) (hv:fF X false vo env σ n):fF X false vo iT σ n:=by
 unfold fF at hv ⊢
 split at hv
 ·rename_i f args eb
  rw[eb]at h
  simp only[gz.gI]at h
  rw[<-map_congr h];exact hv
 ·rename_i x args eb
  rw[eb]at h
  simp only[gz.gI,List.mem_append]at h
  rw[<-map_congr (l:=args) fun t ht=>h t (.inr ht),<-bp (x:=x) fun t ht=>h t (.inl ht)];exact hv
 ·rw[<-gV h];exact hv
 ·rw[<-gV h];exact hv
 ·rw[<-gV h];exact hv
 ·rw[<-gV h];exact hv
 ·rw[<-gV h];exact hv
 ·rw[<-tk h];exact hv
theorem lP {x:bj} (hq:kU x=true) {N:Env->ar->Prop} {env:Env} {σ:ar}:step X x N env σ↔∃v g',GS X σ.next x env σ.get v g'/\N (upd env x.dst v) ⟨g',σ.next⟩:=by
 unfold kU at hq
 simp only[Bool.and_eq_true,Bool.not_eq_true',bne_iff_ne]at hq
 obtain⟨Fg,qG⟩:=hq
 unfold step GS
 by_cases hw:aM x.guard env=true
 ·rw[if_pos hw]
  simp only[hw,if_true]
  unfold fF
  split
  ·rename_i eb;simp[eb,gz.lT]at Fg
  ·rename_i eb;simp[eb,gz.lT]at Fg
  ·rename_i eb;simp[eb,gz.cls]at qG
  ·rename_i eb;simp[eb,gz.cls]at qG
  ·rename_i eb;simp[eb,gz.cls]at qG
  ·rename_i eb;simp[eb,gz.cls]at qG
  ·rename_i eb;simp[eb,gz.cls]at qG
  ·rename_i n1 n2 n3 n4 n5 n6 n7
   have hVS:∀v g',VS X σ.next x env σ.get v g'↔∃mr,eP x.op (cQ env) (fW x.hid σ.next σ.get) ⟨x.site,σ.next⟩=some (v,mr)/\g'=jl σ.get ⟨x.site,σ.next⟩ mr:=fun v g'=>by
    unfold VS
    split
    ·rename_i hh;exact(n1 _ _ hh).elim
    ·rename_i hh;exact(n2 _ _ hh).elim
    ·rename_i hh;exact(n3 _ _ _ hh).elim
    ·rename_i hh;exact(n4 _ _ _ hh).elim
    ·rename_i hh;exact(n5 _ _ _ hh).elim
    ·rename_i hh;exact(n6 _ _ hh).elim
    ·rename_i hh;exact(n7 _ _ hh).elim
    ·exact Iff.rfl
   simp only[hVS]
   cases hz:eP x.op (cQ env) (fW x.hid σ.next σ.get) ⟨x.site,σ.next⟩with
   |none=>
    exact⟨fun h=>h.elim,fun⟨v,g',⟨mr,h,_⟩,_⟩=>by cases h⟩
   |some p=>
    obtain⟨v,mr⟩:=p
    have key:∀(v':AV) (g':Rows),(∃Qc,some (v,mr)=some (v',Qc)/\g'=jl σ.get ⟨x.site,σ.next⟩ Qc)↔v'=v/\g'=jl σ.get ⟨x.site,σ.next⟩ mr:=fun v' g'=>by
     constructor
     ·rintro⟨Qc,h1,h2⟩
      injection h1 with h1;injection h1 with h1 h3
      subst h1;subst h3
      exact⟨rfl,h2⟩
     ·rintro⟨rfl,rfl⟩;exact⟨mr,rfl,rfl⟩
    have fin:(∃v' g',(∃Qc,some (v,mr)=some (v',Qc)/\g'=jl σ.get ⟨x.site,σ.next⟩ Qc)/\N (upd env x.dst v') ⟨g',σ.next⟩)↔N (upd env x.dst v) ⟨jl σ.get ⟨x.site,σ.next⟩ mr,σ.next⟩:=by
     constructor
     ·rintro⟨v',g',h,hN⟩
      obtain⟨rfl,rfl⟩:=(key v' g').1 h
      exact hN
     ·intro hN;exact⟨v,_,(key _ _).2 ⟨rfl,rfl⟩,hN⟩
    cases mr with
    |none=>exact fin.symm
    |some r=>exact fin.symm
 ·rw[if_neg hw]
  simp only[if_neg hw]
  exact⟨fun h=>⟨_,_,⟨rfl,rfl⟩,h⟩,fun⟨v,g',⟨hv,hg⟩,h⟩=>by rw[hv,hg]at h;exact h⟩
def xv (x:bj) (env:Env) (v:AV):Prop:=if aM x.guard env then eP x.op (cQ env) (fun _=>none) ⟨0,0⟩=some (v,none)else v=.undef
theorem wT {x:bj} (hp:x.op.cls=.pure):kU x=true:=by
 unfold kU
 rw[hp]
 cases hc:x.op<;>simp[hc,gz.cls]at hp<;>rfl
theorem tr {x:bj} (hp:x.op.cls=.pure) {N:Env->ar->Prop} {env:Env} {σ:ar}:step X x N env σ↔∃v,xv x env v/\N (upd env x.dst v) σ:=by
 rw[lP (wT hp)]
 unfold GS xv
 by_cases hw:aM x.guard env=true
 ·simp only[hw,if_true]
  constructor
  ·rintro⟨v,g',h,hN⟩
   obtain⟨rfl,dI⟩:=zq hp h
   refine⟨v,?_,hN⟩
   unfold VS at h
   split at h
   ·rename_i eb;rw[eb]at hp;simp[gz.cls]at hp
   ·rename_i eb;rw[eb]at hp;simp[gz.cls]at hp
   ·rename_i eb;rw[eb]at hp;simp[gz.cls]at hp
   ·rename_i eb;rw[eb]at hp;simp[gz.cls]at hp
   ·rename_i eb;rw[eb]at hp;simp[gz.cls]at hp
   ·rename_i eb;rw[eb]at hp;simp[gz.cls]at hp
   ·rename_i eb;rw[eb]at hp;simp[gz.cls]at hp
   ·obtain⟨mr,hq,_⟩:=h
    have UA:mr=none:=by
     cases mr with
     |none=>rfl
     |some r=>have:=wU hq;simp[qO,hp]at this
    subst UA
    rw[<-wV (g:=fW x.hid σ.next σ.get) (id:=⟨x.site,σ.next⟩) hp];exact hq
  ·rintro⟨v,h,hN⟩
   exact⟨v,σ.get,Nt (mr:=none) (by rw[wV (g2:=fun _=>none) (id2:=⟨0,0⟩) hp];exact h),hN⟩
 ·simp only[if_neg hw]
  exact⟨fun⟨v,g',⟨hv,hg⟩,h⟩=>⟨v,hv,by rw[hg]at h;exact h⟩,fun⟨v,hv,h⟩=>⟨v,σ.get,⟨hv,rfl⟩,h⟩⟩
theorem Ku {x:bj} {env iT:Env} {v:AV} (h:∀t∈x.gI,env t=iT t) (hv:xv x env v):xv x iT v:=by
 unfold xv at hv ⊢
 rw[<-nw h,<-tk fun t ht=>h t (se ht)];exact hv
structure MB (x y:bj):Prop where
 xy:∀k,x.dst=some k->k∉y.gI
 yx:∀k,y.dst=some k->k∉x.gI
 dst:∀k,x.dst=some k->y.dst≠some k
theorem so {x y:bj} (h:tz x y=true):MB x y:=by
 unfold tz at h
 simp only[Bool.and_eq_true]at h
 obtain⟨a1,a2⟩:=h
 refine⟨fun k hk=>?_,fun k hk=>?_,fun k hk=>?_⟩
 ·rw[hk]at a1;simp at a1;exact a1.1
 ·rw[hk]at a2;simpa using a2
 ·rw[hk]at a1;simp at a1;exact a1.2
theorem yw {x y:bj} (h:yv x y=true):(MB x y/\x.op.cls=.pure)∨(CU x y/\kU x=true/\kU y=true):=by
 unfold yv at h
 simp only[Bool.or_eq_true,Bool.and_eq_true,beq_iff_eq]at h
 rcases h with⟨h1,h2⟩|⟨⟨h1,h2⟩,h3⟩
 ·exact .inl ⟨so h1,h2⟩
 ·exact .inr ⟨qw h1,h2,h3⟩
theorem Bt {x y:bj} (h:yv x y=true):kU x=true:=by
 rcases yw h with h|h
 ·exact wT h.2
 ·exact h.2.1
theorem Ha (hK:p9 X) {x y:bj} (hf:yv x y=true) {N:Env->ar->Prop} {env:Env} {σ:ar} (h:step X x (fun e s=>step X y N e s) env σ):step X y (fun e s=>step X x N e s) env σ:=by
 rcases yw hf with⟨F,hp⟩|⟨F,hx,hy⟩
 ·rw[tr hp]at h
  obtain⟨v,hx,h⟩:=h
  have M1:=fun(v':AV)=>xq (env:=env) (v:=v) (u:=v') F.dst
  have CO:=mL (env:=env) (v:=v) F.xy
  have back:∀(v':AV),xv x (upd env y.dst v') v:=fun v'=>Ku (fun t ht=>(mL F.yx t ht).symm) hx
  unfold step at h ⊢
  rw[nw CO]at h
  split at h
  ·rename_i hw
   rw[if_pos hw]
   refine CC hK (fun v' σ' hN=>?_) (Hq (fun t ht=>CO t (se ht)) h)
   rw[M1]at hN
   exact(tr hp).2 ⟨v,back v',hN⟩
  ·rename_i hw
   rw[if_neg hw]
   rw[M1]at h
   exact(tr hp).2 ⟨v,back _,h⟩
 ·rw[lP hx]at h
  obtain⟨v,g1,h1,h⟩:=h
  rw[lP hy]at h
  obtain⟨v',g2,h2,h⟩:=h
  obtain⟨Lf,q1,q2,q3⟩:=EF F h1 h2
  rw[q3]at h
  exact(lP hy).2 ⟨v',Lf,q1,(lP hx).2 ⟨v,g2,q2,h⟩⟩
def AE (X:fG) (ops:Array Oper) (vl:List bj) (K:Env->ar->Prop):Nat->Array Bool->Env->ar->Prop
 |0,listed,env,σ=>Region.ready .any ops listed=[]/\K env ⟨σ.get,σ.next+1⟩
 |f+1,listed,env,σ=>(Region.ready .any ops listed=[]->K env ⟨σ.get,σ.next+1⟩)/\∀i∈Region.ready .any ops listed,∃vo,vl[i]? =some vo/\step X vo (fun e s=>AE X ops vl K f (listed.setIfInBounds i true) e s) env σ
theorem Dg {ops:Array Oper} {vl:List bj} {bs:Array Nat} {listed:Array Bool} {i:Nat} (h:qv ops vl bs listed i=true) (j:Nat):qv ops vl bs (listed.setIfInBounds j true) i=true:=by
 unfold qv at h ⊢
 split at h
 ·rename_i x hx
  simp only[List.all_eq_true,Bool.or_eq_true]at h ⊢
  intro k hk
  rcases h k hk with((h|h)|h)|h
  ·exact .inl (.inl (.inl (getD_set_true h)))
  ·exact .inl (.inl (.inr h))
  ·exact .inl (.inr h)
  ·exact .inr h
 ·cases h
theorem tL {ops:Array Oper} {vl:List bj} {listed:Array Bool} {i j:Nat} {vi:bj} (sE:DC ops listed) (h:qv ops vl (jC ops) listed i=true) (hi:vl[i]? =some vi) (hr:i∈Region.ready .any ops listed) (hj:j∈Region.ready .any ops listed) (mN:j≠i):∃vj,vl[j]? =some vj/\yv vi vj=true:=by
 unfold qv at h
 rw[hi]at h
 simp only[List.all_eq_true,Bool.or_eq_true,beq_iff_eq]at h
 obtain⟨_,o,ho,_⟩:=mem_ready.1 hj
 rcases h j (List.mem_range.2 (Array.getElem?_eq_some_iff.1 ho).1)with((h|h)|h)|h
 ·rw[je hj]at h;cases h
 ·exact absurd h mN
 ·have:=kV sE hj i h
  rw[je hr]at this;cases this
 ·split at h
  ·rename_i y hy;exact⟨y,hy,h⟩
  ·cases h
theorem EE (hK:p9 X) {ops:Array Oper} {vl:List bj} {K:Env->ar->Prop} {i:Nat} {vi:bj} (hi:vl[i]? =some vi):∀(fuel:Nat) (listed:Array Bool) (env:Env) (σ:ar),
  DC ops listed->i∈Region.ready .any ops listed->qv ops vl (jC ops) listed i=true->step X vi (fun e s=>AE X ops vl K fuel (listed.setIfInBounds i true) e s) env σ->AE X ops vl K (fuel+1) listed env σ:=by
 intro fuel
 induction fuel with
 |zero=>
  intro listed env σ sE hr jA H
  refine⟨fun h=>(by rw[h]at hr;cases hr),fun j hj=>?_⟩
  by_cases mN:j=i
  ·subst mN;exact⟨vi,hi,H⟩
  ·obtain⟨vj,LH,QS⟩:=tL sE jA hi hr hj mN
   rw[lP (Bt QS)]at H
   obtain⟨v,g',_,H⟩:=H
   have:=ready_mono hj mN
   rw[H.1]at this;cases this
 |succ fuel ih=>
  intro listed env σ sE hr jA H
  refine⟨fun h=>(by rw[h]at hr;cases hr),fun j hj=>?_⟩
  by_cases mN:j=i
  ·subst mN;exact⟨vi,hi,H⟩
  ·obtain⟨vj,LH,QS⟩:=tL sE jA hi hr hj mN
   refine⟨vj,LH,?_⟩
   have H2:step X vi (fun e s=>step X vj (fun e s=>AE X ops vl K fuel ((listed.setIfInBounds i true).setIfInBounds j true) e s) e s) env σ:=jT hK (fun e s h=>by
    obtain⟨vj',zR,h'⟩:=h.2 j (ready_mono hj mN)
    rw[LH]at zR;injection zR with zR;subst zR
    exact h') H
   refine jT hK (fun e s h=>?_) (Ha hK QS H2)
   refine ih _ _ _ (sE.list hj) (ready_mono hr (fun e=>mN e.symm)) (Dg jA j) ?_
   rw[Array.setIfInBounds_comm _ _ mN]
   exact h
theorem tq {x:bj} (hg:x.guard=none) {N:Env->ar->Prop} {env:Env} {σ:ar}:step X x N env σ=fF X false x env σ (fun v σ'=>N (upd env x.dst v) σ'):=by
 unfold step
 rw[hg]
 simp[aM]
theorem El {x y:bj} {t s sz:Nat} {ys:O} (hx:x.op=.append sz (.t t) ys) (hg:x.guard=none) (hf:EZ s x y=true) {N:Env->ar->Prop} {env:Env} {σ:ar} (hl:LS t s ys env σ.next) (h:step X x (fun e s=>step X y N e s) env σ):
  step X y (fun e σ'=>LS t s ys e σ'.next/\step X x N e σ') env σ:=by
 unfold EZ at hf
 simp only[Bool.and_eq_true,bne_iff_ne]at hf
 obtain⟨⟨⟨⟨⟨f1,hq⟩,f3⟩,f4⟩,f5⟩,f6⟩:=hf
 have F:=so f1
 obtain⟨⟨len,ht⟩,hsrc⟩:=hl
 have I3:∀k∈x.op.gI,∀v',upd env y.dst v' k=env k:=fun k hk v'=>mL (env:=env) (v:=v') F.yx k (se hk)
 have dF:t∈x.op.gI:=by rw[hx];simp[gz.gI,gS]
 have Fm:∀v',cQ (upd env y.dst v') ys=cQ env ys:=fun v'=>(bp fun k hk=>by rw[I3 k (by rw[hx];simp[gz.gI,hk])]).symm
 rw[tq hg]at h
 unfold fF at h
 simp only[hx,ga]at h
 have ex:cQ env (.t t)=.own ⟨s,σ.next⟩ 0 len:=ht
 rw[ex]at h
 cases hr:bw σ.get (cQ env ys)with
 |none=>rw[hr]at h;exact h.elim
 |some rs=>
  rw[hr]at h
  simp only[Option.bind_some,aY]at h
  cases Lo:σ.get ⟨s,σ.next⟩with
  |none=>rw[Lo]at h;exact h.elim
  |some r=>
   rw[Lo]at h
   simp only[Option.bind_some]at h
   split at h
   ·rename_i v g1 hv
    split at hv
    ·rename_i hcond
     simp only[Option.some.injEq,Prod.mk.injEq]at hv
     obtain⟨rfl,rfl⟩:=hv
     rw[lP hq]at h
     obtain⟨v',g2,hG,hN⟩:=h
     have Lv:(⟨y.site,σ.next⟩:Id)≠⟨s,σ.next⟩:=fun e=>f5 (by injection e)
     have IQ:(⟨y.site,σ.next⟩:Id)≠⟨x.site,σ.next⟩:=fun e=>f6 (by injection e)
     replace hG:GS X σ.next y env (bq (cu σ.get ⟨s,σ.next⟩) ⟨x.site,σ.next⟩ ⟨true,sz,r.rows++rs⟩) v' g2:=vg (mL F.xy) hG
     have UZ:fW y.hid σ.next σ.get=fW y.hid σ.next (bq (cu σ.get ⟨s,σ.next⟩) ⟨x.site,σ.next⟩ ⟨true,sz,r.rows++rs⟩):=by
      cases hh:y.hid with
      |nil=>rw[hh]at f3;simp at f3
      |cons a l=>
       rw[hh]at f3 f4
       funext i
       show(if (a::l).contains i.site=true/\i.ck=σ.next then none else σ.get i)=if (a::l).contains i.site=true/\i.ck=σ.next then none else _
       by_cases h1:i=⟨x.site,σ.next⟩
       ·subst h1;rw[if_pos ⟨f4,rfl⟩,if_pos ⟨f4,rfl⟩]
       ·by_cases h2:i=⟨s,σ.next⟩
        ·subst h2;rw[if_pos ⟨f3,rfl⟩,if_pos ⟨f3,rfl⟩]
        ·simp only[bq,cu,if_neg h1,if_neg h2]
     obtain⟨my,QU,hG'⟩:∃my,g2=jl (bq (cu σ.get ⟨s,σ.next⟩) ⟨x.site,σ.next⟩ ⟨true,sz,r.rows++rs⟩) ⟨y.site,σ.next⟩ my/\GS X σ.next y env σ.get v' (jl σ.get ⟨y.site,σ.next⟩ my):=by
      unfold GS at hG ⊢
      by_cases wy:aM y.guard env=true
      ·rw[if_pos wy]at hG
       have hcw:y.op.cls≠.write:=by
        unfold kU at hq
        simp only[Bool.and_eq_true,bne_iff_ne]at hq
        exact hq.2
       obtain⟨my,rfl,_,Nw⟩:=vp hcw hG
       exact⟨my,rfl,by rw[if_pos wy];exact Nw _ UZ⟩
      ·rw[if_neg wy]at hG
       obtain⟨rfl,rfl⟩:=hG
       exact⟨none,rfl,by rw[if_neg wy];exact⟨rfl,rfl⟩⟩
     subst QU
     refine(lP hq).2 ⟨v',_,hG',⟨⟨len,by rw[I3 t dF];exact ht⟩,fun id o l he=>hsrc id o l (by rw[<-Fm v'];exact he)⟩,?_⟩
     rw[tq hg]
     unfold fF
     have ex':cQ (upd env y.dst v') (.t t)=.own ⟨s,σ.next⟩ 0 len:=by
      show upd env y.dst v' t= _
      rw[I3 t dF];exact ht
     simp only[hx,ga,ex',Fm v']
     have oe:bw (jl σ.get ⟨y.site,σ.next⟩ my) (cQ env ys)=some rs:=by
      cases my with
      |none=>exact hr
      |some row=>
       revert hr
       cases hev:cQ env ys<;>simp only[bw,jl]<;>try exact fun h=>h
       rename_i id o l
       have:id≠⟨y.site,σ.next⟩:=fun e=>hsrc id o l hev (by rw[e])
       simp only[bq,if_neg this];exact fun h=>h
     have Un:jl σ.get ⟨y.site,σ.next⟩ my ⟨s,σ.next⟩=some r:=by
      cases my with
      |none=>exact Lo
      |some row=>simp only[jl,bq,if_neg (fun e=>Lv e.symm:(⟨s,σ.next⟩:Id)≠⟨y.site,σ.next⟩)];exact Lo
     rw[oe]
     simp only[Option.bind_some,aY,Un]
     rw[if_pos hcond]
     have hgg:bq (cu (jl σ.get ⟨y.site,σ.next⟩ my) ⟨s,σ.next⟩) ⟨x.site,σ.next⟩ ⟨true,sz,r.rows++rs⟩=jl (bq (cu σ.get ⟨s,σ.next⟩) ⟨x.site,σ.next⟩ ⟨true,sz,r.rows++rs⟩) ⟨y.site,σ.next⟩ my:=by
      cases my with
      |none=>rfl
      |some row=>
       funext i
       simp only[jl,bq,cu]
       by_cases h1:i=⟨y.site,σ.next⟩
       ·subst h1;rw[if_neg IQ,if_neg Lv,if_pos rfl,if_pos rfl]
       ·simp only[if_neg h1]
     have hu:=xq (env:=env) (v:=AV.own ⟨x.site,σ.next⟩ 0 (len+rs.length)) (u:=v') F.dst
     show N (upd (upd env y.dst v') x.dst (.own ⟨x.site,σ.next⟩ 0 (len+rs.length))) ⟨bq (cu (jl σ.get ⟨y.site,σ.next⟩ my) ⟨s,σ.next⟩) ⟨x.site,σ.next⟩ ⟨true,sz,r.rows++rs⟩,σ.next⟩
     rw[hgg,<-hu]
     exact hN
    ·cases hv
   ·exact h.elim
theorem Df {ops:Array Oper} {vl:List bj} {bs:Array Nat} {listed:Array Bool} {i s:Nat} (h:oK ops vl bs listed i s=true) (j:Nat):oK ops vl bs (listed.setIfInBounds j true) i s=true:=by
 unfold oK at h ⊢
 split at h
 ·rename_i x hx
  simp only[List.all_eq_true,Bool.or_eq_true]at h ⊢
  intro k hk
  rcases h k hk with((h|h)|h)|h
  ·exact .inl (.inl (.inl (getD_set_true h)))
  ·exact .inl (.inl (.inr h))
  ·exact .inl (.inr h)
  ·exact .inr h
 ·cases h
theorem Bp {ops:Array Oper} {vl:List bj} {listed:Array Bool} {i j s:Nat} {vi:bj} (sE:DC ops listed) (h:oK ops vl (jC ops) listed i s=true) (hi:vl[i]? =some vi) (hr:i∈Region.ready .any ops listed) (hj:j∈Region.ready .any ops listed) (mN:j≠i):∃vj,vl[j]? =some vj/\EZ s vi vj=true:=by
 unfold oK at h
 rw[hi]at h
 simp only[List.all_eq_true,Bool.or_eq_true,beq_iff_eq]at h
 obtain⟨_,o,ho,_⟩:=mem_ready.1 hj
 rcases h j (List.mem_range.2 (Array.getElem?_eq_some_iff.1 ho).1)with((h|h)|h)|h
 ·rw[je hj]at h;cases h
 ·exact absurd h mN
 ·have:=kV sE hj i h
  rw[je hr]at this;cases this
 ·split at h
  ·rename_i y hy;exact⟨y,hy,h⟩
  ·cases h
theorem CD (hK:p9 X) {ops:Array Oper} {vl:List bj} {K:Env->ar->Prop} {i t s sz:Nat} {ys:O} {vi:bj} (hi:vl[i]? =some vi) (hx:vi.op=.append sz (.t t) ys) (hg:vi.guard=none):∀(fuel:Nat) (listed:Array Bool) (env:Env) (σ:ar),
  DC ops listed->i∈Region.ready .any ops listed->oK ops vl (jC ops) listed i s=true->LS t s ys env σ.next->step X vi (fun e s=>AE X ops vl K fuel (listed.setIfInBounds i true) e s) env σ->AE X ops vl K (fuel+1) listed env σ:=by
 intro fuel
 induction fuel with
 |zero=>
  intro listed env σ sE hr jA PT H
  refine⟨fun h=>(by rw[h]at hr;cases hr),fun j hj=>?_⟩
  by_cases mN:j=i
  ·subst mN;exact⟨vi,hi,H⟩
  ·exfalso
   have h0:=ready_mono hj mN
   rw[tq hg]at H
   unfold fF at H
   simp only[hx]at H
   split at H
   ·rw[H.1]at h0;cases h0
   ·exact H
 |succ fuel ih=>
  intro listed env σ sE hr jA PT H
  refine⟨fun h=>(by rw[h]at hr;cases hr),fun j hj=>?_⟩
  by_cases mN:j=i
  ·subst mN;exact⟨vi,hi,H⟩
  ·obtain⟨vj,LH,QS⟩:=Bp sE jA hi hr hj mN
   refine⟨vj,LH,?_⟩
   have H2:step X vi (fun e s=>step X vj (fun e s=>AE X ops vl K fuel ((listed.setIfInBounds i true).setIfInBounds j true) e s) e s) env σ:=jT hK (fun e s h=>by
    obtain⟨vj',zR,h'⟩:=h.2 j (ready_mono hj mN)
    rw[LH]at zR;injection zR with zR;subst zR
    exact h') H
   refine jT hK (fun e s h=>?_) (El hx hg QS PT H2)
   refine ih _ _ _ (sE.list hj) (ready_mono hr (fun e=>mN e.symm)) (Df jA j) h.1 ?_
   rw[Array.setIfInBounds_comm _ _ mN]
   exact h.2
theorem Jl {ops:Array Oper} {vl:List bj} {bs:Array Nat} {listed:Array Bool} {i i' t s:Nat} {y:O} {vo:bj} (h:OL ops vl bs listed i=some (i',t,s,y,vo)):i'=i/\vl[i]? =some vo/\(∃sz,vo.op=.append sz (.t t) y)/\vo.guard=none/\oK ops vl bs listed i s=true:=by
 unfold OL at h
 split at h
 ·rename_i x hx
  split at h
  ·rename_i t' s' y' ki
   split at h
   ·rename_i hf
    simp only[Option.some.injEq,Prod.mk.injEq]at h
    obtain⟨rfl,rfl,rfl,rfl,rfl⟩:=h
    unfold M8 at ki
    split at ki
    ·rename_i sz t2 y2 ho uQ
     split at ki
     ·simp only[Option.some.injEq,Prod.mk.injEq]at ki
      obtain⟨rfl,rfl,rfl⟩:=ki
      exact⟨rfl,hx,⟨sz,ho⟩,uQ,hf⟩
     ·cases ki
    ·cases ki
   ·cases h
  ·cases h
 ·cases h
theorem yh {X:fG} {Q:Ex->Env->ar->Prop} {env:Env} {σ:ar}:∀{l:List VC} {t:VC},Bc l=some t->dG X t Q env σ->∀c∈l,dG X c Q env σ
 |[],t,h,_,c,hc=>by cases hc
 |[c0],t,h,hw,c,hc=>by
  simp only[Bc,Option.some.injEq]at h
  subst h
  rw[List.mem_singleton]at hc
  subst hc;exact hw
 |c0::c1::r,t,h,hw,c,hc=>by
  simp only[Bc,Option.map_eq_some_iff]at h
  obtain⟨t',Hz,rfl⟩:=h
  rcases List.mem_cons.1 hc with rfl|hc
  ·exact hw.1
  ·exact yh Hz hw.2 c hc
theorem mapM_mem {α β:Type} {f:α->Option β}:∀{l:List α} {r:List β},l.mapM f=some r->∀i∈l,∃b∈r,f i=some b
 |[],_,_,i,hi=>by cases hi
 |a::l,r,h,i,hi=>by
  simp only[List.mapM_cons,Option.bind_eq_bind,Option.bind_eq_some_iff,Option.pure_def,Option.some.injEq]at h
  obtain⟨b,hb,r',hr,rfl⟩:=h
  rcases List.mem_cons.1 hi with rfl|hi
  ·exact⟨b,by simp,hb⟩
  ·obtain⟨c,hc,hf⟩:=mapM_mem hr i hi
   exact⟨c,List.mem_cons_of_mem _ hc,hf⟩
theorem Hn (hK:p9 X) {ops:Array Oper} {vl:List bj} {Q:Ex->Env->ar->Prop}:∀(n:Nat) (listed:Array Bool) (t:VC) (env:Env) (σ:ar),xo ops vl (jC ops) n listed=some t->DC ops listed->dG X t Q env σ->AE X ops vl (Q .normal) n listed env σ:=by
 intro n
 induction n with
 |zero=>
  intro listed t env σ h _ hw
  unfold xo at h
  split at h
  ·rename_i hr
   simp only[Option.some.injEq]at h
   subst h
   exact⟨hr,hw⟩
  ·cases h
 |succ n ih=>
  intro listed t env σ h sE hw
  unfold xo at h
  split at h
  ·rename_i hr
   simp only[Option.some.injEq]at h
   subst h
   exact⟨fun _=>hw,fun i hi=>by rw[hr]at hi;cases hi⟩
  ·rename_i r rs hr
   dsimp only at h
   split at h
   ·rename_i i hfind
    have Lq:=List.mem_of_find?_eq_some hfind
    have yy:=List.find?_some hfind
    rw[<-hr]at Lq
    split at h
    ·rename_i vo p4
     simp only[Option.map_eq_some_iff]at h
     obtain⟨t',Hz,rfl⟩:=h
     exact EE hK p4 n listed env σ sE Lq yy (jT hK (fun e s h=>ih _ _ _ _ Hz (sE.list Lq) h) hw)
    ·cases h
   ·split at h
    ·rename_i i t s y vo hfind
     obtain⟨i0,Fb,dS⟩:=List.exists_of_findSome?_eq_some hfind
     obtain⟨rfl,p4,⟨sz,eb⟩,uQ,Ln⟩:=Jl dS
     rw[<-hr]at Fb
     simp only[Option.map_eq_some_iff]at h
     obtain⟨t',Hz,rfl⟩:=h
     exact CD hK p4 eb uQ n listed env σ sE Fb Ln hw.1 (jT hK (fun e s h=>ih _ _ _ _ Hz (sE.list Fb) h) hw.2)
    split at h
    ·rename_i l hl
     have dI:=yh h hw
     refine⟨fun h=>(by rw[h]at hr;cases hr),fun i hi=>?_⟩
     rw[hr]at hi
     obtain⟨b,KC,Gh⟩:=mapM_mem hl i hi
     simp only[Option.bind_eq_some_iff,Option.map_eq_some_iff]at Gh
     obtain⟨vo,p4,t',Hz,rfl⟩:=Gh
     exact⟨vo,p4,jT hK (fun e s h=>ih _ _ _ _ Hz (sE.list (by rw[hr];exact hi)) h) (dI _ KC)⟩
    ·cases h
theorem EA {ops:Array Oper} {vl:List bj} {nt site0:Nat} {draw mk:Bool} {bs:Array Nat} {hidden:List (Nat×Bool)} {K:Env->ar->Prop} {Q:Exit->Act->World->Prop} (dI:allM (kI P ops nt site0 draw mk bs hidden) ops.toList 0=some vl):
  ∀(fuel:Nat) (listed:Array Bool) (env:Env) (σ:ar) (a:Act) (w:World) (D:Nat->Prop) (ι:Names) (U:Nat->Prop),AE (Sound P) ops vl K fuel listed env σ->gw P hs D ι σ.get w->Used ι σ.next U->(∀s,U s->∃i,s=site0+i/\listed.getD i false=true)->cq P w D ι env a->a.tmps.size=nt->
  (∀iG σ' a' w' D' ι',K iG σ'->Step hs D ι w D' ι' w'->St P hs nt D' ι' iG σ' a' w'->a'.defers=a.defers->σ.next<=σ'.next->Q .normal a' w')->wpAny P .any ops Q fuel listed a w:=by
 intro fuel
 induction fuel with
 |zero=>intro listed env σ a w D ι U h S Us hU E fj hQ;exact⟨h.1,hQ env _ a w D ι h.2 (Step.refl _ _ _ _) ⟨S,Us.next,E,fj⟩ rfl (Nat.le_succ _)⟩
 |succ fuel ih=>
  intro listed env σ a w D ι U h S Us hU E fj hQ
  refine⟨fun hr=>hQ env _ a w D ι (h.1 hr) (Step.refl _ _ _ _) ⟨S,Us.next,E,fj⟩ rfl (Nat.le_succ _),fun i hi=>?_⟩
  obtain⟨vo,p4,hG⟩:=h.2 i hi
  obtain⟨_,o,ho,_⟩:=mem_ready.1 hi
  obtain⟨vo',mu,QJ⟩:=(oy dI).2 i o (by simpa using ho)
  rw[p4]at mu;injection mu with mu;subst mu
  rw[Nat.zero_add]at QJ
  obtain⟨hc,hd,BL,xO,hg⟩:=po QJ
  have hw:=tC (ops:=ops) (vo:=vo) E hg
  have TX:¬U vo.site:=fun hu=>by
   obtain⟨i',he,hl⟩:=hU _ hu
   have:i'=i:=by omega
   subst this
   rw[je hi]at hl;cases hl
  have jD:i<listed.size:=by
   have h0:=(mem_ready.1 hi).1
   rcases Nat.lt_or_ge i listed.size with h|h
   ·exact h
   ·simp[Array.getElem?_eq_none h]at h0
  unfold wpOp
  simp only[ho]
  rw[<-hw]
  unfold step at hG
  by_cases Gu:aM vo.guard env=true
  ·rw[if_pos Gu]
   rw[if_pos Gu]at hG
   refine .inl (zi hc hG S Us TX E fun v σ' u D' ι' w' hn T S' hR U' hle=>?_)
   refine ih _ _ _ _ w' D' ι' _ hn S' U' (fun s BH=>?_) (by rw[hd];exact iv (oI E T) hR xO fj) (by rw[eW];exact fj) fun iG σ2 a2 w2 D2 ι2 hk T2 OB Dr nf=>hQ iG σ2 a2 w2 D2 ι2 hk (T.trans T2) OB (Dr.trans (put_defers _ _ _)) (Nat.le_trans hle nf)
   rcases BH with h|h
   ·obtain⟨i',he,hl⟩:=hU _ h
    exact⟨i',he,getD_set_true hl⟩
   ·exact⟨i,by rw[h,BL],by simp[jD]⟩
  ·rw[if_neg Gu]
   rw[if_neg Gu]at hG
   refine ih _ _ _ _ w D ι U hG S Us (fun s BH=>?_) (by rw[hd];exact iv E cI.undef xO fj) (by rw[eW];exact fj) fun iG σ2 a2 w2 D2 ι2 hk T2 OB Dr nf=>hQ iG σ2 a2 w2 D2 ι2 hk T2 OB (Dr.trans (put_defers _ _ _)) nf
   obtain⟨i',he,hl⟩:=hU _ BH
   exact⟨i',he,getD_set_true hl⟩
end
end Go.Proofs.YtgoelphibofcmaaGreat.V

namespace Go.Proofs.YtgoelphibofcmaaGreat.V
open Go.RowKit
variable {P:Program} {w w':World} {D D' D2:Nat->Prop} {ι ι' ι2:Names}
def AJ (P:Program) (c:Code) (Q:Exit->Act->World->Prop) (a:Act) (w:World):Prop:=
 ∀(b:Frame) (k:List Item) (cs:List Frame),b.kind≠.early->∃e a' w',Q e a' w'/\Arrives P (lone (b.at a (.code c::k)) cs w) b k cs e a' w'
section
variable {Q:Exit->Act->World->Prop} {a:Act}
theorem km {c:Code} (h:c.wp P Q a w):AJ P c Q a w:=fun b k cs _=>h b k cs
theorem lO {x y:Code} (h:AJ P x (Exit.then (AJ P y Q) Q) a w):AJ P (.seq x y) Q a w:=by
 intro b k cs hb
 obtain⟨e,a1,w1,hq,jM⟩:=h b (.code y::k) cs hb
 by_cases he:e=.normal
 ·subst he
  obtain⟨e2,a2,w2,qG,Iz⟩:=hq b k cs hb
  exact⟨e2,a2,w2,qG,.of_steps (.head step_seq jM) Iz⟩
 ·refine⟨e,a1,w1,?_,.of_steps (.one step_seq) (.pass (x:=.code y) rfl (fun _ _=>.inl he) jM)⟩
  cases e<;>first|exact absurd rfl he|exact hq
theorem wO {c:Operand} {x y:Code} {t:Bool} (hc:a.eval c=.bool t) (h:AJ P (if t then x else y) Q a w):AJ P (.cond c x y) Q a w:=
 fun b k cs hb=>let ⟨e,a',w',q,r⟩:=h b k cs hb;⟨e,a',w',q,.of_steps (.one (step_cond hc)) r⟩
theorem tf {id:Nat} {c:Code} (h:AJ P c (Exit.inBlock id Q) a w):AJ P (.block id c) Q a w:=by
 intro b k cs hb
 obtain⟨e,a1,w1,hq,jM⟩:=h b (.inBlock id::k) cs hb
 cases e with
 |normal=>exact⟨.normal,a1,w1,hq,.head step_block (Steps.trans jM (.one step_inBlock))⟩
 |exit jW=>
  by_cases hid:jW=id
  ·simp only[Exit.inBlock,hid,if_true]at hq
   exact⟨.normal,a1,w1,hq,.head step_block (jM k (by simp[exitTo,hid]))⟩
  ·simp only[Exit.inBlock,hid,if_false]at hq
   exact⟨.exit jW,a1,w1,hq,fun k' hk=>.head step_block (jM k' (by simp[exitTo,Ne.symm hid,hk]))⟩
 |goto l=>exact⟨_,a1,w1,hq,fun k' hk=>.head step_block (jM k' (by simp[gotoIn,hk]))⟩
 |ret=>exact⟨_,a1,w1,hq,.of_steps (.one step_block) jM⟩
 |panic ch=>exact⟨_,a1,w1,hq,.of_steps (.one step_block) jM⟩
 |outgrown=>exact⟨_,a1,w1,hq,.of_steps (b:=b) (k:=k) (cs:=cs) (e:=.outgrown) (.one step_block) jM⟩
def pD (P:Program) (c:Code) (Q:Exit->Act->World->Prop):Nat->Act->World->Prop
 |0=>fun _ _=>False
 |n+1=>AJ P c (Exit.then (pD P c Q n) Q)
theorem Cg {c:Code} (n:Nat) (h:pD P c Q n a w):AJ P (.loop c) Q a w:=by
 intro b k cs hb
 have key:∀n a w,pD P c Q n a w->∃e a' w',Q e a' w'/\Arrives P (lone (b.at a (.code c::.inLoop c::k)) cs w) b k cs e a' w':=by
  intro n
  induction n with
  |zero=>intro a w h;exact h.elim
  |succ n ih=>
   intro a w h
   obtain⟨e,a1,w1,hq,jM⟩:=h b (.inLoop c::k) cs hb
   by_cases he:e=.normal
   ·subst he
    obtain⟨e2,a2,w2,qG,Iz⟩:=ih a1 w1 hq
    exact⟨e2,a2,w2,qG,.of_steps (Steps.trans jM (.one step_inLoop)) Iz⟩
   ·refine⟨e,a1,w1,?_,.pass (x:=.inLoop c) rfl (fun _ _=>.inl he) jM⟩
    cases e<;>first|exact absurd rfl he|exact hq
 obtain⟨e,a',w',hq,jM⟩:=key n a w h
 exact⟨e,a',w',hq,.of_steps (.one step_loop) jM⟩
theorem zz {f:FuncId} {fn:Func} {c:Code} {args:Array Value} {R:Ending->World->Prop} (hf:P.funcs[f]? =some fn) (hb:fn.body=some c)
  (h:AJ P c (bodyPost P fn R) {tmps:=args++Array.replicate (fn.ntmps-args.size) undef,defers:=[]} w):Calls P f args w R:=by
 intro cs
 have Ob:Frame.enter P f args .normal=({(default:Frame)with fn:=f,kind:=.normal}:Frame).at {tmps:=args++Array.replicate (fn.ntmps-args.size) undef,defers:=[]} [.code c]:=by simp[Frame.enter,Frame.at,hf,hb]
 obtain⟨e,a',w',hq,jM⟩:=h {(default:Frame)with fn:=f,kind:=.normal} [] cs (by simp)
 rw[<-Ob]at jM
 cases e with
 |normal=>obtain⟨hd,v,hr,hR⟩:=hq;exact⟨.returned v,w',_,hR,Steps.trans jM (.one step_end),rfl,rfl,hd,rfl,fn,hf,hr⟩
 |ret=>obtain⟨hd,v,hr,hR⟩:=hq;obtain⟨todo,hs⟩:=jM;exact⟨.returned v,w',_,hR,hs,rfl,rfl,hd,rfl,fn,hf,hr⟩
 |panic chain=>obtain⟨hd,hR⟩:=hq;obtain⟨todo,hs⟩:=jM;exact⟨.panicked chain,w',_,hR,hs,rfl,rfl,hd,fn,hf⟩
 |exit id=>exact hq.elim
 |goto l=>exact hq.elim
 |outgrown=>exact⟨.outgrown,w',{(default:Frame)with fn:=f,kind:=.normal},hq,jM.resolve_left (by simp),rfl,trivial⟩
def xF (P:Program) (ops:Array Oper) (Q:Exit->Act->World->Prop) (l:List Nat) (a:Act) (w:World):Prop:=
 ∀(b:Frame) (k:List Item) (cs:List Frame),b.kind≠.early->∃e a' w',Q e a' w'/\Arrives P (lone (b.at a (.inRegion ops l::k)) cs w) b k cs e a' w'
theorem DV {id:Nat} {ops:Array Oper} (h:xF P ops Q (List.range ops.size) a w):AJ P (.region id ops false) Q a w:=
 fun b k cs hb=>let ⟨e,a',w',q,r⟩:=h b k cs hb;⟨e,a',w',q,.of_steps (.one step_region) r⟩
theorem OS {ops:Array Oper} (h:Q .normal a w):xF P ops Q [] a w:=fun _ _ _ _=>⟨.normal,a,w,h,.one step_region_end⟩
theorem pg {o:Oper} {ys:Nat->Option Bool} (h:o.guard=none):Region.wanted o ys=true:=by simp[Region.wanted,h]
theorem JG {ops:Array Oper} {i:Nat} {rest:List Nat} {o:Oper} {v:Value} (ho:ops[i]? =some o) (hg:o.guard=none) (hr:(execOp a.eval o).run P w=.ok (.value v) w') (h:xF P ops Q rest (a.put o.dst v) w'):xF P ops Q (i::rest) a w:=by
 intro b k cs hb
 obtain⟨e,a',w2,hq,jM⟩:=h b k cs hb
 refine⟨e,a',w2,hq,.of_steps (.one ?_) jM⟩
 have sY:(b.at a (.inRegion ops (i::rest)::k)).finish v=b.at (a.put o.dst v) (.inRegion ops rest::k):=by rw[Frame.finish_at,ho];rfl
 rw[<-sY]
 refine step_lone_go ?_
 have h2:=stepG_op (P:=P) (b:=b) (k:=k) (cs:=cs) (w:=w) (rest:=rest) ho (pg hg (ys:=yielded ops a.tmps))
 rw[h2];simp[stepG.apply,hr]
theorem Ma {ops:Array Oper} {i:Nat} {rest:List Nat} {o:Oper} {v z:Value} {c cap s r:Nat} {buf:Array Value} (ho:ops[i]? =some o) (hg:o.guard=none) (hr:(execOp a.eval o).run P w=.ok (.comm #[Conc.scase c v z] true .send) w)
  (hc:w.heap[c]? =some (.chan cap buf false s r false)) (fS:buf.size<cap) (h:xF P ops Q rest (a.put o.dst undef) (w.setChan c cap (buf.push v) false (s+1) r false)):xF P ops Q (i::rest) a w:=by
 intro b k cs hb
 obtain⟨e,a',w2,hq,jM⟩:=h b k cs hb
 refine⟨e,a',w2,hq,.of_steps (.one ?_) jM⟩
 have sY:(b.at a (.inRegion ops (i::rest)::k)).finish undef=b.at (a.put o.dst undef) (.inRegion ops rest::k):=by rw[Frame.finish_at,ho];rfl
 rw[<-sY,Conc.lone_eq_solo,Conc.lone_eq_solo]
 exact Conc.step_lone_send_room (Conc.stepG_comm ho (pg hg) hb hr) hc fS
theorem L9 {ops:Array Oper} {i:Nat} {rest:List Nat} {o:Oper} {z:Value} {c cap s r:Nat} {buf:Array Value} (ho:ops[i]? =some o) (hg:o.guard=none) (hr:(execOp a.eval o).run P w=.ok (.comm #[Conc.rcase c z] true (.recv false)) w)
  (hc:w.heap[c]? =some (.chan cap buf false s r false)) (I4:0<buf.size) (h:xF P ops Q rest (a.put o.dst (buf.getD 0 undef)) (w.setChan c cap (buf.extract 1 buf.size) false s (r+1) false)):xF P ops Q (i::rest) a w:=by
 intro b k cs hb
 obtain⟨e,a',w2,hq,jM⟩:=h b k cs hb
 refine⟨e,a',w2,hq,.of_steps (.one ?_) jM⟩
 have sY:(b.at a (.inRegion ops (i::rest)::k)).finish (buf.getD 0 undef)=b.at (a.put o.dst (buf.getD 0 undef)) (.inRegion ops rest::k):=by rw[Frame.finish_at,ho];rfl
 rw[<-sY,Conc.lone_eq_solo,Conc.lone_eq_solo]
 exact Conc.step_lone_recv_buf false (Conc.stepG_comm ho (pg hg) hb hr) hc I4
end
section
variable {hs:Nat} {g:Rows} {env:Env} {a:Act} {o:Oper}
theorem LN {x y:O} (hc:qV P o.op=some (.snd x y)):∃x' y',o.op=.send x' y'/\cO P x'=some x/\cO P y'=some y:=by
 unfold qV at hc
 split at hc
 case h_25=>
  rename_i x' y' h
  simp only[Option.bind_eq_bind,Option.bind_eq_some_iff,Option.pure_def,Option.some.injEq,gz.snd.injEq]at hc
  obtain⟨p,h1,q,h2,rfl,rfl⟩:=hc
  exact⟨_,_,h,h1,h2⟩
 all_goals (try unfold nC at hc)<;>(try unfold vG at hc)<;>(try unfold sM at hc)<;>(repeat' (split at hc))<;>(simp only[Option.bind_eq_bind,Option.bind_eq_some_iff,Option.pure_def,Option.some.injEq,Option.map_eq_some_iff,reduceCtorEq,and_false,exists_false]at hc)
theorem LM {x:O} (hc:qV P o.op=some (.OY x)):∃t dir e i z x',o.op=.recv t x' false/\P.underlying t=some (.chan dir e)/\P.info? e=some i/\i.zero=some z/\cO P x'=some x:=by
 unfold qV at hc
 split at hc
 case h_26=>
  rename_i t x' h
  split at hc
  ·rename_i dir e ht
   split at hc
   ·rename_i z hz
    simp only[Option.bind_eq_some_iff]at hz
    obtain⟨i,hi,hz⟩:=hz
    simp only[Option.map_eq_some_iff,gz.OY.injEq]at hc
    obtain⟨p,h1,rfl⟩:=hc
    exact⟨t,dir,e,i,z,x',h,ht,hi,hz,h1⟩
   ·cases hc
  ·cases hc
 all_goals (try unfold nC at hc)<;>(try unfold vG at hc)<;>(try unfold sM at hc)<;>(repeat' (split at hc))<;>(simp only[Option.bind_eq_bind,Option.bind_eq_some_iff,Option.pure_def,Option.some.injEq,Option.map_eq_some_iff,reduceCtorEq,and_false,exists_false]at hc)
theorem Qq {x y:O} {g':Rows} (S:gw P hs D ι g w) (hc:qV P o.op=some (.snd x y)) (E:cq P w D ι env a) (hv:ep g (cQ env x) (cQ env y)=some g'):
  ∃c cap s r buf u,(execOp a.eval o).run P w=.ok (.comm #[Conc.scase c u (.tuple #[])] true .send) w/\w.heap[c]? =some (.chan cap buf false s r false)/\buf.size<cap/\gw P hs D ι g' (w.setChan c cap (buf.push u) false (s+1) r false)/\Step hs D ι w D ι (w.setChan c cap (buf.push u) false (s+1) r false):=by
 obtain⟨x',y',ho,hx,hy⟩:=LN hc
 have rx:=dj E hx
 have ry:=dj E hy
 unfold ep at hv
 split at hv
 ·rename_i i he
  simp only[Option.bind_eq_some_iff]at hv
  obtain⟨r,hg,hv⟩:=hv
  split at hv
  ·rename_i hcond
   simp only[Option.some.injEq]at hv
   subst hv
   obtain⟨B,c,hu,hB,hk,fj,buf,s,q,hb,KD,hR⟩:=zA S rx he hg
   obtain⟨B',dz,RR,_⟩:=S.row i r hg
   rw[hB]at dz;injection dz with dz;subst dz
   have nU:=S.Ho (ob:=.chan c (buf.push (a.eval y')) false (s+1) q false) (r':={r with rows:=r.rows++[[cQ env y]]}) hg hcond.1 hB fun hr kj=>⟨RR.sz,fun cs du=>?_,fun h0=>(by rw[hk]at h0;cases h0),fun m hm=>(by rw[hk]at hm;cases hm),fun c' kN=>?_⟩
   ·exact⟨B.b,c,s,q,buf,a.eval y',by simp[execOp,ho,hu,Conc.scase],hb,by rw[KD];omega,nU.1,nU.2⟩
   ·rcases List.mem_append.1 du with h|h
    ·exact RR.flat cs h
    ·rw[List.mem_singleton.1 h]
     intro b sV
     rw[List.mem_singleton.1 sV];exact hcond.2.2
   ·rw[hk]at kN
    simp only[Option.some.injEq,BK.chan.injEq]at kN
    subst kN
    refine⟨fj,_,_,_,kj,by simp[KD],fun j cs hj=>?_⟩
    rw[List.getElem?_append]at hj
    split at hj
    ·rename_i dS
     obtain⟨b,u,q1,q2,q3⟩:=hR j cs hj
     refine⟨b,u,q1,?_,hr _ _ q3⟩
     rw[Array.getElem?_push,if_neg (by omega)];exact q2
    ·rename_i qE
     have gZ:j=r.rows.length:=by
      have:=(List.getElem?_eq_some_iff.1 hj).1
      simp at this;omega
     subst gZ
     simp at hj
     subst hj
     exact⟨_,_,rfl,by rw[Array.getElem?_push,if_pos KD.symm],hr _ _ ry⟩
  ·cases hv
 ·cases hv
theorem Qp {x:O} {g':Rows} {v:AV} (S:gw P hs D ι g w) (hc:qV P o.op=some (.OY x)) (E:cq P w D ι env a) (hv:eo g (cQ env x)=some (v,g')):
  ∃c cap s r buf z,(execOp a.eval o).run P w=.ok (.comm #[Conc.rcase c z] true (.recv false)) w/\w.heap[c]? =some (.chan cap buf false s r false)/\0<buf.size/\gw P hs D ι g' (w.setChan c cap (buf.extract 1 buf.size) false s (r+1) false)/\Step hs D ι w D ι (w.setChan c cap (buf.extract 1 buf.size) false s (r+1) false)/\cI P (w.setChan c cap (buf.extract 1 buf.size) false s (r+1) false) D ι v (buf.getD 0 undef):=by
 obtain⟨t,dir,e,i0,z,x',ho,ht,hi,hz,hx⟩:=LM hc
 have rx:=dj E hx
 unfold eo at hv
 split at hv
 ·rename_i i he
  simp only[Option.bind_eq_some_iff]at hv
  obtain⟨r,hg,hv⟩:=hv
  split at hv
  ·rename_i v' rest oQ
   split at hv
   ·rename_i hcond
    simp only[Option.some.injEq,Prod.mk.injEq]at hv
    obtain⟨rfl,rfl⟩:=hv
    obtain⟨B,c,hu,hB,hk,fj,buf,s,q,hb,KD,hR⟩:=zA S rx he hg
    obtain⟨B',dz,RR,_⟩:=S.row i r hg
    rw[hB]at dz;injection dz with dz;subst dz
    obtain⟨b0,u0,q1,q2,q3⟩:=hR 0 [v'] (by rw[oQ];rfl)
    simp only[List.cons.injEq,and_true]at q1
    subst q1
    have jN:0<buf.size:=by rw[KD,oQ];simp
    have SS:buf.getD 0 undef=u0:=by rw[Array.getD_eq_getD_getElem?,q2];rfl
    have nU:=S.Ho (ob:=.chan c (buf.extract 1 buf.size) false s (q+1) false) (r':={r with rows:=rest}) hg hcond hB fun hr kj=>⟨RR.sz,fun cs du=>RR.flat cs (by rw[oQ];exact List.mem_cons_of_mem _ du),fun h0=>(by rw[hk]at h0;cases h0),fun m hm=>(by rw[hk]at hm;cases hm),fun c' kN=>?_⟩
    ·refine⟨B.b,c,s,q,buf,z,?_,hb,jN,nU.1,nU.2,?_⟩
     ·have qJ:(zeroValue e).run P w=.ok z w:=by simp[zeroValue,typeInfo,hi,hz]
      simp[execOp,ho,hu,Conc.rcase,run_underlying ht,qJ]
     ·rw[SS];exact nU.2.rep q3
    ·rw[hk]at kN
     simp only[Option.some.injEq,BK.chan.injEq]at kN
     subst kN
     refine⟨fj,_,_,_,kj,by simp[KD,oQ],fun j cs hj=>?_⟩
     obtain⟨b,u,k1,k2,k3⟩:=hR (j+1) cs (by rw[oQ];simpa using hj)
     refine⟨b,u,k1,?_,hr _ _ k3⟩
     have dS:=(Array.getElem?_eq_some_iff.1 k2).1
     rw[Array.getElem?_extract,if_pos (by omega),Nat.add_comm 1 j];exact k2
   ·cases hv
  ·cases hv
 ·cases hv
theorem FZ {ops:Array Oper} {nt site0:Nat} {K:Env->ar->Prop} {Q:Exit->Act->World->Prop}:∀(l:List Oper) (vl:List bj) (j:Nat) (env:Env) (σ:ar) (a:Act) (w:World) (D:Nat->Prop) (ι:Names),
  ops.toList.drop j=l->allM (kI P ops nt site0 false false #[] []) l j=some vl->cF vl K env σ->gw P hs D ι σ.get w->Used ι σ.next (fun _=>False)->cq P w D ι env a->a.tmps.size=nt->
  (∀iG σ' a' w' D' ι',K iG σ'->Step hs D ι w D' ι' w'->St P hs nt D' ι' iG σ' a' w'->a'.defers=a.defers->σ.next<=σ'.next->Q .normal a' w')->xF P ops Q (List.range' j l.length) a w:=by
 intro l
 induction l with
 |nil=>
  intro vl j env σ a w D ι _ h hv S Us E fj hQ
  simp[allM]at h;subst h
  exact OS (hQ env ⟨σ.get,σ.next+1⟩ a w D ι hv (Step.refl _ _ _ _) ⟨S,Us.next,E,fj⟩ rfl (Nat.le_succ _))
 |cons o l ih=>
  intro vl j env σ a w D ι hl h hv S Us E fj hQ
  simp only[allM,Option.bind_eq_bind,Option.bind_eq_some_iff,Option.pure_def,Option.some.injEq]at h
  obtain⟨vo,p4,tA,sI,rfl⟩:=h
  obtain⟨hc,hd,BL,xO,hg⟩:=po p4
  obtain⟨QX,hv⟩:=hv
  have UJ:o.guard=none:=by
   split at hg
   ·assumption
   ·obtain⟨t,_,h⟩:=hg
    rw[QX]at h;cases h
  have UK:ops[j]? =some o:=by
   have h0:=congrArg (fun x=>x[0]?) hl
   rw[<-Array.getElem?_toList]
   simpa[List.getElem?_drop]using h0
  have KK:ops.toList.drop (j+1)=l:=by rw[<-List.drop_drop,hl];rfl
  have go:∀(v:AV) (u:Value) (g2:Rows) (w2:World),cF tA K (upd env vo.dst v) ⟨g2,σ.next⟩->gw P hs D ι g2 w2->Step hs D ι w D ι w2->cI P w2 D ι v u->xF P ops Q (List.range' (j+1) l.length) (a.put o.dst u) w2:=fun v u g2 w2 hn S2 T hR=>
   ih tA (j+1) (upd env vo.dst v) ⟨g2,σ.next⟩ (a.put o.dst u) w2 D ι KK sI hn S2 Us (by rw[hd];exact iv (oI E T) hR xO fj) (by rw[eW];exact fj) fun iG σ2 a' w3 D3 ι3 hk T2 Nr Dr nf=>hQ iG σ2 a' w3 D3 ι3 hk (T.trans T2) Nr (Dr.trans (put_defers _ _ _)) nf
  rw[show List.range' j (o::l).length=j::List.range' (j+1) l.length from rfl]
  split at hv
  ·rename_i x y eb
   split at hv
   ·rename_i g2 P0
    rw[eb]at hc
    obtain⟨c,cap,s,r,buf,u,gh,hb,fS,S2,T⟩:=Qq S hc E P0
    exact Ma UK UJ gh hb fS (go _ _ _ _ hv S2 T cI.undef)
   ·exact hv.elim
  ·rename_i x eb
   split at hv
   ·rename_i v g2 P0
    rw[eb]at hc
    obtain⟨c,cap,s,r,buf,z,gh,hb,I4,S2,T,hR⟩:=Qp S hc E P0
    exact L9 UK UJ gh hb I4 (go _ _ _ _ hv S2 T hR)
   ·exact hv.elim
  ·split at hv
   ·rename_i v hq
    obtain⟨u,gh,hR⟩:=y8 hc hq S E
    exact JG UK UJ gh (go _ _ _ _ hv S (Step.refl _ _ _ _) hR)
   ·exact hv.elim
end
end Go.Proofs.YtgoelphibofcmaaGreat.V

namespace Go.Proofs.YtgoelphibofcmaaGreat.V
open Go.RowKit
variable {P:Program} {w w':World} {D D' D2:Nat->Prop} {ι ι' ι2:Names}
section
variable {hs:Nat} {X:fG}
def Se:Ex->Exit
 | .normal=>.normal
 | .exit id=>.exit id
 | .ret=>.ret
theorem St.drew {nt:Nat} {env:Env} {σ:ar} {a:Act} {D:Nat->Prop} {ι:Names} (h:St P hs nt D ι env σ a w):St P hs nt D ι env σ a w.drew/\Step hs D ι w D ι w.drew:=by
 have T:Step hs D ι w D ι w.drew:=Step.stay h.tp (fun _ _=>rfl) (Nat.le_refl _) rfl rfl rfl (fun _ h=>h) (fun _ h=>.inl h) (fun _ _ h=>h)
 exact⟨⟨h.tp.stay (fun _ _=>rfl) (Nat.le_refl _) (fun _ h=>h) h.tp.dead (fun _ h=>.inl h) (fun _ _ h=>h),h.used,oI h.env T,h.size⟩,T⟩
def tF (P:Program) (hs nt:Nat) (ds:List Deferred) (Q:Ex->Env->ar->Prop) (n0:Nat) (D:Nat->Prop) (ι:Names) (w:World) (Q':Exit->Act->World->Prop):Prop:=
 ∀ex env σ a w' D' ι',Q ex env σ->Step hs D ι w D' ι' w'->St P hs nt D' ι' env σ a w'->a.defers=ds->n0<=σ.next->Q' (Se ex) a w'
theorem tF.later {nt:Nat} {ds:List Deferred} {Q:Ex->Env->ar->Prop} {n0 n1:Nat} {Q':Exit->Act->World->Prop} (h:tF P hs nt ds Q n0 D ι w Q') (T:Step hs D ι w D' ι' w') (hn:n0<=n1):tF P hs nt ds Q n1 D' ι' w' Q':=
 fun ex env σ a w2 D2 ι2 hq T2 dF hd hle=>h ex env σ a w2 D2 ι2 hq (T.trans T2) dF hd (Nat.le_trans hn hle)
theorem qo (hm:P.follows .mixedOrders=true) {md:List (Nat×Nat)} {nt fid:Nat}:∀(c:Code) (vc:VC),jo P md nt fid c=some vc->∀(Q:Ex->Env->ar->Prop) (env:Env) (σ:ar) (a:Act) (w:World) (D:Nat->Prop) (ι:Names) (Q':Exit->Act->World->Prop),
  dG (Sound P) vc Q env σ->St P hs nt D ι env σ a w->tF P hs nt a.defers Q σ.next D ι w Q'->AJ P c Q' a w:=by
 intro c
 induction c with
 |skip=>
  intro vc h Q env σ a w D ι Q' hv dF hQ
  simp[jo]at h;subst h
  exact km <| wp_skip (hQ .normal env σ a w D ι hv (Step.refl _ _ _ _) dF rfl (Nat.le_refl _))
 |exit id=>
  intro vc h Q env σ a w D ι Q' hv dF hQ
  simp[jo]at h;subst h
  exact km <| wp_exit (hQ (.exit id) env σ a w D ι hv (Step.refl _ _ _ _) dF rfl (Nat.le_refl _))
 |ret=>
  intro vc h Q env σ a w D ι Q' hv dF hQ
  simp[jo]at h;subst h
  exact km <| wp_ret (hQ .ret env σ a w D ι hv (Step.refl _ _ _ _) dF rfl (Nat.le_refl _))
 |seq x y ihx ihy=>
  intro vc h Q env σ a w D ι Q' hv dF hQ
  simp only[jo,Option.bind_eq_bind,Option.bind_eq_some_iff,Option.pure_def,Option.some.injEq]at h
  obtain⟨vx,hx,vy,hy,rfl⟩:=h
  refine lO (ihx vx hx _ env σ a w D ι _ hv dF fun ex jg σ1 a1 w1 D1 ι1 hq T j9 hd hle=>?_)
  cases ex with
  |normal=>exact ihy vy hy Q jg σ1 a1 w1 D1 ι1 Q' hq j9 (by rw[hd];exact hQ.later T hle)
  |exit id=>exact hQ (.exit id) jg σ1 a1 w1 D1 ι1 hq T j9 hd hle
  |ret=>exact hQ .ret jg σ1 a1 w1 D1 ι1 hq T j9 hd hle
 |cond c x y ihx ihy=>
  intro vc h Q env σ a w D ι Q' hv dF hQ
  simp only[jo,Option.bind_eq_bind,Option.bind_eq_some_iff,Option.pure_def,Option.some.injEq]at h
  obtain⟨c',hc,vx,hx,vy,hy,rfl⟩:=h
  unfold dG at hv
  have hr:=dj dF.env hc
  split at hv
  ·rename_i b hb
   rw[hb]at hr
   refine wO (e6 hr) ?_
   cases b with
   |true=>exact ihx vx hx Q env σ a w D ι Q' hv dF hQ
   |false=>exact ihy vy hy Q env σ a w D ι Q' hv dF hQ
  ·exact hv.elim
 |block id c ih=>
  intro vc h Q env σ a w D ι Q' hv dF hQ
  simp only[jo,Option.map_eq_some_iff]at h
  obtain⟨vx,hx,rfl⟩:=h
  refine tf (ih vx hx _ env σ a w D ι _ hv dF fun ex jg σ1 a1 w1 D1 ι1 hq T j9 hd hle=>?_)
  cases ex with
  |normal=>exact hQ .normal jg σ1 a1 w1 D1 ι1 hq T j9 hd hle
  |ret=>exact hQ .ret jg σ1 a1 w1 D1 ι1 hq T j9 hd hle
  |exit jW=>
   simp only[aZ]at hq
   simp only[Se,Exit.inBlock]
   by_cases hid:jW=id
   ·rw[if_pos hid]at hq ⊢;exact hQ .normal jg σ1 a1 w1 D1 ι1 hq T j9 hd hle
   ·rw[if_neg hid]at hq ⊢;exact hQ (.exit jW) jg σ1 a1 w1 D1 ι1 hq T j9 hd hle
 |loop c ih=>
  intro vc h Q env σ a w D ι Q' hv dF hQ
  simp only[jo,Option.map_eq_some_iff]at h
  obtain⟨vx,hx,rfl⟩:=h
  obtain⟨n,hv⟩:=hv
  refine Cg n ?_
  have key:∀n env σ a w D ι,Fu (dG (Sound P) vx) Q n env σ->St P hs nt D ι env σ a w->tF P hs nt a.defers Q σ.next D ι w Q'->pD P c Q' n a w:=by
   intro n
   induction n with
   |zero=>intro env σ a w D ι h;exact h.elim
   |succ n ihn=>
    intro env σ a w D ι h dF hQ
    refine ih vx hx _ env σ a w D ι _ h dF fun ex jg σ1 a1 w1 D1 ι1 hq T j9 hd hle=>?_
    cases ex with
    |normal=>exact ihn jg σ1 a1 w1 D1 ι1 hq j9 (by rw[hd];exact hQ.later T hle)
    |exit id=>exact hQ (.exit id) jg σ1 a1 w1 D1 ι1 hq T j9 hd hle
    |ret=>exact hQ .ret jg σ1 a1 w1 D1 ι1 hq T j9 hd hle
  exact key n env σ a w D ι hv dF hQ
 |region id ops draw=>
  intro vc h Q env σ a w D ι Q' hv dF hQ
  simp only[jo,Qo]at h
  split at h
  ·rename_i hmode
   have Ug:draw=true:=by
    simp only[Bool.and_eq_true]at hmode;exact hmode.1
   subst Ug
   split at h
   ·rename_i vl dI
    obtain⟨rN,T0⟩:=dF.drew
    have Dp:=Hn (X:=Sound P) kH ops.size _ vc env σ h (fun k i h=>by
     exfalso
     rcases Nat.lt_or_ge k ops.size with hk|hk
     ·simp[hk]at h
     ·simp[Nat.not_lt.2 hk]at h) hv
    refine km (wp_region_any hm ?_)
    exact EA dI ops.size _ env σ a w.drew D ι (fun _=>False) Dp rN.tp rN.used (fun _ h=>h.elim) rN.env rN.size fun jg σ1 a1 w1 D1 ι1 hk T j9 hd hle=>hQ .normal jg σ1 a1 w1 D1 ι1 hk (T0.trans T) j9 hd hle
   ·cases h
  split at h
  ·rename_i hcom
   have Ug:draw=false:=by
    simp only[Bool.and_eq_true,Bool.not_eq_true']at hcom;exact hcom.1
   subst Ug
   simp only[Option.map_eq_some_iff]at h
   obtain⟨vl,sI,rfl⟩:=h
   have dI:allM (kI P ops nt ((fid*1000+id)*1000) false false #[] []) ops.toList 0=some vl:=by
    unfold rD at sI
    simp only[Bool.false_eq_true,if_false,Bool.not_false,Bool.true_or,if_true]at sI
    split at sI
    ·rename_i tA h;simp at sI;subst sI;exact h
    ·cases sI
   refine DV ?_
   have:=FZ (Q:=Q') ops.toList vl 0 env σ a w D ι rfl dI hv dF.tp dF.used dF.env dF.size fun jg σ1 a1 w1 D1 ι1 hk T j9 hd hle=>hQ .normal jg σ1 a1 w1 D1 ι1 hk T j9 hd hle
   rwa [<-List.range_eq_range',Array.length_toList]at this
  generalize (wK md id==1)=mk at h
  simp only[Option.map_eq_some_iff]at h
  obtain⟨vl,sI,rfl⟩:=h
  cases draw with
  |false=>
   have dI:∃tA,allM (kI P ops nt ((fid*1000+id)*1000) false mk #[] []) ops.toList 0=some tA/\vl=tA:=by
    unfold rD at sI
    simp only[Bool.false_eq_true,if_false,Bool.not_false,Bool.true_or,if_true]at sI
    split at sI
    ·rename_i tA h;simp at sI;exact⟨tA,h,sI.symm⟩
    ·cases sI
   obtain⟨tA,dI,rfl⟩:=dI
   refine km (wp_region_list ?_)
   exact yZ ops.toList vl 0 env σ a w D ι (fun _=>False) dI hv dF.tp dF.used (fun _ h=>h.elim) dF.env dF.size fun jg σ1 a1 w1 D1 ι1 hk T j9 hd hle=>hQ .normal jg σ1 a1 w1 D1 ι1 hk T j9 hd hle
  |true=>
   have dI:∃hidden tA,allM (kI P ops nt ((fid*1000+id)*1000) true mk (jC ops) hidden) ops.toList 0=some tA/\vl=tA/\oH ops tA (jC ops)=true:=by
    unfold rD at sI
    simp only[if_true,Bool.not_true,Bool.false_or]at sI
    split at sI
    ·rename_i tA h
     split at sI
     ·rename_i wm;simp at sI;exact⟨_,tA,h,sI.symm,wm⟩
     ·cases sI
    ·cases sI
   obtain⟨hidden,tA,dI,rfl,wm⟩:=dI
   obtain⟨rN,T0⟩:=dF.drew
   obtain⟨hlen,_⟩:=oy dI
   have kO:vl.length=ops.size:=by rw[hlen];simp
   have Dp:=xr (X:=Sound P) (K:=Q .normal) (n:=σ.next) wm kO vl 0 (Array.replicate ops.size false) env σ.get (by simp) (by simp) (fun i hi=>by simp[hi]) (by simp[kO]) (fun k i h=>by
    exfalso
    rcases Nat.lt_or_ge k ops.size with hk|hk
    ·simp[hk]at h
    ·simp[Nat.not_lt.2 hk]at h) hv
   refine km (wp_region_any hm ?_)
   rw[kO]at Dp
   exact yc dI ops.size _ env σ.get a w.drew D ι (fun _=>False) Dp rN.tp rN.used (fun _ h=>h.elim) rN.env rN.size fun jg g1 a1 w1 D1 ι1 U1 hk T S1 Tk E1 AR hd=>hQ .normal jg ⟨g1,σ.next+1⟩ a1 w1 D1 ι1 hk (T0.trans T) ⟨S1,Tk.next,E1,AR⟩ hd (Nat.le_succ _)
 |_=>
  intro vc h
  simp[jo]at h
def JR (tmps:Array Value):ResultVar->Sem Value
 | .tmp t=>pure (tmps.getD t undef)
 | .cell a t=>do loadVar t (<-asAddr (tmps.getD a undef))
theorem Ea (fn:Func) (tmps:Array Value):results fn tmps=(do
  let vs <-fn.results.mapM (JR tmps)
  pure (if h:vs.size=1 then vs[0]else .tuple vs)):=by
 unfold results
 congr 2
theorem ud {nt:Nat} {env:Env} {σ:ar} {a:Act} {D:Nat->Prop} {ι:Names} (dF:St P hs nt D ι env σ a w):∀(rs:List ResultVar) (vr:List nK) (vs:List AV),rs.mapM (C8 P)=some vr->ft env σ.get vr=some vs->
  ∃us:List Value,(rs.mapM (JR a.tmps)).run P w=.ok us w/\us.length=vs.length/\∀(j:Nat) (v:AV),vs[j]? =some v->∃u,us[j]? =some u/\cI P w D ι v u
 |[],vr,vs,h,hv=>by
  simp at h;subst h
  simp[ft]at hv;subst hv
  exact⟨[],by simp,rfl,fun j v h=>by simp at h⟩
 |r::rs,vr,vs,h,hv=>by
  simp only[List.mapM_cons,Option.bind_eq_bind,Option.bind_eq_some_iff]at h
  obtain⟨x,hx,vr',hr,h⟩:=h
  simp at h;subst h
  simp only[ft,Option.bind_eq_some_iff,Option.map_eq_some_iff]at hv
  obtain⟨v,wq,Vd,Rl,rfl⟩:=hv
  obtain⟨us,h1,h2,h3⟩:=ud dF rs vr' Vd hr Rl
  have one:∃u,(JR a.tmps r).run P w=.ok u w/\cI P w D ι v u:=by
   cases r with
   |tmp t=>
    simp[C8]at hx;subst hx
    simp[iq]at wq;subst wq
    exact⟨_,rfl,dF.env t⟩
   |cell b t=>
    simp only[C8,Option.bind_eq_bind,Option.bind_eq_some_iff,Option.pure_def,Option.some.injEq]at hx
    obtain⟨ag,uN,n,hn,rfl⟩:=hx
    simp only[iq]at wq
    have gL:=dF.env b
    unfold ld at wq
    split at wq
    ·rename_i jW i' oo hb
     rw[hb]at gL
     obtain⟨B,he,hB,hk⟩:=iA gL
     simp only[Option.bind_eq_some_iff]at wq
     obtain⟨cs,du,hp⟩:=wq
     obtain⟨B',r0,CK,dz,R,hi,fl,f,hf⟩:=JW (S:=dF.tp) du (fun B2 h2=>by rw[hB]at h2;injection h2 with h2;subst h2;exact hk)
     rw[hB]at dz;injection dz with dz;subst dz
     obtain⟨u,k1,k2⟩:=kD (w:=w) (b:=B.b) (oo:=i'*B.sz+oo) (f:=fun j=>f (oo+j)) uN hn hp (fun a ha=>fl a (List.mem_of_mem_drop ha)) (fun j hj=>by
      rw[Nat.add_assoc];exact(hf _ (by simp at hj;omega)).1) (fun j a ha=>by
      simp at ha;exact(hf _ ((List.getElem?_eq_some_iff.1 ha).1)).2 _ ha)
     exact⟨u,by simp only[JR,he,asAddr,Sem.run_bind,Sem.run_pure,Result.andThen_ok,k1],k2⟩
    ·rename_i cs hb
     rw[hb]at gL
     obtain⟨b',oo,vs2,he,q1,q2,q3,q4⟩:=kY gL
     obtain⟨u,k1,k2⟩:=kD (w:=w) (b:=b') (oo:=oo) (f:=vs2) uN hn wq q2 q3 (fun j a ha=>.eM _ _ (q4 j a ha))
     exact⟨u,by simp only[JR,he,asAddr,Sem.run_bind,Sem.run_pure,Result.andThen_ok,k1],k2⟩
    ·simp at wq
  obtain⟨u,hu,xR⟩:=one
  refine⟨u::us,?_,by simp[h2],fun j v' hj=>?_⟩
  ·rw[List.mapM_cons]
   simp only[Sem.run_bind,hu,h1,Result.andThen_ok,Sem.run_pure]
  ·cases j with
   |zero=>simp at hj;subst hj;exact⟨u,rfl,xR⟩
   |succ j=>simp at hj ⊢;exact h3 j v' hj
theorem vz {f:Nat} {fn:Func} {c:Code} {args:List AV} {σ:ar} {K:AV->ar->Prop} {vr:List nK} (PQ:P.funcs[f]? =some fn) (hc:fn.body=some c) (hr:fn.results.toList.mapM (C8 P)=some vr) (ha:fn.params.size+fn.nfree=args.length) (hle:fn.params.size+fn.nfree<=fn.ntmps)
  (h:∀(hs:Nat) (w:World) (D:Nat->Prop) (ι:Names) (a:Act) (Q':Exit->Act->World->Prop),St P hs fn.ntmps D ι (cz args) σ a w->tF P hs fn.ntmps a.defers (kC vr K) σ.next D ι w Q'->AJ P c Q' a w):Sound P f args σ K:=by
 intro hs D ι w vs S Us A
 have fj:vs.size=args.length:=A.1
 refine zz PQ hc ?_
 refine h hs w D ι _ _ ⟨S,Us,fun t=>?_,by simp;omega⟩ fun ex jg σ1 a1 w1 D1 ι1 hq T j9 hd hle=>?_
 ·simp only[cz]
  by_cases dS:t<args.length
  ·obtain⟨u,hu,xR⟩:=A.2 t args[t] (List.getElem?_eq_getElem dS)
   have e1:args.getD t .undef=args[t]:=by simp[List.getD_eq_getElem?_getD,dS]
   have e2:(vs++Array.replicate (fn.ntmps-vs.size) undef).getD t undef=u:=by
    simp only[Array.getD_eq_getD_getElem?]
    rw[Array.getElem?_append_left (by omega),hu];rfl
   rw[e1,e2];exact xR
  ·have e1:args.getD t .undef=.undef:=by simp[List.getD_eq_getElem?_getD,Nat.le_of_not_lt dS]
   have e2:(vs++Array.replicate (fn.ntmps-vs.size) undef).getD t undef=undef:=by
    simp only[Array.getD_eq_getD_getElem?]
    rw[Array.getElem?_append_right (by omega),Array.getElem?_replicate]
    split<;>rfl
   rw[e1,e2];exact cI.undef
 ·have fin:(∃vs,ft jg σ1.get vr=some vs/\K (fq vs) σ1)->a1.defers=[]/\∃v,(results fn a1.tmps).run P w1=.ok v w1/\∃r g' n' D' ι' u,Ending.returned v=.returned u/\K r ⟨g',n'⟩/\Step hs D ι w D' ι' w1/\gw P hs D' ι' g' w1/\Used ι' n' (fun _=>False)/\σ.next<=n'/\cI P w1 D' ι' r u:=by
   rintro⟨avs,Rl,hK⟩
   obtain⟨us,h1,h2,h3⟩:=ud j9 fn.results.toList vr avs hr Rl
   have Ow:(results fn a1.tmps).run P w1=.ok (if h:us.toArray.size=1 then us.toArray[0]else .tuple us.toArray) w1:=by
    rw[Ea,Array.mapM_eq_mapM_toList]
    simp only[Sem.run_bind,Sem.run_map,h1,Result.andThen_ok,Sem.run_pure]
   refine⟨hd,_,Ow,fq avs,σ1.get,σ1.next,D1,ι1,_,rfl,hK,T,j9.tp,j9.used,hle,?_⟩
   unfold fq
   split
   ·rename_i v
    have hl:us.length=1:=h2
    obtain⟨u,hu,xR⟩:=h3 0 v rfl
    rw[dif_pos (by simpa using hl)]
    have:us.toArray[0]'(by simp[hl])=u:=by
     have:=(List.getElem?_eq_some_iff.1 hu).2
     simpa using this
    rw[this];exact xR
   ·rename_i gW
    rw[dif_neg (by
     simp only[List.size_toArray,h2]
     intro h
     obtain⟨v,hv⟩:=List.length_eq_one_iff.1 h
     exact gW v hv)]
    exact .gJ _ _ (fun j=>us.getD j undef) (by simp[h2]) (fun j hj=>by
     have:j<us.length:=by rw[h2];exact hj
     simp[this]) (fun j v hj=>by
     obtain⟨u,hu,xR⟩:=h3 j v hj
     simpa[List.getD_eq_getElem?_getD,hu]using xR)
  cases ex with
  |normal=>exact fin hq
  |ret=>exact fin hq
  |exit id=>exact hq.elim
theorem It (hm:P.follows .mixedOrders=true) {f:Nat} {md:List (Nat×Nat)} {vf:AK} {args:List AV} {σ:ar} {K:AV->ar->Prop} (hf:xK P f md=some vf) (ha:vf.yV=args.length) (h:dG (Sound P) vf.body (kC vf.res K) (cz args) σ):Sound P f args σ K:=by
 unfold xK at hf
 split at hf
 ·rename_i fn PQ
  split at hf
  ·rename_i c hc
   simp only[Option.bind_eq_bind,Option.bind_eq_some_iff]at hf
   obtain⟨vb,hb,vr,hr,hf⟩:=hf
   split at hf
   ·rename_i hle
    simp only[Option.pure_def,Option.some.injEq]at hf
    subst hf
    simp only at ha h
    exact vz PQ hc hr ha hle fun hs w D ι a Q' dF hQ=>qo hm c vb hb (kC vr K) (cz args) σ a w D ι Q' h dF hQ
   ·simp at hf
  ·simp at hf
 ·simp at hf
def Nc (P:Program) (X:fG):fG:=fun f args σ K=>(∃md vf,xK P f md=some vf/\vf.yV=args.length/\((∀a∈args,eF a)->dG X vf.body (kC vf.res K) (cz args) σ))∨Sound P f args σ K
def Call (P:Program):fG:=fun f args σ K=>∀X:fG,p9 X->(∀f args σ K,Nc P X f args σ K->X f args σ K)->X f args σ K
theorem gq (hm:P.follows .mixedOrders=true) {f:Nat} {args:List AV} {σ:ar} {K:AV->ar->Prop} (h:Call P f args σ K):Sound P f args σ K:=
 h (Sound P) kH fun f args σ K hs=>by
  rcases hs with⟨md,vf,h1,h2,h3⟩|h
  ·intro hs D ι w vs S U A
   exact It hm h1 h2 (h3 (oY fun j a hj=>by obtain⟨u,_,hr⟩:=A.2 j a hj;exact hr.Ji)) hs D ι w vs S U A
  ·exact h
end
end Go.Proofs.YtgoelphibofcmaaGreat.V

namespace Go.Proofs.YtgoelphibofcmaaGreat.V
open Go.RowKit
variable {P:Program} {X Y:fG}
theorem HL (h:∀f args σ K,X f args σ K->Y f args σ K) {f:Nat} {args:List AV} {σ:ar} {K:AV->Prop} (hp:gy X f args σ K):gy Y f args σ K:=by
 rcases hp with hp|⟨a,h1,h2⟩
 ·exact .inl (h _ _ _ _ hp)
 ·exact .inr ⟨a,h1,h _ _ _ _ h2⟩
theorem KQ (h:∀f args σ K,X f args σ K->Y f args σ K) {f:Nat} {args:List AV} {σ:ar} {sz:Nat} {rows:List (List AV)} (hp:CM X f args σ sz rows):CM Y f args σ sz rows:=by
 obtain⟨h1,a,h2,h3⟩:=hp
 exact⟨h1,a,h2,h _ _ _ _ h3⟩
theorem qm (h:∀f args σ K,X f args σ K->Y f args σ K) (hK:∀f args σ K K',(∀r σ',K r σ'->K' r σ')->Y f args σ K->Y f args σ K') {draw:Bool} {hid:List Nat} {site:Nat} {f:Nat} {args:List AV} {σ:ar} {n n':AV->ar->Prop} (hn:∀v σ',n v σ'->n' v σ') (hp:cH X draw hid site f args σ n):cH Y draw hid site f args σ n':=by
 rcases hp with⟨r,h1,h2⟩|⟨h1,h2⟩|⟨h1,sz,rows,h2,h3⟩
 ·exact .inl ⟨r,HL h h1,hn _ _ h2⟩
 ·exact .inr (.inl ⟨h1,hK _ _ _ _ _ hn (h _ _ _ _ h2)⟩)
 ·exact .inr (.inr ⟨h1,sz,rows,KQ h h2,hn _ _ h3⟩)
theorem sr (h:∀f args σ K,X f args σ K->Y f args σ K) (hK:∀f args σ K K',(∀r σ',K r σ'->K' r σ')->Y f args σ K->Y f args σ K') {draw:Bool} {o:bj} {env:Env} {σ:ar} {n n':AV->ar->Prop} (hn:∀v σ',n v σ'->n' v σ') (hp:fF X draw o env σ n):fF Y draw o env σ n':=by
 unfold fF at hp ⊢
 split at hp
 ·exact qm h hK hn hp
 ·split at hp
  ·exact qm h hK hn hp
  ·exact qm h hK hn hp
  ·exact hp.elim
 ·split at hp
  ·exact hn _ _ hp
  ·exact hp.elim
 ·split at hp
  ·exact hn _ _ hp
  ·exact hp.elim
 ·split at hp
  ·exact hn _ _ hp
  ·exact hp.elim
 ·split at hp
  ·exact hn _ _ hp
  ·exact hp.elim
 ·split at hp
  ·exact hn _ _ hp
  ·exact hp.elim
 ·split at hp
  ·exact hn _ _ hp
  ·exact hn _ _ hp
  ·exact hp.elim
theorem lf (h:∀f args σ K,X f args σ K->Y f args σ K) (hK:∀f args σ K K',(∀r σ',K r σ'->K' r σ')->Y f args σ K->Y f args σ K') {draw:Bool} {Q Q':Env->ar->Prop} (hQ:∀e s,Q e s->Q' e s):∀(l:List bj) (env:Env) (σ:ar),wpOps X draw l Q env σ->wpOps Y draw l Q' env σ
 |[],env,σ,hp=>hQ _ _ hp
 |o::r,env,σ,hp=>by
  unfold wpOps at hp ⊢
  split at hp
  ·rename_i hw;rw[if_pos hw];exact sr h hK (fun v σ'=>lf h hK hQ r _ _) hp
  ·rename_i hw;rw[if_neg hw];exact lf h hK hQ r _ _ hp
theorem ny {Q Q':Env->ar->Prop} (hQ:∀e s,Q e s->Q' e s):∀(l:List bj) (env:Env) (σ:ar),cF l Q env σ->cF l Q' env σ
 |[],env,σ,hp=>hQ _ _ hp
 |o::r,env,σ,hp=>by
  unfold cF at hp ⊢
  refine⟨hp.1,?_⟩
  replace hp:=hp.2
  split at hp
  ·split at hp
   ·exact ny hQ r _ _ hp
   ·exact hp.elim
  ·split at hp
   ·exact ny hQ r _ _ hp
   ·exact hp.elim
  ·split at hp
   ·exact ny hQ r _ _ hp
   ·exact hp.elim
theorem jy (h:∀f args σ K,X f args σ K->Y f args σ K) (hK:∀f args σ K K',(∀r σ',K r σ'->K' r σ')->Y f args σ K->Y f args σ K'):∀(c:VC) (Q Q':Ex->Env->ar->Prop) (env:Env) (σ:ar),(∀x e s,Q x e s->Q' x e s)->dG X c Q env σ->dG Y c Q' env σ:=by
 intro c
 induction c with
 |skip=>intro Q Q' env σ hQ hp;exact hQ _ _ _ hp
 |exit id=>intro Q Q' env σ hQ hp;exact hQ _ _ _ hp
 |ret=>intro Q Q' env σ hQ hp;exact hQ _ _ _ hp
 |one o c ih=>
  intro Q Q' env σ hQ hp
  unfold dG at hp ⊢
  split at hp
  ·rename_i hw;rw[if_pos hw];exact sr h hK (fun v σ'=>ih Q Q' _ _ hQ) hp
  ·rename_i hw;rw[if_neg hw];exact ih Q Q' _ _ hQ hp
 |both a b iha ihb=>intro Q Q' env σ hQ hp;exact⟨iha Q Q' env σ hQ hp.1,ihb Q Q' env σ hQ hp.2⟩
 |loc t s y c ih=>intro Q Q' env σ hQ hp;exact⟨hp.1,ih Q Q' env σ hQ hp.2⟩
 |NG ops=>intro Q Q' env σ hQ hp;exact ny (hQ .normal) ops env σ hp
 |eH draw ops=>intro Q Q' env σ hQ hp;exact lf h hK (hQ .normal) ops env σ hp
 |seq a b iha ihb=>
  intro Q Q' env σ hQ hp
  refine iha _ _ env σ (fun x e s hx=>?_) hp
  cases x with
  |normal=>exact ihb Q Q' e s hQ hx
  |exit id=>exact hQ _ _ _ hx
  |ret=>exact hQ _ _ _ hx
 |cond c a b iha ihb=>
  intro Q Q' env σ hQ hp
  unfold dG at hp ⊢
  split at hp
  ·rename_i t ht
   cases t with
   |true=>exact iha Q Q' env σ hQ hp
   |false=>exact ihb Q Q' env σ hQ hp
  ·exact hp.elim
 |block id a iha=>
  intro Q Q' env σ hQ hp
  refine iha _ _ env σ (fun x e s hx=>?_) hp
  cases x with
  |normal=>exact hQ _ _ _ hx
  |ret=>exact hQ _ _ _ hx
  |exit jW=>
   unfold aZ at hx ⊢
   dsimp only at hx ⊢
   split at hx
   ·rename_i hid;rw[if_pos hid];exact hQ _ _ _ hx
   ·rename_i hid;rw[if_neg hid];exact hQ _ _ _ hx
 |loop a iha=>
  intro Q Q' env σ hQ hp
  obtain⟨n,hp⟩:=hp
  refine⟨n,?_⟩
  induction n generalizing env σ with
  |zero=>exact hp
  |succ n ihn=>
   refine iha _ _ env σ (fun x e s hx=>?_) hp
   cases x with
   |normal=>exact ihn e s hx
   |exit id=>exact hQ _ _ _ hx
   |ret=>exact hQ _ _ _ hx
theorem aI:p9 (Call P):=fun _ _ _ _ _ hK h X hX hc=>hX _ _ _ _ _ hK (h X hX hc)
theorem x8 {f:Nat} {args:List AV} {σ:ar} {K:AV->ar->Prop} (h:Nc P (Call P) f args σ K):Call P f args σ K:=by
 intro X hX hc
 refine hc _ _ _ _ ?_
 rcases h with⟨md,vf,h1,h2,h3⟩|h
 ·exact .inl ⟨md,vf,h1,h2,fun hl=>jy (fun f args σ K h=>h X hX hc) hX _ _ _ _ _ (fun _ _ _ h=>h) (h3 hl)⟩
 ·exact .inr h
theorem ve {f:Nat} {md:List (Nat×Nat)} {args:List AV} {σ:ar} {K:AV->ar->Prop} {vf:AK} (hf:xK P f md=some vf) (ha:vf.yV=args.length) (h:(∀a∈args,eF a)->dG (Call P) vf.body (kC vf.res K) (cz args) σ):Call P f args σ K:=
 x8 (.inl ⟨md,vf,hf,ha,h⟩)
theorem ma {f:Nat} {args:List AV} {σ:ar} {K:AV->ar->Prop} {vf:AK} (hf:mi P f=some vf) (ha:vf.yV=args.length) (h:(∀a∈args,eF a)->dG (Call P) vf.body (kC vf.res K) (cz args) σ):Call P f args σ K:=
 ve hf ha h
theorem gN {f:Nat} {args:List AV} {σ:ar} {K:AV->ar->Prop} (h:Sound P f args σ K):Call P f args σ K:=x8 (.inr h)
def kn (P:Program) (f:Nat) (args:List AV) (r:AV):Prop:=∀σ,PC (Call P) f args σ (fun r'=>r'=r)
theorem kn.body {f:Nat} {args:List AV} {r:AV} {nt na:Nat} {body:VC} {res:List nK} (hf:mi P f=some ⟨nt,na,body,res⟩) (ha:na=args.length) (h:(∀a∈args,eF a)->∀σ:ar,dG (Call P) body (kC res fun r0 σ'=>∃r',fz σ'.get 6 r0=some r'/\r'=r) (cz args) ⟨V.ro σ.get,σ.next⟩):kn P f args r:=fun σ=>ma hf ha fun hl=>h hl σ
variable {Q:Ex->Env->ar->Prop} {K:Env->ar->Prop} {env:Env} {σ:ar}
theorem FK {a b:VC} (h:∀N:Env->ar->Prop,(∀e s,dG X b Q e s->N e s)->dG X a (dn N Q) env σ):dG X (.seq a b) Q env σ:=h _ fun _ _ h=>h
theorem AH (h:Q .normal env σ):dG X .skip Q env σ:=h
theorem AF {id:Nat} (h:Q (.exit id) env σ):dG X (.exit id) Q env σ:=h
theorem FJ (h:Q .ret env σ):dG X .ret Q env σ:=h
theorem uZ {id:Nat} {c:VC} (h:dG X c (aZ id Q) env σ):dG X (.block id c) Q env σ:=h
theorem FH {o:bj} {c:VC} (h:∀N:AV->ar->Prop,(∀v s,dG X c Q (upd env o.dst v) s->N v s)->if aM o.guard env then fF X false o env σ N else N .undef σ):dG X (.one o c) Q env σ:=by
 have:=h (fun v s=>dG X c Q (upd env o.dst v) s) fun _ _ h=>h
 unfold dG
 split
 ·rename_i hw;rw[if_pos hw]at this;exact this
 ·rename_i hw;rw[if_neg hw]at this;exact this
def eu (s n:Nat):AV->Prop
 | .own id 0 _=>id=⟨s,n⟩
 |_=>False
def ew (n:Nat):AV->Prop
 | .own id _ _=>¬id.ck=n
 |_=>True
theorem AG {t s:Nat} {y:O} {c:VC} (h1:eu s σ.next (env t)) (h2:ew σ.next (cQ env y)) (h:dG X c Q env σ):dG X (.loc t s y c) Q env σ:=by
 refine⟨⟨?_,fun id o l he=>?_⟩,h⟩
 ·revert h1
  unfold eu
  split
  ·rename_i id l he;rintro rfl;exact⟨l,he⟩
  ·exact fun h=>h.elim
 ·rw[he]at h2;exact h2
theorem fa {a b:VC} (ha:dG X a Q env σ) (hb:dG X b Q env σ):dG X (.both a b) Q env σ:=⟨ha,hb⟩
theorem FI {draw:Bool} {ops:List bj} (h:∀N:Env->ar->Prop,(∀e s,Q .normal e s->N e s)->wpOps X draw ops N env σ):dG X (.eH draw ops) Q env σ:=h _ fun _ _ h=>h
theorem Kp {ops:List bj} (h:cF ops (Q .normal) env σ):dG X (.NG ops) Q env σ:=h
theorem CE {draw:Bool} (h:K env ⟨σ.get,σ.next+1⟩):wpOps X draw [] K env σ:=h
theorem Pj {draw:Bool} {o:bj} {r:List bj} (h:∀N:AV->ar->Prop,(∀v s,wpOps X draw r K (upd env o.dst v) s->N v s)->if aM o.guard env then fF X draw o env σ N else N .undef σ):wpOps X draw (o::r) K env σ:=by
 have:=h (fun v s=>wpOps X draw r K (upd env o.dst v) s) fun _ _ h=>h
 unfold wpOps
 split
 ·rename_i hw;rw[if_pos hw]at this;exact this
 ·rename_i hw;rw[if_neg hw]at this;exact this
theorem Kq {c:O} {x y:VC} {b:Bool} (hc:cQ env c=.bool b) (ht:b=true->dG X x Q env σ) (hf:b=false->dG X y Q env σ):dG X (.cond c x y) Q env σ:=by
 unfold dG
 simp only[hc]
 cases b with
 |true=>exact ht rfl
 |false=>exact hf rfl
inductive oh:AV->Prop->Prop->Prop
 |t {A B:Prop}:A->oh (.bool true) A B
 |f {A B:Prop}:B->oh (.bool false) A B
theorem u7 {c:O} {x y:VC} {v:AV} (hv:cQ env c=v) (h:oh v (dG X x Q env σ) (dG X y Q env σ)):dG X (.cond c x y) Q env σ:=by
 cases h with
 |t h=>exact Kq hv (fun _=>h) (fun e=>by cases e)
 |f h=>exact Kq hv (fun e=>by cases e) (fun _=>h)
theorem Ph {c:VC} (I:Nat->Env->ar->Prop) (n:Nat) (h0:I n env σ) (step:∀n env σ,I n env σ->dG X c (fun x e s=>match x with| .normal=>∃m,m<n/\I m e s|x=>Q x e s) env σ)
  (hX:∀(c:VC) (Q Q':Ex->Env->ar->Prop) env σ,(∀x e s,Q x e s->Q' x e s)->dG X c Q env σ->dG X c Q' env σ):dG X (.loop c) Q env σ:=by
 have key:∀N n env σ,n<N->I n env σ->Fu (dG X c) Q N env σ:=by
  intro N
  induction N with
  |zero=>intro n env σ h;exact absurd h (Nat.not_lt_zero _)
  |succ N ih=>
   intro n env σ hn hI
   refine hX c _ _ env σ (fun x e s hx=>?_) (step n env σ hI)
   cases x with
   |normal=>obtain⟨m,hm,TM⟩:=hx;exact ih m e s (by omega) TM
   |exit id=>exact hx
   |ret=>exact hx
 exact⟨n+1,key _ n env σ (Nat.lt_succ_self _) h0⟩
theorem Mt {c:VC} (I:Nat->Env->ar->Prop) (n:Nat) (h0:I n env σ) (step:∀n env σ,I n env σ->dG (Call P) c (fun x e s=>match x with| .normal=>∃m,m<n/\I m e s|x=>Q x e s) env σ):dG (Call P) (.loop c) Q env σ:=
 Ph I n h0 step fun c Q Q' env σ hQ h=>jy (fun _ _ _ _ h=>h) aI c Q Q' env σ hQ h
def yd:VC->List Nat
 | .eH _ ops=>ops.filterMap (·.dst)
 | .seq a b=>yd a++yd b
 | .cond _ a b=>yd a++yd b
 | .block _ a=>yd a
 | .loop a=>yd a
 | .one o c=>o.dst.toList++yd c
 | .both a b=>yd a++yd b
 | .loc _ _ _ c=>yd c
 | .NG ops=>ops.filterMap (·.dst)
 |_=>[]
def gE (l:List Nat) (env iG:Env):Prop:=∀t,l.contains t=false->iG t=env t
theorem gE.refl (l:List Nat) (env:Env):gE l env env:=fun _ _=>rfl
theorem gE.trans {l:List Nat} {e e' e'':Env} (h:gE l e e') (k:gE l e' e''):gE l e e'':=fun t ht=>(k t ht).trans (h t ht)
theorem gE.sub {l l':List Nat} {e e':Env} (h:gE l e e') (hs:∀t,t∈l->t∈l'):gE l' e e':=fun t ht=>h t (by
 rw[<-Bool.not_eq_true]at ht ⊢
 simp only[List.contains_iff_mem]at ht ⊢
 exact fun hc=>ht (hs t hc))
theorem gE.upd {l:List Nat} {e e':Env} {d:Option Nat} {v:AV} (h:gE l e e') (hd:∀t,d=some t->t∈l):gE l e (upd e' d v):=fun t ht=>by
 cases d with
 |none=>exact h t ht
 |some d=>
  have:t≠d:=fun hc=>by subst hc;rw[<-Bool.not_eq_true,List.contains_iff_mem]at ht;exact ht (hd _ rfl)
  show(if t=d then v else e' t)=e t
  rw[if_neg this];exact h t ht
theorem ph {draw:Bool} {Q:Env->ar->Prop} {l:List Nat} {e0:Env}:∀(ops:List bj) (env:Env) (σ:ar),(∀t,t∈ops.filterMap (·.dst)->t∈l)->gE l e0 env->wpOps (Call P) draw ops Q env σ->wpOps (Call P) draw ops (fun e s=>Q e s/\gE l e0 e) env σ
 |[],env,σ,_,hk,hp=>⟨hp,hk⟩
 |o::r,env,σ,hl,hk,hp=>by
  have hd:∀t,o.dst=some t->t∈l:=fun t ht=>hl t (List.mem_filterMap.2 ⟨o,by simp,ht⟩)
  have hr:∀t,t∈r.filterMap (·.dst)->t∈l:=fun t ht=>hl t (by
   obtain⟨x,hx,h⟩:=List.mem_filterMap.1 ht
   exact List.mem_filterMap.2 ⟨x,List.mem_cons_of_mem _ hx,h⟩)
  unfold wpOps at hp ⊢
  split at hp
  ·rename_i hw;rw[if_pos hw]
   exact sr (fun _ _ _ _ h=>h) aI (fun v σ' h=>ph r _ _ hr (hk.upd hd) h) hp
  ·rename_i hw;rw[if_neg hw];exact ph r _ _ hr (hk.upd hd) hp
theorem lQ {Q:Env->ar->Prop} {l:List Nat} {e0:Env}:∀(ops:List bj) (env:Env) (σ:ar),(∀t,t∈ops.filterMap (·.dst)->t∈l)->gE l e0 env->cF ops Q env σ->cF ops (fun e s=>Q e s/\gE l e0 e) env σ
 |[],env,σ,_,hk,hp=>⟨hp,hk⟩
 |o::r,env,σ,hl,hk,hp=>by
  have hd:∀t,o.dst=some t->t∈l:=fun t ht=>hl t (List.mem_filterMap.2 ⟨o,by simp,ht⟩)
  have hr:∀t,t∈r.filterMap (·.dst)->t∈l:=fun t ht=>hl t (by
   obtain⟨x,hx,h⟩:=List.mem_filterMap.1 ht
   exact List.mem_filterMap.2 ⟨x,List.mem_cons_of_mem _ hx,h⟩)
  unfold cF at hp ⊢
  refine⟨hp.1,?_⟩
  replace hp:=hp.2
  split at hp
  ·split at hp
   ·exact lQ r _ _ hr (hk.upd hd) hp
   ·exact hp.elim
  ·split at hp
   ·exact lQ r _ _ hr (hk.upd hd) hp
   ·exact hp.elim
  ·split at hp
   ·exact lQ r _ _ hr (hk.upd hd) hp
   ·exact hp.elim
theorem zj {l:List Nat} {e0:Env}:∀(c:VC) (Q:Ex->Env->ar->Prop) (env:Env) (σ:ar),(∀t,t∈yd c->t∈l)->gE l e0 env->dG (Call P) c Q env σ->dG (Call P) c (fun x e s=>Q x e s/\gE l e0 e) env σ:=by
 intro c
 induction c with
 |skip=>intro Q env σ _ hk hp;exact⟨hp,hk⟩
 |exit id=>intro Q env σ _ hk hp;exact⟨hp,hk⟩
 |ret=>intro Q env σ _ hk hp;exact⟨hp,hk⟩
 |one o c ih=>
  intro Q env σ hl hk hp
  have hd:∀t,o.dst=some t->t∈l:=fun t ht=>hl t (List.mem_append_left _ (by rw[ht];simp))
  have hr:∀t,t∈yd c->t∈l:=fun t ht=>hl t (List.mem_append_right _ ht)
  unfold dG at hp ⊢
  split at hp
  ·rename_i hw;rw[if_pos hw]
   exact sr (fun _ _ _ _ h=>h) aI (fun v σ' h=>ih Q _ _ hr (hk.upd hd) h) hp
  ·rename_i hw;rw[if_neg hw];exact ih Q _ _ hr (hk.upd hd) hp
 |both a b iha ihb=>
  intro Q env σ hl hk hp
  exact⟨iha Q env σ (fun t ht=>hl t (List.mem_append_left _ ht)) hk hp.1,ihb Q env σ (fun t ht=>hl t (List.mem_append_right _ ht)) hk hp.2⟩
 |loc t s y c ih=>intro Q env σ hl hk hp;exact⟨hp.1,ih Q env σ hl hk hp.2⟩
 |NG ops=>intro Q env σ hl hk hp;exact lQ ops env σ hl hk hp
 |eH draw ops=>intro Q env σ hl hk hp;exact ph ops env σ hl hk hp
 |seq a b iha ihb=>
  intro Q env σ hl hk hp
  refine jy (fun _ _ _ _ h=>h) aI a _ _ env σ (fun x e s hx=>?_) (iha _ env σ (fun t ht=>hl t (List.mem_append_left _ ht)) hk hp)
  cases x with
  |normal=>exact ihb Q e s (fun t ht=>hl t (List.mem_append_right _ ht)) hx.2 hx.1
  |exit id=>exact hx
  |ret=>exact hx
 |cond c a b iha ihb=>
  intro Q env σ hl hk hp
  unfold dG at hp ⊢
  split at hp
  ·rename_i t ht
   cases t with
   |true=>exact iha Q env σ (fun t ht=>hl t (List.mem_append_left _ ht)) hk hp
   |false=>exact ihb Q env σ (fun t ht=>hl t (List.mem_append_right _ ht)) hk hp
  ·exact hp.elim
 |block id a iha=>
  intro Q env σ hl hk hp
  refine jy (fun _ _ _ _ h=>h) aI a _ _ env σ (fun x e s hx=>?_) (iha _ env σ hl hk hp)
  obtain⟨hx,Gn⟩:=hx
  cases x with
  |normal=>exact⟨hx,Gn⟩
  |ret=>exact⟨hx,Gn⟩
  |exit jW=>
   unfold aZ at hx ⊢
   dsimp only at hx ⊢
   split at hx
   ·rename_i hid;rw[if_pos hid];exact⟨hx,Gn⟩
   ·rename_i hid;rw[if_neg hid];exact⟨hx,Gn⟩
 |loop a iha=>
  intro Q env σ hl hk hp
  obtain⟨n,hp⟩:=hp
  refine⟨n,?_⟩
  induction n generalizing env σ with
  |zero=>exact hp
  |succ n ihn=>
   refine jy (fun _ _ _ _ h=>h) aI _ _ _ _ _ (fun x e s hx=>?_) (iha _ env σ hl hk hp)
   obtain⟨hx,Gn⟩:=hx
   cases x with
   |normal=>exact ihn e s Gn hx
   |exit id=>exact⟨hx,Gn⟩
   |ret=>exact⟨hx,Gn⟩
theorem aW {c:VC} (I:Nat->Env->ar->Prop) (n:Nat) (h0:I n env σ) (step:∀n e s,I n e s->gE (yd c) env e->dG (Call P) c (fun x e s=>match x with| .normal=>∃m,m<n/\I m e s|x=>Q x e s) e s):dG (Call P) (.loop c) Q env σ:=by
 refine Mt (fun n e s=>I n e s/\gE (yd c) env e) n ⟨h0,gE.refl _ _⟩ fun n e s hI=>?_
 refine jy (fun _ _ _ _ h=>h) aI _ _ _ _ _ (fun x e' s' hx=>?_) (zj c _ e s (fun _ h=>h) hI.2 (step n e s hI.1 hI.2))
 obtain⟨hx,hk⟩:=hx
 cases x with
 |normal=>obtain⟨m,hm,h⟩:=hx;exact⟨m,hm,h,hk⟩
 |exit id=>exact hx
 |ret=>exact hx
theorem Kt {k:Nat} (h:k<=9223372036854775807):IntKind.i64.wrap (k:Int)=k:=by rw[IntKind.wrap_i64];omega
theorem bF {z:Int} (h: -9223372036854775808<=z/\z<=9223372036854775807):IntKind.i64.wrap z=z:=by rw[IntKind.wrap_i64];omega
theorem az {k:Nat} (h:(k:Int)+1<=9223372036854775807):IntKind.i64.wrap ((k:Int)+1)=((k+1:Nat):Int):=by rw[IntKind.wrap_i64];omega
theorem all_succ {k:Nat} {p:Nat->Prop} (h:∀j,j<k->p j) (hk:p k):∀j,j<k+1->p j:=fun j hj=>by
 by_cases yC:j=k
 ·subst yC;exact hk
 ·exact h j (by omega)
theorem aH (g:Rows) (n:Nat) (k:IntKind) (m:Int):fz g (n+1) (.int k m)=some (.int k m):=by rw[fz]<;>intros<;>simp_all
theorem bl (g:Rows) (n:Nat) (b:Bool):fz g (n+1) (.bool b)=some (.bool b):=by rw[fz]<;>intros<;>simp_all
theorem bB (g:Rows) (n:Nat) (b:ByteArray):fz g (n+1) (.str b)=some (.str b):=by rw[fz]<;>intros<;>simp_all
theorem cw (g:Rows) (n:Nat) (l:List (List AV)):fz g (n+1) (.sl l)=some (.sl l):=by rw[fz]<;>intros<;>simp_all
theorem aX (g:Rows) (n:Nat):fz g (n+1) .cm=some .cm:=by rw[fz]<;>intros<;>simp_all
theorem RK {t:Nat} {r r0:AV} {x:Ex} (hx:x=.ret∨x=.normal) (he:env t=r0) (hz:fz σ.get 6 r0=some r):kC [.tmp t] (fun r0 σ'=>∃r',fz σ'.get 6 r0=some r'/\r'=r) x env σ:=by
 have:∃vs,ft env σ.get [.tmp t]=some vs/\∃r',fz σ.get 6 (fq vs)=some r'/\r'=r:=⟨[env t],rfl,r,by subst he;exact hz,rfl⟩
 rcases hx with rfl|rfl
 ·exact this
 ·exact this
def aq (P:Program) (f:Nat) (args:List AV) (r:AV):Prop:=∀n:Nat,Call P f args ⟨fun _=>none,n⟩ fun r0 σ'=>∃r',gx σ'.get 6 r0=some r'/\r'=r
theorem aq.body {f:Nat} {args:List AV} {r:AV} {nt na:Nat} {body:VC} {res:List nK} (hf:mi P f=some ⟨nt,na,body,res⟩) (ha:na=args.length) (h:(∀a∈args,eF a)->∀n:Nat,dG (Call P) body (kC res fun r0 σ'=>∃r',gx σ'.get 6 r0=some r'/\r'=r) (cz args) ⟨fun _=>none,n⟩):aq P f args r:=fun n=>ma hf ha fun hl=>h hl n
theorem aq.x {f:Nat} {args eE:List AV} {r:AV} (h:aq P f eE r) {σ:ar} (hv:cN (dL σ.get) 6 args=some eE):gy (Call P) f args σ (fun r'=>r'=r):=.inr ⟨eE,hv,h _⟩
theorem kn.x {f:Nat} {args:List AV} {r:AV} (h:kn P f args r) (σ:ar):gy (Call P) f args σ (fun r'=>r'=r):=.inl (h σ)
theorem eK (g:Rows) (n:Nat) (k:IntKind) (m:Int):gx g (n+1) (.int k m)=some (.int k m):=by rw[gx]<;>intros<;>simp_all
theorem fJ (g:Rows) (n:Nat) (b:Bool):gx g (n+1) (.bool b)=some (.bool b):=by rw[gx]<;>intros<;>simp_all
theorem Le (g:Rows) (n:Nat) (b:ByteArray):gx g (n+1) (.str b)=some (.str b):=by rw[gx]<;>intros<;>simp_all
theorem j6 (g:Rows) (n:Nat):gx g (n+1) .cm=some .cm:=by rw[gx]<;>intros<;>simp_all
theorem eR (g:Rows) (n:Nat) (l:List AV):gx g (n+1) (.gJ l)=(er g n l).map AV.gJ:=by rw[gx]
theorem uJ (g:Rows) (n:Nat) (l:List AV):gx g (n+1) (.agg l)=(er g n l).map AV.agg:=by rw[gx]
theorem uK {g:Rows} {n:Nat} {id:Id} {off len sz:Nat} {rows rows':List (List AV)} (h:g id=some ⟨true,sz,rows⟩) (hl:off+len<=rows.length) (hr:ib g n ((rows.drop off).take len)=some rows'):gx g (n+1) (.own id off len)=some (.sl rows'):=by
 rw[gx];simp only[h,if_true,if_pos hl,hr,Option.map_some]
theorem cD (g:Rows) (n:Nat):er g n []=some []:=by rw[er]
theorem bz (g:Rows) (n:Nat) (a:AV) (l:List AV):er g n (a::l)=match gx g n a with
  |some b=>(er g n l).map (b::·)
  |none=>none:=by rw[er];cases gx g n a<;>rfl
theorem tN {g:Rows} {n:Nat}:∀{l:List (List AV)},(∀c∈l,er g n c=some c)->ib g n l=some l
 |[],_=>by rw[ib]
 |c::r,h=>by rw[ib,h c (by simp),tN fun d hd=>h d (List.mem_cons_of_mem _ hd)];rfl
theorem bd (g:Rows) (n:Nat) (l:List AV):fz g (n+1) (.agg l)=(cN g n l).map AV.agg:=by rw[fz]
theorem aU (g:Rows) (n:Nat) (l:List AV):fz g (n+1) (.di l)=some (.di l):=by rw[fz]<;>intros<;>simp_all
theorem v8 {g:Rows} {n:Nat} {id:Id} {i off sz:Nat} {rows:List (List AV)} {cs qb:List AV} (h:g id=some ⟨true,sz,rows⟩) (hi:rows[i]? =some cs) (hr:cN g n (cs.drop off)=some qb):fz g (n+1) (.ptr id i off)=some (.di qb):=by
 rw[fz];simp only[h,if_true,hi,hr,Option.map_some]
theorem aj (g:Rows) (n:Nat):cN g n []=some []:=by rw[cN]
theorem ai (g:Rows) (n:Nat) (a:AV) (l:List AV):cN g n (a::l)=match fz g n a with
  |some b=>(cN g n l).map (b::·)
  |none=>none:=by rw[cN];cases fz g n a<;>rfl
theorem w7 {t:Nat} {r r0:AV} {x:Ex} (hx:x=.ret∨x=.normal) (he:env t=r0) (hz:gx σ.get 6 r0=some r):kC [.tmp t] (fun r0 σ'=>∃r',gx σ'.get 6 r0=some r'/\r'=r) x env σ:=by
 have:∃vs,ft env σ.get [.tmp t]=some vs/\∃r',gx σ.get 6 (fq vs)=some r'/\r'=r:=⟨[env t],rfl,r,by subst he;exact hz,rfl⟩
 rcases hx with rfl|rfl
 ·exact this
 ·exact this
theorem aT {t:Nat} {b c:Bool} {x:Ex} (hx:x=.ret∨x=.normal) (he:env t=.bool b) (hb:b=c):kC [.tmp t] (fun r0 σ'=>∃r',gx σ'.get 6 r0=some r'/\r'=.bool c) x env σ:=w7 hx he (by rw[fJ,hb])
theorem b4 {t:Nat} {k:IntKind} {b c:Int} {x:Ex} (hx:x=.ret∨x=.normal) (he:env t=.int k b) (hb:b=c):kC [.tmp t] (fun r0 σ'=>∃r',gx σ'.get 6 r0=some r'/\r'=.int k c) x env σ:=w7 hx he (by rw[eK,hb])
theorem jw {t u:Nat} {r r1 r2:AV} {x:Ex} (hx:x=.ret∨x=.normal) (h1:env t=r1) (h2:env u=r2) (hz:gx σ.get 6 (.gJ [r1,r2])=some r):kC [.tmp t,.tmp u] (fun r0 σ'=>∃r',gx σ'.get 6 r0=some r'/\r'=r) x env σ:=by
 have:∃vs,ft env σ.get [.tmp t,.tmp u]=some vs/\∃r',gx σ.get 6 (fq vs)=some r'/\r'=r:=⟨[env t,env u],rfl,r,by subst h1;subst h2;exact hz,rfl⟩
 rcases hx with rfl|rfl
 ·exact this
 ·exact this
structure Pn (p:Prop):Prop where
 out:p
theorem tw {A B:Prop} (a:A) (b:B):A/\B:=⟨a,b⟩
theorem wk {A R G:Prop} (a:A) (r:R) (h:A->R->G:=by
  intro fL kk
  (repeat(refine Pn.mk ?_;intro N hN))
  (first|((first|apply FK|apply FI);intro N hN)|((first|(apply Pj;intro N hN)|(apply FH;intro N hN));simp only[go_sem, ↓reduceIte,Nat.reduceEqDiff,Nat.reduceAdd,Nat.reduceSub,Nat.reduceMul,Nat.reduceLeDiff,Nat.reduceBEq,reduceCtorEq,Nat.reduceLT,Int.reduceLE,Int.reduceLT,Int.reduceToNat,Int.reduceNeg,Int.reduceAdd,Int.reduceEq,fL];first|(refine hN _ _ ?_;clear hN N)|skip)|(apply u7;(simp only[go_sem, ↓reduceIte,Nat.reduceEqDiff,Nat.reduceAdd,Nat.reduceSub,Nat.reduceMul,Nat.reduceLeDiff,Nat.reduceBEq,reduceCtorEq,Nat.reduceLT,Int.reduceLE,Int.reduceLT,Int.reduceToNat,Int.reduceNeg,Int.reduceAdd,Int.reduceEq,fL];rfl);first|with_reducible apply oh.t|with_reducible apply oh.f)|(apply CE;refine hN _ _ ?_;clear hN N;try(simp only[dn,aZ, ↓reduceIte,Nat.reduceEqDiff]);try(refine hN _ _ ?_;clear hN N))|apply uZ|(refine AG ?_ ?_ ?_;(focus(simp only[go_sem, ↓reduceIte,Nat.reduceEqDiff,Nat.reduceAdd,Nat.reduceSub,Nat.reduceMul,Nat.reduceLeDiff,Nat.reduceBEq,reduceCtorEq,Nat.reduceLT,Int.reduceLE,Int.reduceLT,Int.reduceToNat,Int.reduceNeg,Int.reduceAdd,Int.reduceEq,fL];done));(focus(simp only[go_sem, ↓reduceIte,Nat.reduceEqDiff,Nat.reduceAdd,Nat.reduceSub,Nat.reduceMul,Nat.reduceLeDiff,Nat.reduceBEq,reduceCtorEq,Nat.reduceLT,Int.reduceLE,Int.reduceLT,Int.reduceToNat,Int.reduceNeg,Int.reduceAdd,Int.reduceEq,fL];done)))|((first|apply AH|apply AF|apply FJ);try(simp only[dn,aZ, ↓reduceIte,Nat.reduceEqDiff]);try(refine hN _ _ ?_;clear hN N))|((first|refine hN _ _ ?_|(clear hN N;first|refine hN _ _ ?_|(clear hN N;first|refine hN _ _ ?_|(clear hN N;first|refine hN _ _ ?_|(clear hN N;refine hN _ _ ?_)))));clear hN N))
  (repeat(first|((first|apply FK|apply FI);intro N hN)|((first|(apply Pj;intro N hN)|(apply FH;intro N hN));simp only[go_sem, ↓reduceIte,Nat.reduceEqDiff,Nat.reduceAdd,Nat.reduceSub,Nat.reduceMul,Nat.reduceLeDiff,Nat.reduceBEq,reduceCtorEq,Nat.reduceLT,Int.reduceLE,Int.reduceLT,Int.reduceToNat,Int.reduceNeg,Int.reduceAdd,Int.reduceEq,fL];first|(refine hN _ _ ?_;clear hN N)|skip)|(apply u7;(simp only[go_sem, ↓reduceIte,Nat.reduceEqDiff,Nat.reduceAdd,Nat.reduceSub,Nat.reduceMul,Nat.reduceLeDiff,Nat.reduceBEq,reduceCtorEq,Nat.reduceLT,Int.reduceLE,Int.reduceLT,Int.reduceToNat,Int.reduceNeg,Int.reduceAdd,Int.reduceEq,fL];rfl);first|with_reducible apply oh.t|with_reducible apply oh.f)|(apply CE;refine hN _ _ ?_;clear hN N;try(simp only[dn,aZ, ↓reduceIte,Nat.reduceEqDiff]);try(refine hN _ _ ?_;clear hN N))|apply uZ|(refine AG ?_ ?_ ?_;(focus(simp only[go_sem, ↓reduceIte,Nat.reduceEqDiff,Nat.reduceAdd,Nat.reduceSub,Nat.reduceMul,Nat.reduceLeDiff,Nat.reduceBEq,reduceCtorEq,Nat.reduceLT,Int.reduceLE,Int.reduceLT,Int.reduceToNat,Int.reduceNeg,Int.reduceAdd,Int.reduceEq,fL];done));(focus(simp only[go_sem, ↓reduceIte,Nat.reduceEqDiff,Nat.reduceAdd,Nat.reduceSub,Nat.reduceMul,Nat.reduceLeDiff,Nat.reduceBEq,reduceCtorEq,Nat.reduceLT,Int.reduceLE,Int.reduceLT,Int.reduceToNat,Int.reduceNeg,Int.reduceAdd,Int.reduceEq,fL];done)))|((first|apply AH|apply AF|apply FJ);try(simp only[dn,aZ, ↓reduceIte,Nat.reduceEqDiff]);try(refine hN _ _ ?_;clear hN N))|((first|refine hN _ _ ?_|(clear hN N;first|refine hN _ _ ?_|(clear hN N;first|refine hN _ _ ?_|(clear hN N;first|refine hN _ _ ?_|(clear hN N;refine hN _ _ ?_)))));clear hN N)))
  (repeat(revert hN;revert N;apply Pn.out))
  exact kk):G:=h a r
theorem wa {A R G:Prop} (a:A) (r:R) (h:A->R->G:=by
  intro fL kk
  (repeat(refine Pn.mk ?_;intro N hN))
  (first|((first|apply FK|apply FI);intro N hN)|((first|(refine Ng rfl fun N hN=>?_)|(apply FH;intro N hN));simp only[go_sem, ↓reduceIte,Nat.reduceEqDiff,Nat.reduceAdd,Nat.reduceSub,Nat.reduceMul,Nat.reduceLeDiff,Nat.reduceBEq,reduceCtorEq,Nat.reduceLT,Int.reduceLE,Int.reduceLT,Int.reduceToNat,Int.reduceNeg,Int.reduceAdd,Int.reduceEq,fL];first|(refine hN _ _ ?_;clear hN N)|skip)|(apply u7;(simp only[go_sem, ↓reduceIte,Nat.reduceEqDiff,Nat.reduceAdd,Nat.reduceSub,Nat.reduceMul,Nat.reduceLeDiff,Nat.reduceBEq,reduceCtorEq,Nat.reduceLT,Int.reduceLE,Int.reduceLT,Int.reduceToNat,Int.reduceNeg,Int.reduceAdd,Int.reduceEq,fL];rfl);first|with_reducible apply oh.t|with_reducible apply oh.f)|(apply CE;refine hN _ _ ?_;clear hN N;try(simp only[dn,aZ, ↓reduceIte,Nat.reduceEqDiff]);try(refine hN _ _ ?_;clear hN N))|apply uZ|(refine AG ?_ ?_ ?_;(focus(simp only[go_sem, ↓reduceIte,Nat.reduceEqDiff,Nat.reduceAdd,Nat.reduceSub,Nat.reduceMul,Nat.reduceLeDiff,Nat.reduceBEq,reduceCtorEq,Nat.reduceLT,Int.reduceLE,Int.reduceLT,Int.reduceToNat,Int.reduceNeg,Int.reduceAdd,Int.reduceEq,fL];done));(focus(simp only[go_sem, ↓reduceIte,Nat.reduceEqDiff,Nat.reduceAdd,Nat.reduceSub,Nat.reduceMul,Nat.reduceLeDiff,Nat.reduceBEq,reduceCtorEq,Nat.reduceLT,Int.reduceLE,Int.reduceLT,Int.reduceToNat,Int.reduceNeg,Int.reduceAdd,Int.reduceEq,fL];done)))|((first|apply AH|apply AF|apply FJ);try(simp only[dn,aZ, ↓reduceIte,Nat.reduceEqDiff]);try(refine hN _ _ ?_;clear hN N))|((first|refine hN _ _ ?_|(clear hN N;first|refine hN _ _ ?_|(clear hN N;first|refine hN _ _ ?_|(clear hN N;first|refine hN _ _ ?_|(clear hN N;refine hN _ _ ?_)))));clear hN N))
  (repeat(first|((first|apply FK|apply FI);intro N hN)|((first|(refine Ng rfl fun N hN=>?_)|(apply FH;intro N hN));simp only[go_sem, ↓reduceIte,Nat.reduceEqDiff,Nat.reduceAdd,Nat.reduceSub,Nat.reduceMul,Nat.reduceLeDiff,Nat.reduceBEq,reduceCtorEq,Nat.reduceLT,Int.reduceLE,Int.reduceLT,Int.reduceToNat,Int.reduceNeg,Int.reduceAdd,Int.reduceEq,fL];first|(refine hN _ _ ?_;clear hN N)|skip)|(apply u7;(simp only[go_sem, ↓reduceIte,Nat.reduceEqDiff,Nat.reduceAdd,Nat.reduceSub,Nat.reduceMul,Nat.reduceLeDiff,Nat.reduceBEq,reduceCtorEq,Nat.reduceLT,Int.reduceLE,Int.reduceLT,Int.reduceToNat,Int.reduceNeg,Int.reduceAdd,Int.reduceEq,fL];rfl);first|with_reducible apply oh.t|with_reducible apply oh.f)|(apply CE;refine hN _ _ ?_;clear hN N;try(simp only[dn,aZ, ↓reduceIte,Nat.reduceEqDiff]);try(refine hN _ _ ?_;clear hN N))|apply uZ|(refine AG ?_ ?_ ?_;(focus(simp only[go_sem, ↓reduceIte,Nat.reduceEqDiff,Nat.reduceAdd,Nat.reduceSub,Nat.reduceMul,Nat.reduceLeDiff,Nat.reduceBEq,reduceCtorEq,Nat.reduceLT,Int.reduceLE,Int.reduceLT,Int.reduceToNat,Int.reduceNeg,Int.reduceAdd,Int.reduceEq,fL];done));(focus(simp only[go_sem, ↓reduceIte,Nat.reduceEqDiff,Nat.reduceAdd,Nat.reduceSub,Nat.reduceMul,Nat.reduceLeDiff,Nat.reduceBEq,reduceCtorEq,Nat.reduceLT,Int.reduceLE,Int.reduceLT,Int.reduceToNat,Int.reduceNeg,Int.reduceAdd,Int.reduceEq,fL];done)))|((first|apply AH|apply AF|apply FJ);try(simp only[dn,aZ, ↓reduceIte,Nat.reduceEqDiff]);try(refine hN _ _ ?_;clear hN N))|((first|refine hN _ _ ?_|(clear hN N;first|refine hN _ _ ?_|(clear hN N;first|refine hN _ _ ?_|(clear hN N;first|refine hN _ _ ?_|(clear hN N;refine hN _ _ ?_)))));clear hN N)))
  (repeat(revert hN;revert N;apply Pn.out))
  exact kk):G:=h a r
theorem sd {A G:Prop} (a:A) (h:A->G:=by
  intro fL
  first|(simp only[go_sem, ↓reduceIte,Nat.reduceEqDiff,Nat.reduceAdd,Nat.reduceSub,Nat.reduceMul,Nat.reduceLeDiff,Nat.reduceBEq,reduceCtorEq,Nat.reduceLT,Int.reduceLE,Int.reduceLT,Int.reduceToNat,Int.reduceNeg,Int.reduceAdd,Int.reduceEq,fL,ft,iq];done)|fail):G:=h a
theorem sl {A G:Prop} (a:A) (h:A->G:=by
  intro fL
  (try simp only[go_sem, ↓reduceIte,Nat.reduceEqDiff,Nat.reduceAdd,Nat.reduceSub,Nat.reduceMul,Nat.reduceLeDiff,Nat.reduceBEq,reduceCtorEq,Nat.reduceLT,Int.reduceLE,Int.reduceLT,Int.reduceToNat,Int.reduceNeg,Int.reduceAdd,Int.reduceEq,fL])
  try rfl):G:=h a
end Go.Proofs.YtgoelphibofcmaaGreat.V

namespace Go.Proofs.YtgoelphibofcmaaGreat.V
open Go.RowKit
variable {P:Program} {X:fG} {env:Env} {σ:ar}
theorem bH (g:Rows) (n:Nat) (l:List AV):fz g (n+1) (.gJ l)=(cN g n l).map AV.gJ:=by rw[fz]
theorem cU (g:Rows) (n:Nat) (f:Nat) (l:List AV):fz g (n+1) (.fn f l)=if l.all AV.cell then(cN g n l).map (AV.fn f)else none:=by rw[fz]
theorem bh (g:Rows) (n:Nat) (id:Id) (i off:Nat):fz g (n+1) (.ptr id i off)=match g id with
  |some r=>if r.w then(match r.rows[i]? with
   |some cs=>(cN g n (cs.drop off)).map AV.di
   |none=>none)else none
  |none=>none:=by rw[fz];rfl
theorem iw (g:Rows) (n:Nat) (id:Id) (off len:Nat):fz g (n+1) (.own id off len)=match g id with
  |some r=>if r.w then(if off+len<=r.rows.length then(ea g n ((r.rows.drop off).take len)).map AV.sl else none)else none
  |none=>none:=by rw[fz];rfl
theorem oO (g:Rows) (n:Nat):ea g n []=some []:=by rw[ea]
theorem zG (g:Rows) (n:Nat) (c:List AV) (l:List (List AV)):ea g n (c::l)=match cN g n c with
  |some b=>(ea g n l).map (b::·)
  |none=>none:=by rw[ea];cases cN g n c<;>rfl
theorem vZ {g:Rows} {n:Nat}:∀{l:List (List AV)},(∀c∈l,cN g n c=some c)->ea g n l=some l
 |[],_=>by rw[ea]
 |c::r,h=>by rw[ea,h c (by simp),vZ fun d hd=>h d (List.mem_cons_of_mem _ hd)];rfl
theorem qx {α:Type} {g:Rows} {n:Nat} {e:α->List AV} {l:List α} (h:∀x,cN g n (e x)=some (e x)):ea g n (l.map e)=some (l.map e):=vZ fun c hc=>by
 obtain⟨x,_,rfl⟩:=List.mem_map.1 hc
 exact h x
theorem tP {α:Type} {g:Rows} {n:Nat} {e:α->List AV} {l:List α} (h:∀x,er g n (e x)=some (e x)):ib g n (l.map e)=some (l.map e):=tN fun c hc=>by
 obtain⟨x,_,rfl⟩:=List.mem_map.1 hc
 exact h x
theorem gr {α:Type} {g:Rows} {n:Nat} {e:α->List AV} {l:List α} {id:Id} {sz len:Nat} (hg:g id=some ⟨true,sz,l.map e⟩) (hl:len=l.length) (h:∀x,cN g n (e x)=some (e x)):fz g (n+1) (.own id 0 len)=some (.sl (l.map e)):=by
 subst hl
 rw[iw];simp only[hg,if_true]
 rw[if_pos (by simp),List.drop_zero,List.take_of_length_le (by simp),qx h];rfl
theorem fc {α:Type} {g:Rows} {n:Nat} {e:α->List AV} {l:List α} {id:Id} {sz len:Nat} (hg:g id=some ⟨true,sz,l.map e⟩) (hl:len=l.length) (h:∀x,er g n (e x)=some (e x)):gx g (n+1) (.own id 0 len)=some (.sl (l.map e)):=by
 subst hl
 exact uK hg (by simp) (by rw[List.drop_zero,List.take_of_length_le (by simp),tP h])
theorem all_map {α:Type} {e:α->List AV} {sz:Nat} {l:List α} (h:∀x,(e x).length=sz/\(e x).all AV.cell=true):(l.map e).all (fun c=>c.length==sz&&c.all AV.cell)=true:=by
 rw[List.all_eq_true]
 intro c hc
 obtain⟨x,_,rfl⟩:=List.mem_map.1 hc
 simp[(h x).1,(h x).2]
def Qi (P:Program) (f:Nat) (args:List AV) (sz:Nat) (rows:List (List AV)):Prop:=(∀c∈rows,∀a∈c,a.plain=true)/\∀n:Nat,Call P f args ⟨fun _=>none,n⟩ fun r σ'=>∃id,r=.own id 0 rows.length/\σ'.get id=some ⟨true,sz,rows⟩
theorem Qi.x {f sz:Nat} {args eE:List AV} {rows:List (List AV)} (h:Qi P f eE sz rows) {σ:ar} (hv:cN (dL σ.get) 6 args=some eE):CM (Call P) f args σ sz rows:=⟨h.1,eE,hv,h.2 _⟩
theorem Aj {res:List nK} {r:AV} {vs:List AV} {x:Ex} (hx:x=.ret∨x=.normal) (hv:ft env σ.get res=some vs) (hz:fz σ.get 6 (fq vs)=some r):kC res (fun r0 σ'=>∃r',fz σ'.get 6 r0=some r'/\r'=r) x env σ:=by
 rcases hx with rfl|rfl
 ·exact⟨vs,hv,r,hz,rfl⟩
 ·exact⟨vs,hv,r,hz,rfl⟩
theorem qe {res:List nK} {r:AV} {vs:List AV} {x:Ex} (hx:x=.ret∨x=.normal) (hv:ft env σ.get res=some vs) (hz:gx σ.get 6 (fq vs)=some r):kC res (fun r0 σ'=>∃r',gx σ'.get 6 r0=some r'/\r'=r) x env σ:=by
 rcases hx with rfl|rfl
 ·exact⟨vs,hv,r,hz,rfl⟩
 ·exact⟨vs,hv,r,hz,rfl⟩
theorem fx {res:List nK} {K:AV->ar->Prop} {vs:List AV} {x:Ex} (hx:x=.ret∨x=.normal) (hv:ft env σ.get res=some vs) (hK:K (fq vs) σ):kC res K x env σ:=by
 rcases hx with rfl|rfl
 ·exact⟨vs,hv,hK⟩
 ·exact⟨vs,hv,hK⟩
theorem eU {f:Nat} {args:List AV} {σ:ar} {K:AV->ar->Prop} {nt na:Nat} {body:VC} {res:List nK} (hf:mi P f=some ⟨nt,na,body,res⟩) (ha:na=args.length) (h:(∀a∈args,eF a)->dG (Call P) body (kC res K) (cz args) σ):Call P f args σ K:=ma hf ha h
theorem HG {f:Nat} {md:List (Nat×Nat)} {args:List AV} {σ:ar} {K:AV->ar->Prop} {nt na:Nat} {body:VC} {res:List nK} (hf:xK P f md=some ⟨nt,na,body,res⟩) (ha:na=args.length) (h:(∀a∈args,eF a)->dG (Call P) body (kC res K) (cz args) σ):Call P f args σ K:=ve hf ha h
theorem dp {i:Id} {n:Nat} (h:i.ck<n):(∀s,(i=⟨s,n⟩)=False/\(i=⟨s,n+1⟩)=False/\(i=⟨s,n+1+1⟩)=False/\(i=⟨s,n+1+1+1⟩)=False/\(i=⟨s,n+1+1+1+1⟩)=False/\(i=⟨s,n+1+1+1+1+1⟩)=False/\(i=⟨s,n+1+1+1+1+1+1⟩)=False/\(i=⟨s,n+1+1+1+1+1+1+1⟩)=False/\(i=⟨s,n+1+1+1+1+1+1+1+1⟩)=False/\(i=⟨s,n+1+1+1+1+1+1+1+1+1⟩)=False/\(⟨s,n⟩=i)=False/\(⟨s,n+1⟩=i)=False/\(⟨s,n+1+1⟩=i)=False/\(⟨s,n+1+1+1⟩=i)=False/\(⟨s,n+1+1+1+1⟩=i)=False/\(⟨s,n+1+1+1+1+1⟩=i)=False/\(⟨s,n+1+1+1+1+1+1⟩=i)=False/\(⟨s,n+1+1+1+1+1+1+1⟩=i)=False/\(⟨s,n+1+1+1+1+1+1+1+1⟩=i)=False/\(⟨s,n+1+1+1+1+1+1+1+1+1⟩=i)=False)/\(i.ck=n)=False/\(i.ck=n+1)=False/\(i.ck=n+1+1)=False/\(i.ck=n+1+1+1)=False/\(i.ck=n+1+1+1+1)=False/\(i.ck=n+1+1+1+1+1)=False/\(i.ck=n+1+1+1+1+1+1)=False/\(i.ck=n+1+1+1+1+1+1+1)=False/\(i.ck=n+1+1+1+1+1+1+1+1)=False/\(i.ck=n+1+1+1+1+1+1+1+1+1)=False:=by
 refine⟨fun s=>?_,?_⟩
 ·obtain⟨a,b⟩:=i
  simp only[Id.mk.injEq,eq_iff_iff,iff_false,not_and]
  simp only at h
  refine⟨?_,?_,?_,?_,?_,?_,?_,?_,?_,?_,?_,?_,?_,?_,?_,?_,?_,?_,?_,?_⟩<;>(intros;omega)
 ·simp only[eq_iff_iff,iff_false]
  refine⟨?_,?_,?_,?_,?_,?_,?_,?_,?_,?_⟩<;>omega
def gp (a b:Nat) (ids:List Id):Prop:=ids.Nodup/\∀i∈ids,a<=i.ck/\i.ck<b
def Kept (σ σ':ar):Prop:=σ.next<=σ'.next/\∀j:Id,j.ck<σ.next->σ'.get j=σ.get j
theorem Kept.trans {a b c:ar} (h:Kept a b) (k:Kept b c):Kept a c:=⟨Nat.le_trans h.1 k.1,fun j hj=>(k.2 j (Nat.lt_of_lt_of_le hj h.1)).trans (h.2 j hj)⟩
theorem gp.wide {a b a' b':Nat} {ids:List Id} (h:gp a b ids) (h1:a'<=a) (h2:b<=b'):gp a' b' ids:=⟨h.1,fun i hi=>⟨Nat.le_trans h1 (h.2 i hi).1,Nat.lt_of_lt_of_le (h.2 i hi).2 h2⟩⟩
theorem gp.app {a b c d:Nat} {i j:List Id} (h:gp a b i) (k:gp c d j) (Oa:b<=c) (qD:a<=b) (hcd:c<=d):gp a d (i++j):=
 ⟨List.nodup_append.2 ⟨h.1,k.1,fun x hx y hy e=>by subst e;have:=(h.2 x hx).2;have:=(k.2 x hy).1;omega⟩,fun x hx=>by
  rcases List.mem_append.1 hx with hx|hx
  ·have:=h.2 x hx;omega
  ·have:=k.2 x hx;omega⟩
end Go.Proofs.YtgoelphibofcmaaGreat.V

namespace Go.Proofs.YtgoelphibofcmaaGreat.V
open Go.RowKit
attribute [local irreducible] dG wpOps gy Call
attribute [local go_sem] aM fF eP ga fW cQ upd cz K.av cR AV.cells AV.cell rowOf rowsOf part ld rowAt bq cu dD ee ik bJ dh ev fU eX dr ej dd dc dQ dR bQ bf cW bP cY cX eh ek ei cV cj de ef bK aO da cG ij bw cK bU aY dn aZ dE AV.undef bD bG dV ec dM dK cH eu ew cF ep eo cZ db List.getD_cons_zero List.getD_cons_succ List.getD_nil List.all_cons List.all_nil Bool.and_true Bool.true_and Bool.and_self Bool.not_true Bool.not_false Option.map_some Option.map_none Option.bind_some Option.bind_none List.length_cons List.length_nil List.take_succ_cons List.take_zero List.take_nil List.drop_succ_cons List.drop_zero List.drop_nil List.head?_cons List.map_cons List.map_nil List.getElem?_cons_zero List.getElem?_cons_succ List.cons_append List.nil_append List.append_nil List.length_map List.set_cons_zero List.set_cons_succ Nat.reduceMul eq_self Int.toNat_natCast Int.natCast_nonneg and_self true_and and_true decide_true decide_false Bool.false_eq_true Nat.zero_add Nat.add_zero List.contains_cons List.contains_nil Bool.or_false Bool.false_or beq_self_eq_true Nat.reduceBEq ne_eq not_true_eq_false not_false_eq_true Id.mk.injEq false_and and_false Nat.reduceLT Int.reduceLE Int.reduceLT Int.reduceToNat Int.reduceNeg Int.reduceAdd Nat.le_refl List.length_append beq_true beq_false Bool.not_eq_eq_eq_not or_false false_or dL ai aj aH bl bB cw aX bd aU bh cU bH
variable {P:Program}
def J5 (f g z:Nat):AK:=let s:=f*1000000
 ⟨27,2,(.seq (.eH false [q 4 (.dm (.k (.int .i64 0))) s]) (.seq (.eH false [q 6 (.dm (.t 1)) (s+1000),q 7 (.dm (.t 0)) (s+1001),q 8 (.len (.t 7)) (s+1002),q 9 (.bin .sub .i64 (.t 6) (.t 8)) (s+1003),q 1 (.dm (.t 9)) (s+1004)]) (.seq (.seq (.eH false [q 10 (.dm (.t 1)) (s+2000),q 11 (.bin .lss .i64 (.t 10) (.k (.int .i64 0))) (s+2001)]) (.cond (.t 11) (.seq (.eH false [q 4 (.dm (.k (.int .i64 (-1)))) (s+3000)]) .ret) .skip)) (.seq (.seq (.eH false [q 5 (.dm (.k (.int .i64 0))) (s+4000)]) (.block 0 (.loop (.seq (.seq (.eH false [q 12 (.dm (.t 5)) (s+5000),q 13 (.dm (.t 0)) (s+5001),q 14 (.len (.t 13)) (s+5002),q 15 (.bin .lss .i64 (.t 12) (.t 14)) (s+5003)]) (.cond (.t 15) .skip (.exit 0))) (.seq (.block 1 (.seq (.eH false [q 18 (.dm (.t 0)) (s+7000),q 19 (.dm (.t 5)) (s+7001),q 20 (.dJ z (.t 18) (.t 19)) (s+7002),q 21 (.load true z (.t 20)) (s+7003),q 22 (.dm (.t 1)) (s+7004),q 23 (.call g [(.t 21),(.t 22)]) (s+7005),q 1 (.dm (.t 23)) (s+7006)]) (.seq (.eH false [q 24 (.dm (.t 1)) (s+8000),q 25 (.bin .lss .i64 (.t 24) (.k (.int .i64 0))) (s+8001)]) (.cond (.t 25) (.seq (.eH false [q 4 (.dm (.k (.int .i64 (-1)))) (s+9000)]) .ret) .skip)))) (.eH false [q 16 (.dm (.t 5)) (s+6000),q 17 (.bin .add .i64 (.t 16) (.k (.int .i64 1))) (s+6001),q 5 (.dm (.t 17)) (s+6002)])))))) (.seq (.eH false [q 26 (.dm (.t 1)) (s+10000),q 4 (.dm (.t 26)) (s+10001)]) .ret))))),[(.tmp 4)]⟩
def J3 (f:Nat):AK:=let s:=f*1000000
 ⟨12,2,(.seq (.eH false [q 4 (.dm (.k (.int .i64 0))) s]) (.seq (.eH false [q 5 (.dm (.t 1)) (s+1000),q 6 (.dm (.t 0)) (s+1001),q 7 (.len (.t 6)) (s+1002),q 8 (.bin .sub .i64 (.t 5) (.t 7)) (s+1003),q 1 (.dm (.t 8)) (s+1004)]) (.seq (.seq (.eH false [q 9 (.dm (.t 1)) (s+2000),q 10 (.bin .lss .i64 (.t 9) (.k (.int .i64 0))) (s+2001)]) (.cond (.t 10) (.seq (.eH false [q 4 (.dm (.k (.int .i64 (-1)))) (s+3000)]) .ret) .skip)) (.seq (.eH false [q 11 (.dm (.t 1)) (s+4000),q 4 (.dm (.t 11)) (s+4001)]) .ret)))),[(.tmp 4)]⟩
def EX (f g z:Nat):AK:=let s:=f*1000000
 ⟨27,2,(.seq (.eH false [q 4 (.dm (.k (.bool false))) s]) (.seq (.seq (.eH false [q 6 (.dm (.t 0)) (s+1000),q 7 (.len (.t 6)) (s+1001),q 8 (.dm (.t 1)) (s+1002),q 9 (.len (.t 8)) (s+1003),q 10 (.NM true .tI (.t 7) (.t 9)) (s+1004)]) (.cond (.t 10) (.seq (.eH false [q 4 (.dm (.k (.bool false))) (s+2000)]) .ret) .skip)) (.seq (.seq (.eH false [q 5 (.dm (.k (.int .i64 0))) (s+3000)]) (.block 0 (.loop (.seq (.seq (.eH false [q 11 (.dm (.t 5)) (s+4000),q 12 (.dm (.t 0)) (s+4001),q 13 (.len (.t 12)) (s+4002),q 14 (.bin .lss .i64 (.t 11) (.t 13)) (s+4003)]) (.cond (.t 14) .skip (.exit 0))) (.seq (.block 1 (.seq (.eH true [q 17 (.dm (.t 0)) (s+6000),q 18 (.dm (.t 5)) (s+6001),q 19 (.dJ z (.t 17) (.t 18)) (s+6002),q 20 (.load true z (.t 19)) (s+6003),q 21 (.dm (.t 1)) (s+6004),q 22 (.dm (.t 5)) (s+6005),q 23 (.dJ z (.t 21) (.t 22)) (s+6006),q 24 (.load true z (.t 23)) (s+6007),q 25 (.call g [(.t 20),(.t 24)]) (s+6008),q 26 (.not (.t 25)) (s+6009)]) (.cond (.t 26) (.seq (.eH false [q 4 (.dm (.k (.bool false))) (s+7000)]) .ret) .skip))) (.eH false [q 15 (.dm (.t 5)) (s+5000),q 16 (.bin .add .i64 (.t 15) (.k (.int .i64 1))) (s+5001),q 5 (.dm (.t 16)) (s+5002)])))))) (.seq (.eH false [q 4 (.dm (.k (.bool true))) (s+8000)]) .ret)))),[(.tmp 4)]⟩
def MG (f:Nat) (t:TS):AK:=let s:=f*1000000
 ⟨26,2,(.seq (.eH false [q 4 (.dm (.k (.bool false))) s]) (.seq (.seq (.eH false [q 6 (.dm (.t 0)) (s+1000),q 7 (.len (.t 6)) (s+1001),q 8 (.dm (.t 1)) (s+1002),q 9 (.len (.t 8)) (s+1003),q 10 (.NM true .tI (.t 7) (.t 9)) (s+1004)]) (.cond (.t 10) (.seq (.eH false [q 4 (.dm (.k (.bool false))) (s+2000)]) .ret) .skip)) (.seq (.seq (.eH false [q 5 (.dm (.k (.int .i64 0))) (s+3000)]) (.block 0 (.loop (.seq (.seq (.eH false [q 11 (.dm (.t 5)) (s+4000),q 12 (.dm (.t 0)) (s+4001),q 13 (.len (.t 12)) (s+4002),q 14 (.bin .lss .i64 (.t 11) (.t 13)) (s+4003)]) (.cond (.t 14) .skip (.exit 0))) (.seq (.block 1 (.seq (.eH true [q 17 (.dm (.t 0)) (s+6000),q 18 (.dm (.t 5)) (s+6001),q 19 (.dJ 1 (.t 17) (.t 18)) (s+6002),q 20 (.load false 1 (.t 19)) (s+6003),q 21 (.dm (.t 1)) (s+6004),q 22 (.dm (.t 5)) (s+6005),q 23 (.dJ 1 (.t 21) (.t 22)) (s+6006),q 24 (.load false 1 (.t 23)) (s+6007),q 25 (.NM true t (.t 20) (.t 24)) (s+6008)]) (.cond (.t 25) (.seq (.eH false [q 4 (.dm (.k (.bool false))) (s+7000)]) .ret) .skip))) (.eH false [q 15 (.dm (.t 5)) (s+5000),q 16 (.bin .add .i64 (.t 15) (.k (.int .i64 1))) (s+5001),q 5 (.dm (.t 16)) (s+5002)])))))) (.seq (.eH false [q 4 (.dm (.k (.bool true))) (s+8000)]) .ret)))),[(.tmp 4)]⟩
def ug (f g z:Nat) (zero:List K):AK:=let s:=f*1000000
 ⟨23,1,(.seq (.eH false [q 2 (.dm (.k .cm)) s]) (.seq (.eH false [q 5 (.dm (.t 0)) (s+1000),q 6 (.len (.t 5)) (s+1001),q 7 (.jX zero (.t 6) (.t 6)) (s+1002),q 3 (.dm (.t 7)) (s+1003)]) (.seq (.seq (.eH false [q 4 (.dm (.k (.int .i64 0))) (s+2000)]) (.block 0 (.loop (.seq (.seq (.eH false [q 8 (.dm (.t 4)) (s+3000),q 9 (.dm (.t 0)) (s+3001),q 10 (.len (.t 9)) (s+3002),q 11 (.bin .lss .i64 (.t 8) (.t 10)) (s+3003)]) (.cond (.t 11) .skip (.exit 0))) (.seq (.block 1 (.eH false [q 14 (.dm (.t 3)) (s+5000),q 15 (.dm (.t 4)) (s+5001),q 16 (.dm (.t 0)) (s+5002),q 17 (.dm (.t 4)) (s+5003),q 18 (.dJ z (.t 16) (.t 17)) (s+5004),q 19 (.load true z (.t 18)) (s+5005),q 20 (.call g [(.t 19)]) (s+5006),q 21 (.dJ z (.t 14) (.t 15)) (s+5007),⟨none,(.store z (.t 21) (.t 20)),none,(s+5008),[]⟩])) (.eH false [q 12 (.dm (.t 4)) (s+4000),q 13 (.bin .add .i64 (.t 12) (.k (.int .i64 1))) (s+4001),q 4 (.dm (.t 13)) (s+4002)])))))) (.seq (.eH false [q 22 (.dm (.t 3)) (s+6000),q 2 (.dm (.t 22)) (s+6001)]) .ret)))),[(.tmp 2)]⟩
def Ki (f:Nat) (zero:K):AK:=let s:=f*1000000
 ⟨22,1,(.seq (.eH false [q 2 (.dm (.k .cm)) s]) (.seq (.eH false [q 5 (.dm (.t 0)) (s+1000),q 6 (.len (.t 5)) (s+1001),q 7 (.jX [zero] (.t 6) (.t 6)) (s+1002),q 3 (.dm (.t 7)) (s+1003)]) (.seq (.seq (.eH false [q 4 (.dm (.k (.int .i64 0))) (s+2000)]) (.block 0 (.loop (.seq (.seq (.eH false [q 8 (.dm (.t 4)) (s+3000),q 9 (.dm (.t 0)) (s+3001),q 10 (.len (.t 9)) (s+3002),q 11 (.bin .lss .i64 (.t 8) (.t 10)) (s+3003)]) (.cond (.t 11) .skip (.exit 0))) (.seq (.block 1 (.eH false [q 14 (.dm (.t 3)) (s+5000),q 15 (.dm (.t 4)) (s+5001),q 16 (.dm (.t 0)) (s+5002),q 17 (.dm (.t 4)) (s+5003),q 18 (.dJ 1 (.t 16) (.t 17)) (s+5004),q 19 (.load false 1 (.t 18)) (s+5005),q 20 (.dJ 1 (.t 14) (.t 15)) (s+5006),⟨none,(.store 1 (.t 20) (.t 19)),none,(s+5007),[]⟩])) (.eH false [q 12 (.dm (.t 4)) (s+4000),q 13 (.bin .add .i64 (.t 12) (.k (.int .i64 1))) (s+4001),q 4 (.dm (.t 13)) (s+4002)])))))) (.seq (.eH false [q 21 (.dm (.t 3)) (s+6000),q 2 (.dm (.t 21)) (s+6001)]) .ret)))),[(.tmp 2)]⟩
def xY (n:Nat) (l:Int):Int:=if (n:Int)<=l then l-n else -1
theorem J4 {fk:Nat} (hc:mi P fk=some (J3 fk)) (rows:List (List AV)) (left:Int) (h0:0<=left) (h1:left<=1048576):aq P fk [.sl rows,.int .i64 left] (.int .i64 (xY rows.length left)):=by
 refine aq.body hc rfl fun hl n0=>?_
 try simp only[q]
 have hn:rows.length<=9223372036854775807:=(hl (.sl rows) (by simp)).len
 clear hl
 have hw:IntKind.i64.wrap (left-(rows.length:Int))=left-rows.length:=bF (by omega)
 by_cases hf:(rows.length:Int)<=left
 ·have kz:¬left-(rows.length:Int)<0:=by omega
  (try((repeat(revert hN;revert N;apply Pn.out));refine wk (tw @hw @kz) ?_;(repeat(refine Pn.mk ?_;intro N hN))))
  exact b4 (b:=left-(rows.length:Int)) (.inl rfl) (sd @Nat.zero_add) (by rw[xY,if_pos hf])
 ·have kz:left-(rows.length:Int)<0:=by omega
  (try((repeat(revert hN;revert N;apply Pn.out));refine wk (tw @hw @kz) ?_;(repeat(refine Pn.mk ?_;intro N hN))))
  exact b4 (b:=-1) (.inl rfl) (sd @Nat.zero_add) (by rw[xY,if_neg hf])
def iH {α:Type} (f:α->Nat) (xs:List α) (k:Nat):Nat:=((xs.take k).map f).sum
theorem mJ {α:Type} (f:α->Nat) (xs:List α):iH f xs 0=0:=by simp[iH]
theorem Ct {α:Type} (f:α->Nat) (xs:List α):iH f xs xs.length=(xs.map f).sum:=by simp[iH]
theorem xi {α:Type} (f:α->Nat) {xs:List α} {k:Nat} (hk:k<xs.length):iH f xs (k+1)=iH f xs k+f xs[k]:=by
 unfold iH
 rw[List.take_succ_eq_append_getElem hk,List.map_append,List.sum_append];simp
theorem qh {α:Type} (f:α->Nat) (xs:List α) (k:Nat):iH f xs k<=(xs.map f).sum:=by
 unfold iH
 conv=>rhs;rw[<-List.take_append_drop k xs]
 rw[List.map_append,List.sum_append];omega
theorem J6 {α:Type} {e:α->List AV} {z fk gk:Nat} (wt:α->Nat) (hc:mi P fk=some (J5 fk gk z)) (hz:∀x,(e x).length=z) (CJ:∀x g,cN g 6 [.agg (e x)]=some [.agg (e x)]) (xs:List α) (left:Int) (h0:0<=left) (h1:left<=1048576)
  (hg:∀x∈xs,∀l:Int,0<=l->l<=1048576->aq P gk [.agg (e x),.int .i64 l] (.int .i64 (xY (wt x) l))):aq P fk [.sl (xs.map e),.int .i64 left] (.int .i64 (xY (xs.length+(xs.map wt).sum) left)):=by
 refine aq.body hc rfl fun hl n0=>?_
 try simp only[q]
 have hn:xs.length<=9223372036854775807:=by simpa using(hl (.sl (xs.map e)) (by simp)).len
 clear hl
 have hw:IntKind.i64.wrap (left-(xs.length:Int))=left-xs.length:=bF (by omega)
 by_cases hf:(xs.length:Int)<=left
 ·have kz:¬left-(xs.length:Int)<0:=by omega
  (try((repeat(revert hN;revert N;apply Pn.out));refine wk (tw @hw @kz) ?_;(repeat(refine Pn.mk ?_;intro N hN))))
  refine aW (fun n env st=>∃k:Nat,n=(xs.length)-k/\k<=(xs.length)/\env 5=.int .i64 (k:Int)/\env 1=(.int .i64 (left-xs.length-(iH wt xs k:Nat)))/\(0<=left-xs.length-(iH wt xs k:Nat))) (xs.length) ⟨0,by omega,by omega,sl (tw @mJ (tw @Int.natCast_zero @Int.sub_zero)),sl (tw @mJ (tw @Int.natCast_zero @Int.sub_zero)),(by rw[mJ];omega)⟩ ?_
  rintro n_a env_a st_a ⟨k,rfl,ale,a5,a1,mb⟩ dH
  have a0:=dH 0 (by kernel_rfl)
  simp only[go_sem, ↓reduceIte,Nat.reduceEqDiff,Nat.reduceAdd,Nat.reduceSub,Nat.reduceLeDiff,reduceCtorEq,mJ,Int.natCast_zero,Int.sub_zero]at a0
  clear dH
  by_cases hk:(k:Int)<(xs.length:Int)
  ·have cE:∀{e:Env},(e 5=.int .i64 (IntKind.i64.wrap ((k:Int)+1)))->(e 1=(.int .i64 (left-xs.length-(iH wt xs (k+1):Nat))))->(0<=left-xs.length-(iH wt xs (k+1):Nat))->∃m0,m0<(xs.length)-k/\∃k:Nat,m0=(xs.length)-k/\k<=(xs.length)/\e 5=.int .i64 (k:Int)/\e 1=(.int .i64 (left-xs.length-(iH wt xs k:Nat)))/\(0<=left-xs.length-(iH wt xs k:Nat)):=fun x1 x2 x3=>⟨_,by omega,k+1,rfl,by omega,(by rw[x1,az (by omega)]),x2,x3⟩
   have fA:k<xs.length:=by omega
   have eQ:(xs.map e)[k]? =some (e xs[k]):=by simp[fA]
   have tT:=hz xs[k]
   have ht:(e xs[k]).take z=e xs[k]:=by rw[<-tT,List.take_length]
   have hs:=xi wt fA
   have CO:=qh wt xs (k+1)
   have im:=hg _ (List.getElem_mem fA) (left-xs.length-(iH wt xs k:Nat)) mb (by omega)
   have lI:cN (dL st_a.get) 6 [.agg (e xs[k]),.int .i64 (left-xs.length-(iH wt xs k:Nat))]=some [.agg (e xs[k]),.int .i64 (left-xs.length-(iH wt xs k:Nat))]:=by
    have q1:=CJ xs[k] (dL st_a.get)
    rw[ai,aj]at q1
    rw[ai,ai,aj,aH]
    revert q1
    cases V.fz (dL st_a.get) 6 (.agg (e xs[k]))<;>simp
   by_cases sZ:(wt xs[k]:Int)<=left-xs.length-(iH wt xs k:Nat)
   ·rw[xY,if_pos sZ]at im
    have ux:¬left-xs.length-(iH wt xs k:Nat)-(wt xs[k]:Int)<0:=by omega
    have qF:left-xs.length-(iH wt xs k:Nat)-(wt xs[k]:Int)=left-xs.length-(iH wt xs (k+1):Nat):=by rw[hs];omega
    generalize hex:e xs[k]=c at im lI eQ tT ht
    (try((repeat(revert hN;revert N;apply Pn.out));refine wk (tw @a5 (tw @a1 (tw @a0 (tw @hk (tw @eQ (tw @tT (tw @ht @Nat.le_refl))))))) ?_;(repeat(refine Pn.mk ?_;intro N hN))))
    refine .inl ⟨_,aq.x im lI,?_⟩
    refine hN _ _ ?_
    clear hN N
    (try((repeat(revert hN;revert N;apply Pn.out));refine wk (tw @a5 (tw @a1 (tw @a0 @ux))) ?_;(repeat(refine Pn.mk ?_;intro N hN))))
    refine cE ?_ ?_ ((by rw[hs];omega))
    all_goals simp only[go_sem, ↓reduceIte,Nat.reduceEqDiff,Nat.reduceAdd,Nat.reduceSub,Nat.reduceLeDiff,reduceCtorEq,a5,a1,a0,qF]
   ·rw[xY,if_neg sZ]at im
    generalize hex:e xs[k]=c at im lI eQ tT ht
    (try((repeat(revert hN;revert N;apply Pn.out));refine wk (tw @a5 (tw @a1 (tw @a0 (tw @hk (tw @eQ (tw @tT (tw @ht @Nat.le_refl))))))) ?_;(repeat(refine Pn.mk ?_;intro N hN))))
    refine .inl ⟨_,aq.x im lI,?_⟩
    refine hN _ _ ?_
    clear hN N
    (try((repeat(revert hN;revert N;apply Pn.out));refine wk (tw @a5 (tw @a1 @a0)) ?_;(repeat(refine Pn.mk ?_;intro N hN))))
    exact b4 (b:=-1) (.inl rfl) (sd @Nat.zero_add) (by rw[xY,if_neg (by omega)])
  ·(try((repeat(revert hN;revert N;apply Pn.out));refine wk (tw @a5 (tw @a1 (tw @a0 @hk))) ?_;(repeat(refine Pn.mk ?_;intro N hN))))
   have fA:k=xs.length:=by omega
   subst fA
   have Su:=Ct wt xs
   exact b4 (b:=left-xs.length-(iH wt xs xs.length:Nat)) (.inl rfl) (sd (tw @a5 (tw @a1 @a0))) (by rw[xY,if_pos (by omega)];omega)
 ·have kz:left-(xs.length:Int)<0:=by omega
  (try((repeat(revert hN;revert N;apply Pn.out));refine wk (tw @hw @kz) ?_;(repeat(refine Pn.mk ?_;intro N hN))))
  exact b4 (b:=-1) (.inl rfl) (sd @Nat.zero_add) (by rw[xY,if_neg (by omega)])
theorem Im {α:Type} {xs ys:List α} (hl:xs.length=ys.length) (h:∀j:Nat,j<xs.length->∀(h1:j<xs.length) (h2:j<ys.length),xs[j]=ys[j]):xs=ys:=List.ext_getElem hl fun j h1 h2=>h j h1 h1 h2
theorem Db {α:Type} [DecidableEq α] {e:α->List AV} {z fk gk:Nat} (hc:mi P fk=some (EX fk gk z)) (hz:∀x,(e x).length=z) (CJ:∀x g,cN g 6 [.agg (e x)]=some [.agg (e x)]) (xs ys:List α)
  (hg:∀x y,aq P gk [.agg (e x),.agg (e y)] (.bool (decide (x=y)))):aq P fk [.sl (xs.map e),.sl (ys.map e)] (.bool (decide (xs=ys))):=by
 refine aq.body hc rfl fun hl n0=>?_
 try simp only[q]
 have hn:xs.length<=9223372036854775807:=by simpa using(hl (.sl (xs.map e)) (by simp)).len
 clear hl
 by_cases hlen:xs.length=ys.length
 ·have kO:decide ((xs.length:Int)=(ys.length:Int))=true:=by simp[hlen]
  (try((repeat(revert hN;revert N;apply Pn.out));refine wk @kO ?_;(repeat(refine Pn.mk ?_;intro N hN))))
  refine aW (fun n env st=>∃k:Nat,n=(xs.length)-k/\k<=(xs.length)/\env 5=.int .i64 (k:Int)/\(∀j:Nat,j<k->∀(h1:j<xs.length) (h2:j<ys.length),xs[j]=ys[j])) (xs.length) ⟨0,by omega,by omega,sl @Nat.zero_add,fun _ h=>absurd h (Nat.not_lt_zero _)⟩ ?_
  rintro n_a env_a st_a ⟨k,rfl,ale,a5,l6⟩ dH
  have a0:=dH 0 (by kernel_rfl);have a1:=dH 1 (by kernel_rfl)
  simp only[go_sem, ↓reduceIte,Nat.reduceEqDiff,Nat.reduceAdd,Nat.reduceSub,Nat.reduceLeDiff,reduceCtorEq]at a0 a1
  clear dH
  by_cases hk:(k:Int)<(xs.length:Int)
  ·have cE:∀{e:Env},(e 5=.int .i64 (IntKind.i64.wrap ((k:Int)+1)))->(∀(h1:k<xs.length) (h2:k<ys.length),xs[k]=ys[k])->∃m0,m0<(xs.length)-k/\∃k:Nat,m0=(xs.length)-k/\k<=(xs.length)/\e 5=.int .i64 (k:Int)/\(∀j:Nat,j<k->∀(h1:j<xs.length) (h2:j<ys.length),xs[j]=ys[j]):=fun x1 x2=>⟨_,by omega,k+1,rfl,by omega,(by rw[x1,az (by omega)]),(all_succ l6 x2)⟩
   have fA:k<xs.length:=by omega
   have SG:k<ys.length:=by omega
   have eQ:(xs.map e)[k]? =some (e xs[k]):=by simp[fA]
   have Dv:(ys.map e)[k]? =some (e ys[k]):=by simp[SG]
   have tT:=hz xs[k]
   have DH:=hz ys[k]
   have ht:(e xs[k]).take z=e xs[k]:=by rw[<-tT,List.take_length]
   have Hz:(e ys[k]).take z=e ys[k]:=by rw[<-DH,List.take_length]
   have im:=hg xs[k] ys[k]
   have lI:∀g,cN g 6 [.agg (e xs[k]),.agg (e ys[k])]=some [.agg (e xs[k]),.agg (e ys[k])]:=fun g=>by
    have q1:=CJ xs[k] g
    have q2:=CJ ys[k] g
    rw[ai,aj]at q1
    rw[ai,q2]
    revert q1
    cases V.fz g 6 (.agg (e xs[k]))<;>simp
   by_cases heq:xs[k]=ys[k]
   ·rw[decide_eq_true heq]at im
    generalize hex:e xs[k]=c at im lI eQ tT ht
    generalize hey:e ys[k]=d at im lI Dv DH Hz
    (try((repeat(revert hN;revert N;apply Pn.out));refine wk (tw @a5 (tw @a0 (tw @a1 (tw @hk (tw @eQ (tw @Dv (tw @tT (tw @DH (tw @ht (tw @Hz @Nat.le_refl)))))))))) ?_;(repeat(refine Pn.mk ?_;intro N hN))))
    refine⟨_,aq.x im (lI _),?_⟩
    refine hN _ _ ?_
    clear hN N
    (try((repeat(revert hN;revert N;apply Pn.out));refine wk (tw @a5 (tw @a0 @a1)) ?_;(repeat(refine Pn.mk ?_;intro N hN))))
    exact cE (sd (tw @a5 (tw @a0 @a1))) (fun _ _=>heq)
   ·rw[decide_eq_false heq]at im
    generalize hex:e xs[k]=c at im lI eQ tT ht
    generalize hey:e ys[k]=d at im lI Dv DH Hz
    (try((repeat(revert hN;revert N;apply Pn.out));refine wk (tw @a5 (tw @a0 (tw @a1 (tw @hk (tw @eQ (tw @Dv (tw @tT (tw @DH (tw @ht (tw @Hz @Nat.le_refl)))))))))) ?_;(repeat(refine Pn.mk ?_;intro N hN))))
    refine⟨_,aq.x im (lI _),?_⟩
    refine hN _ _ ?_
    clear hN N
    (try((repeat(revert hN;revert N;apply Pn.out));refine wk (tw @a5 (tw @a0 @a1)) ?_;(repeat(refine Pn.mk ?_;intro N hN))))
    exact aT (b:=false) (.inl rfl) (sd @Nat.zero_add) (decide_eq_false fun h=>heq (List.getElem_of_eq h _)).symm
  ·(try((repeat(revert hN;revert N;apply Pn.out));refine wk (tw @a5 (tw @a0 (tw @a1 @hk))) ?_;(repeat(refine Pn.mk ?_;intro N hN))))
   exact aT (b:=true) (.inl rfl) (sd @Nat.zero_add) (decide_eq_true (Im hlen fun j hj h1 h2=>l6 j (by omega) h1 h2)).symm
 ·have kO:decide ((xs.length:Int)=(ys.length:Int))=false:=decide_eq_false fun h=>hlen (by omega)
  (try((repeat(revert hN;revert N;apply Pn.out));refine wk @kO ?_;(repeat(refine Pn.mk ?_;intro N hN))))
  exact aT (b:=false) (.inl rfl) (sd @Nat.zero_add) (decide_eq_false fun h=>hlen (by subst h;rfl)).symm
theorem Qv {fk:Nat} (hc:mi P fk=some (MG fk .tI)) (xs ys:List Int):
  aq P fk [.sl (xs.map fun x=>[AV.int .i64 x]),.sl (ys.map fun x=>[AV.int .i64 x])] (.bool (decide (xs=ys))):=by
 refine aq.body hc rfl fun hl n0=>?_
 try simp only[q]
 have hn:xs.length<=9223372036854775807:=by simpa using(hl (.sl (xs.map fun x=>[AV.int .i64 x])) (by simp)).len
 clear hl
 by_cases hlen:xs.length=ys.length
 ·have kO:decide ((xs.length:Int)=(ys.length:Int))=true:=by simp[hlen]
  (try((repeat(revert hN;revert N;apply Pn.out));refine wk @kO ?_;(repeat(refine Pn.mk ?_;intro N hN))))
  refine aW (fun n env st=>∃k:Nat,n=(xs.length)-k/\k<=(xs.length)/\env 5=.int .i64 (k:Int)/\(∀j:Nat,j<k->∀(h1:j<xs.length) (h2:j<ys.length),xs[j]=ys[j])) (xs.length) ⟨0,by omega,by omega,sl @Nat.zero_add,fun _ h=>absurd h (Nat.not_lt_zero _)⟩ ?_
  rintro n_a env_a st_a ⟨k,rfl,ale,a5,l6⟩ dH
  have a0:=dH 0 (by kernel_rfl);have a1:=dH 1 (by kernel_rfl)
  simp only[go_sem, ↓reduceIte,Nat.reduceEqDiff,Nat.reduceAdd,Nat.reduceSub,Nat.reduceLeDiff,reduceCtorEq]at a0 a1
  clear dH
  by_cases hk:(k:Int)<(xs.length:Int)
  ·have cE:∀{e:Env},(e 5=.int .i64 (IntKind.i64.wrap ((k:Int)+1)))->(∀(h1:k<xs.length) (h2:k<ys.length),xs[k]=ys[k])->∃m0,m0<(xs.length)-k/\∃k:Nat,m0=(xs.length)-k/\k<=(xs.length)/\e 5=.int .i64 (k:Int)/\(∀j:Nat,j<k->∀(h1:j<xs.length) (h2:j<ys.length),xs[j]=ys[j]):=fun x1 x2=>⟨_,by omega,k+1,rfl,by omega,(by rw[x1,az (by omega)]),(all_succ l6 x2)⟩
   have fA:k<xs.length:=by omega
   have SG:k<ys.length:=by omega
   have eQ:(xs.map fun x=>[AV.int .i64 x])[k]? =some [.int .i64 xs[k]]:=by simp[fA]
   have Dv:(ys.map fun x=>[AV.int .i64 x])[k]? =some [.int .i64 ys[k]]:=by simp[SG]
   by_cases heq:xs[k]=ys[k]
   ·have hq:=decide_eq_true heq
    (try((repeat(revert hN;revert N;apply Pn.out));refine wk (tw @a5 (tw @a0 (tw @a1 (tw @hk (tw @eQ (tw @Dv @hq)))))) ?_;(repeat(refine Pn.mk ?_;intro N hN))))
    exact cE (sd (tw @a5 (tw @a0 @a1))) (fun _ _=>heq)
   ·have hq:=decide_eq_false heq
    (try((repeat(revert hN;revert N;apply Pn.out));refine wk (tw @a5 (tw @a0 (tw @a1 (tw @hk (tw @eQ (tw @Dv @hq)))))) ?_;(repeat(refine Pn.mk ?_;intro N hN))))
    exact aT (b:=false) (.inl rfl) (sd @Nat.zero_add) (decide_eq_false fun h=>heq (List.getElem_of_eq h _)).symm
  ·(try((repeat(revert hN;revert N;apply Pn.out));refine wk (tw @a5 (tw @a0 (tw @a1 @hk))) ?_;(repeat(refine Pn.mk ?_;intro N hN))))
   exact aT (b:=true) (.inl rfl) (sd @Nat.zero_add) (decide_eq_true (Im hlen fun j hj h1 h2=>l6 j (by omega) h1 h2)).symm
 ·have kO:decide ((xs.length:Int)=(ys.length:Int))=false:=decide_eq_false fun h=>hlen (by omega)
  (try((repeat(revert hN;revert N;apply Pn.out));refine wk @kO ?_;(repeat(refine Pn.mk ?_;intro N hN))))
  exact aT (b:=false) (.inl rfl) (sd @Nat.zero_add) (decide_eq_false fun h=>hlen (by subst h;rfl)).symm
theorem vw (l:List AV):l++[]=l:=List.append_nil l
def gP {α:Type} (e:α->List AV) (zc:List AV) (xs:List α) (k:Nat):List (List AV):=(xs.take k).map e++List.replicate (xs.length-k) zc
theorem oF {α:Type} (e:α->List AV) (zc:List AV) (xs:List α):List.replicate xs.length zc=gP e zc xs 0:=by simp[gP]
theorem qp {α:Type} (e:α->List AV) (zc:List AV) (xs:List α):gP e zc xs xs.length=xs.map e:=by simp[gP]
theorem qq {α:Type} (e:α->List AV) (zc:List AV) (xs:List α) {k:Nat} (hk:k<xs.length):(gP e zc xs k)[k]? =some zc:=by
 have h1:((xs.take k).map e).length=k:=by simp;omega
 rw[gP,List.getElem?_append_right (by omega),h1,Nat.sub_self,List.getElem?_replicate,if_pos (by omega)]
theorem qt {α:Type} (e:α->List AV) (zc:List AV) (xs:List α) {k:Nat} (hk:k<xs.length):(gP e zc xs k).set k (e xs[k])=gP e zc xs (k+1):=by
 have h1:((xs.take k).map e).length=k:=by simp;omega
 rw[gP,List.set_append_right _ _ (by omega),h1,Nat.sub_self,gP,List.take_succ_eq_append_getElem hk,List.map_append,List.append_assoc]
 congr 1
 obtain⟨m,hm⟩:∃m,xs.length-k=m+1:=⟨xs.length-k-1,by omega⟩
 rw[hm,show xs.length-(k+1)=m by omega,List.replicate_succ]
 rfl
theorem Ew {α:Type} {en:α->List AV} {z fk gk:Nat} {zero:List K} (hc:mi P fk=some (ug fk gk z zero)) (HC:zero.length=z) (hz:∀x,(en x).length=z) (ko:∀x,(en x).all AV.cell=true) (CJ:∀x g,cN g 5 (en x)=some (en x)) (xs:List α) (hlen:xs.length<=1048576)
  (hg:∀x∈xs,kn P gk [.agg (en x)] (.agg (en x))):kn P fk [.sl (xs.map en)] (.sl (xs.map en)):=by
 refine kn.body hc rfl fun hl σ=>?_
 try simp only[q]
 clear hl
 have hm:(xs.length:Int)<=((16777216:Nat):Int):=by omega
 have h0:(0:Int)<=(xs.length:Int):=by omega
 (try((repeat(revert hN;revert N;apply Pn.out));refine wk (tw @hm (tw @h0 (tw @Int.le_refl (tw (oF en (zero.map K.av) xs) @HC)))) ?_;(repeat(refine Pn.mk ?_;intro N hN))))
 refine aW (fun n env st=>∃k:Nat,n=(xs.length)-k/\k<=(xs.length)/\env 4=.int .i64 (k:Int)/\st.get ⟨fk*1000000+1002,σ.next+1⟩=some ⟨true,z,gP en (zero.map K.av) xs k⟩) (xs.length) ⟨0,by omega,by omega,sl @Nat.zero_add,sl @Nat.zero_add⟩ ?_
 rintro n_a env_a st_a ⟨k,rfl,ale,a4,ag0⟩ dH
 have a0:=dH 0 (by kernel_rfl);have a3:=dH 3 (by kernel_rfl)
 simp only[go_sem, ↓reduceIte,Nat.reduceEqDiff,Nat.reduceAdd,Nat.reduceSub,Nat.reduceLeDiff,reduceCtorEq]at a0 a3
 clear dH
 by_cases hk:(k:Int)<(xs.length:Int)
 ·have cE:∀{e:Env} {gg:Rows},(e 4=.int .i64 (IntKind.i64.wrap ((k:Int)+1)))->(gg ⟨fk*1000000+1002,σ.next+1⟩=some ⟨true,z,gP en (zero.map K.av) xs (k+1)⟩)->∃m0,m0<(xs.length)-k/\∃k:Nat,m0=(xs.length)-k/\k<=(xs.length)/\e 4=.int .i64 (k:Int)/\gg ⟨fk*1000000+1002,σ.next+1⟩=some ⟨true,z,gP en (zero.map K.av) xs k⟩:=fun x1 x2=>⟨_,by omega,k+1,rfl,by omega,(by rw[x1,az (by omega)]),x2⟩
  have fA:k<xs.length:=by omega
  have eQ:(xs.map en)[k]? =some (en xs[k]):=by simp[fA]
  have tT:=hz xs[k]
  have KE:=ko xs[k]
  have ht:(en xs[k]).take z=en xs[k]:=by rw[<-tT,List.take_length]
  have im:=hg _ (List.getElem_mem fA)
  have fQ:=qq en (zero.map K.av) xs fA
  have eJ:=qt en (zero.map K.av) xs fA
  have IE:(zero.map K.av).drop z=[]:=List.drop_of_length_le (by simp[HC])
  generalize hex:en xs[k]=c at im eQ tT ht KE eJ
  (repeat(first|((repeat(revert hN;revert N;apply Pn.out));refine wk (tw @a4 (tw @ag0 (tw @a0 (tw @a3 (tw @hk (tw @eQ (tw @tT (tw @ht (tw @Nat.le_refl (tw @fQ (tw @eJ (tw @IE (tw @vw (tw @KE @HC)))))))))))))) ?_;(repeat(refine Pn.mk ?_;intro N hN)))|((try apply Or.inl);refine⟨_,kn.x (im) _,?_⟩;refine hN _ _ ?_;clear hN N)))
  refine cE ?_ ?_
  all_goals simp only[go_sem, ↓reduceIte,Nat.reduceEqDiff,Nat.reduceAdd,Nat.reduceSub,Nat.reduceLeDiff,reduceCtorEq,a4,ag0,a0,a3]
 ·(try((repeat(revert hN;revert N;apply Pn.out));refine wk (tw @a4 (tw @ag0 (tw @a0 (tw @a3 @hk)))) ?_;(repeat(refine Pn.mk ?_;intro N hN))))
  have fA:k=xs.length:=by omega
  subst fA
  refine RK (.inl rfl) (r0:=.own ⟨fk*1000000+1002,σ.next+1⟩ 0 xs.length) (sd (tw @a4 (tw @ag0 (tw @a0 @a3)))) ?_
  rw[qp]at ag0
  exact gr ag0 (by simp) fun x=>CJ x _
theorem RP {fk:Nat} (hc:mi P fk=some (Ki fk (.int .i64 0))) (xs:List Int) (hlen:xs.length<=1048576):kn P fk [.sl (xs.map fun x=>[AV.int .i64 x])] (.sl (xs.map fun x=>[AV.int .i64 x])):=by
 refine kn.body hc rfl fun hl σ=>?_
 try simp only[q]
 clear hl
 obtain⟨en,Hu⟩:∃en:Int->List AV,en=fun x=>[AV.int .i64 x]:=⟨_,rfl⟩
 rw[<-Hu]
 have hm:(xs.length:Int)<=((16777216:Nat):Int):=by omega
 have h0:(0:Int)<=(xs.length:Int):=by omega
 (try((repeat(revert hN;revert N;apply Pn.out));refine wk (tw @hm (tw @h0 (tw @Int.le_refl (oF en [AV.int .i64 0] xs)))) ?_;(repeat(refine Pn.mk ?_;intro N hN))))
 refine aW (fun n env st=>∃k:Nat,n=(xs.length)-k/\k<=(xs.length)/\env 4=.int .i64 (k:Int)/\st.get ⟨fk*1000000+1002,σ.next+1⟩=some ⟨true,1,gP en [AV.int .i64 0] xs k⟩) (xs.length) ⟨0,by omega,by omega,sl @Nat.zero_add,sl @Nat.zero_add⟩ ?_
 rintro n_a env_a st_a ⟨k,rfl,ale,a4,ag0⟩ dH
 have a0:=dH 0 (by kernel_rfl);have a3:=dH 3 (by kernel_rfl)
 simp only[go_sem, ↓reduceIte,Nat.reduceEqDiff,Nat.reduceAdd,Nat.reduceSub,Nat.reduceLeDiff,reduceCtorEq]at a0 a3
 clear dH
 by_cases hk:(k:Int)<(xs.length:Int)
 ·have cE:∀{e:Env} {gg:Rows},(e 4=.int .i64 (IntKind.i64.wrap ((k:Int)+1)))->(gg ⟨fk*1000000+1002,σ.next+1⟩=some ⟨true,1,gP en [AV.int .i64 0] xs (k+1)⟩)->∃m0,m0<(xs.length)-k/\∃k:Nat,m0=(xs.length)-k/\k<=(xs.length)/\e 4=.int .i64 (k:Int)/\gg ⟨fk*1000000+1002,σ.next+1⟩=some ⟨true,1,gP en [AV.int .i64 0] xs k⟩:=fun x1 x2=>⟨_,by omega,k+1,rfl,by omega,(by rw[x1,az (by omega)]),x2⟩
  have fA:k<xs.length:=by omega
  have eQ:(xs.map en)[k]? =some [AV.int .i64 xs[k]]:=by simp[fA,Hu]
  have fQ:=qq en [AV.int .i64 0] xs fA
  have eJ:=qt en [AV.int .i64 0] xs fA
  rw[show en xs[k]=[AV.int .i64 xs[k]] by rw[Hu]]at eJ
  (try((repeat(revert hN;revert N;apply Pn.out));refine wk (tw @a4 (tw @ag0 (tw @a0 (tw @a3 (tw @hk (tw @eQ (tw @fQ @eJ))))))) ?_;(repeat(refine Pn.mk ?_;intro N hN))))
  refine cE ?_ ?_
  all_goals simp only[go_sem, ↓reduceIte,Nat.reduceEqDiff,Nat.reduceAdd,Nat.reduceSub,Nat.reduceLeDiff,reduceCtorEq,a4,ag0,a0,a3]
 ·(try((repeat(revert hN;revert N;apply Pn.out));refine wk (tw @a4 (tw @ag0 (tw @a0 (tw @a3 @hk)))) ?_;(repeat(refine Pn.mk ?_;intro N hN))))
  have fA:k=xs.length:=by omega
  subst fA
  refine RK (.inl rfl) (r0:=.own ⟨fk*1000000+1002,σ.next+1⟩ 0 xs.length) (sd (tw @a4 (tw @ag0 (tw @a0 @a3)))) ?_
  rw[qp]at ag0
  exact gr ag0 (by simp) fun x=>by simp[Hu,ai,aj,aH]
end Go.Proofs.YtgoelphibofcmaaGreat.V

namespace Go.Proofs.YtgoelphibofcmaaGreat
open Go.RowKit
def Sl (w:World) (fp:List Nat) (v:Value) (n:Nat) (xs:List Value):Prop:=
 ∃A c,v=.slice A n c/\n<=c/\c<=maxLen/\
  ((fp=[]/\n=0)∨∃b o,fp=[b]/\A=some ⟨b,o,none⟩/\∀j u,xs[j]? =some u->w.cell? ⟨b,o+j,none⟩=some u)
def fH (fp:List Nat) (lo hi:Nat):Prop:=∀b∈fp,lo<=b/\b<hi
theorem fH.nil (lo hi:Nat):fH [] lo hi:=fun _ h=>by cases h
theorem Sl.nil (w:World):Sl w [] (.slice none 0 0) 0 []:=⟨none,0,rfl,Nat.le_refl _,by simp[maxLen],.inl ⟨rfl,rfl⟩⟩
def Nq {α:Type} (rep:World->List Nat->List Value->α->Prop) (sz:Nat) (w:World) (oG:List (List Value)) (EY:List (List Nat)) (ds:List α):Prop:=
 oG.length=ds.length/\EY.length=ds.length/\∀(i:Nat) (cs:List Value) (f:List Nat) (d:α),oG[i]? =some cs->EY[i]? =some f->ds[i]? =some d->rep w f cs d/\cs.length=sz
def mT {α:Type} (rep:World->List Nat->List Value->α->Prop) (sz:Nat) (w:World) (fp:List Nat) (v:Value) (ds:List α):Prop:=
 ∃oG EY Tu,fp=Tu++EY.flatten/\Sl w Tu v ds.length oG.flatten/\Nq rep sz w oG EY ds
theorem qP {α:Type} {EY:List (List α)} {i:Nat} {f:List α} (h:EY[i]? =some f):∀b∈f,b∈EY.flatten:=fun b hb=>
 List.mem_flatten.2 ⟨f,List.mem_of_getElem? h,hb⟩
theorem tM {α:Type} {oG:List (List α)} {sz:Nat} (h:∀cs∈oG,cs.length=sz) {i j:Nat} {cs:List α} (hi:oG[i]? =some cs) (hj:j<sz):oG.flatten[i*sz+j]? =cs[j]? :=by
 induction oG generalizing i with
 |nil=>simp at hi
 |cons c r ih=>
  have hc:c.length=sz:=h c (by simp)
  cases i with
  |zero=>
   simp at hi;subst hi
   rw[List.flatten_cons,List.getElem?_append_left (by omega)];simp
  |succ i=>
   rw[List.flatten_cons,List.getElem?_append_right (by rw[hc,Nat.succ_mul];omega)]
   have:(i+1)*sz+j-c.length=i*sz+j:=by rw[hc,Nat.succ_mul];omega
   rw[this]
   exact ih (fun cs du=>h cs (List.mem_cons_of_mem _ du)) (by simpa using hi)
theorem Nq.lens {α:Type} {rep:World->List Nat->List Value->α->Prop} {sz:Nat} {w:World} {oG:List (List Value)} {EY:List (List Nat)} {ds:List α}
  (h:Nq rep sz w oG EY ds):∀cs∈oG,cs.length=sz:=fun cs du=>by
 obtain⟨i,hi,rfl⟩:=List.getElem_of_mem du
 have h1:i<EY.length:=by rw[h.2.1,<-h.1];exact hi
 have h2:i<ds.length:=by rw[<-h.1];exact hi
 exact(h.2.2 i _ _ _ (List.getElem?_eq_getElem hi) (List.getElem?_eq_getElem h1) (List.getElem?_eq_getElem h2)).2
theorem mT.at_ {α:Type} {rep:World->List Nat->List Value->α->Prop} {sz:Nat} {w:World} {fp:List Nat} {A:Option Addr} {n c:Nat} {ds:List α}
  (h:mT rep sz w fp (.slice A n c) ds) (k:Nat) (hk:k<ds.length):
  ∃b o cs f,A=some ⟨b,o,none⟩/\b∈fp/\(∀x∈f,x∈fp)/\rep w f cs ds[k]/\cs.length=sz/\∀j u,cs[j]? =some u->w.cell? ⟨b,o+(k*sz+j),none⟩=some u:=by
 obtain⟨oG,EY,Tu,rfl,⟨A',c',hv,_,_,hc⟩,hr⟩:=h
 simp only[Value.slice.injEq]at hv
 obtain⟨rfl,hn,rfl⟩:=hv
 rcases hc with⟨_,h0⟩|⟨b,o,rfl,rfl,hc⟩
 ·omega
 have h1:k<oG.length:=by rw[hr.1];exact hk
 have h2:k<EY.length:=by rw[hr.2.1];exact hk
 obtain⟨gL,hl⟩:=hr.2.2 k _ _ _ (List.getElem?_eq_getElem h1) (List.getElem?_eq_getElem h2) (List.getElem?_eq_getElem hk)
 refine⟨b,o,oG[k],EY[k],rfl,by simp,fun x hx=>List.mem_append_right _ (qP (List.getElem?_eq_getElem h2) x hx),gL,hl,fun j u hj=>?_⟩
 have gZ:j<sz:=by rw[<-hl];exact(List.getElem?_eq_some_iff.1 hj).1
 exact hc _ u (by rw[tM hr.lens (List.getElem?_eq_getElem h1) gZ];exact hj)
theorem mT.len {α:Type} {rep:World->List Nat->List Value->α->Prop} {sz:Nat} {w:World} {fp:List Nat} {v:Value} {ds:List α}
  (h:mT rep sz w fp v ds):∃A c,v=.slice A ds.length c/\ds.length<=c/\c<=maxLen:=by
 obtain⟨_,_,_,_,⟨A,c,hv,h1,h2,_⟩,_⟩:=h
 exact⟨A,c,hv,h1,h2⟩
theorem mT.nil {α:Type} (rep:World->List Nat->List Value->α->Prop) (sz:Nat) (w:World):mT rep sz w [] (.slice none 0 0) ([]:List α):=
 ⟨[],[],[],rfl,Sl.nil w,rfl,rfl,fun i cs f d hc=>by simp at hc⟩
def Flat {α:Type} (enc:α->List Value):World->List Nat->List Value->α->Prop:=fun _ f cs d=>f=[]/\cs=enc d
end Go.Proofs.YtgoelphibofcmaaGreat

namespace Go.Proofs.YtgoelphibofcmaaGreat
open Go.RowKit
def Q (w w':World):Prop:=∃q,w'=w.drewN q
theorem Q.refl (w:World):Q w w:=⟨0,rfl⟩
theorem Q.d {w w':World} (h:Q w w') (n:Nat):Q w (w'.drewN n):=by obtain⟨q,rfl⟩:=h;exact⟨q+n,by rw[World.drewN_drewN]⟩
theorem Q.d1 {w w':World} (h:Q w w'):Q w w'.drew:=by obtain⟨q,rfl⟩:=h;exact⟨q+1,rfl⟩
theorem Q.n (w:World) (n:Nat):Q w (w.drewN n):=⟨n,rfl⟩
theorem Q.trans {a b c:World} (h:Q a b) (k:Q b c):Q a c:=by obtain⟨q,rfl⟩:=k;exact h.d q
theorem H3 {B:Nat} {a w:World} (h:Below B a w) (n:Nat):Below B a (w.drewN n):=⟨h.os,h.tape,h.output,h.size,h.block⟩
theorem Q.below {w w':World} (h:Q w w'):Below w.heap.size w w':=by obtain⟨q,rfl⟩:=h;exact H3 (Below.refl _ _) q
theorem iE {a b:Bool} (h:a=b):Ending.returned (.bool a)=.returned (.bool b):=by rw[h]
theorem FB {k:IntKind} {a b:Int} (h:a=b):Ending.returned (.int k a)=.returned (.int k b):=by rw[h]
end Go.Proofs.YtgoelphibofcmaaGreat

namespace Go.Proofs.YtgoelphibofcmaaGreat
open Go.RowKit
end Go.Proofs.YtgoelphibofcmaaGreat

namespace Go.Proofs.YtgoelphibofcmaaGreat
open Go.RowKit
end Go.Proofs.YtgoelphibofcmaaGreat

namespace Go.Proofs.YtgoelphibofcmaaGreat
open Go.RowKit
structure aD where
 eZ:Int
 eT:Int
deriving DecidableEq
structure ad where
 aQ:aD
 aV:Int
deriving DecidableEq
structure dP where
 ah:List ad
deriving DecidableEq
structure fB where
 aC:ByteArray
 ez:Int
deriving DecidableEq
structure eS where
 aC:ByteArray
 bt:List Int
deriving DecidableEq
structure au where
 ax:List fB
 ah:List eS
deriving DecidableEq
structure aA where
 aE:au
 bc:dP
 aB:Int
deriving DecidableEq
def F7 (d:Int):List Value:=[.int .i64 d]
def EJ:=Flat F7
def eV (d:ad):List Value:=[.int .i64 d.aQ.eZ,.int .i64 d.aQ.eT,.int .i64 d.aV]
def AY:=Flat eV
def ja:=mT AY 3
def Ih (d:fB):List Value:=[.string d.aC,.int .i64 d.ez]
def HM:=Flat Ih
def re:=mT HM 2
def vm:=mT EJ 1
def HN (w:World) (f:List Nat) (cs:List Value) (d:eS):Prop:=
 ∃v1 f1,f=f1/\cs=[.string d.aC,v1]/\vm w f1 v1 d.bt
def rf:=mT HN 2
end Go.Proofs.YtgoelphibofcmaaGreat

namespace Go.Proofs.YtgoelphibofcmaaGreat.V
open Go.RowKit
variable {P:Program} {w:World} {D:Nat->Prop}
def HH (P:Program) (w:World) (D:Nat->Prop) (al:List AV) (cs:List Value):Prop:=∀(j:Nat) (a:AV),al[j]? =some a->∃u:Value,cs[j]? =some u/\jF P w D a u
theorem sb {α:Type} {rep:World->List Nat->List Value->α->Prop} {e:α->List AV} {sz:Nat} {f:List Nat} {v:Value} {xs:List α} (h:mT rep sz w f v xs) (hD:∀b∈f,D b)
  (hl:∀x∈xs,(e x).length=sz) (hc:∀x∈xs,∀a∈e x,a.cell=true) (hr:∀x∈xs,∀f' cs,rep w f' cs x->(∀b∈f',D b)->HH P w D (e x) cs):jF P w D (.sl (xs.map e)) v:=by
 obtain⟨A,c,rfl,h1,h2⟩:=mT.len h
 by_cases h0:xs=[]
 ·subst h0;exact .AU _ _ h2
 have jN:0<xs.length:=List.length_pos_iff.2 h0
 obtain⟨b,o,PK,f0,rfl,hb,SD,UR,Ll,jI⟩:=mT.at_ h 0 jN
 have key:∀(i:Nat) (hi:i<xs.length),∃cs f',(∀x∈f',x∈f)/\rep w f' cs xs[i]/\cs.length=sz/\∀j u,cs[j]? =some u->w.cell? ⟨b,o+(i*sz+j),none⟩=some u:=by
  intro i hi
  obtain⟨b',o',cs,f',Sw,_,kz,oe,du,kN⟩:=mT.at_ h i hi
  simp only[Option.some.injEq,Addr.mk.injEq,and_true]at Sw
  obtain⟨rfl,rfl⟩:=Sw
  exact⟨cs,f',kz,oe,du,kN⟩
 refine .sl _ b o _ c sz (fun i j=>(w.cell? ⟨b,o+(i*sz+j),none⟩).getD Go.undef) (by simp) h1 h2 (hD b hb) ?_ ?_ ?_ ?_
 ·intro cs du
  obtain⟨x,hx,rfl⟩:=List.mem_map.1 du
  exact hl x hx
 ·intro cs du
  obtain⟨x,hx,rfl⟩:=List.mem_map.1 du
  exact hc x hx
 ·intro i j hi hj
  obtain⟨cs,f',_,_,du,kN⟩:=key i hi
  rw[kN j cs[j] (List.getElem?_eq_getElem (by omega))]
  rfl
 ·intro i j cs a du ha
  have hi:i<xs.length:=by
   have:=(List.getElem?_eq_some_iff.1 du).1
   simpa using this
  obtain⟨qb,f',kz,oe,hcs',kN⟩:=key i hi
  simp[hi]at du
  subst du
  obtain⟨u,hu,him⟩:=hr _ (List.getElem_mem hi) f' qb oe (fun b hb=>hD b (kz b hb)) j a ha
  rw[kN j u hu]
  exact him
end Go.Proofs.YtgoelphibofcmaaGreat.V

namespace Go.Proofs.YtgoelphibofcmaaGreat.V
open Go.RowKit
variable {P:Program} {w:World} {D:Nat->Prop}
def br (d:Int):List AV:=[.int .i64 d]
def ae (d:aD):List AV:=[.int .i64 d.eZ,.int .i64 d.eT]
def aa (d:ad):List AV:=[.int .i64 d.aQ.eZ,.int .i64 d.aQ.eT,.int .i64 d.aV]
def aP (d:dP):List AV:=[.sl (d.ah.map aa)]
def bI (d:fB):List AV:=[.str d.aC,.int .i64 d.ez]
def bE (d:eS):List AV:=[.str d.aC,.sl (d.bt.map br)]
def ab (d:au):List AV:=[.sl (d.ax.map bI),.sl (d.ah.map bE)]
def aw (d:aA):List AV:=[.sl (d.aE.ax.map bI),.sl (d.aE.ah.map bE),.sl (d.bc.ah.map aa),.int .i64 d.aB]
theorem tE {f:List Nat} {v:Value} {xs:List ad} (h:ja w f v xs) (hD:∀b∈f,D b):jF P w D (.sl (xs.map aa)) v:=
 sb h hD (fun _ _=>rfl) (fun x _ a ha=>by simp[aa]at ha;rcases ha with rfl|rfl|rfl<;>rfl) fun x _ f' cs hr hf=>by
  obtain⟨_,rfl⟩:=hr
  intro j a ha
  match j,ha with
  |0,ha=>simp[aa]at ha;subst ha;exact⟨_,rfl,.int _ _⟩
  |1,ha=>simp[aa]at ha;subst ha;exact⟨_,rfl,.int _ _⟩
  |2,ha=>simp[aa]at ha;subst ha;exact⟨_,rfl,.int _ _⟩
  |j+3,ha=>simp[aa]at ha
theorem zk {d:dP} {f0:List Nat} {v0:Value} (h0:ja w f0 v0 d.ah) (d0:∀b∈f0,D b):jF P w D (.agg (aP d)) (.agg #[v0]):=by
 refine .agg _ _ (fun j=>(#[v0]:Array Value).getD j Go.undef) rfl (fun a ha=>by simp[aP]at ha;rcases ha with rfl<;>rfl) (fun j hj=>?_) (fun j a ha=>?_)
 ·match j,hj with
  |0,_=>rfl
  |j+1,hj=>simp[aP]at hj<;>omega
 ·match j,ha with
  |0,ha=>simp[aP]at ha;subst ha;exact tE h0 d0
  |j+1,ha=>simp[aP]at ha
theorem FN {f:List Nat} {v:Value} {xs:List fB} (h:re w f v xs) (hD:∀b∈f,D b):jF P w D (.sl (xs.map bI)) v:=
 sb h hD (fun _ _=>rfl) (fun x _ a ha=>by simp[bI]at ha;rcases ha with rfl|rfl<;>rfl) fun x _ f' cs hr hf=>by
  obtain⟨_,rfl⟩:=hr
  intro j a ha
  match j,ha with
  |0,ha=>simp[bI]at ha;subst ha;exact⟨_,rfl,.str _⟩
  |1,ha=>simp[bI]at ha;subst ha;exact⟨_,rfl,.int _ _⟩
  |j+2,ha=>simp[bI]at ha
theorem CW {f:List Nat} {v:Value} {xs:List Int} (h:vm w f v xs) (hD:∀b∈f,D b):jF P w D (.sl (xs.map br)) v:=
 sb h hD (fun _ _=>rfl) (fun x _ a ha=>by simp[br]at ha;rcases ha with rfl<;>rfl) fun x _ f' cs hr hf=>by
  obtain⟨_,rfl⟩:=hr
  intro j a ha
  match j,ha with
  |0,ha=>simp[br]at ha;subst ha;exact⟨_,rfl,.int _ _⟩
  |j+1,ha=>simp[br]at ha
theorem FQ {f:List Nat} {v:Value} {xs:List eS} (h:rf w f v xs) (hD:∀b∈f,D b):jF P w D (.sl (xs.map bE)) v:=
 sb h hD (fun _ _=>rfl) (fun x _ a ha=>by simp[bE]at ha;rcases ha with rfl|rfl<;>rfl) fun x _ f' cs hr hf=>by
  obtain⟨v1,f1,rfl,rfl,h1⟩:=hr
  intro j a ha
  match j,ha with
  |0,ha=>simp[bE]at ha;subst ha;exact⟨_,rfl,.str _⟩
  |1,ha=>simp[bE]at ha;subst ha;exact⟨_,rfl,CW h1 hf⟩
  |j+2,ha=>simp[bE]at ha
theorem CZ {d:aA} {f0:List Nat} {v0:Value} (h0:re w f0 v0 d.aE.ax) (d0:∀b∈f0,D b) {f1:List Nat} {v1:Value} (h1:rf w f1 v1 d.aE.ah) (d1:∀b∈f1,D b) {f2:List Nat} {v2:Value} (h2:ja w f2 v2 d.bc.ah) (d2:∀b∈f2,D b):jF P w D (.agg (aw d)) (.agg #[v0,v1,v2,.int .i64 d.aB]):=by
 refine .agg _ _ (fun j=>(#[v0,v1,v2,.int .i64 d.aB]:Array Value).getD j Go.undef) rfl (fun a ha=>by simp[aw]at ha;rcases ha with rfl|rfl|rfl|rfl<;>rfl) (fun j hj=>?_) (fun j a ha=>?_)
 ·match j,hj with
  |0,_=>rfl
  |1,_=>rfl
  |2,_=>rfl
  |3,_=>rfl
  |j+4,hj=>simp[aw]at hj<;>omega
 ·match j,ha with
  |0,ha=>simp[aw]at ha;subst ha;exact FN h0 d0
  |1,ha=>simp[aw]at ha;subst ha;exact FQ h1 d1
  |2,ha=>simp[aw]at ha;subst ha;exact tE h2 d2
  |3,ha=>simp[aw]at ha;subst ha;exact .int _ _
  |j+4,ha=>simp[aw]at ha
end Go.Proofs.YtgoelphibofcmaaGreat.V

namespace Go.Proofs.YtgoelphibofcmaaGreat.V
open Go.RowKit
attribute [local irreducible] dG wpOps gy Call
attribute [local go_sem] aM fF eP ga fW cQ upd cz K.av cR AV.cells AV.cell rowOf rowsOf part ld rowAt bq cu dD ee ik bJ dh ev fU eX dr ej dd dc dQ dR bQ bf cW bP cY cX eh ek ei cV cj de ef bK aO da cG ij bw cK bU aY dn aZ dE AV.undef bD bG dV ec dM dK cH eu ew cF ep eo cZ db List.getD_cons_zero List.getD_cons_succ List.getD_nil List.all_cons List.all_nil Bool.and_true Bool.true_and Bool.and_self Bool.not_true Bool.not_false Option.map_some Option.map_none Option.bind_some Option.bind_none List.length_cons List.length_nil List.take_succ_cons List.take_zero List.take_nil List.drop_succ_cons List.drop_zero List.drop_nil List.head?_cons List.map_cons List.map_nil List.getElem?_cons_zero List.getElem?_cons_succ List.cons_append List.nil_append List.append_nil List.length_map List.set_cons_zero List.set_cons_succ Nat.reduceMul eq_self Int.toNat_natCast Int.natCast_nonneg and_self true_and and_true decide_true decide_false Bool.false_eq_true Nat.zero_add Nat.add_zero List.contains_cons List.contains_nil Bool.or_false Bool.false_or beq_self_eq_true Nat.reduceBEq ne_eq not_true_eq_false not_false_eq_true Id.mk.injEq false_and and_false Nat.reduceLT Int.reduceLE Int.reduceLT Int.reduceToNat Int.reduceNeg Int.reduceAdd Nat.le_refl List.length_append beq_true beq_false Bool.not_eq_eq_eq_not or_false false_or dL ai aj aH bl bB cw aX bd aU bh cU bH
variable {P:Program}
theorem Kr {X:fG} {Q:Ex->Env->ar->Prop} {N:Env->ar->Prop} {c:VC} {env:Env} {σ:ar} (I:Env->ar->Prop) (h2:∀e s,I e s->N e s) (h1:∀N':Env->ar->Prop,(∀e s,I e s->N' e s)->dG X c (dn N' Q) env σ):dG X c (dn N Q) env σ:=h1 N h2
def s8 (f z:Nat) (a:Bool):AK:=let s:=f*1000000
 ⟨19,2,(.seq (.eH false [q 4 (.dm (.k (.int .i64 0))) s]) (.seq (.seq (.eH false [q 6 (.dm (.t 0)) (s+1000),q 7 (.len (.t 6)) (s+1001),q 8 (.dm (.k (.int .i64 0))) (s+1002)]) (.block 0 (.loop (.seq (.eH false [q 9 (.bin .lss .i64 (.t 8) (.t 7)) (s+2000)]) (.seq (.cond (.t 9) .skip (.exit 0)) (.seq (.block 1 (.seq (.eH false [q 10 (.dm (.t 8)) (s+3000),q 5 (.dm (.t 10)) (s+3001)]) (.seq (.eH false [q 11 (.dm (.t 1)) (s+4000),q 12 (.dm (.t 0)) (s+4001),q 13 (.dm (.t 5)) (s+4002),q 14 (.dJ z (.t 12) (.t 13)) (s+4003),q 15 (.load a z (.t 14)) (s+4004),q 16 (.tK (.t 11) [(.t 15)]) (s+4005)]) (.cond (.t 16) (.seq (.eH false [q 17 (.dm (.t 5)) (s+5000),q 4 (.dm (.t 17)) (s+5001)]) .ret) .skip)))) (.eH false [q 18 (.bin .add .i64 (.t 8) (.k (.int .i64 1))) (s+6000),q 8 (.dm (.t 18)) (s+6001)]))))))) (.seq (.eH false [q 4 (.dm (.k (.int .i64 (-1)))) (s+7000)]) .ret))),[(.tmp 4)]⟩
def zM (f g:Nat):AK:=let s:=f*1000000
 ⟨9,2,(.seq (.eH false [q 4 (.dm (.k (.bool false))) s]) (.seq (.eH false [q 5 (.dm (.t 0)) (s+1000),q 6 (.dm (.t 1)) (s+1001),q 7 (.call g [(.t 5),(.t 6)]) (s+1002),q 8 (.bin .geq .i64 (.t 7) (.k (.int .i64 0))) (s+1003),q 4 (.dm (.t 8)) (s+1004)]) .ret)),[(.tmp 4)]⟩
def kh {α:Type} (p:α->Bool) (xs:List α):Int:=if xs.findIdx p<xs.length then(xs.findIdx p:Int)else -1
theorem Io {α:Type} (p:α->Bool) (xs:List α):decide (0<=kh p xs)=xs.any p:=by
 unfold kh
 by_cases h:xs.findIdx p<xs.length
 ·rw[if_pos h]
  have:xs.any p=true:=List.any_eq_true.2 (List.findIdx_lt_length.1 h)
  rw[this];simp
 ·rw[if_neg h]
  have:xs.any p=false:=by
   rw[Bool.eq_false_iff]
   intro hc
   exact h (List.findIdx_lt_length.2 (List.any_eq_true.1 hc))
  rw[this];rfl
theorem uC (a:AV) (l m:List AV):a::l++m=a::(l++m):=rfl
theorem zu (l:List AV):[]++l=l:=rfl
structure Qf {α:Type} (e:α->List AV) (v:α->AV) (z:Nat) (a:Bool):Prop where
 len:∀x,(e x).length=z
 val:∀x,if a=true then v x=.agg (e x)else e x=[v x]
 fz:∀x g,cN g 6 [v x]=some [v x]
theorem tU {α:Type} {e:α->List AV} {v:α->AV} {z fk:Nat} {a:Bool} (hE:Qf e v z a) (hc:mi P fk=some (s8 fk z a)) (xs:List α) (hlen:xs.length<=1048576) (f:Nat) (cL:List AV) (p:α->Bool)
  (hf:∀x∈xs,aq P f (v x::cL) (.bool (p x))) (IG:∀g,cN g 6 cL=some cL):
  aq P fk [.sl (xs.map e),.fn f cL] (.int .i64 (kh p xs)):=by
 refine aq.body hc rfl fun hl n0=>?_
 try simp only[q]
 clear hl
 (try((repeat(revert hN;revert N;apply Pn.out));refine wk @Nat.zero_add ?_;(repeat(refine Pn.mk ?_;intro N hN))))
 refine aW (fun n env st=>∃k:Nat,n=(xs.length)-k/\k<=(xs.length)/\env 8=.int .i64 (k:Int)/\(∀j:Nat,j<k->∀h:j<xs.length,p xs[j]=false)) (xs.length) ⟨0,by omega,by omega,sl @Nat.zero_add,fun _ h=>absurd h (Nat.not_lt_zero _)⟩ ?_
 rintro n_a env_a st_a ⟨k,rfl,ale,a8,l6⟩ dH
 have a0:=dH 0 (by kernel_rfl);have a1:=dH 1 (by kernel_rfl);have a7:=dH 7 (by kernel_rfl)
 simp only[go_sem, ↓reduceIte,Nat.reduceEqDiff,Nat.reduceAdd,Nat.reduceSub,Nat.reduceLeDiff,reduceCtorEq]at a0 a1 a7
 clear dH
 by_cases hk:(k:Int)<(xs.length:Int)
 ·have cE:∀{e:Env},(e 8=.int .i64 (IntKind.i64.wrap ((k:Int)+1)))->(∀h:k<xs.length,p xs[k]=false)->∃m0,m0<(xs.length)-k/\∃k:Nat,m0=(xs.length)-k/\k<=(xs.length)/\e 8=.int .i64 (k:Int)/\(∀j:Nat,j<k->∀h:j<xs.length,p xs[j]=false):=fun x1 x2=>⟨_,by omega,k+1,rfl,by omega,(by rw[x1,az (by omega)]),(all_succ l6 x2)⟩
  have fA:k<xs.length:=by omega
  have hg:(xs.map e)[k]? =some (e xs[k]):=by simp[fA]
  have Ff:=hf _ (List.getElem_mem fA)
  have hz:=hE.len xs[k]
  have hv:=hE.val xs[k]
  have lI:cN (dL st_a.get) 6 (v xs[k]::cL)=some (v xs[k]::cL):=by
   have h1:=hE.fz xs[k] (dL st_a.get)
   rw[ai,aj]at h1
   rw[ai,IG]
   revert h1
   cases V.fz (dL st_a.get) 6 (v xs[k])<;>simp
  have fin:∀hN:True,(p xs[k]=true->xs.findIdx p=k):=fun _ hp=>by
   rw[List.findIdx_eq fA];exact⟨hp,fun j hj=>l6 j hj (by omega)⟩
  cases hp:p xs[k]
  ·have SO:=hp
   cases a
   ·rw[if_neg (by simp)]at hv
    have AR:z=1:=by rw[<-hz,hv];rfl
    subst AR
    rw[hv]at hg hz
    rw[hp]at Ff
    generalize v xs[k]=c at Ff lI hg hz
    (try((repeat(revert hN;revert N;apply Pn.out));refine wk (tw @a8 (tw @a0 (tw @a1 (tw @a7 (tw @hk (tw @hg (tw @hz (tw @uC @zu)))))))) ?_;(repeat(refine Pn.mk ?_;intro N hN))))
    refine .inl ⟨_,aq.x Ff lI,?_⟩
    refine hN _ _ ?_
    clear hN N
    (try((repeat(revert hN;revert N;apply Pn.out));refine wk (tw @a8 (tw @a0 (tw @a1 @a7))) ?_;(repeat(refine Pn.mk ?_;intro N hN))))
    exact cE (sd (tw @a8 (tw @a0 (tw @a1 @a7)))) (fun _=>SO)
   ·rw[if_pos rfl]at hv
    have ht:(e xs[k]).take z=e xs[k]:=by rw[<-hz,List.take_length]
    rw[hv]at Ff lI
    rw[hp]at Ff
    generalize e xs[k]=c at Ff lI hg hz ht
    (try((repeat(revert hN;revert N;apply Pn.out));refine wk (tw @a8 (tw @a0 (tw @a1 (tw @a7 (tw @hk (tw @hg (tw @hz (tw @ht (tw @uC (tw @zu @Nat.le_refl)))))))))) ?_;(repeat(refine Pn.mk ?_;intro N hN))))
    refine .inl ⟨_,aq.x Ff lI,?_⟩
    refine hN _ _ ?_
    clear hN N
    (try((repeat(revert hN;revert N;apply Pn.out));refine wk (tw @a8 (tw @a0 (tw @a1 @a7))) ?_;(repeat(refine Pn.mk ?_;intro N hN))))
    exact cE (sd (tw @a8 (tw @a0 (tw @a1 @a7)))) (fun _=>SO)
  ·have hi:=fin trivial hp
   cases a
   ·rw[if_neg (by simp)]at hv
    have AR:z=1:=by rw[<-hz,hv];rfl
    subst AR
    rw[hv]at hg hz
    rw[hp]at Ff
    generalize v xs[k]=c at Ff lI hg hz
    (try((repeat(revert hN;revert N;apply Pn.out));refine wk (tw @a8 (tw @a0 (tw @a1 (tw @a7 (tw @hk (tw @hg (tw @hz (tw @uC @zu)))))))) ?_;(repeat(refine Pn.mk ?_;intro N hN))))
    refine .inl ⟨_,aq.x Ff lI,?_⟩
    refine hN _ _ ?_
    clear hN N
    (try((repeat(revert hN;revert N;apply Pn.out));refine wk (tw @a8 (tw @a0 (tw @a1 @a7))) ?_;(repeat(refine Pn.mk ?_;intro N hN))))
    exact b4 (b:=(k:Int)) (.inl rfl) (sd @Nat.zero_add) (by rw[kh,hi,if_pos fA])
   ·rw[if_pos rfl]at hv
    have ht:(e xs[k]).take z=e xs[k]:=by rw[<-hz,List.take_length]
    rw[hv]at Ff lI
    rw[hp]at Ff
    generalize e xs[k]=c at Ff lI hg hz ht
    (try((repeat(revert hN;revert N;apply Pn.out));refine wk (tw @a8 (tw @a0 (tw @a1 (tw @a7 (tw @hk (tw @hg (tw @hz (tw @ht (tw @uC (tw @zu @Nat.le_refl)))))))))) ?_;(repeat(refine Pn.mk ?_;intro N hN))))
    refine .inl ⟨_,aq.x Ff lI,?_⟩
    refine hN _ _ ?_
    clear hN N
    (try((repeat(revert hN;revert N;apply Pn.out));refine wk (tw @a8 (tw @a0 (tw @a1 @a7))) ?_;(repeat(refine Pn.mk ?_;intro N hN))))
    exact b4 (b:=(k:Int)) (.inl rfl) (sd @Nat.zero_add) (by rw[kh,hi,if_pos fA])
 ·(try((repeat(revert hN;revert N;apply Pn.out));refine wk (tw @a8 (tw @a0 (tw @a1 (tw @a7 @hk)))) ?_;(repeat(refine Pn.mk ?_;intro N hN))))
  have hi:¬xs.findIdx p<xs.length:=by
   rw[List.findIdx_lt_length]
   rintro⟨x,hx,LC⟩
   obtain⟨j,hj,rfl⟩:=List.getElem_of_mem hx
   rw[l6 j (by omega) hj]at LC;cases LC
  exact b4 (b:=-1) (.inl rfl) (sd @Nat.zero_add) (by rw[kh,if_neg hi])
theorem kJ {α:Type} {e:α->List AV} {v:α->AV} {z fk gk:Nat} {a:Bool} (hE:Qf e v z a) (hc:mi P fk=some (zM fk gk)) (Gj:mi P gk=some (s8 gk z a)) (xs:List α) (hlen:xs.length<=1048576) (f:Nat) (cL:List AV) (p:α->Bool) (IA:cL.all AV.cell=true) (CJ:∀g,cN g 5 cL=some cL)
  (hf:∀x∈xs,aq P f (v x::cL) (.bool (p x))) (IG:∀g,cN g 6 cL=some cL):
  aq P fk [.sl (xs.map e),.fn f cL] (.bool (xs.any p)):=by
 refine aq.body hc rfl fun hl n0=>?_
 try simp only[q]
 clear hl
 have hi:=tU hE Gj xs hlen f cL p hf IG
 (repeat(first|((repeat(revert hN;revert N;apply Pn.out));refine wk (tw @IA @CJ) ?_;(repeat(refine Pn.mk ?_;intro N hN)))|((try apply Or.inl);refine⟨_,aq.x (hi) (sd (tw @IA @CJ)),?_⟩;refine hN _ _ ?_;clear hN N)))
 exact aT (b:=decide (0<=kh p xs)) (.inl rfl) (sd @Nat.zero_add) (Io p xs)
end Go.Proofs.YtgoelphibofcmaaGreat.V

namespace Go.Proofs.YtgoelphibofcmaaGreat.V
open Go.RowKit
def rS (P:Program) (mk:Bool):List Oper->Nat->List Nat
 |[],_=>[]
 |o::r,i=>match qV P o.op with
  |some v=>if qO v||mk&&v.lT then i::rS P mk r (i+1)else rS P mk r (i+1)
  |none=>rS P mk r (i+1)
def zy (P:Program) (ops:Array Oper) (site0:Nat) (mk:Bool) (bs:Array Nat) (hidden:List Nat):List Oper->Nat->Option (List bj)
 |[],_=>some []
 |o::r,j=>do
  let v <-qV P o.op
  let g <-C7 ops o
  pure ({dst:=o.dst,op:=v,guard:=g,site:=site0+j,hid:=(hidden.filter fun i=> !(bs.getD j 0).testBit i&&(i !=j||mk&&v.lT)).map fun i=>site0+i}::(<-zy P ops site0 mk bs hidden r (j+1)))
def qk (P:Program) (md:List (Nat×Nat)) (fid:Nat):Code->Option VC
 | .skip=>some .skip
 | .region id ops draw=>if draw then(zy P ops ((fid*1000+id)*1000) (wK md id==1) (jC ops) (rS P (wK md id==1) ops.toList 0) ops.toList 0).map (VC.eH true)else(zy P ops ((fid*1000+id)*1000) false #[] [] ops.toList 0).map (if ops.toList.any fun o=>M6 o.op then VC.NG else VC.eH false)
 | .seq a b=>do pure (.seq (<-qk P md fid a) (<-qk P md fid b))
 | .cond c x y=>do pure (.cond (<-cO P c) (<-qk P md fid x) (<-qk P md fid y))
 | .block id c=>(qk P md fid c).map (VC.block id)
 | .loop c=>(qk P md fid c).map VC.loop
 | .exit id=>some (.exit id)
 | .ret=>some .ret
 |_=>none
def Qm (P:Program) (md:List (Nat×Nat)) (f:Nat):Option AK:=
 match P.funcs[f]? with
 |some fn=>match fn.body with
  |some c=>do
   let b <-qk P md f c
   let r <-fn.results.toList.mapM (C8 P)
   pure {ntmps:=fn.ntmps,yV:=fn.params.size+fn.nfree,body:=b,res:=r}
  |none=>none
 |none=>none
theorem cfM {P:Program} (md:List (Nat×Nat)) {f:Nat} {v:AK} (_:Qm P md f=some v:=by(conv=>lhs;cbv)<;>exact rfl) (h:xK P f md=some v:=by kernel_rfl):xK P f md=some v:=h
theorem eC {P:Program} {f:Nat} {v:AK} (_:Qm P [] f=some v:=by(conv=>lhs;cbv)<;>exact rfl) (h:mi P f=some v:=by kernel_rfl):mi P f=some v:=h
end Go.Proofs.YtgoelphibofcmaaGreat.V

namespace Go.Proofs.YtgoelphibofcmaaGreat.V
open Go.RowKit
def Pd:AK:=⟨77,2,(.seq (.eH false [q 4 (.dm (.k .gR)) 237000000]) (.seq (.eH false [q 7 (.dm (.t 0)) 237001000,q 8 (.dm (.t 1)) 237001001,q 9 (.build [(.int .i64 0),.cm,.cm,.cm] [(0,(1,(.t 7))),(1,(1,(.t 8)))]) 237001002,q 10 (.box (.t 9)) 237001003,q 5 (.dm (.t 10)) 237001004]) (.seq (.eH false [q 11 (.dm (.t 5)) 237002000,q 12 (.dm (.t 0)) 237002001,q 13 (.jX [.cm] (.t 12) (.t 12)) 237002002,q 14 (.AL (.t 11)) 237002003,q 15 (.fR 2 (.t 14)) 237002004,⟨none,(.store 1 (.t 15) (.t 13)),none,237002005,[]⟩]) (.seq (.eH false [q 16 (.dm (.t 5)) 237003000,q 17 (.dm (.t 1)) 237003001,q 18 (.len (.t 17)) 237003002,q 19 (.jX [(.int .i64 0)] (.t 18) (.t 18)) 237003003,q 20 (.AL (.t 16)) 237003004,q 21 (.fR 3 (.t 20)) 237003005,⟨none,(.store 1 (.t 21) (.t 19)),none,237003006,[]⟩]) (.seq (.seq (.eH false [q 6 (.dm (.k (.int .i64 0))) 237004000]) (.block 0 (.loop (.seq (.seq (.eH false [q 22 (.dm (.t 6)) 237005000,q 23 (.dm (.t 1)) 237005001,q 24 (.len (.t 23)) 237005002,q 25 (.bin .lss .i64 (.t 22) (.t 24)) 237005003]) (.cond (.t 25) .skip (.exit 0))) (.seq (.block 1 (.seq (.one ⟨(some 28),(.dm (.t 5)),none,237007000,[237007021,237007022,237007024]⟩ (.one ⟨(some 29),(.AL (.t 28)),none,237007001,[237007021,237007022,237007024]⟩ (.one ⟨(some 30),(.fR 2 (.t 29)),none,237007002,[237007021,237007022,237007024]⟩ (.one ⟨(some 32),(.dm (.t 1)),none,237007004,[237007021,237007022,237007024]⟩ (.one ⟨(some 33),(.dm (.t 6)),none,237007005,[237007021,237007022,237007024]⟩ (.one ⟨(some 37),(.dm (.t 5)),none,237007009,[237007021,237007022,237007024]⟩ (.one ⟨(some 38),(.AL (.t 37)),none,237007010,[237007021,237007022,237007024]⟩ (.one ⟨(some 39),(.fR 2 (.t 38)),none,237007011,[237007021,237007022,237007024]⟩ (.one ⟨(some 40),(.load false 1 (.t 39)),none,237007012,[237007021,237007022,237007024]⟩ (.one ⟨(some 41),(.dm (.t 1)),none,237007013,[237007021,237007022,237007024]⟩ (.one ⟨(some 42),(.dm (.t 6)),none,237007014,[237007021,237007022,237007024]⟩ (.one ⟨(some 43),(.dJ 3 (.t 41) (.t 42)),none,237007015,[237007021,237007022,237007024]⟩ (.one ⟨(some 44),(.fR 0 (.t 43)),none,237007016,[237007021,237007022,237007024]⟩ (.one ⟨(some 45),(.load false 1 (.t 44)),none,237007017,[237007021,237007022,237007024]⟩ (.one ⟨(some 46),(.dJ 1 (.t 40) (.t 45)),none,237007018,[237007021,237007022,237007024]⟩ (.one ⟨(some 47),(.load false 1 (.t 46)),none,237007019,[237007021,237007022,237007024]⟩ (.one ⟨(some 48),(.dm (.t 6)),none,237007020,[237007021,237007022,237007024]⟩ (.one ⟨(some 49),(.lS 1 1 [(.t 48)]),none,237007021,[237007022,237007024]⟩ (.both (.one ⟨(some 31),(.load false 1 (.t 30)),none,237007003,[237007021,237007022,237007024]⟩ (.both (.one ⟨(some 34),(.dJ 3 (.t 32) (.t 33)),none,237007006,[237007021,237007022,237007024]⟩ (.one ⟨(some 35),(.fR 0 (.t 34)),none,237007007,[237007021,237007022,237007024]⟩ (.both (.one ⟨(some 36),(.load false 1 (.t 35)),none,237007008,[237007021,237007022,237007024]⟩ (.one ⟨(some 50),(.append 1 (.t 47) (.t 49)),none,237007022,[237007024]⟩ (.one ⟨(some 51),(.dJ 1 (.t 31) (.t 36)),none,237007023,[237007024]⟩ (.one ⟨none,(.store 1 (.t 51) (.t 50)),none,237007024,[]⟩ (.eH false []))))) (.one ⟨(some 50),(.append 1 (.t 47) (.t 49)),none,237007022,[237007024]⟩ (.one ⟨(some 36),(.load false 1 (.t 35)),none,237007008,[237007021,237007022,237007024]⟩ (.one ⟨(some 51),(.dJ 1 (.t 31) (.t 36)),none,237007023,[237007024]⟩ (.one ⟨none,(.store 1 (.t 51) (.t 50)),none,237007024,[]⟩ (.eH false [])))))))) (.one ⟨(some 50),(.append 1 (.t 47) (.t 49)),none,237007022,[237007024]⟩ (.one ⟨(some 34),(.dJ 3 (.t 32) (.t 33)),none,237007006,[237007021,237007022,237007024]⟩ (.one ⟨(some 35),(.fR 0 (.t 34)),none,237007007,[237007021,237007022,237007024]⟩ (.one ⟨(some 36),(.load false 1 (.t 35)),none,237007008,[237007021,237007022,237007024]⟩ (.one ⟨(some 51),(.dJ 1 (.t 31) (.t 36)),none,237007023,[237007024]⟩ (.one ⟨none,(.store 1 (.t 51) (.t 50)),none,237007024,[]⟩ (.eH false []))))))))) (.both (.one ⟨(some 34),(.dJ 3 (.t 32) (.t 33)),none,237007006,[237007021,237007022,237007024]⟩ (.one ⟨(some 35),(.fR 0 (.t 34)),none,237007007,[237007021,237007022,237007024]⟩ (.both (.one ⟨(some 31),(.load false 1 (.t 30)),none,237007003,[237007021,237007022,237007024]⟩ (.both (.one ⟨(some 36),(.load false 1 (.t 35)),none,237007008,[237007021,237007022,237007024]⟩ (.one ⟨(some 50),(.append 1 (.t 47) (.t 49)),none,237007022,[237007024]⟩ (.one ⟨(some 51),(.dJ 1 (.t 31) (.t 36)),none,237007023,[237007024]⟩ (.one ⟨none,(.store 1 (.t 51) (.t 50)),none,237007024,[]⟩ (.eH false []))))) (.one ⟨(some 50),(.append 1 (.t 47) (.t 49)),none,237007022,[237007024]⟩ (.one ⟨(some 36),(.load false 1 (.t 35)),none,237007008,[237007021,237007022,237007024]⟩ (.one ⟨(some 51),(.dJ 1 (.t 31) (.t 36)),none,237007023,[237007024]⟩ (.one ⟨none,(.store 1 (.t 51) (.t 50)),none,237007024,[]⟩ (.eH false []))))))) (.both (.one ⟨(some 36),(.load false 1 (.t 35)),none,237007008,[237007021,237007022,237007024]⟩ (.both (.one ⟨(some 31),(.load false 1 (.t 30)),none,237007003,[237007021,237007022,237007024]⟩ (.one ⟨(some 50),(.append 1 (.t 47) (.t 49)),none,237007022,[237007024]⟩ (.one ⟨(some 51),(.dJ 1 (.t 31) (.t 36)),none,237007023,[237007024]⟩ (.one ⟨none,(.store 1 (.t 51) (.t 50)),none,237007024,[]⟩ (.eH false []))))) (.one ⟨(some 50),(.append 1 (.t 47) (.t 49)),none,237007022,[237007024]⟩ (.one ⟨(some 31),(.load false 1 (.t 30)),none,237007003,[237007021,237007022,237007024]⟩ (.one ⟨(some 51),(.dJ 1 (.t 31) (.t 36)),none,237007023,[237007024]⟩ (.one ⟨none,(.store 1 (.t 51) (.t 50)),none,237007024,[]⟩ (.eH false []))))))) (.one ⟨(some 50),(.append 1 (.t 47) (.t 49)),none,237007022,[237007024]⟩ (.one ⟨(some 31),(.load false 1 (.t 30)),none,237007003,[237007021,237007022,237007024]⟩ (.one ⟨(some 36),(.load false 1 (.t 35)),none,237007008,[237007021,237007022,237007024]⟩ (.one ⟨(some 51),(.dJ 1 (.t 31) (.t 36)),none,237007023,[237007024]⟩ (.one ⟨none,(.store 1 (.t 51) (.t 50)),none,237007024,[]⟩ (.eH false [])))))))))) (.one ⟨(some 50),(.append 1 (.t 47) (.t 49)),none,237007022,[237007024]⟩ (.one ⟨(some 31),(.load false 1 (.t 30)),none,237007003,[237007021,237007022,237007024]⟩ (.one ⟨(some 34),(.dJ 3 (.t 32) (.t 33)),none,237007006,[237007021,237007022,237007024]⟩ (.one ⟨(some 35),(.fR 0 (.t 34)),none,237007007,[237007021,237007022,237007024]⟩ (.one ⟨(some 36),(.load false 1 (.t 35)),none,237007008,[237007021,237007022,237007024]⟩ (.one ⟨(some 51),(.dJ 1 (.t 31) (.t 36)),none,237007023,[237007024]⟩ (.one ⟨none,(.store 1 (.t 51) (.t 50)),none,237007024,[]⟩ (.eH false [])))))))))))))))))))))))))))) (.one ⟨(some 52),(.dm (.t 5)),none,237008000,[237008021,237008022,237008024]⟩ (.one ⟨(some 53),(.AL (.t 52)),none,237008001,[237008021,237008022,237008024]⟩ (.one ⟨(some 54),(.fR 2 (.t 53)),none,237008002,[237008021,237008022,237008024]⟩ (.one ⟨(some 56),(.dm (.t 1)),none,237008004,[237008021,237008022,237008024]⟩ (.one ⟨(some 57),(.dm (.t 6)),none,237008005,[237008021,237008022,237008024]⟩ (.one ⟨(some 61),(.dm (.t 5)),none,237008009,[237008021,237008022,237008024]⟩ (.one ⟨(some 62),(.AL (.t 61)),none,237008010,[237008021,237008022,237008024]⟩ (.one ⟨(some 63),(.fR 2 (.t 62)),none,237008011,[237008021,237008022,237008024]⟩ (.one ⟨(some 64),(.load false 1 (.t 63)),none,237008012,[237008021,237008022,237008024]⟩ (.one ⟨(some 65),(.dm (.t 1)),none,237008013,[237008021,237008022,237008024]⟩ (.one ⟨(some 66),(.dm (.t 6)),none,237008014,[237008021,237008022,237008024]⟩ (.one ⟨(some 67),(.dJ 3 (.t 65) (.t 66)),none,237008015,[237008021,237008022,237008024]⟩ (.one ⟨(some 68),(.fR 1 (.t 67)),none,237008016,[237008021,237008022,237008024]⟩ (.one ⟨(some 69),(.load false 1 (.t 68)),none,237008017,[237008021,237008022,237008024]⟩ (.one ⟨(some 70),(.dJ 1 (.t 64) (.t 69)),none,237008018,[237008021,237008022,237008024]⟩ (.one ⟨(some 71),(.load false 1 (.t 70)),none,237008019,[237008021,237008022,237008024]⟩ (.one ⟨(some 72),(.dm (.t 6)),none,237008020,[237008021,237008022,237008024]⟩ (.one ⟨(some 73),(.lS 1 1 [(.t 72)]),none,237008021,[237008022,237008024]⟩ (.both (.one ⟨(some 55),(.load false 1 (.t 54)),none,237008003,[237008021,237008022,237008024]⟩ (.both (.one ⟨(some 58),(.dJ 3 (.t 56) (.t 57)),none,237008006,[237008021,237008022,237008024]⟩ (.one ⟨(some 59),(.fR 1 (.t 58)),none,237008007,[237008021,237008022,237008024]⟩ (.both (.one ⟨(some 60),(.load false 1 (.t 59)),none,237008008,[237008021,237008022,237008024]⟩ (.one ⟨(some 74),(.append 1 (.t 71) (.t 73)),none,237008022,[237008024]⟩ (.one ⟨(some 75),(.dJ 1 (.t 55) (.t 60)),none,237008023,[237008024]⟩ (.one ⟨none,(.store 1 (.t 75) (.t 74)),none,237008024,[]⟩ (.eH false []))))) (.one ⟨(some 74),(.append 1 (.t 71) (.t 73)),none,237008022,[237008024]⟩ (.one ⟨(some 60),(.load false 1 (.t 59)),none,237008008,[237008021,237008022,237008024]⟩ (.one ⟨(some 75),(.dJ 1 (.t 55) (.t 60)),none,237008023,[237008024]⟩ (.one ⟨none,(.store 1 (.t 75) (.t 74)),none,237008024,[]⟩ (.eH false [])))))))) (.one ⟨(some 74),(.append 1 (.t 71) (.t 73)),none,237008022,[237008024]⟩ (.one ⟨(some 58),(.dJ 3 (.t 56) (.t 57)),none,237008006,[237008021,237008022,237008024]⟩ (.one ⟨(some 59),(.fR 1 (.t 58)),none,237008007,[237008021,237008022,237008024]⟩ (.one ⟨(some 60),(.load false 1 (.t 59)),none,237008008,[237008021,237008022,237008024]⟩ (.one ⟨(some 75),(.dJ 1 (.t 55) (.t 60)),none,237008023,[237008024]⟩ (.one ⟨none,(.store 1 (.t 75) (.t 74)),none,237008024,[]⟩ (.eH false []))))))))) (.both (.one ⟨(some 58),(.dJ 3 (.t 56) (.t 57)),none,237008006,[237008021,237008022,237008024]⟩ (.one ⟨(some 59),(.fR 1 (.t 58)),none,237008007,[237008021,237008022,237008024]⟩ (.both (.one ⟨(some 55),(.load false 1 (.t 54)),none,237008003,[237008021,237008022,237008024]⟩ (.both (.one ⟨(some 60),(.load false 1 (.t 59)),none,237008008,[237008021,237008022,237008024]⟩ (.one ⟨(some 74),(.append 1 (.t 71) (.t 73)),none,237008022,[237008024]⟩ (.one ⟨(some 75),(.dJ 1 (.t 55) (.t 60)),none,237008023,[237008024]⟩ (.one ⟨none,(.store 1 (.t 75) (.t 74)),none,237008024,[]⟩ (.eH false []))))) (.one ⟨(some 74),(.append 1 (.t 71) (.t 73)),none,237008022,[237008024]⟩ (.one ⟨(some 60),(.load false 1 (.t 59)),none,237008008,[237008021,237008022,237008024]⟩ (.one ⟨(some 75),(.dJ 1 (.t 55) (.t 60)),none,237008023,[237008024]⟩ (.one ⟨none,(.store 1 (.t 75) (.t 74)),none,237008024,[]⟩ (.eH false []))))))) (.both (.one ⟨(some 60),(.load false 1 (.t 59)),none,237008008,[237008021,237008022,237008024]⟩ (.both (.one ⟨(some 55),(.load false 1 (.t 54)),none,237008003,[237008021,237008022,237008024]⟩ (.one ⟨(some 74),(.append 1 (.t 71) (.t 73)),none,237008022,[237008024]⟩ (.one ⟨(some 75),(.dJ 1 (.t 55) (.t 60)),none,237008023,[237008024]⟩ (.one ⟨none,(.store 1 (.t 75) (.t 74)),none,237008024,[]⟩ (.eH false []))))) (.one ⟨(some 74),(.append 1 (.t 71) (.t 73)),none,237008022,[237008024]⟩ (.one ⟨(some 55),(.load false 1 (.t 54)),none,237008003,[237008021,237008022,237008024]⟩ (.one ⟨(some 75),(.dJ 1 (.t 55) (.t 60)),none,237008023,[237008024]⟩ (.one ⟨none,(.store 1 (.t 75) (.t 74)),none,237008024,[]⟩ (.eH false []))))))) (.one ⟨(some 74),(.append 1 (.t 71) (.t 73)),none,237008022,[237008024]⟩ (.one ⟨(some 55),(.load false 1 (.t 54)),none,237008003,[237008021,237008022,237008024]⟩ (.one ⟨(some 60),(.load false 1 (.t 59)),none,237008008,[237008021,237008022,237008024]⟩ (.one ⟨(some 75),(.dJ 1 (.t 55) (.t 60)),none,237008023,[237008024]⟩ (.one ⟨none,(.store 1 (.t 75) (.t 74)),none,237008024,[]⟩ (.eH false [])))))))))) (.one ⟨(some 74),(.append 1 (.t 71) (.t 73)),none,237008022,[237008024]⟩ (.one ⟨(some 55),(.load false 1 (.t 54)),none,237008003,[237008021,237008022,237008024]⟩ (.one ⟨(some 58),(.dJ 3 (.t 56) (.t 57)),none,237008006,[237008021,237008022,237008024]⟩ (.one ⟨(some 59),(.fR 1 (.t 58)),none,237008007,[237008021,237008022,237008024]⟩ (.one ⟨(some 60),(.load false 1 (.t 59)),none,237008008,[237008021,237008022,237008024]⟩ (.one ⟨(some 75),(.dJ 1 (.t 55) (.t 60)),none,237008023,[237008024]⟩ (.one ⟨none,(.store 1 (.t 75) (.t 74)),none,237008024,[]⟩ (.eH false [])))))))))))))))))))))))))))))) (.eH false [q 26 (.dm (.t 6)) 237006000,q 27 (.bin .add .i64 (.t 26) (.k (.int .i64 1))) 237006001,q 6 (.dm (.t 27)) 237006002])))))) (.seq (.eH false [q 76 (.dm (.t 5)) 237009000,q 4 (.dm (.t 76)) 237009001]) .ret)))))),[(.tmp 4)]⟩
theorem ND:xK Tryz.prog 237 [(7,2),(8,2)]=some Pd:=by kernel_rfl
def Pe:AK:=⟨118,2,(.seq (.eH false [q 4 (.dm (.k .cm)) 240000000]) (.seq (.eH false [q 17 (.dm (.t 0)) 240001000,q 18 (.jX [.gR] (.t 17) (.t 17)) 240001001,q 5 (.dm (.t 18)) 240001002]) (.seq (.seq (.eH false [q 19 (.dm (.t 5)) 240002000,q 20 (.len (.t 19)) 240002001,q 21 (.dm (.k (.int .i64 0))) 240002002]) (.block 0 (.loop (.seq (.eH false [q 22 (.bin .lss .i64 (.t 21) (.t 20)) 240003000]) (.seq (.cond (.t 22) .skip (.exit 0)) (.seq (.block 1 (.seq (.eH false [q 23 (.dm (.t 21)) 240004000,q 6 (.dm (.t 23)) 240004001]) (.eH false [q 24 (.dm (.t 5)) 240005000,q 25 (.dm (.t 6)) 240005001,q 26 (.dm (.t 6)) 240005002,q 27 (.build [.gR,(.int .i64 0)] [(1,(1,(.t 26)))]) 240005003,q 28 (.box (.t 27)) 240005004,q 29 (.dJ 1 (.t 24) (.t 25)) 240005005,⟨none,(.store 1 (.t 29) (.t 28)),none,240005006,[]⟩]))) (.eH false [q 30 (.bin .add .i64 (.t 21) (.k (.int .i64 1))) 240006000,q 21 (.dm (.t 30)) 240006001]))))))) (.seq (.seq (.eH false [q 31 (.dm (.t 1)) 240007000,q 32 (.len (.t 31)) 240007001,q 33 (.dm (.k (.int .i64 0))) 240007002]) (.block 2 (.loop (.seq (.eH false [q 34 (.bin .lss .i64 (.t 33) (.t 32)) 240008000]) (.seq (.cond (.t 34) .skip (.exit 2)) (.seq (.block 3 (.seq (.eH false [q 35 (.dJ 3 (.t 31) (.t 33)) 240009000,q 36 (.load true 3 (.t 35)) 240009001,q 8 (.new [(.int .i64 0),(.int .i64 0),(.int .i64 0)]) 240009002,⟨none,(.store 3 (.t 8) (.t 36)),none,240009003,[]⟩]) (.seq (.one (q 37 (.dm (.t 5)) 240010000) (.one (q 38 (.fR 0 (.t 8)) 240010001) (.one (q 39 (.load false 1 (.t 38)) 240010002) (.one (q 40 (.dJ 1 (.t 37) (.t 39)) 240010003) (.one (q 41 (.load false 1 (.t 40)) 240010004) (.one (q 43 (.dm (.t 5)) 240010006) (.one (q 44 (.fR 1 (.t 8)) 240010007) (.both (.one (q 42 (.call 262 [(.t 41)]) 240010005) (.one (q 45 (.load false 1 (.t 44)) 240010008) (.one (q 46 (.dJ 1 (.t 43) (.t 45)) 240010009) (.one (q 47 (.load false 1 (.t 46)) 240010010) (.one (q 48 (.call 262 [(.t 47)]) 240010011) (.one (q 9 (.dm (.t 42)) 240010012) (.one (q 10 (.dm (.t 48)) 240010013) (.eH false [])))))))) (.one (q 45 (.load false 1 (.t 44)) 240010008) (.both (.one (q 42 (.call 262 [(.t 41)]) 240010005) (.one (q 46 (.dJ 1 (.t 43) (.t 45)) 240010009) (.one (q 47 (.load false 1 (.t 46)) 240010010) (.one (q 48 (.call 262 [(.t 47)]) 240010011) (.one (q 9 (.dm (.t 42)) 240010012) (.one (q 10 (.dm (.t 48)) 240010013) (.eH false []))))))) (.one (q 46 (.dJ 1 (.t 43) (.t 45)) 240010009) (.both (.one (q 42 (.call 262 [(.t 41)]) 240010005) (.one (q 47 (.load false 1 (.t 46)) 240010010) (.one (q 48 (.call 262 [(.t 47)]) 240010011) (.one (q 9 (.dm (.t 42)) 240010012) (.one (q 10 (.dm (.t 48)) 240010013) (.eH false [])))))) (.one (q 47 (.load false 1 (.t 46)) 240010010) (.one (q 42 (.call 262 [(.t 41)]) 240010005) (.one (q 48 (.call 262 [(.t 47)]) 240010011) (.one (q 9 (.dm (.t 42)) 240010012) (.one (q 10 (.dm (.t 48)) 240010013) (.eH false [])))))))))))))))))) (.block 4 (.seq (.eH true [q 50 (.dm (.t 9)) 240011000,q 51 (.AL (.t 50)) 240011001,q 52 (.fR 1 (.t 51)) 240011002,q 53 (.load false 1 (.t 52)) 240011003,q 54 (.dm (.t 10)) 240011004,q 55 (.AL (.t 54)) 240011005,q 56 (.fR 1 (.t 55)) 240011006,q 57 (.load false 1 (.t 56)) 240011007,q 58 (.bin .lss .i64 (.t 53) (.t 57)) 240011008,q 49 (.dm (.t 58)) 240011009]) (.cond (.t 49) (.eH false [q 59 (.dm (.t 10)) 240012000,q 60 (.dm (.t 9)) 240012001,q 61 (.AL (.t 59)) 240012002,q 62 (.fR 0 (.t 61)) 240012003,⟨none,(.store 1 (.t 62) (.t 60)),none,240012004,[]⟩]) (.seq (.eH true [q 64 (.dm (.t 10)) 240013000,q 65 (.AL (.t 64)) 240013001,q 66 (.fR 1 (.t 65)) 240013002,q 67 (.load false 1 (.t 66)) 240013003,q 68 (.dm (.t 9)) 240013004,q 69 (.AL (.t 68)) 240013005,q 70 (.fR 1 (.t 69)) 240013006,q 71 (.load false 1 (.t 70)) 240013007,q 72 (.bin .lss .i64 (.t 67) (.t 71)) 240013008,q 63 (.dm (.t 72)) 240013009]) (.cond (.t 63) (.eH false [q 73 (.dm (.t 9)) 240014000,q 74 (.dm (.t 10)) 240014001,q 75 (.AL (.t 73)) 240014002,q 76 (.fR 0 (.t 75)) 240014003,⟨none,(.store 1 (.t 76) (.t 74)),none,240014004,[]⟩]) .skip)))))))) (.eH false [q 77 (.bin .add .i64 (.t 33) (.k (.int .i64 1))) 240015000,q 33 (.dm (.t 77)) 240015001]))))))) (.seq (.eH false [q 11 (.dm (.k .cm)) 240016000]) (.seq (.eH false [⟨(some 78),(.mq (.new ⟨false,[.tI]⟩) []),none,240017000,[]⟩,q 12 (.dm (.t 78)) 240017001]) (.seq (.seq (.eH false [q 79 (.dm (.t 5)) 240018000,q 80 (.len (.t 79)) 240018001,q 81 (.dm (.k (.int .i64 0))) 240018002]) (.block 5 (.loop (.seq (.eH false [q 82 (.bin .lss .i64 (.t 81) (.t 80)) 240019000]) (.seq (.cond (.t 82) .skip (.exit 5)) (.seq (.block 6 (.seq (.eH false [q 83 (.dm (.t 81)) 240020000,q 84 (.dJ 1 (.t 79) (.t 81)) 240020001,q 85 (.load false 1 (.t 84)) 240020002,q 13 (.dm (.t 83)) 240020003,q 14 (.dm (.t 85)) 240020004]) (.seq (.eH false [q 87 (.dm (.t 12)) 240021000,q 88 (.dm (.t 14)) 240021001,q 89 (.call 262 [(.t 88)]) 240021002,q 90 (.AL (.t 89)) 240021003,q 91 (.fR 1 (.t 90)) 240021004,q 92 (.load false 1 (.t 91)) 240021005,⟨(some 93),(.mq (.look ⟨false,[.tI]⟩ true (.int .i64 0)) [(.t 87),(.t 92)]),none,240021006,[]⟩,q 86 (.dm (.t 93)) 240021007,q 94 (.extract 0 (.t 86)) 240021008,q 95 (.extract 1 (.t 86)) 240021009,q 15 (.dm (.t 94)) 240021010,q 16 (.dm (.t 95)) 240021011]) (.seq (.seq (.eH false [q 96 (.dm (.t 16)) 240022000,q 97 (.not (.t 96)) 240022001]) (.cond (.t 97) (.seq (.eH false [q 98 (.dm (.t 11)) 240023000,q 99 (.len (.t 98)) 240023001,q 15 (.dm (.t 99)) 240023002]) (.seq (.eH false [q 100 (.dm (.t 12)) 240024000,q 101 (.dm (.t 13)) 240024001,q 102 (.dm (.t 15)) 240024002,⟨none,(.mw (.set ⟨false,[.tI]⟩) [(.t 100),(.t 101),(.t 102)]),none,240024003,[]⟩]) (.eH false [q 103 (.dm (.t 11)) 240025000,q 104 (.lS 1 1 [(.k .cm)]) 240025001,q 105 (.append 1 (.t 103) (.t 104)) 240025002,q 11 (.dm (.t 105)) 240025003]))) .skip)) (.eH false [q 106 (.dm (.t 11)) 240026000,q 107 (.dm (.t 15)) 240026001,q 108 (.dm (.t 11)) 240026002,q 109 (.dm (.t 15)) 240026003,q 110 (.dJ 1 (.t 108) (.t 109)) 240026004,q 111 (.load false 1 (.t 110)) 240026005,q 112 (.dm (.t 13)) 240026006,q 113 (.lS 1 1 [(.t 112)]) 240026007,q 114 (.append 1 (.t 111) (.t 113)) 240026008,q 115 (.dJ 1 (.t 106) (.t 107)) 240026009,⟨none,(.store 1 (.t 115) (.t 114)),none,240026010,[]⟩]))))) (.eH false [q 116 (.bin .add .i64 (.t 81) (.k (.int .i64 1))) 240027000,q 81 (.dm (.t 116)) 240027001]))))))) (.seq (.eH false [q 117 (.dm (.t 11)) 240028000,q 4 (.dm (.t 117)) 240028001]) .ret)))))))),[(.tmp 4)]⟩
theorem NF:xK Tryz.prog 240 [(10,2)]=some Pe:=by kernel_rfl
end Go.Proofs.YtgoelphibofcmaaGreat.V

namespace Go.Proofs.YtgoelphibofcmaaGreat.V
open Go.RowKit
attribute [local irreducible] dG wpOps gy Call
attribute [local go_sem] aM fF eP ga fW cQ upd cz K.av cR AV.cells AV.cell rowOf rowsOf part ld rowAt bq cu dD ee ik bJ dh ev fU eX dr ej dd dc dQ dR bQ bf cW bP cY cX eh ek ei cV cj de ef bK aO da cG ij bw cK bU aY dn aZ dE AV.undef bD bG dV ec dM dK cH eu ew cF ep eo cZ db List.getD_cons_zero List.getD_cons_succ List.getD_nil List.all_cons List.all_nil Bool.and_true Bool.true_and Bool.and_self Bool.not_true Bool.not_false Option.map_some Option.map_none Option.bind_some Option.bind_none List.length_cons List.length_nil List.take_succ_cons List.take_zero List.take_nil List.drop_succ_cons List.drop_zero List.drop_nil List.head?_cons List.map_cons List.map_nil List.getElem?_cons_zero List.getElem?_cons_succ List.cons_append List.nil_append List.append_nil List.length_map List.set_cons_zero List.set_cons_succ Nat.reduceMul eq_self Int.toNat_natCast Int.natCast_nonneg and_self true_and and_true decide_true decide_false Bool.false_eq_true Nat.zero_add Nat.add_zero List.contains_cons List.contains_nil Bool.or_false Bool.false_or beq_self_eq_true Nat.reduceBEq ne_eq not_true_eq_false not_false_eq_true Id.mk.injEq false_and and_false Nat.reduceLT Int.reduceLE Int.reduceLT Int.reduceToNat Int.reduceNeg Int.reduceAdd Nat.le_refl List.length_append beq_true beq_false Bool.not_eq_eq_eq_not or_false false_or dL ai aj aH bl bB cw aX bd aU bh cU bH
theorem Bu (x:fB) (g:Rows):cN g 6 [.agg (bI x)]=some [.agg (bI x)]:=by simp[bI,ai,aj,bd,bB,aH]
theorem Bv (x:eS) (g:Rows):cN g 6 [.agg (bE x)]=some [.agg (bE x)]:=by simp[bE,ai,aj,bd,bB,cw]
theorem Dl (x:ad) (g:Rows):cN g 6 [.agg (aa x)]=some [.agg (aa x)]:=by simp[aa,ai,aj,bd,aH]
theorem iC {n:Nat} {l:Int} (h:(n:Int)<=l):xY n l=l-n:=if_pos h
theorem iI {n:Nat} {l:Int} (h:¬(n:Int)<=l):xY n l= -1:=if_neg h
def kq (t:eS):Nat:=t.aC.size+t.bt.length
def uB (s:au):Nat:=(s.ax.length+(s.ax.map fun g=>g.aC.size).sum)+(s.ah.length+(s.ah.map kq).sum)
def xt (s:aA):Nat:=uB s.aE+s.bc.ah.length
def fX (s:au):Prop:=(∀g∈s.ax,g.aC.size<=9223372036854775807)/\∀t∈s.ah,t.aC.size<=9223372036854775807
theorem J1 (g:fB) (l:Int) (h0:0<=l) (h1:l<=1048576) (hs:g.aC.size<=9223372036854775807):aq Tryz.prog 154 [.agg (bI g),.int .i64 l] (.int .i64 (xY g.aC.size l)):=by
 refine aq.body eC rfl fun hl n0=>?_
 clear hl
 have hw:IntKind.i64.wrap (l-(g.aC.size:Int))=l-g.aC.size:=bF (by omega)
 by_cases hf:(g.aC.size:Int)<=l
 ·have kz:¬l-(g.aC.size:Int)<0:=by omega
  (try((repeat(revert hN;revert N;apply Pn.out));refine wk (tw @bI.eq_1 (tw @hw @kz)) ?_;(repeat(refine Pn.mk ?_;intro N hN))))
  exact b4 (b:=l-(g.aC.size:Int)) (.inl rfl) (sd @Nat.zero_add) (iC hf).symm
 ·have kz:l-(g.aC.size:Int)<0:=by omega
  (try((repeat(revert hN;revert N;apply Pn.out));refine wk (tw @bI.eq_1 (tw @hw @kz)) ?_;(repeat(refine Pn.mk ?_;intro N hN))))
  exact b4 (b:=-1) (.inl rfl) (sd @Nat.zero_add) (iI hf).symm
theorem J2 (xs:List Int) (l:Int) (h0:0<=l) (h1:l<=1048576):aq Tryz.prog 188 [.sl (xs.map br),.int .i64 l] (.int .i64 (xY xs.length l)):=by
 have h:=J4 (show mi Tryz.prog 188=some (J3 188) by kernel_rfl) (xs.map br) l h0 h1
 rwa [List.length_map]at h
theorem J7 (t:eS) (l:Int) (h0:0<=l) (h1:l<=1048576) (hs:t.aC.size<=9223372036854775807):aq Tryz.prog 155 [.agg (bE t),.int .i64 l] (.int .i64 (xY (kq t) l)):=by
 refine aq.body eC rfl fun hl n0=>?_
 clear hl
 have hw:IntKind.i64.wrap (l-(t.aC.size:Int))=l-t.aC.size:=bF (by omega)
 by_cases hf:(t.aC.size:Int)<=l
 ·have kz:¬l-(t.aC.size:Int)<0:=by omega
  have hc:=J2 t.bt (l-t.aC.size) (by omega) (by omega)
  by_cases hg:(t.bt.length:Int)<=l-t.aC.size
  ·rw[iC hg]at hc
   have E9:¬l-(t.aC.size:Int)-(t.bt.length:Int)<0:=by omega
   (repeat(first|((repeat(revert hN;revert N;apply Pn.out));refine wk (tw @bE.eq_1 (tw @hw (tw @kz @E9))) ?_;(repeat(refine Pn.mk ?_;intro N hN)))|((try apply Or.inl);refine⟨_,aq.x (hc) (sd (tw @bE.eq_1 (tw @hw (tw @kz @E9)))),?_⟩;refine hN _ _ ?_;clear hN N)))
   exact b4 (b:=l-(t.aC.size:Int)-(t.bt.length:Int)) (.inl rfl) (sd @Nat.zero_add) (by rw[iC (by unfold kq;omega)];unfold kq;omega)
  ·rw[iI hg]at hc
   (repeat(first|((repeat(revert hN;revert N;apply Pn.out));refine wk (tw @bE.eq_1 (tw @hw @kz)) ?_;(repeat(refine Pn.mk ?_;intro N hN)))|((try apply Or.inl);refine⟨_,aq.x (hc) (sd (tw @bE.eq_1 (tw @hw @kz))),?_⟩;refine hN _ _ ?_;clear hN N)))
   exact b4 (b:=-1) (.inl rfl) (sd @Nat.zero_add) (iI (by unfold kq;omega)).symm
 ·have kz:l-(t.aC.size:Int)<0:=by omega
  (try((repeat(revert hN;revert N;apply Pn.out));refine wk (tw @bE.eq_1 (tw @hw @kz)) ?_;(repeat(refine Pn.mk ?_;intro N hN))))
  exact b4 (b:=-1) (.inl rfl) (sd @Nat.zero_add) (iI (by unfold kq;omega)).symm
theorem He (xs:List fB) (l:Int) (h0:0<=l) (h1:l<=1048576) (hs:∀g∈xs,g.aC.size<=9223372036854775807):aq Tryz.prog 94 [.sl (xs.map bI),.int .i64 l] (.int .i64 (xY (xs.length+(xs.map fun g=>g.aC.size).sum) l)):=
 J6 (fun g:fB=>g.aC.size) (show mi Tryz.prog 94=some (J5 94 154 2) by kernel_rfl) (fun _=>rfl) Bu xs l h0 h1 fun x hx l a b=>J1 x l a b (hs x hx)
theorem Hf (xs:List eS) (l:Int) (h0:0<=l) (h1:l<=1048576) (hs:∀t∈xs,t.aC.size<=9223372036854775807):aq Tryz.prog 95 [.sl (xs.map bE),.int .i64 l] (.int .i64 (xY (xs.length+(xs.map kq).sum) l)):=
 J6 kq (show mi Tryz.prog 95=some (J5 95 155 2) by kernel_rfl) (fun _=>rfl) Bv xs l h0 h1 fun x hx l a b=>J7 x l a b (hs x hx)
theorem Er (xs:List ad) (l:Int) (h0:0<=l) (h1:l<=1048576):aq Tryz.prog 57 [.sl (xs.map aa),.int .i64 l] (.int .i64 (xY xs.length l)):=by
 have h:=J4 (show mi Tryz.prog 57=some (J3 57) by kernel_rfl) (xs.map aa) l h0 h1
 rwa [List.length_map]at h
theorem Cv (s:au) (l:Int) (h0:0<=l) (h1:l<=1048576) (hs:fX s):aq Tryz.prog 56 [.agg (ab s),.int .i64 l] (.int .i64 (xY (uB s) l)):=by
 refine aq.body eC rfl fun hl n0=>?_
 clear hl
 have ha:=He s.ax l h0 h1 hs.1
 have he:uB s=(s.ax.length+(s.ax.map fun g=>g.aC.size).sum)+(s.ah.length+(s.ah.map kq).sum):=rfl
 by_cases hf:((s.ax.length+(s.ax.map fun g=>g.aC.size).sum:Nat):Int)<=l
 ·rw[iC hf]at ha
  obtain⟨A,hA⟩:∃A:Int,A=l-((s.ax.length+(s.ax.map fun g=>g.aC.size).sum:Nat):Int):=⟨_,rfl⟩
  rw[<-hA]at ha
  have kz:¬A<0:=by omega
  have hb:=Hf s.ah A (by omega) (by omega) hs.2
  by_cases hg:((s.ah.length+(s.ah.map kq).sum:Nat):Int)<=A
  ·rw[iC hg]at hb
   obtain⟨B,hB⟩:∃B:Int,B=A-((s.ah.length+(s.ah.map kq).sum:Nat):Int):=⟨_,rfl⟩
   rw[<-hB]at hb
   have E9:¬B<0:=by omega
   (repeat(first|((repeat(revert hN;revert N;apply Pn.out));refine wk (tw @ab.eq_1 (tw @kz @E9)) ?_;(repeat(refine Pn.mk ?_;intro N hN)))|((try apply Or.inl);refine⟨_,aq.x (ha) (sd (tw @ab.eq_1 (tw @kz @E9))),?_⟩;refine hN _ _ ?_;clear hN N)|((try apply Or.inl);refine⟨_,aq.x (hb) (sd (tw @ab.eq_1 (tw @kz @E9))),?_⟩;refine hN _ _ ?_;clear hN N)))
   exact b4 (b:=B) (.inl rfl) (sd @Nat.zero_add) (by rw[iC (by omega)];omega)
  ·rw[iI hg]at hb
   (repeat(first|((repeat(revert hN;revert N;apply Pn.out));refine wk (tw @ab.eq_1 @kz) ?_;(repeat(refine Pn.mk ?_;intro N hN)))|((try apply Or.inl);refine⟨_,aq.x (ha) (sd (tw @ab.eq_1 @kz)),?_⟩;refine hN _ _ ?_;clear hN N)|((try apply Or.inl);refine⟨_,aq.x (hb) (sd (tw @ab.eq_1 @kz)),?_⟩;refine hN _ _ ?_;clear hN N)))
   exact b4 (b:=-1) (.inl rfl) (sd @Nat.zero_add) (iI (by omega)).symm
 ·rw[iI hf]at ha
  (repeat(first|((repeat(revert hN;revert N;apply Pn.out));refine wk @ab.eq_1 ?_;(repeat(refine Pn.mk ?_;intro N hN)))|((try apply Or.inl);refine⟨_,aq.x (ha) (sd @ab.eq_1),?_⟩;refine hN _ _ ?_;clear hN N)))
  exact b4 (b:=-1) (.inl rfl) (sd @Nat.zero_add) (iI (by omega)).symm
theorem sg (a:dP) (l:Int) (h0:0<=l) (h1:l<=1048576):aq Tryz.prog 15 [.agg (aP a),.int .i64 l] (.int .i64 (xY a.ah.length l)):=by
 refine aq.body eC rfl fun hl n0=>?_
 clear hl
 have ha:=Er a.ah l h0 h1
 by_cases hf:(a.ah.length:Int)<=l
 ·rw[iC hf]at ha
  have kz:¬l-(a.ah.length:Int)<0:=by omega
  (repeat(first|((repeat(revert hN;revert N;apply Pn.out));refine wk (tw @aP.eq_1 @kz) ?_;(repeat(refine Pn.mk ?_;intro N hN)))|((try apply Or.inl);refine⟨_,aq.x (ha) (sd (tw @aP.eq_1 @kz)),?_⟩;refine hN _ _ ?_;clear hN N)))
  exact b4 (b:=l-(a.ah.length:Int)) (.inl rfl) (sd @Nat.zero_add) (iC hf).symm
 ·rw[iI hf]at ha
  (repeat(first|((repeat(revert hN;revert N;apply Pn.out));refine wk @aP.eq_1 ?_;(repeat(refine Pn.mk ?_;intro N hN)))|((try apply Or.inl);refine⟨_,aq.x (ha) (sd @aP.eq_1),?_⟩;refine hN _ _ ?_;clear hN N)))
  exact b4 (b:=-1) (.inl rfl) (sd @Nat.zero_add) (iI hf).symm
theorem Es (s:aA) (l:Int) (h0:0<=l) (h1:l<=1048576) (hs:fX s.aE):aq Tryz.prog 14 [.agg (aw s),.int .i64 l] (.int .i64 (xY (xt s) l)):=by
 refine aq.body eC rfl fun hl n0=>?_
 clear hl
 have ha:=Cv s.aE l h0 h1 hs
 rw[ab]at ha
 have he:xt s=uB s.aE+s.bc.ah.length:=rfl
 by_cases hf:(uB s.aE:Int)<=l
 ·rw[iC hf]at ha
  have kz:¬l-(uB s.aE:Int)<0:=by omega
  have hb:=sg s.bc (l-uB s.aE) (by omega) (by omega)
  rw[aP]at hb
  by_cases hg:(s.bc.ah.length:Int)<=l-uB s.aE
  ·rw[iC hg]at hb
   have E9:¬l-(uB s.aE:Int)-(s.bc.ah.length:Int)<0:=by omega
   (repeat(first|((repeat(revert hN;revert N;apply Pn.out));refine wk (tw @aw.eq_1 (tw @kz @E9)) ?_;(repeat(refine Pn.mk ?_;intro N hN)))|((try apply Or.inl);refine⟨_,aq.x (ha) (sd (tw @aw.eq_1 (tw @kz @E9))),?_⟩;refine hN _ _ ?_;clear hN N)|((try apply Or.inl);refine⟨_,aq.x (hb) (sd (tw @aw.eq_1 (tw @kz @E9))),?_⟩;refine hN _ _ ?_;clear hN N)))
   exact b4 (b:=l-(uB s.aE:Int)-(s.bc.ah.length:Int)) (.inl rfl) (sd @Nat.zero_add) (by rw[iC (by omega)];omega)
  ·rw[iI hg]at hb
   (repeat(first|((repeat(revert hN;revert N;apply Pn.out));refine wk (tw @aw.eq_1 @kz) ?_;(repeat(refine Pn.mk ?_;intro N hN)))|((try apply Or.inl);refine⟨_,aq.x (ha) (sd (tw @aw.eq_1 @kz)),?_⟩;refine hN _ _ ?_;clear hN N)|((try apply Or.inl);refine⟨_,aq.x (hb) (sd (tw @aw.eq_1 @kz)),?_⟩;refine hN _ _ ?_;clear hN N)))
   exact b4 (b:=-1) (.inl rfl) (sd @Nat.zero_add) (iI (by omega)).symm
 ·rw[iI hf]at ha
  (repeat(first|((repeat(revert hN;revert N;apply Pn.out));refine wk @aw.eq_1 ?_;(repeat(refine Pn.mk ?_;intro N hN)))|((try apply Or.inl);refine⟨_,aq.x (ha) (sd @aw.eq_1),?_⟩;refine hN _ _ ?_;clear hN N)))
  exact b4 (b:=-1) (.inl rfl) (sd @Nat.zero_add) (iI (by omega)).symm
end Go.Proofs.YtgoelphibofcmaaGreat.V

namespace Go.Proofs.YtgoelphibofcmaaGreat.V
open Go.RowKit
attribute [local irreducible] dG wpOps gy Call
attribute [local go_sem] aM fF eP ga fW cQ upd cz K.av cR AV.cells AV.cell rowOf rowsOf part ld rowAt bq cu dD ee ik bJ dh ev fU eX dr ej dd dc dQ dR bQ bf cW bP cY cX eh ek ei cV cj de ef bK aO da cG ij bw cK bU aY dn aZ dE AV.undef bD bG dV ec dM dK cH eu ew cF ep eo cZ db List.getD_cons_zero List.getD_cons_succ List.getD_nil List.all_cons List.all_nil Bool.and_true Bool.true_and Bool.and_self Bool.not_true Bool.not_false Option.map_some Option.map_none Option.bind_some Option.bind_none List.length_cons List.length_nil List.take_succ_cons List.take_zero List.take_nil List.drop_succ_cons List.drop_zero List.drop_nil List.head?_cons List.map_cons List.map_nil List.getElem?_cons_zero List.getElem?_cons_succ List.cons_append List.nil_append List.append_nil List.length_map List.set_cons_zero List.set_cons_succ Nat.reduceMul eq_self Int.toNat_natCast Int.natCast_nonneg and_self true_and and_true decide_true decide_false Bool.false_eq_true Nat.zero_add Nat.add_zero List.contains_cons List.contains_nil Bool.or_false Bool.false_or beq_self_eq_true Nat.reduceBEq ne_eq not_true_eq_false not_false_eq_true Id.mk.injEq false_and and_false Nat.reduceLT Int.reduceLE Int.reduceLT Int.reduceToNat Int.reduceNeg Int.reduceAdd Nat.le_refl List.length_append beq_true beq_false Bool.not_eq_eq_eq_not or_false false_or dL ai aj aH bl bB cw aX bd aU bh cU bH
theorem Mc (x:fB) (g:Rows):cN g 5 (bI x)=some (bI x):=by simp[bI,ai,aj,bB,aH]
theorem Md (x:eS) (g:Rows):cN g 5 (bE x)=some (bE x):=by simp[bE,ai,aj,bB,cw]
theorem GZ (x:ad) (g:Rows):cN g 5 (aa x)=some (aa x):=by simp[aa,ai,aj,aH]
theorem zh (p:aD):kn Tryz.prog 82 [.agg (ae p)] (.agg (ae p)):=by
 refine kn.body eC rfl fun hl σ=>?_
 clear hl
 (try((repeat(revert hN;revert N;apply Pn.out));refine wk @ae.eq_1 ?_;(repeat(refine Pn.mk ?_;intro N hN))))
 exact Aj (.inl rfl) (vs:=[.agg (ae p)]) (by simp only[go_sem, ↓reduceIte,Nat.reduceEqDiff,Nat.reduceAdd,Nat.reduceSub,Nat.reduceLeDiff,reduceCtorEq,ft,iq,ae]) (by simp[fq,ae,bd,ai,aj,aH])
theorem Ev (p:ad):kn Tryz.prog 104 [.agg (aa p)] (.agg (aa p)):=by
 refine kn.body eC rfl fun hl σ=>?_
 clear hl
 have h:=zh p.aQ
 rw[ae]at h
 (repeat(first|((repeat(revert hN;revert N;apply Pn.out));refine wk @aa.eq_1 ?_;(repeat(refine Pn.mk ?_;intro N hN)))|((try apply Or.inl);refine⟨_,kn.x (h) _,?_⟩;refine hN _ _ ?_;clear hN N)))
 exact Aj (.inl rfl) (vs:=[.agg (aa p)]) (by simp only[go_sem, ↓reduceIte,Nat.reduceEqDiff,Nat.reduceAdd,Nat.reduceSub,Nat.reduceLeDiff,reduceCtorEq,ft,iq,aa]) (by simp[fq,aa,bd,ai,aj,aH])
theorem Kf (p:fB):kn Tryz.prog 161 [.agg (bI p)] (.agg (bI p)):=by
 refine kn.body eC rfl fun hl σ=>?_
 clear hl
 (try((repeat(revert hN;revert N;apply Pn.out));refine wk @bI.eq_1 ?_;(repeat(refine Pn.mk ?_;intro N hN))))
 exact Aj (.inl rfl) (vs:=[.agg (bI p)]) (by simp only[go_sem, ↓reduceIte,Nat.reduceEqDiff,Nat.reduceAdd,Nat.reduceSub,Nat.reduceLeDiff,reduceCtorEq,ft,iq,bI]) (by simp[fq,bI,bd,ai,aj,aH,bB])
theorem Kh (xs:List Int) (h:xs.length<=1048576):kn Tryz.prog 195 [.sl (xs.map br)] (.sl (xs.map br)):=
 RP (show mi Tryz.prog 195=some (Ki 195 (.int .i64 0)) by kernel_rfl) xs h
def sK (t:eS):Prop:=t.bt.length<=1048576
theorem Kk (p:eS) (hs:sK p):kn Tryz.prog 162 [.agg (bE p)] (.agg (bE p)):=by
 refine kn.body eC rfl fun hl σ=>?_
 clear hl
 have h:=Kh p.bt hs
 (repeat(first|((repeat(revert hN;revert N;apply Pn.out));refine wk @bE.eq_1 ?_;(repeat(refine Pn.mk ?_;intro N hN)))|((try apply Or.inl);refine⟨_,kn.x (h) _,?_⟩;refine hN _ _ ?_;clear hN N)))
 exact Aj (.inl rfl) (vs:=[.agg (bE p)]) (by simp only[go_sem, ↓reduceIte,Nat.reduceEqDiff,Nat.reduceAdd,Nat.reduceSub,Nat.reduceLeDiff,reduceCtorEq,ft,iq,bE]) (by simp[fq,bE,bd,ai,aj,cw,bB])
theorem Ik (xs ys:List Int):aq Tryz.prog 30 [.sl (xs.map br),.sl (ys.map br)] (.bool (decide (xs=ys))):=
 Qv (show mi Tryz.prog 30=some (MG 30 .tI) by kernel_rfl) xs ys
theorem Il (a b:eS):aq Tryz.prog 170 [.agg (bE a),.agg (bE b)] (.bool (decide (a=b))):=by
 refine aq.body eC rfl fun hl n0=>?_
 clear hl
 have h:=Ik a.bt b.bt
 by_cases h1:a.aC=b.aC
 ·have e1:decide (a.aC=b.aC)=true:=decide_eq_true h1
  by_cases h2:a.bt=b.bt
  ·rw[decide_eq_true h2]at h
   (repeat(first|((repeat(revert hN;revert N;apply Pn.out));refine wk (tw @bE.eq_1 @e1) ?_;(repeat(refine Pn.mk ?_;intro N hN)))|((try apply Or.inl);refine⟨_,aq.x (h) (sd (tw @bE.eq_1 @e1)),?_⟩;refine hN _ _ ?_;clear hN N)))
   exact aT (b:=true) (.inl rfl) (sd @Nat.zero_add) (decide_eq_true (by cases a;cases b;simp_all)).symm
  ·rw[decide_eq_false h2]at h
   (repeat(first|((repeat(revert hN;revert N;apply Pn.out));refine wk (tw @bE.eq_1 @e1) ?_;(repeat(refine Pn.mk ?_;intro N hN)))|((try apply Or.inl);refine⟨_,aq.x (h) (sd (tw @bE.eq_1 @e1)),?_⟩;refine hN _ _ ?_;clear hN N)))
   exact aT (b:=false) (.inl rfl) (sd @Nat.zero_add) (decide_eq_false (by rintro rfl;exact h2 rfl)).symm
 ·have e1:decide (a.aC=b.aC)=false:=decide_eq_false h1
  (try((repeat(revert hN;revert N;apply Pn.out));refine wk (tw @bE.eq_1 @e1) ?_;(repeat(refine Pn.mk ?_;intro N hN))))
  exact aT (b:=false) (.inl rfl) (sd @Nat.zero_add) (decide_eq_false (by rintro rfl;exact h1 rfl)).symm
theorem Hk (xs:List fB) (h:xs.length<=1048576):kn Tryz.prog 102 [.sl (xs.map bI)] (.sl (xs.map bI)):=
 Ew (show mi Tryz.prog 102=some (ug 102 161 2 [.str [],.int .i64 0]) by kernel_rfl) rfl (fun _=>rfl) (fun _=>rfl) Mc xs h fun x _=>Kf x
theorem Hm (xs:List eS) (h:xs.length<=1048576) (hs:∀t∈xs,sK t):kn Tryz.prog 103 [.sl (xs.map bE)] (.sl (xs.map bE)):=
 Ew (show mi Tryz.prog 103=some (ug 103 162 2 [.str [],.cm]) by kernel_rfl) rfl (fun _=>rfl) (fun _=>rfl) Md xs h fun x hx=>Kk x (hs x hx)
theorem Cy (xs:List ad) (h:xs.length<=1048576):kn Tryz.prog 62 [.sl (xs.map aa)] (.sl (xs.map aa)):=
 Ew (show mi Tryz.prog 62=some (ug 62 104 3 [.int .i64 0,.int .i64 0,.int .i64 0]) by kernel_rfl) rfl (fun _=>rfl) (fun _=>rfl) GZ xs h fun x _=>Ev x
structure HP (s:au):Prop where
 g:s.ax.length<=1048576
 t:s.ah.length<=1048576
 s:∀t∈s.ah,sK t
structure rh (y:aA):Prop where
 s:HP y.aE
 a:y.bc.ah.length<=1048576
theorem CA (p:au) (hs:HP p):kn Tryz.prog 61 [.agg (ab p)] (.agg (ab p)):=by
 refine kn.body eC rfl fun hl σ=>?_
 clear hl
 have h1:=Hk p.ax hs.g
 have h2:=Hm p.ah hs.t hs.s
 (repeat(first|((repeat(revert hN;revert N;apply Pn.out));refine wk @ab.eq_1 ?_;(repeat(refine Pn.mk ?_;intro N hN)))|((try apply Or.inl);refine⟨_,kn.x (h1) _,?_⟩;refine hN _ _ ?_;clear hN N)|((try apply Or.inl);refine⟨_,kn.x (h2) _,?_⟩;refine hN _ _ ?_;clear hN N)))
 exact Aj (.inl rfl) (vs:=[.agg (ab p)]) (by simp only[go_sem, ↓reduceIte,Nat.reduceEqDiff,Nat.reduceAdd,Nat.reduceSub,Nat.reduceLeDiff,reduceCtorEq,ft,iq,ab]) (by simp[fq,ab,bd,ai,aj,cw])
theorem sn (p:dP) (hs:p.ah.length<=1048576):kn Tryz.prog 18 [.agg (aP p)] (.agg (aP p)):=by
 refine kn.body eC rfl fun hl σ=>?_
 clear hl
 have h1:=Cy p.ah hs
 (repeat(first|((repeat(revert hN;revert N;apply Pn.out));refine wk @aP.eq_1 ?_;(repeat(refine Pn.mk ?_;intro N hN)))|((try apply Or.inl);refine⟨_,kn.x (h1) _,?_⟩;refine hN _ _ ?_;clear hN N)))
 exact Aj (.inl rfl) (vs:=[.agg (aP p)]) (by simp only[go_sem, ↓reduceIte,Nat.reduceEqDiff,Nat.reduceAdd,Nat.reduceSub,Nat.reduceLeDiff,reduceCtorEq,ft,iq,aP]) (by simp[fq,aP,bd,ai,aj,cw])
theorem Ez (p:aA) (hs:rh p):kn Tryz.prog 17 [.agg (aw p)] (.agg (aw p)):=by
 refine kn.body eC rfl fun hl σ=>?_
 clear hl
 have h1:=CA p.aE hs.s
 have h2:=sn p.bc hs.a
 rw[ab]at h1
 rw[aP]at h2
 (repeat(first|((repeat(revert hN;revert N;apply Pn.out));refine wk @aw.eq_1 ?_;(repeat(refine Pn.mk ?_;intro N hN)))|((try apply Or.inl);refine⟨_,kn.x (h1) _,?_⟩;refine hN _ _ ?_;clear hN N)|((try apply Or.inl);refine⟨_,kn.x (h2) _,?_⟩;refine hN _ _ ?_;clear hN N)))
 exact Aj (.inl rfl) (vs:=[.agg (aw p)]) (by simp only[go_sem, ↓reduceIte,Nat.reduceEqDiff,Nat.reduceAdd,Nat.reduceSub,Nat.reduceLeDiff,reduceCtorEq,ft,iq,aw]) (by simp[fq,aw,bd,ai,aj,cw,aH])
theorem Ij (a b:fB):aq Tryz.prog 169 [.agg (bI a),.agg (bI b)] (.bool (decide (a=b))):=by
 refine aq.body eC rfl fun hl n0=>?_
 clear hl
 by_cases h1:a.aC=b.aC
 ·have e1:decide (a.aC=b.aC)=true:=decide_eq_true h1
  by_cases h2:a.ez=b.ez
  ·have e2:decide (a.ez=b.ez)=true:=decide_eq_true h2
   (try((repeat(revert hN;revert N;apply Pn.out));refine wk (tw @bI.eq_1 (tw @e1 @e2)) ?_;(repeat(refine Pn.mk ?_;intro N hN))))
   exact aT (b:=true) (.inl rfl) (sd @Nat.zero_add) (decide_eq_true (by cases a;cases b;simp_all)).symm
  ·have e2:decide (a.ez=b.ez)=false:=decide_eq_false h2
   (try((repeat(revert hN;revert N;apply Pn.out));refine wk (tw @bI.eq_1 (tw @e1 @e2)) ?_;(repeat(refine Pn.mk ?_;intro N hN))))
   exact aT (b:=false) (.inl rfl) (sd @Nat.zero_add) (decide_eq_false (by rintro rfl;exact h2 rfl)).symm
 ·have e1:decide (a.aC=b.aC)=false:=decide_eq_false h1
  (try((repeat(revert hN;revert N;apply Pn.out));refine wk (tw @bI.eq_1 @e1) ?_;(repeat(refine Pn.mk ?_;intro N hN))))
  exact aT (b:=false) (.inl rfl) (sd @Nat.zero_add) (decide_eq_false (by rintro rfl;exact h1 rfl)).symm
theorem F9 (a b:aD):aq Tryz.prog 29 [.agg (ae a),.agg (ae b)] (.bool (decide (a=b))):=by
 refine aq.body eC rfl fun hl n0=>?_
 clear hl
 by_cases h1:a.eZ=b.eZ
 ·have e1:decide (a.eZ=b.eZ)=true:=decide_eq_true h1
  by_cases h2:a.eT=b.eT
  ·have e2:decide (a.eT=b.eT)=true:=decide_eq_true h2
   (try((repeat(revert hN;revert N;apply Pn.out));refine wk (tw @ae.eq_1 (tw @e1 @e2)) ?_;(repeat(refine Pn.mk ?_;intro N hN))))
   exact aT (b:=true) (.inl rfl) (sd @Nat.zero_add) (decide_eq_true (by cases a;cases b;simp_all)).symm
  ·have e2:decide (a.eT=b.eT)=false:=decide_eq_false h2
   (try((repeat(revert hN;revert N;apply Pn.out));refine wk (tw @ae.eq_1 (tw @e1 @e2)) ?_;(repeat(refine Pn.mk ?_;intro N hN))))
   exact aT (b:=false) (.inl rfl) (sd @Nat.zero_add) (decide_eq_false (by rintro rfl;exact h2 rfl)).symm
 ·have e1:decide (a.eZ=b.eZ)=false:=decide_eq_false h1
  (try((repeat(revert hN;revert N;apply Pn.out));refine wk (tw @ae.eq_1 @e1) ?_;(repeat(refine Pn.mk ?_;intro N hN))))
  exact aT (b:=false) (.inl rfl) (sd @Nat.zero_add) (decide_eq_false (by rintro rfl;exact h1 rfl)).symm
theorem Da (a b:ad):aq Tryz.prog 110 [.agg (aa a),.agg (aa b)] (.bool (decide (a=b))):=by
 refine aq.body eC rfl fun hl n0=>?_
 clear hl
 have h:=F9 a.aQ b.aQ
 rw[ae,ae]at h
 by_cases h1:a.aQ=b.aQ
 ·rw[decide_eq_true h1]at h
  by_cases h2:a.aV=b.aV
  ·have e2:decide (a.aV=b.aV)=true:=decide_eq_true h2
   (repeat(first|((repeat(revert hN;revert N;apply Pn.out));refine wk (tw @aa.eq_1 @e2) ?_;(repeat(refine Pn.mk ?_;intro N hN)))|((try apply Or.inl);refine⟨_,aq.x (h) (sd (tw @aa.eq_1 @e2)),?_⟩;refine hN _ _ ?_;clear hN N)))
   exact aT (b:=true) (.inl rfl) (sd @Nat.zero_add) (decide_eq_true (by cases a;cases b;simp_all)).symm
  ·have e2:decide (a.aV=b.aV)=false:=decide_eq_false h2
   (repeat(first|((repeat(revert hN;revert N;apply Pn.out));refine wk (tw @aa.eq_1 @e2) ?_;(repeat(refine Pn.mk ?_;intro N hN)))|((try apply Or.inl);refine⟨_,aq.x (h) (sd (tw @aa.eq_1 @e2)),?_⟩;refine hN _ _ ?_;clear hN N)))
   exact aT (b:=false) (.inl rfl) (sd @Nat.zero_add) (decide_eq_false (by rintro rfl;exact h2 rfl)).symm
 ·rw[decide_eq_false h1]at h
  (repeat(first|((repeat(revert hN;revert N;apply Pn.out));refine wk @aa.eq_1 ?_;(repeat(refine Pn.mk ?_;intro N hN)))|((try apply Or.inl);refine⟨_,aq.x (h) (sd @aa.eq_1),?_⟩;refine hN _ _ ?_;clear hN N)))
  exact aT (b:=false) (.inl rfl) (sd @Nat.zero_add) (decide_eq_false (by rintro rfl;exact h1 rfl)).symm
theorem F8 (xs ys:List fB):aq Tryz.prog 108 [.sl (xs.map bI),.sl (ys.map bI)] (.bool (decide (xs=ys))):=
 Db (show mi Tryz.prog 108=some (EX 108 169 2) by kernel_rfl) (fun _=>rfl) Bu xs ys Ij
theorem Ga (xs ys:List eS):aq Tryz.prog 109 [.sl (xs.map bE),.sl (ys.map bE)] (.bool (decide (xs=ys))):=
 Db (show mi Tryz.prog 109=some (EX 109 170 2) by kernel_rfl) (fun _=>rfl) Bv xs ys Il
theorem oJ (xs ys:List ad):aq Tryz.prog 66 [.sl (xs.map aa),.sl (ys.map aa)] (.bool (decide (xs=ys))):=
 Db (show mi Tryz.prog 66=some (EX 66 110 3) by kernel_rfl) (fun _=>rfl) Dl xs ys Da
theorem Dc (a:aA):aq Tryz.prog 20 [.agg (aw a),.agg (aw a)] (.bool true):=by
 have q1:aq Tryz.prog 65 [.agg (ab a.aE),.agg (ab a.aE)] (.bool true):=by
  refine aq.body eC rfl fun hl n0=>?_
  clear hl
  have h1:=F8 a.aE.ax a.aE.ax
  have h2:=Ga a.aE.ah a.aE.ah
  rw[decide_eq_true rfl]at h1 h2
  (repeat(first|((repeat(revert hN;revert N;apply Pn.out));refine wk @ab.eq_1 ?_;(repeat(refine Pn.mk ?_;intro N hN)))|((try apply Or.inl);refine⟨_,aq.x (h1) (sd @ab.eq_1),?_⟩;refine hN _ _ ?_;clear hN N)|((try apply Or.inl);refine⟨_,aq.x (h2) (sd @ab.eq_1),?_⟩;refine hN _ _ ?_;clear hN N)))
  exact aT (b:=true) (.inl rfl) (sd @Nat.zero_add) rfl
 have q2:aq Tryz.prog 21 [.agg (aP a.bc),.agg (aP a.bc)] (.bool true):=by
  refine aq.body eC rfl fun hl n0=>?_
  clear hl
  have h1:=oJ a.bc.ah a.bc.ah
  rw[decide_eq_true rfl]at h1
  (repeat(first|((repeat(revert hN;revert N;apply Pn.out));refine wk @aP.eq_1 ?_;(repeat(refine Pn.mk ?_;intro N hN)))|((try apply Or.inl);refine⟨_,aq.x (h1) (sd @aP.eq_1),?_⟩;refine hN _ _ ?_;clear hN N)))
  exact aT (b:=true) (.inl rfl) (sd @Nat.zero_add) rfl
 rw[ab]at q1
 rw[aP]at q2
 refine aq.body eC rfl fun hl n0=>?_
 clear hl
 have e:decide (a.aB=a.aB)=true:=decide_eq_true rfl
 (repeat(first|((repeat(revert hN;revert N;apply Pn.out));refine wk (tw @aw.eq_1 @e) ?_;(repeat(refine Pn.mk ?_;intro N hN)))|((try apply Or.inl);refine⟨_,aq.x (q1) (sd (tw @aw.eq_1 @e)),?_⟩;refine hN _ _ ?_;clear hN N)|((try apply Or.inl);refine⟨_,aq.x (q2) (sd (tw @aw.eq_1 @e)),?_⟩;refine hN _ _ ?_;clear hN N)))
 exact aT (b:=true) (.inl rfl) (sd @Nat.zero_add) rfl
end Go.Proofs.YtgoelphibofcmaaGreat.V

namespace Go.Proofs.YtgoelphibofcmaaGreat.V
open Go.RowKit
def isApp:gz->Bool
 | .append .. =>true
 |_=>false
variable {P:Program} {X:fG} {K:Env->ar->Prop} {env:Env} {σ:ar}
theorem Ng {draw:Bool} {o:bj} {r:List bj} (_:isApp o.op=false) (h:∀N:AV->ar->Prop,(∀v s,wpOps X draw r K (upd env o.dst v) s->N v s)->if aM o.guard env then fF X draw o env σ N else N .undef σ):wpOps X draw (o::r) K env σ:=Pj h
end Go.Proofs.YtgoelphibofcmaaGreat.V

namespace Go.Proofs.YtgoelphibofcmaaGreat.V
open Go.RowKit
section
variable {α:Type} {enc:α->List AV} {sz:Nat} {g g':Rows} {a:AV} {xs:List α} {ids:List Id}
end
abbrev CG (α:Type):=Rows->List AV->α->List Id->Prop
structure xE {α:Type} (R:CG α) (sz:Nat):Prop where
 frame:∀{g g':Rows} {cs x ids},R g cs x ids->(∀i∈ids,g' i=g i)->R g' cs x ids
 len:∀{g cs x ids},R g cs x ids->cs.length=sz
 cell:∀{g cs x ids},R g cs x ids->cs.all AV.cell=true
 live:∀{g cs x ids},R g cs x ids->∀i∈ids,∃r,g i=some r/\r.w=true/\r.sz<rX
 small:sz<rX
inductive eG {α:Type} (R:CG α) (g:Rows):List (List AV)->List α->List Id->Prop
 |nil:eG R g [] [] []
 |cons {cs x i1 rs xs i2}:R g cs x i1->eG R g rs xs i2->eG R g (cs::rs) (x::xs) (i1++i2)
section
variable {α:Type} {R:CG α} {sz:Nat} {g g':Rows} {rows r1 r2:List (List AV)} {xs x1 x2:List α} {ids i1 i2:List Id}
theorem eG.len (h:eG R g rows xs ids):rows.length=xs.length:=by
 induction h with
 |nil=>rfl
 |cons _ _ ih=>simp[ih]
theorem eG.frame (ok:xE R sz) (h:eG R g rows xs ids) (hf:∀i∈ids,g' i=g i):eG R g' rows xs ids:=by
 induction h with
 |nil=>exact .nil
 |cons h1 _ ih=>exact .cons (ok.frame h1 fun i hi=>hf i (List.mem_append_left _ hi)) (ih fun i hi=>hf i (List.mem_append_right _ hi))
theorem eG.app (h1:eG R g r1 x1 i1) (h2:eG R g r2 x2 i2):eG R g (r1++r2) (x1++x2) (i1++i2):=by
 induction h1 with
 |nil=>exact h2
 |cons h _ ih=>rw[List.append_assoc];exact .cons h ih
theorem eG.one {cs:List AV} {x:α} (h:R g cs x ids):eG R g [cs] [x] ids:=by
 have:=eG.cons h eG.nil
 rwa [List.append_nil]at this
theorem eG.split (h:eG R g rows xs ids):∀k (hk:k<xs.length),∃r1 cs r2 i1 ic i2,rows=r1++cs::r2/\r1.length=k/\ids=i1++(ic++i2)/\eG R g r1 (xs.take k) i1/\R g cs xs[k] ic/\eG R g r2 (xs.drop (k+1)) i2:=by
 induction h with
 |nil=>intro k hk;simp at hk
 |cons h1 h2 ih=>
  rename_i cs x j1 rs xs j2
  intro k hk
  cases k with
  |zero=>exact⟨[],cs,rs,[],j1,j2,rfl,rfl,rfl,.nil,h1,h2⟩
  |succ k=>
   obtain⟨r1,qb,r2,i1,ic,i2,rfl,hl,rfl,h3,h4,h5⟩:=ih k (by simpa using hk)
   exact⟨cs::r1,qb,r2,j1++i1,ic,i2,rfl,by simp[hl],by rw[List.append_assoc],.cons h1 h3,h4,h5⟩
theorem eG.at_ (h:eG R g rows xs ids) (k:Nat) (hk:k<xs.length):∃cs ic,rows[k]? =some cs/\R g cs xs[k] ic/\∀i∈ic,i∈ids:=by
 obtain⟨r1,cs,r2,i1,ic,i2,rfl,hl,rfl,h3,h4,h5⟩:=h.split k hk
 refine⟨cs,ic,by rw[List.getElem?_append_right (by omega)];simp[hl],h4,fun i hi=>by simp[hi]⟩
theorem eG.fz {n:Nat} {e:α->List AV} (h:eG R g rows xs ids) (hz:∀{cs x ids},R g cs x ids->cN (dL g) n cs=some (e x)):ea (dL g) n rows=some (xs.map e):=by
 induction h with
 |nil=>rw[ea];rfl
 |cons h1 _ ih=>rw[ea,hz h1,ih];rfl
end
section
variable {α:Type} {R:CG α} {sz:Nat} {g g':Rows} {a:AV} {xs:List α} {ids:List Id}
end
end Go.Proofs.YtgoelphibofcmaaGreat.V
