/- One operation, calls among them. -/
import Derived.Test.YtiabgllilcfheaaGreatCmA
import Derived.Orders
import Derived.Conc.LoneCalls
import Derived.WalkKit
import Derived.WalkSpells
import Derived.WalkLawsBesides
import Derived.Lib.Hide
import Derived.Deep.QuietTactic
import Derived.BigQuiet
import Derived.StillTailTactics
import Derived.Deep.RegionWith
import Derived.Deep.RegionHeld3
import Derived.Deep.LoopGhost
import Derived.Deep.CutRange
import Derived.Deep.DeepCutAuto
import Derived.Test.YtiabgllilcfheaaGreatChecked
set_option linter.unusedVariables false
set_option linter.unusedSimpArgs false
set_option maxRecDepth 100000
set_option maxHeartbeats 16000000
namespace Go.Proofs.YtiabgllilcfheaaGreat.V
open Go.RowKit
variable {P:Program} {w w':World} {D D' D2:Nat->Prop} {ι ι' ι2:Names}
def Sound (P:Program):gP:=fun f args σ K=>∀(hs:Nat) (D:Nat->Prop) (ι:Names) (w:World) (vs:Array Value),iD P hs D ι σ.get w->Used ι σ.next (fun _=>False)->gy P w D ι args vs->
 Calls P f vs w fun e w'=>∃r g' n' D' ι' u,e=.returned u/\K r ⟨g',n'⟩/\Step hs D ι w D' ι' w'/\iD P hs D' ι' g' w'/\Used ι' n' (fun _=>False)/\σ.next<=n'/\dy P w' D' ι' r u
section
variable {g:Rows} {hs:Nat} {env:Env} {a:Act} {o:Oper} {id:Id} {v:AV}
theorem iD.ro (S:iD P hs D ι g w):iD P w.heap.size D ι (ro g) w:=by
 refine⟨Nat.le_refl _,S.dead,fun id r h=>?_,fun id kV r r' B B' h h' hw=>?_⟩
 ·unfold V.ro at h
  simp only[Option.map_eq_some_iff]at h
  obtain⟨r0,h0,rfl⟩:=h
  obtain⟨B,hB,R,_,_⟩:=S.row id r0 h0
  exact⟨B,hB,R.flag false,fun h=>by simp at h,fun h=>by simp at h⟩
 ·unfold V.ro at h
  simp only[Option.map_eq_some_iff]at h
  obtain⟨r0,h0,rfl⟩:=h
  simp at hw
theorem Dh {g0:Rows} {f:Nat} {args:List AV} {n:Nat} {K:AV->Prop} {vs:Array Value} (h:PC (Sound P) f args ⟨g0,n⟩ K) (oJ:∀id r,g0 id=some r->g id=some r) (S:iD P hs D ι g w) (U:Used ι n (fun _=>False)) (A:gy P w D ι args vs):
  Calls P f vs w fun e w'=>∃r D' u,e=.returned u/\K r/\Step hs D ι w D' ι w'/\iD P hs D' ι g w'/\dy P w' D' ι r u:=by
 refine(h w.heap.size D ι w vs (S.sub oJ).ro U A).mono ?_
 rintro e w' ⟨r0,g',n',D1,ι1,u,rfl,⟨r,hr,hK⟩,T,S1,_,_,hR⟩
 have hb:∀b,b<w.heap.size->w'.heap[b]? =w.heap[b]? :=T.below.block
 have hz:=T.below.size
 have q:=tY (D2:=fun b=>D b∨(w.heap.size<=b/\b<w'.heap.size)) (ι2:=ι) (fun b hd=>by
  rcases T.new b hd with h|h
  ·exact .inl h
  ·exact .inr ⟨h,S1.dead b hd⟩) (fun id row hg hw=>by
  obtain⟨B,hB,R,h1,_⟩:=S1.row id row hg
  exact⟨B,hB,R,.inr ⟨h1 hw,R.lt⟩⟩) 6 r0 u r hR hr
 refine⟨r,_,u,rfl,hK,?_,?_,q.1⟩
 ·exact Step.stay S hb hz T.below.os T.below.tape T.below.output (fun _ h=>.inl h) (fun b h=>by rcases h with h|h;exact .inl h;exact .inr h.1) (fun _ _ h=>h)
 ·exact S.stay hb hz (fun _ h=>.inl h) (fun b h=>by rcases h with h|h;exact Nat.lt_of_lt_of_le (S.dead b h) hz;exact h.2) (fun b h=>by rcases h with h|h;exact .inl h;exact .inr h.1) (fun _ _ h=>h)
theorem Ao {g0:Rows} {f:Nat} {args:List AV} {n:Nat} {K:AV->Prop} {vs:Array Value} (h:PCv (Sound P) f args ⟨g0,n⟩ K) (oJ:∀id r,g0 id=some r->g id=some r) (S:iD P hs D ι g w) (U:Used ι n (fun _=>False)) (A:gy P w D ι args vs):
  Calls P f vs w fun e w'=>∃r D' u,e=.returned u/\K r/\Step hs D ι w D' ι w'/\iD P hs D' ι g w'/\dy P w' D' ι r u:=by
 obtain⟨args',ha,h⟩:=h
 let D1:Nat->Prop:=fun b=>D b∨∃id r B,g id=some r/\ι id=some B/\b=B.b
 have lt:∀id r B,g id=some r->ι id=some B->B.b<w.heap.size:=fun id r B h1 h2=>by
  obtain⟨B',eG,R,_⟩:=S.row id r h1
  rw[h2]at eG;injection eG with eG;subst eG
  exact R.lt
 have S0:iD P w.heap.size D1 ι (fun _=>none) w:=⟨Nat.le_refl _,fun b hb=>by
  rcases hb with hb|⟨id,r,B,h1,h2,rfl⟩
  ·exact S.dead b hb
  ·exact lt id r B h1 h2,fun id r h=>(by cases h),fun id kV r r' B B' h=>(by cases h)⟩
 obtain⟨l1,l2⟩:=iJ ha
 have A':gy P w D1 ι args' vs:=⟨by rw[A.1,l1],fun j a hj=>by
  obtain⟨a0,mz,hf⟩:=l2 j a hj
  obtain⟨u,hu,hr⟩:=A.2 j a0 mz
  refine⟨u,hu,(tY (D2:=D1) (ι2:=ι) (fun b h=>.inl h) (fun id row hg hw=>?_) 6 a0 u a hr hf).1⟩
  unfold eu at hg
  simp only[Option.map_eq_some_iff]at hg
  obtain⟨r,pS,rfl⟩:=hg
  obtain⟨B,hB,R,_,_⟩:=S.row id r (oJ id r pS)
  exact⟨B,hB,R.flag true,.inr ⟨id,r,B,oJ id r pS,hB,rfl⟩⟩⟩
 refine(h w.heap.size D1 ι w vs S0 U A').mono ?_
 rintro e w' ⟨r0,g',n',D2,ι1,u,rfl,⟨r,hr,hK⟩,T,S1,_,_,hR⟩
 have hb:∀b,b<w.heap.size->w'.heap[b]? =w.heap[b]? :=T.below.block
 have hz:=T.below.size
 have q:=IV (D2:=fun b=>D b∨(w.heap.size<=b/\b<w'.heap.size)) (ι2:=ι) (fun id row hg hw=>by
  obtain⟨B,hB,R,h1,_⟩:=S1.row id row hg
  exact⟨B,hB,R,.inr ⟨h1 hw,R.lt⟩⟩) 6 r0 u r hR hr
 refine⟨r,_,u,rfl,hK,?_,?_,q.1⟩
 ·exact Step.stay S hb hz T.below.os T.below.tape T.below.output (fun _ h=>.inl h) (fun b h=>by rcases h with h|h;exact .inl h;exact .inr h.1) (fun _ _ h=>h)
 ·exact S.stay hb hz (fun _ h=>.inl h) (fun b h=>by rcases h with h|h;exact Nat.lt_of_lt_of_le (S.dead b h) hz;exact h.2) (fun b h=>by rcases h with h|h;exact .inl h;exact .inr h.1) (fun _ _ h=>h)
theorem Is {g0:Rows} {f:Nat} {args:List AV} {n:Nat} {K:AV->Prop} {vs:Array Value} (h:fY (Sound P) f args ⟨g0,n⟩ K) (oJ:∀id r,g0 id=some r->g id=some r) (S:iD P hs D ι g w) (U:Used ι n (fun _=>False)) (A:gy P w D ι args vs):
  Calls P f vs w fun e w'=>∃r D' u,e=.returned u/\K r/\Step hs D ι w D' ι w'/\iD P hs D' ι g w'/\dy P w' D' ι r u:=by
 rcases h with h|h
 ·exact Dh h oJ S U A
 ·exact Ao h oJ S U A
theorem JP {D1 D2:Nat->Prop} {ι1 ι2:Names} {w1:World} {a:AV} {v:Value} (hp:a.plain=true) (h:dy P w D1 ι1 a v):dy P w1 D2 ι2 a v:=by
 cases h with
 |fy a v h=>cases h<;>first|(simp[AV.plain]at hp;done)|exact .fy _ _ (by constructor)
 |_=>simp[AV.plain]at hp
theorem iD.add {r:Row} {B:uS} (S:iD P hs D ι g w) (S':iD P hs D ι g w') (hf:ι id=none) (kI:w.heap.size<=B.b) (R:jk P w' D (lO ι id B) B r):iD P hs D (lO ι id B) (bK g id r) w':=by
 have lt:∀kV r' B',g kV=some r'->ι kV=some B'->B'.b<w.heap.size:=fun kV r' B' h1 h2=>by
  obtain⟨B2,lP,R2,_⟩:=S.row kV r' h1
  rw[h2]at lP;injection lP with lP;subst lP
  exact R2.lt
 have ne:∀kV r',g kV=some r'->kV≠id:=fun kV r' h he=>by
  subst he
  obtain⟨B2,lP,_⟩:=S.row _ r' h
  rw[hf]at lP;cases lP
 refine⟨S'.lo,S'.dead,fun kV r' h=>?_,fun Wc id2 r1 r2 B1 B2 h1 h2 hw C6 lP hb=>?_⟩
 ·unfold bK at h
  split at h
  ·rename_i he
   subst he
   injection h with h;subst h
   exact⟨B,eV _ _ _,R,fun _=>Nat.le_trans S.lo kI,fun _ hd=>Nat.lt_irrefl _ (Nat.lt_of_lt_of_le (S.dead _ hd) kI)⟩
  ·obtain⟨B',eG,R',k1,k2⟩:=S'.row kV r' h
   exact⟨B',by rw[iA (ne _ _ h)];exact eG,R'.frame rfl (fun a v hr=>hr.frame (fun _ _=>rfl) (fun _ h=>h) (gm hf)),k1,k2⟩
 ·unfold bK at h1 h2
  split at h1
  ·rename_i e1
   split at h2
   ·rename_i e2;rw[e1,e2]
   ·exfalso
    subst e1
    rw[eV]at C6;injection C6 with C6;subst C6
    rw[iA (ne _ _ h2)]at lP
    have:=lt _ _ _ h2 lP
    omega
  ·rw[iA (ne _ _ h1)]at C6
   split at h2
   ·rename_i e2
    exfalso
    subst e2
    rw[eV]at lP;injection lP with lP;subst lP
    have:=lt _ _ _ h1 C6
    omega
   ·rw[iA (ne _ _ h2)]at lP
    exact S'.inj Wc id2 r1 r2 B1 B2 h1 h2 hw C6 lP hb
theorem Kr {g0:Rows} {f:Nat} {args:List AV} {n sz:Nat} {rows:List (List AV)} {vs:Array Value} (h:CM (Sound P) f args ⟨g0,n⟩ sz rows) (oJ:∀id r,g0 id=some r->g id=some r) (S:iD P hs D ι g w) (U:Used ι n (fun _=>False)) (A:gy P w D ι args vs) (hf:ι id=none):
  Calls P f vs w fun e w'=>∃u B,e=.returned u/\Step hs D ι w D (lO ι id B) w'/\iD P hs D (lO ι id B) (bK g id ⟨true,sz,rows⟩) w'/\dy P w' D (lO ι id B) (.own id 0 rows.length) u:=by
 obtain⟨mE,args',ha,h⟩:=h
 let D1:Nat->Prop:=fun b=>D b∨∃id r B,g id=some r/\ι id=some B/\b=B.b
 have lt:∀id r B,g id=some r->ι id=some B->B.b<w.heap.size:=fun id r B h1 h2=>by
  obtain⟨B',eG,R,_⟩:=S.row id r h1
  rw[h2]at eG;injection eG with eG;subst eG
  exact R.lt
 have S0:iD P w.heap.size D1 ι (fun _=>none) w:=⟨Nat.le_refl _,fun b hb=>by
  rcases hb with hb|⟨id,r,B,h1,h2,rfl⟩
  ·exact S.dead b hb
  ·exact lt id r B h1 h2,fun id r h=>(by cases h),fun id kV r r' B B' h=>(by cases h)⟩
 obtain⟨l1,l2⟩:=iJ ha
 have A':gy P w D1 ι args' vs:=⟨by rw[A.1,l1],fun j a hj=>by
  obtain⟨a0,mz,hz⟩:=l2 j a hj
  obtain⟨u,hu,hr⟩:=A.2 j a0 mz
  refine⟨u,hu,(tY (D2:=D1) (ι2:=ι) (fun b h=>.inl h) (fun id row hg hw=>?_) 6 a0 u a hr hz).1⟩
  unfold eu at hg
  simp only[Option.map_eq_some_iff]at hg
  obtain⟨r,pS,rfl⟩:=hg
  obtain⟨B,hB,R,_,_⟩:=S.row id r (oJ id r pS)
  exact⟨B,hB,R.flag true,.inr ⟨id,r,B,oJ id r pS,hB,rfl⟩⟩⟩
 refine(h w.heap.size D1 ι w vs S0 U A').mono ?_
 rintro e w' ⟨r0,g',n',D2,ι1,u,rfl,⟨i0,hr,hg⟩,T,S1,_,_,hR⟩
 subst hr
 have hb:∀b,b<w.heap.size->w'.heap[b]? =w.heap[b]? :=T.below.block
 have hz:=T.below.size
 obtain⟨B,hB,R,k1,_⟩:=S1.row i0 _ hg
 have kI:w.heap.size<=B.b:=k1 rfl
 obtain⟨o,cap,B',rfl,eG,q2,q3,q4,q5,hk⟩:=jO hR
 rw[hB]at eG;injection eG with eG;subst eG
 replace R:=R.row hk
 have S':iD P hs D ι g w':=S.stay hb hz (fun _ h=>h) (fun b h=>Nat.lt_of_lt_of_le (S.dead b h) hz) (fun b h=>.inl h) (fun _ _ h=>h)
 have R':mN P w' D (lO ι id B) B ⟨true,sz,rows⟩:=⟨R.sz,R.zQ,R.fits,R.len,R.flat,fun i j cs a hi hj=>by
  obtain⟨v,h1,h2⟩:=R.at_ i j cs a hi hj
  exact⟨v,h1,JP (mE cs (List.mem_of_getElem? hi) a (List.mem_of_getElem? hj)) h2⟩⟩
 exact⟨_,B,rfl,Step.stay S hb hz T.below.os T.below.tape T.below.output (fun _ h=>h) (fun _ h=>.inl h) (gm hf),S.add S' hf kI (R'.obj hk),.own id 0 _ _ _ B (eV _ _ _) hk q2 q3 q4 q5⟩
theorem kj {f:Nat} {args:Array Value} (hc:gT P f=true):(callFunc f args).run P w=.ok (.enter f args) w:=by
 unfold gT at hc
 split at hc
 ·rename_i fn hf
  simp only[Bool.and_eq_true,Bool.not_eq_true']at hc
  have hb:fn.body.isNone=false:=by cases hq:fn.body<;>simp_all
  simp only[callFunc,Sem.run_bind,run_program,Result.andThen_ok,hf,hc.2,Bool.false_eq_true,if_false,hb]
  rfl
 ·simp at hc
theorem Er {f:Nat} {args:List O} (hc:tx P o.op=some (.call f args)):∃c,o.op=.call c/\c.callee=.value (.func f)/\gT P f=true/\c.args.toList.mapM (cO P)=some args:=by
 unfold tx at hc
 split at hc
 case h_23=>
  rename_i c ho
  refine⟨c,ho,?_⟩
  unfold pg at hc
  split at hc
  all_goals (try(repeat' (split at hc))<;>(simp only[Option.bind_eq_bind,Option.bind_eq_some_iff,Option.pure_def,Option.some.injEq,Option.map_eq_some_iff,reduceCtorEq,and_false,exists_false]at hc))
  all_goals simp_all
 all_goals (try unfold yg at hc)<;>(try unfold uZ at hc)<;>(repeat' (split at hc))<;>(simp only[Option.bind_eq_bind,Option.bind_eq_some_iff,Option.pure_def,Option.some.injEq,Option.map_eq_some_iff,reduceCtorEq,and_false,exists_false]at hc)
theorem vJ {x:O} {args:List O} (hc:tx P o.op=some (.wu x args)):∃c t,o.op=.call c/\c.callee=.value (.tmp t)/\x=.t t/\c.args.toList.mapM (cO P)=some args:=by
 unfold tx at hc
 split at hc
 case h_23=>
  rename_i c ho
  refine⟨c,?_⟩
  unfold pg at hc
  split at hc
  all_goals (try(repeat' (split at hc))<;>(simp only[Option.bind_eq_bind,Option.bind_eq_some_iff,Option.pure_def,Option.some.injEq,Option.map_eq_some_iff,reduceCtorEq,and_false,exists_false]at hc))
  all_goals simp_all
 all_goals (try unfold yg at hc)<;>(try unfold uZ at hc)<;>(repeat' (split at hc))<;>(simp only[Option.bind_eq_bind,Option.bind_eq_some_iff,Option.pure_def,Option.some.injEq,Option.map_eq_some_iff,reduceCtorEq,and_false,exists_false]at hc)
theorem Jm {n:Nat} {x y:O} (hc:tx P o.op=some (.store n x y)):∃t x' y',o.op=.store t x' y'/\eX P t=some n/\cO P x'=some x/\cO P y'=some y:=by
 unfold tx at hc
 split at hc
 case h_7=>
  rename_i t x' y' ho
  refine⟨t,x',y',ho,?_⟩
  simp only[Option.bind_eq_bind,Option.bind_eq_some_iff,Option.pure_def,Option.some.injEq]at hc
  obtain⟨n',h1,x2,h2,y2,h3,he⟩:=hc
  injection he with e1 e2 e3
  subst e1;subst e2;subst e3
  exact⟨h1,h2,h3⟩
 all_goals (try unfold yg at hc)<;>(try unfold uZ at hc)<;>(try unfold pg at hc)<;>(repeat' (split at hc))<;>(simp only[Option.bind_eq_bind,Option.bind_eq_some_iff,Option.pure_def,Option.some.injEq,Option.map_eq_some_iff,reduceCtorEq,and_false,exists_false]at hc)
theorem Gq {n:Nat} {x y:O} (hc:tx P o.op=some (.append n x y)):∃(t e:TypeId) (m:Nat) (z:List K) (i:TypeInfo) (x' y':Operand),n=m+1/\o.op=.call {callee:=.builtin .append,args:= #[x',y'],argTypes:= #[t,t]}/\
  P.underlying t=some (.slice e)/\eX P e=some (m+1)/\kz P e=some z/\P.info? e=some i/\i.bytes<=32768/\cO P x'=some x/\cO P y'=some y:=by
 unfold tx at hc
 split at hc
 case h_23=>
  rename_i c ho
  unfold pg at hc
  split at hc
  case h_2=>
   rename_i lL
   split at hc
   ·rename_i x' y' t u h1 h2
    split at hc
    ·rename_i e ht
     split at hc
     ·rename_i m z i e1 e2 e3
      split at hc
      ·rename_i hb
       simp only[Option.bind_eq_bind,Option.bind_eq_some_iff,Option.pure_def,Option.some.injEq]at hc
       obtain⟨x2,h3,y2,h4,he⟩:=hc
       injection he with k1 k2 k3
       subst k1;subst k2;subst k3
       obtain⟨Qb,rfl⟩:=hb
       refine⟨t,e,m,z,i,x',y',rfl,?_,ht,e1,e2,e3,Qb,h3,h4⟩
       rw[ho]
       obtain⟨ca,cb,cc⟩:=c
       simp only at h1 h2 lL
       subst lL
       congr
       ·exact Array.ext' h1
       ·exact Array.ext' h2
      ·simp at hc
     ·simp at hc
    ·simp at hc
   ·simp at hc
  all_goals (repeat' (split at hc))<;>(simp only[Option.bind_eq_bind,Option.bind_eq_some_iff,Option.pure_def,Option.some.injEq,Option.map_eq_some_iff,reduceCtorEq,and_false,exists_false]at hc)
 all_goals (try unfold yg at hc)<;>(try unfold uZ at hc)<;>(repeat' (split at hc))<;>(simp only[Option.bind_eq_bind,Option.bind_eq_some_iff,Option.pure_def,Option.some.injEq,Option.map_eq_some_iff,reduceCtorEq,and_false,exists_false]at hc)
theorem LP {n:Nat} {x y:O} (hc:tx P o.op=some (.copy n x y)):∃(t t2 e:TypeId) (m:Nat) (x' y':Operand),n=m+1/\o.op=.call {callee:=.builtin .copy,args:= #[x',y'],argTypes:= #[t,t2]}/\
  P.underlying t=some (.slice e)/\eX P e=some (m+1)/\cO P x'=some x/\cO P y'=some y:=by
 unfold tx at hc
 split at hc
 case h_23=>
  rename_i c ho
  unfold pg at hc
  split at hc
  case h_7=>
   rename_i lL
   split at hc
   ·rename_i x' y' t t2 h1 h2
    split at hc
    ·rename_i e ht
     split at hc
     ·rename_i m e1
      simp only[Option.bind_eq_bind,Option.bind_eq_some_iff,Option.pure_def,Option.some.injEq,iH.copy.injEq]at hc
      obtain⟨x2,h3,y2,h4,k0,k1,k2⟩:=hc
      subst k1;subst k2
      refine⟨t,t2,e,m,x',y',k0.symm,?_,ht,e1,h3,h4⟩
      rw[ho]
      obtain⟨ca,cb,cc⟩:=c
      simp only at h1 h2 lL
      subst lL
      congr
      ·exact Array.ext' h1
      ·exact Array.ext' h2
     ·simp at hc
    ·simp at hc
   ·simp at hc
  all_goals (repeat' (split at hc))<;>(simp only[Option.bind_eq_bind,Option.bind_eq_some_iff,Option.pure_def,Option.some.injEq,Option.map_eq_some_iff,reduceCtorEq,and_false,exists_false]at hc)
 all_goals (try unfold yg at hc)<;>(try unfold uZ at hc)<;>(repeat' (split at hc))<;>(simp only[Option.bind_eq_bind,Option.bind_eq_some_iff,Option.pure_def,Option.some.injEq,Option.map_eq_some_iff,reduceCtorEq,and_false,exists_false]at hc)
theorem Jl {z:List K} {x:O} (hc:tx P o.op=some (.clear z x)):∃(t e:TypeId) (m:Nat) (x':Operand),o.op=.call {callee:=.builtin .clear,args:= #[x'],argTypes:= #[t]}/\
  P.underlying t=some (.slice e)/\eX P e=some (m+1)/\kz P e=some z/\cO P x'=some x:=by
 unfold tx at hc
 split at hc
 case h_23=>
  rename_i c ho
  unfold pg at hc
  split at hc
  case h_3=>
   rename_i lL
   split at hc
   ·rename_i x' t h1 h2
    split at hc
    ·rename_i e ht
     split at hc
     ·rename_i m z' e1 e2
      simp only[Option.map_eq_some_iff]at hc
      obtain⟨x2,h3,he⟩:=hc
      injection he with k1 k2
      subst k1;subst k2
      refine⟨t,e,m,x',?_,ht,e1,e2,h3⟩
      rw[ho]
      obtain⟨ca,cb,cc⟩:=c
      simp only at h1 h2 lL
      subst lL
      congr
      ·exact Array.ext' h1
      ·exact Array.ext' h2
     ·simp at hc
    ·simp at hc
   ·simp at hc
  all_goals (repeat' (split at hc))<;>(simp only[Option.bind_eq_bind,Option.bind_eq_some_iff,Option.pure_def,Option.some.injEq,Option.map_eq_some_iff,reduceCtorEq,and_false,exists_false]at hc)
 all_goals (try unfold yg at hc)<;>(try unfold uZ at hc)<;>(repeat' (split at hc))<;>(simp only[Option.bind_eq_bind,Option.bind_eq_some_iff,Option.pure_def,Option.some.injEq,Option.map_eq_some_iff,reduceCtorEq,and_false,exists_false]at hc)
theorem Sa {q:MW} {xs:List O} (hc:tx P o.op=some (.mw q xs)):
  (∃t x k y m z x' k' y',(o.op=.mapUpdate t x k y∨o.op=.insert t x k y)/\u9 P t=some (m,z)/\cO P x=some x'/\cO P k=some k'/\cO P y=some y'/\q=.set m/\xs=[x',k',y'])∨
  (∃t t' x k m z x' k',o.op=.call {callee:=.builtin .delete,args:= #[x,k],argTypes:= #[t,t']}/\u9 P t=some (m,z)/\cO P x=some x'/\cO P k=some k'/\q=.del m/\xs=[x',k']):=by
 unfold tx at hc
 split at hc
 case h_23=>
  rename_i c ho
  right
  unfold pg at hc
  split at hc
  case h_6=>
   rename_i lL
   split at hc
   ·rename_i x k t t' h1 h2
    split at hc
    ·rename_i m z x' k' e1 e2 e3
     injection hc with hc
     injection hc with q1 q2
     refine⟨t,t',x,k,m,z,x',k',?_,e1,e2,e3,q1.symm,q2.symm⟩
     rw[ho]
     obtain⟨ca,cb,cc⟩:=c
     simp only at h1 h2 lL
     subst lL
     congr
     ·exact Array.ext' h1
     ·exact Array.ext' h2
    ·cases hc
   ·cases hc
  all_goals (repeat' (split at hc))<;>(simp only[Option.bind_eq_bind,Option.bind_eq_some_iff,Option.pure_def,Option.some.injEq,Option.map_eq_some_iff,reduceCtorEq,and_false,exists_false]at hc)
 case h_29=>
  rename_i t x k y ho
  left
  split at hc
  ·rename_i m z x' k' y' e1 e2 e3 e4
   injection hc with hc
   injection hc with q1 q2
   exact⟨t,x,k,y,m,z,x',k',y',.inl ho,e1,e2,e3,e4,q1.symm,q2.symm⟩
  ·cases hc
 case h_30=>
  rename_i t x k y ho
  left
  split at hc
  ·rename_i m z x' k' y' e1 e2 e3 e4
   injection hc with hc
   injection hc with q1 q2
   exact⟨t,x,k,y,m,z,x',k',y',.inr ho,e1,e2,e3,e4,q1.symm,q2.symm⟩
  ·cases hc
 all_goals (try unfold yg at hc)<;>(try unfold uZ at hc)<;>(repeat' (split at hc))<;>(simp only[Option.bind_eq_bind,Option.bind_eq_some_iff,Option.pure_def,Option.some.injEq,Option.map_eq_some_iff,reduceCtorEq,and_false,exists_false]at hc)
def j7 (g:Rows) (id:Id):Option Row->Rows
 |some r=>bK g id r
 |none=>g
def yi (X:gP) (hid:List Nat) (site n:Nat) (f:Nat) (args:List AV) (g:Rows) (v:AV) (g':Rows):Prop:=
 (fY X f args ⟨fK hid n g,n+1⟩ (fun r=>r=v)/\g'=g)∨
 (hid.contains site=true/\∃sz rows,CM X f args ⟨fK hid n g,n+1⟩ sz rows/\v=.own ⟨site,n⟩ 0 rows.length/\g'=bK g ⟨site,n⟩ ⟨true,sz,rows⟩)
def VS (X:gP) (n:Nat) (vo:bc) (env:Env) (g:Rows) (v:AV) (g':Rows):Prop:=
 match vo.op with
 | .call f args=>yi X vo.hid vo.site n f (args.map (du env)) g v g'
 | .wu x args=>∃f l,yh (du env x) (args.map (du env))=some (f,l)/\yi X vo.hid vo.site n f l g v g'
 | .store .. | .append .. | .copy .. | .clear .. | .mw .. =>fN vo.op (du env) g ⟨vo.site,n⟩=some (v,g')
 |_=>∃mr,eR vo.op (du env) (fK vo.hid n g) ⟨vo.site,n⟩=some (v,mr)/\g'=j7 g ⟨vo.site,n⟩ mr
def PW (P:Program) (hs:Nat) (D:Nat->Prop) (ι:Names) (w:World) (U:Nat->Prop) (site n:Nat) (a:Act) (dst:Option Tmp) (v:AV) (g':Rows) (a':Act) (w':World):Prop:=
 ∃u D' ι',a'=a.put dst u/\Step hs D ι w D' ι' w'/\iD P hs D' ι' g' w'/\dy P w' D' ι' v u/\Used ι' n (fun s=>U s∨s=site)
theorem fresh {n:Nat} {U:Nat->Prop} {s:Nat} (h:Used ι n U) (hU:¬U s):ι ⟨s,n⟩=none:=by
 cases hq:ι ⟨s,n⟩with
 |none=>rfl
 |some B=>
  rcases h ⟨s,n⟩ (by rw[hq];simp)with h|⟨_,h⟩
  ·exact absurd h (Nat.lt_irrefl _)
  ·exact absurd h hU
theorem Used.more {n:Nat} {U U':Nat->Prop} (h:Used ι n U) (hU:∀s,U s->U' s):Used ι n U':=fun id hid=>by
 rcases h id hid with h|⟨h1,h2⟩
 ·exact .inl h
 ·exact .inr ⟨h1,hU _ h2⟩
theorem Used.next {n:Nat} {U:Nat->Prop} (h:Used ι n U):Used ι (n+1) (fun _=>False):=fun id hid=>by
 rcases h id hid with h|⟨h1,_⟩
 ·exact .inl (Nat.lt_succ_of_lt h)
 ·exact .inl ae
theorem Used.upd {n:Nat} {U:Nat->Prop} {s:Nat} {B:uS} (h:Used ι n U):Used (lO ι ⟨s,n⟩ B) n (fun x=>U x∨x=s):=fun id hid=>by
 by_cases he:id=⟨s,n⟩
 ·subst he;exact .inr ⟨rfl,.inr rfl⟩
 ·rw[iA he]at hid
  exact(h.more (U':=fun x=>U x∨x=s) fun _ h=>Or.inl h) id hid
theorem qe {xs:Array Operand} {ys:List O} (E:di P w D ι env a) (h:xs.toList.mapM (cO P)=some ys):gy P w D ι (ys.map (du env)) (xs.map a.eval):=by
 obtain⟨h1,h2⟩:=GJ E h
 refine⟨by simpa using h1,fun j b hj=>?_⟩
 simp only[List.getElem?_map,Option.map_eq_some_iff]at hj
 obtain⟨y,hy,rfl⟩:=hj
 have eM:j<xs.size:=by have:=(List.getElem?_eq_some_iff.1 hy).1;simp at h1;omega
 refine⟨a.eval xs[j],by simp[eM],?_⟩
 have:=h2 j y hy
 simpa[List.getD_eq_getElem?_getD,eM]using this
theorem qN {xs ys:List AV} {vs us:Array Value} (h:gy P w D ι xs vs) (k:gy P w D ι ys us):gy P w D ι (xs++ys) (vs++us):=
 ⟨by simp[h.1,k.1],fun j b hj=>by
  by_cases eM:j<xs.length
  ·rw[List.getElem?_append_left eM]at hj
   obtain⟨u,hu,z7⟩:=h.2 j b hj
   exact⟨u,by rw[Array.getElem?_append_left (by rw[h.1];exact eM)];exact hu,z7⟩
  ·rw[List.getElem?_append_right ae]at hj
   obtain⟨u,hu,z7⟩:=k.2 _ b hj
   exact⟨u,by rw[Array.getElem?_append_right (by rw[h.1];omega),h.1];exact hu,z7⟩⟩
theorem zk:gy P w D ι [] #[]:=⟨rfl,fun j b hj=>by simp at hj⟩
theorem yj {x:AV} {l l':List AV} {f:Nat} {vs:Array Value} {v:Value} (h:yh x l=some (f,l')) (hr:dy P w D ι x v) (hA:gy P w D ι l vs):
  ∃first dG,v=.func (.func f) first dG/\gT P f=true/\gy P w D ι l' (first++vs++dG):=by
 unfold yh at h
 split at h
 ·simp only[Option.some.injEq,Prod.mk.injEq]at h
  obtain⟨rfl,rfl⟩:=h
  obtain⟨us,q,he,HE,n1,q1,q2⟩:=CF hr
  refine⟨#[],us,he,HE,?_⟩
  rw[Array.empty_append]
  exact qN hA ⟨n1,fun j b hj=>⟨q j,q1 j (List.getElem?_eq_some_iff.1 hj).1,q2 j b hj⟩⟩
 ·simp only[Option.some.injEq,Prod.mk.injEq]at h
  obtain⟨rfl,rfl⟩:=h
  obtain⟨us,q,he,HE,n1,q1,q2⟩:=Ps hr
  refine⟨us, #[],he,HE,?_⟩
  rw[Array.append_empty]
  exact qN ⟨n1,fun j b hj=>⟨q j,q1 j (List.getElem?_eq_some_iff.1 hj).1,q2 j b hj⟩⟩ hA
 ·cases h
theorem Dk {n:Nat} {vo:bc} {g':Rows} {U:Nat->Prop} {Q:Exit->Act->World->Prop} {K:Act->World->Prop} (hc:tx P o.op=some vo.op) (hv:VS (Sound P) n vo env g v g') (S:iD P hs D ι g w) (Us:Used ι n U) (hU:¬U vo.site) (E:di P w D ι env a)
  (hK:∀a' w',PW P hs D ι w U vo.site n a o.dst v g' a' w'->K a' w'):o.wp P a w K Q:=by
 have hf:=fresh Us hU
 have Du:∀(f:Nat) (args:List AV) (vs:Array Value),yi (Sound P) vo.hid vo.site n f args g v g'->gy P w D ι args vs->(execOp a.eval o).run P w=.ok (.enter f vs) w->o.wp P a w K Q:=by
  intro f args vs hP hA iw
  unfold Oper.wp
  rw[iw]
  rcases hP with⟨hP,rfl⟩|⟨_,sz,rows,hM,rfl,rfl⟩
  ·refine(Is hP CU S Us.next hA).mono ?_
   rintro e w' ⟨r,D',u,rfl,rfl,T,S',hR⟩
   exact hK _ _ ⟨u,D',ι,rfl,T,S',hR,Us.more fun _ h=>.inl h⟩
  ·refine(Kr hM CU S Us.next hA hf).mono ?_
   rintro e w' ⟨u,B,rfl,T,S',hR⟩
   exact hK _ _ ⟨u,D,_,rfl,T,S',hR,Us.upd⟩
 have quiet:∀(mr:Option Row),eR vo.op (du env) (fK vo.hid n g) ⟨vo.site,n⟩=some (v,mr)->g'=j7 g ⟨vo.site,n⟩ mr->o.wp P a w K Q:=by
  intro mr hq hg
  have VX:=Bn hc hq (S.sub CU) E
  unfold Oper.wp
  cases mr with
  |none=>
   obtain⟨u,iw,hR⟩:=VX
   rw[iw]
   subst hg
   exact hK _ _ ⟨u,D,ι,rfl,Step.refl _ _ _ _,S,hR,Us.more fun _ h=>.inl h⟩
  |some r=>
   rcases VX with⟨u,cells,T,iw,h1,h2,h3,h4,h5,h6⟩|⟨m,iw,R8,OJ⟩|⟨c,iw,R8,OJ⟩
   case inr.inr=>
    rw[iw]
    subst hg R8 OJ
    have e9:w.heap.size<(w.alloc (.chan c #[] false 0 0 false)).heap.size:=by simp
    have S':=S.stay (w':=w.alloc (.chan c #[] false 0 0 false)) (D':=D) (ι':=ι) (fun k hk=>Below.heap_alloc _ _ _ hk) (by simp) (fun _ h=>h) (fun b hd=>Nat.lt_trans (S.dead b hd) e9) (fun _ h=>.inl h) (fun _ _ h=>h)
    have S1:=S.add S' (id:=⟨vo.site,n⟩) (B:=⟨w.heap.size,tV+c,0,some (.chan c)⟩) (r:=⟨true,tV+c,[]⟩) hf (Nat.le_refl _) ⟨rfl,fun cs h=>by simp at h,fun h=>by simp at h,fun m' h=>(by simp at h),fun c' h=>by
     simp only[Option.some.injEq,BK.chan.injEq]at h;subst h
     exact⟨rfl, #[],0,0,(show(w.heap.push (Obj.chan c #[] false 0 0 false))[w.heap.size]? =some (Obj.chan c #[] false 0 0 false) by simp),rfl,fun i cs h=>by simp at h⟩⟩
    exact hK _ _ ⟨_,D,_,rfl,Step.stay S (fun k hk=>Below.heap_alloc _ _ _ hk) (by simp) rfl rfl rfl (fun _ h=>h) (fun _ h=>.inl h) (gm hf),S1,.tQ _ _ _ (eV _ _ _) rfl,Us.upd⟩
   case inr.inl=>
    rw[iw]
    subst hg R8 OJ
    have e9:w.heap.size<(w.alloc (.map #[] 0)).heap.size:=by simp
    have S':=S.stay (w':=w.alloc (.map #[] 0)) (D':=D) (ι':=ι) (fun k hk=>Below.heap_alloc _ _ _ hk) (by simp) (fun _ h=>h) (fun b hd=>Nat.lt_trans (S.dead b hd) e9) (fun _ h=>.inl h) (fun _ _ h=>h)
    have S1:=S.add S' (id:=⟨vo.site,n⟩) (B:=⟨w.heap.size,m.pU,0,some (.map m)⟩) (r:=⟨true,m.pU,[]⟩) hf (Nat.le_refl _) ⟨rfl,fun cs h=>by simp at h,fun h=>by simp at h,fun m' h=>by
     simp only[Option.some.injEq,BK.map.injEq]at h;subst h
     exact⟨rfl, #[],0,(show(w.heap.push (Obj.map #[] 0))[w.heap.size]? =some (Obj.map #[] 0) by simp),rfl,⟨fun cs h=>by simp at h,fun x h=>by simp at h,by simp⟩,fun i cs h=>by simp at h⟩,fun c h=>by simp at h⟩
    exact hK _ _ ⟨_,D,_,rfl,Step.stay S (fun k hk=>Below.heap_alloc _ _ _ hk) (by simp) rfl rfl rfl (fun _ h=>h) (fun _ h=>.inl h) (gm hf),S1,.map _ _ _ (eV _ _ _) rfl,Us.upd⟩
   rw[iw]
   subst hg
   have S1:=S.alloc (id:=⟨vo.site,n⟩) (w':=w.alloc (.cells cells T)) rfl hf h1 h2 h3 h4 h5
   refine hK _ _ ⟨u,D,_,rfl,Step.stay S (fun k hk=>Below.heap_alloc _ _ _ hk) (by simp) rfl rfl rfl (fun _ h=>h) (fun _ h=>.inl h) (gm hf),S1,(h6 (lO ι _ _) (eV _ _ _)).frame (fun b hd=>Below.heap_alloc _ _ _ (S.dead b hd)) (fun _ h=>h) (fun _ _ h=>h),Us.upd⟩
 have Uf:fN vo.op (du env) g ⟨vo.site,n⟩=some (v,g')->(∀NP,Fy P hs a o NP D ι ⟨vo.site,n⟩ v g'->NP=w->o.wp P a w K Q):=by
  intro _ NP hE he
  subst he
  obtain⟨u,w',ι',iw,T,S',hR,hι⟩:=hE
  have Lh:PW P hs D ι NP U vo.site n a o.dst v g' (a.put o.dst u) w':=⟨u,D,ι',rfl,T,S',hR,fun id hid=>by
   by_cases he:id=⟨vo.site,n⟩
   ·subst he;exact .inr ⟨rfl,.inr rfl⟩
   ·rw[hι id he]at hid
    exact(Us.more (U':=fun x=>U x∨x=vo.site) fun _ h=>Or.inl h) id hid⟩
  unfold Oper.wp
  rcases iw with iw|⟨iw,rfl⟩
  ·rw[iw];exact hK _ _ Lh
  ·rw[iw];exact hK _ _ Lh
 unfold VS at hv
 split at hv
 ·rename_i f args eS
  rw[eS]at hc
  obtain⟨c,ho,lL,HE,pq⟩:=Er hc
  refine Du f _ (c.args.map a.eval) hv (qe E pq) ?_
  simp only[execOp,ho,resolve,lL,Deferred.ofValue,Act.eval,Sem.run_bind,Sem.run_pure,Result.andThen_ok,invoke,Array.empty_append,Array.append_empty]
  exact kj HE
 ·rename_i x args eS
  obtain⟨f,l,hx,hP⟩:=hv
  rw[eS]at hc
  obtain⟨c,t,ho,lL,rfl,pq⟩:=vJ hc
  obtain⟨first,dG,he,HE,hL⟩:=yj (v:=a.eval (.tmp t)) hx (E t) (qe E pq)
  refine Du f _ (first++c.args.map a.eval++dG) hP hL ?_
  simp only[execOp,ho,resolve,lL,he,Deferred.ofValue,Sem.run_bind,Sem.run_pure,Result.andThen_ok,invoke]
  exact kj HE
 ·rename_i m x y eS
  have lZ:=hc
  rw[eS]at lZ
  obtain⟨t,x',y',ho,h1,h2,h3⟩:=Jm lZ
  have pM:=hv
  rw[eS]at pM
  simp only[fN,Option.map_eq_some_iff,Prod.mk.injEq]at pM
  obtain⟨g1,Ga,rfl,rfl⟩:=pM
  exact Uf hv w (Od S E ho h1 h2 h3 Ga) rfl
 ·rename_i m x y eS
  have lZ:=hc
  rw[eS]at lZ
  obtain⟨t,e,m',z,i,x',y',rfl,ho,h1,h2,h3,h4,h5,h6,h7⟩:=Gq lZ
  have pM:=hv
  rw[eS]at pM
  simp only[fN,Option.bind_eq_some_iff]at pM
  obtain⟨ys,HP,pM⟩:=pM
  exact Uf hv w (KZ S E hf ho h1 h2 h3 h4 h5 h6 h7 HP pM) rfl
 ·rename_i m x y eS
  have lZ:=hc
  rw[eS]at lZ
  obtain⟨t,t2,e,m',x',y',rfl,ho,h1,h2,h3,h4⟩:=LP lZ
  have pM:=hv
  rw[eS]at pM
  simp only[fN,Option.bind_eq_some_iff]at pM
  obtain⟨ys,HP,pM⟩:=pM
  exact Uf hv w (Q9 S E ho h1 h2 h3 h4 HP pM) rfl
 ·rename_i z x eS
  have lZ:=hc
  rw[eS]at lZ
  obtain⟨t,e,m',x',ho,h1,h2,h3,h4⟩:=Jl lZ
  have pM:=hv
  rw[eS]at pM
  simp only[fN,Option.map_eq_some_iff,Prod.mk.injEq]at pM
  obtain⟨g1,Ga,rfl,rfl⟩:=pM
  exact Uf hv w (Ob S E ho h1 h2 h3 h4 Ga) rfl
 ·rename_i q xs eS
  have lZ:=hc
  rw[eS]at lZ
  have pM:=hv
  rw[eS]at pM
  simp only[fN,Option.map_eq_some_iff,Prod.mk.injEq]at pM
  obtain⟨g1,Ga,rfl,rfl⟩:=pM
  rcases Sa lZ with⟨t,x,k,y,m,z,x',k',y',ho,h1,h2,h3,h4,rfl,rfl⟩|⟨t,t',x,k,m,z,x',k',ho,h1,h2,h3,rfl,rfl⟩
  ·exact Uf hv w (Rb S E ho h1 h2 h3 h4 Ga) rfl
  ·exact Uf hv w (Ra S E ho h1 h2 h3 Ga) rfl
 ·obtain⟨mr,hq,hg⟩:=hv
  exact quiet mr hq hg
end
end Go.Proofs.YtiabgllilcfheaaGreat.V

namespace Go.Proofs.YtiabgllilcfheaaGreat.V
open Go.RowKit
variable {P:Program} {w w':World} {D D' D2:Nat->Prop} {ι ι' ι2:Names}
section
variable {g:Rows} {hs:Nat} {env:Env} {a:Act} {o:Oper} {id:Id} {v:AV}
theorem qY {ops:Array Oper} {nt site0 j:Nat} {draw mk:Bool} {bs:Array Nat} {hidden:List (Nat×Bool)} {vo:bc} (h:lU P ops nt site0 draw mk bs hidden j o=some vo):
  tx P o.op=some vo.op/\vo.dst=o.dst/\vo.site=site0+j/\(∀d,o.dst=some d->d<nt)/\(match o.guard with
   |none=>vo.guard=none
   |some (i,b)=>∃t,(ops[i]?).bind (·.dst)=some t/\vo.guard=some (t,b)):=by
 unfold lU at h
 simp only[Option.bind_eq_bind,Option.bind_eq_some_iff]at h
 obtain⟨v,hv,gd,hg,h⟩:=h
 split at h
 ·rename_i hd
  simp only[Option.pure_def,Option.some.injEq]at h
  subst h
  refine⟨hv,rfl,rfl,fun d Xk=>?_,?_⟩
  ·rw[Xk]at hd;simpa using hd
  ·unfold FL at hg
   cases ub:o.guard with
   |none=>rw[ub]at hg;simp at hg;exact hg.symm
   |some p=>
    obtain⟨i,b⟩:=p
    rw[ub]at hg
    dsimp only at hg ⊢
    split at hg
    ·rename_i t ht
     simp at hg;exact⟨t,ht,hg.symm⟩
    ·simp at hg
 ·simp at h
theorem wh {ops:Array Oper} {vo:bc} (E:di P w D ι env a) (hg:match o.guard with
   |none=>vo.guard=none
   |some (i,b)=>∃t,(ops[i]?).bind (·.dst)=some t/\vo.guard=some (t,b)):aF vo.guard env=Region.wanted o (yielded ops a.tmps):=by
 unfold Region.wanted
 cases ub:o.guard with
 |none=>rw[ub]at hg;simp only at hg;rw[hg];rfl
 |some p=>
  obtain⟨i,b⟩:=p
  rw[ub]at hg
  obtain⟨t,ht,hv⟩:=hg
  rw[hv]
  simp only[aF,yielded,ht,Option.bind_some]
  have hr:=E t
  by_cases eM:t<a.tmps.size
  ·have ji:a.tmps[t]? =some a.tmps[t]:=Array.getElem?_eq_getElem eM
   have hd:a.tmps.getD t undef=a.tmps[t]:=by simp[eM]
   rw[hd]at hr
   rw[ji]
   generalize a.tmps[t]=u at hr
   cases he:env t with
   |bool c=>rw[he]at hr;rw[gj hr];simp
   |_=>
    rw[he]at hr
    have:∀c,u≠.bool c:=by
     intro c hu
     subst hu
     cases hr with
     |fy _ _ h=>cases h
    cases u<;>simp_all
  ·have ji:a.tmps[t]? =none:=Array.getElem?_eq_none (Nat.le_of_not_lt eM)
   have hd:a.tmps.getD t undef=undef:=by simp[ji]
   rw[hd]at hr
   rw[ji]
   cases he:env t with
   |bool c=>rw[he]at hr;have:=gj hr;simp[undef]at this
   |_=>simp
theorem jw {dst:Option Nat} {nt:Nat} {u:Value} (E:di P w D ι env a) (hr:dy P w D ι v u) (hd:∀d,dst=some d->d<nt) (hs:a.tmps.size=nt):di P w D ι (upd env dst v) (a.put dst u):=by
 intro t
 cases dst with
 |none=>exact E t
 |some d=>
  have eM:d<a.tmps.size:=by rw[hs];exact hd d rfl
  simp only[upd,Act.put]
  by_cases ht:t=d
  ·subst ht
   simp[eM];exact hr
  ·rw[if_neg ht]
   have:(a.tmps.setIfInBounds d u).getD t undef=a.tmps.getD t undef:=by
    simp only[Array.getD_eq_getD_getElem?]
    rw[Array.getElem?_setIfInBounds_ne (fun e=>ht e.symm)]
   rw[this];exact E t
theorem qn {hs:Nat} (E:di P w D ι env a) (T:Step hs D ι w D' ι' w'):di P w' D' ι' env a:=fun t=>T.rep (E t)
theorem fS (a:Act) (dst:Option Tmp) (u:Value):(a.put dst u).tmps.size=a.tmps.size:=by cases dst<;>simp[Act.put]
theorem put_defers (a:Act) (dst:Option Tmp) (u:Value):(a.put dst u).defers=a.defers:=by cases dst<;>rfl
theorem Bz {draw:Bool} {vo:bc} {σ:ax} {next:AV->ax->Prop} {U:Nat->Prop} {Q:Exit->Act->World->Prop} {K:Act->World->Prop} (hc:tx P o.op=some vo.op) (hv:fC (Sound P) draw vo env σ next) (S:iD P hs D ι σ.get w) (Us:Used ι σ.next U) (hU:¬U vo.site) (E:di P w D ι env a)
  (hK:∀v σ' u D' ι' w',next v σ'->Step hs D ι w D' ι' w'->iD P hs D' ι' σ'.get w'->dy P w' D' ι' v u->Used ι' σ'.next (fun s=>U s∨s=vo.site)->σ.next<=σ'.next->K (a.put o.dst u) w'):o.wp P a w K Q:=by
 have close:∀v g',VS (Sound P) σ.next vo env σ.get v g'->next v ⟨g',σ.next⟩->o.wp P a w K Q:=fun v g' h1 h2=>
  Dk hc h1 S Us hU E fun a' w' ⟨u,D',ι',ha,T,S',hR,U'⟩=>by subst ha;exact hK v ⟨g',σ.next⟩ u D' ι' w' h2 T S' hR U' (Nat.le_refl _)
 have Mg:∀(f:Nat) (args:List AV) (vs:Array Value),Sound P f args ⟨σ.get,σ.next+1⟩ next->gy P w D ι args vs->(execOp a.eval o).run P w=.ok (.enter f vs) w->o.wp P a w K Q:=by
  intro f args vs h hA iw
  unfold Oper.wp
  rw[iw]
  refine(h hs D ι w vs S Us.next hA).mono ?_
  rintro e w' ⟨r,g',n',D',ι',u,rfl,hn,T,S',U',hle,hR⟩
  exact hK r ⟨g',n'⟩ u D' ι' w' hn T S' hR (U'.more fun _ h=>h.elim) (Nat.le_trans (Nat.le_succ _) hle)
 unfold fC at hv
 split at hv
 ·rename_i f args eS
  rcases hv with⟨r,hP,hn⟩|⟨_,hX⟩|⟨xL,sz,rows,hM,hn⟩
  ·exact close r σ.get (by unfold VS;rw[eS];exact .inl ⟨hP,rfl⟩) hn
  rotate_left
  ·exact close _ _ (by unfold VS;rw[eS];exact .inr ⟨xL,sz,rows,hM,rfl,rfl⟩) hn
  ·have lZ:=hc
   rw[eS]at lZ
   obtain⟨c,ho,lL,HE,pq⟩:=Er lZ
   refine Mg f _ (c.args.map a.eval) hX (qe E pq) ?_
   simp only[execOp,ho,resolve,lL,Deferred.ofValue,Act.eval,Sem.run_bind,Sem.run_pure,Result.andThen_ok,invoke,Array.empty_append,Array.append_empty]
   exact kj HE
 ·rename_i x args eS
  split at hv
  ·rename_i f dG hx
   have uR:yh (du env x) (args.map (du env))=some (f,args.map (du env)++dG):=by rw[hx];rfl
   rcases hv with⟨r,hP,hn⟩|⟨_,hX⟩|⟨xL,sz,rows,hM,hn⟩
   ·exact close r σ.get (by unfold VS;rw[eS];exact⟨f,_,uR,.inl ⟨hP,rfl⟩⟩) hn
   rotate_left
   ·exact close _ _ (by unfold VS;rw[eS];exact⟨f,_,uR,.inr ⟨xL,sz,rows,hM,rfl,rfl⟩⟩) hn
   ·have lZ:=hc
    rw[eS]at lZ
    obtain⟨c,t,ho,lL,rfl,pq⟩:=vJ lZ
    obtain⟨first,us,he,HE,hL⟩:=yj (v:=a.eval (.tmp t)) uR (E t) (qe E pq)
    refine Mg f _ (first++c.args.map a.eval++us) hX hL ?_
    simp only[execOp,ho,resolve,lL,he,Deferred.ofValue,Sem.run_bind,Sem.run_pure,Result.andThen_ok,invoke]
    exact kj HE
  ·rename_i f dG hx
   have uR:yh (du env x) (args.map (du env))=some (f,dG++args.map (du env)):=by rw[hx];rfl
   rcases hv with⟨r,hP,hn⟩|⟨_,hX⟩|⟨xL,sz,rows,hM,hn⟩
   ·exact close r σ.get (by unfold VS;rw[eS];exact⟨f,_,uR,.inl ⟨hP,rfl⟩⟩) hn
   rotate_left
   ·exact close _ _ (by unfold VS;rw[eS];exact⟨f,_,uR,.inr ⟨xL,sz,rows,hM,rfl,rfl⟩⟩) hn
   ·have lZ:=hc
    rw[eS]at lZ
    obtain⟨c,t,ho,lL,rfl,pq⟩:=vJ lZ
    obtain⟨first,us,he,HE,hL⟩:=yj (v:=a.eval (.tmp t)) uR (E t) (qe E pq)
    refine Mg f _ (first++c.args.map a.eval++us) hX hL ?_
    simp only[execOp,ho,resolve,lL,he,Deferred.ofValue,Sem.run_bind,Sem.run_pure,Result.andThen_ok,invoke]
    exact kj HE
  ·exact hv.elim
 ·rename_i m x y eS
  split at hv
  ·rename_i v' g' he
   exact close v' g' (by unfold VS;rw[eS];rw[eS]at he;exact he) hv
  ·exact hv.elim
 ·rename_i m x y eS
  split at hv
  ·rename_i v' g' he
   exact close v' g' (by unfold VS;rw[eS];rw[eS]at he;exact he) hv
  ·exact hv.elim
 ·rename_i m x y eS
  split at hv
  ·rename_i v' g' he
   exact close v' g' (by unfold VS;rw[eS];rw[eS]at he;exact he) hv
  ·exact hv.elim
 ·rename_i m x eS
  split at hv
  ·rename_i v' g' he
   exact close v' g' (by unfold VS;rw[eS];rw[eS]at he;exact he) hv
  ·exact hv.elim
 ·rename_i m x eS
  split at hv
  ·rename_i v' g' he
   exact close v' g' (by unfold VS;rw[eS];rw[eS]at he;exact he) hv
  ·exact hv.elim
 ·rename_i n1 n2 n3 n4 n5 n6 n7
  split at hv
  ·rename_i v' r hq
   refine close v' (bK σ.get ⟨vo.site,σ.next⟩ r) ?_ hv
   unfold VS
   split
   ·rename_i h;exact(n1 _ _ h).elim
   ·rename_i h;exact(n2 _ _ h).elim
   ·rename_i h;exact(n3 _ _ _ h).elim
   ·rename_i h;exact(n4 _ _ _ h).elim
   ·rename_i h;exact(n5 _ _ _ h).elim
   ·rename_i h;exact(n6 _ _ h).elim
   ·rename_i h;exact(n7 _ _ h).elim
   ·exact⟨some r,hq,rfl⟩
  ·rename_i v' hq
   refine close v' σ.get ?_ hv
   unfold VS
   split
   ·rename_i h;exact(n1 _ _ h).elim
   ·rename_i h;exact(n2 _ _ h).elim
   ·rename_i h;exact(n3 _ _ _ h).elim
   ·rename_i h;exact(n4 _ _ _ h).elim
   ·rename_i h;exact(n5 _ _ _ h).elim
   ·rename_i h;exact(n6 _ _ h).elim
   ·rename_i h;exact(n7 _ _ h).elim
   ·exact⟨none,hq,rfl⟩
  ·exact hv.elim
structure St (P:Program) (hs nt:Nat) (D:Nat->Prop) (ι:Names) (env:Env) (σ:ax) (a:Act) (w:World):Prop where
 vZ:iD P hs D ι σ.get w
 used:Used ι σ.next (fun _=>False)
 env:di P w D ι env a
 size:a.tmps.size=nt
theorem y8 (rest:List Oper) {ops:Array Oper} {nt site0:Nat} {draw mk:Bool} {bs:Array Nat} {hidden:List (Nat×Bool)} {K:Env->ax->Prop} {Q:Exit->Act->World->Prop}:∀(l:List Oper) (vl:List bc) (j:Nat) (env:Env) (σ:ax) (a:Act) (w:World) (D:Nat->Prop) (ι:Names) (U:Nat->Prop),
  allM (lU P ops nt site0 draw mk bs hidden) l j=some vl->wpOps (Sound P) draw vl K env σ->iD P hs D ι σ.get w->Used ι σ.next U->(∀s,U s->s<site0+j)->di P w D ι env a->a.tmps.size=nt->
  (∀jF σ' a' w' D' ι',K jF σ'->Step hs D ι w D' ι' w'->St P hs nt D' ι' jF σ' a' w'->a'.defers=a.defers->σ.next<=σ'.next->wpList P ops Q rest a' w')->wpList P ops Q (l++rest) a w:=by
 intro l
 induction l with
 |nil=>
  intro vl j env σ a w D ι U h hv S Us _ E e9 hQ
  simp[allM]at h;subst h
  exact hQ env ⟨σ.get,σ.next+1⟩ a w D ι hv (Step.refl _ _ _ _) ⟨S,Us.next,E,e9⟩ rfl (Nat.le_succ _)
 |cons o l ih=>
  intro vl j env σ a w D ι U h hv S Us hU E e9 hQ
  simp only[allM,Option.bind_eq_bind,Option.bind_eq_some_iff,Option.pure_def,Option.some.injEq]at h
  obtain⟨vo,lp,wg,uQ,rfl⟩:=h
  obtain⟨hc,hd,Ei,zW,hg⟩:=qY lp
  have hw:=wh (ops:=ops) (vo:=vo) E hg
  unfold wpOps at hv
  show wpList P ops Q (o::(l++rest)) a w
  unfold wpList
  rw[<-hw]
  split at hv
  ·rename_i Jg
   rw[if_pos Jg]
   refine .inl (Bz hc hv S Us (fun h=>by have:=hU _ h;omega) E fun v σ' u D' ι' w' hn T S' hR U' hle=>?_)
   refine ih wg (j+1) (upd env vo.dst v) σ' (a.put o.dst u) w' D' ι' _ uQ hn S' U' (fun s Ee=>by
    rcases Ee with h|h
    ·have:=hU _ h;omega
    ·omega) (by rw[hd];exact jw (qn E T) hR zW e9) (by rw[fS];exact e9) fun jF σ2 a' w2 D2 ι2 hk T2 QS F6 nu=>hQ jF σ2 a' w2 D2 ι2 hk (T.trans T2) QS (F6.trans (put_defers _ _ _)) (Nat.le_trans hle nu)
  ·rename_i Jg
   rw[if_neg Jg]
   refine ih wg (j+1) (upd env vo.dst .undef) σ (a.put o.dst undef) w D ι U uQ hv S Us (fun s Ee=>by have:=hU _ Ee;omega) (by rw[hd];exact jw E dy.undef zW e9) (by rw[fS];exact e9) fun jF σ2 a' w2 D2 ι2 hk T2 QS F6 nu=>hQ jF σ2 a' w2 D2 ι2 hk T2 QS (F6.trans (put_defers _ _ _)) nu
theorem Bg {ops:Array Oper} {nt site0:Nat} {draw mk:Bool} {bs:Array Nat} {hidden:List (Nat×Bool)} {K:Env->ax->Prop} {Q:Exit->Act->World->Prop}:∀(l:List Oper) (vl:List bc) (j:Nat) (env:Env) (σ:ax) (a:Act) (w:World) (D:Nat->Prop) (ι:Names) (U:Nat->Prop),
  allM (lU P ops nt site0 draw mk bs hidden) l j=some vl->wpOps (Sound P) draw vl K env σ->iD P hs D ι σ.get w->Used ι σ.next U->(∀s,U s->s<site0+j)->di P w D ι env a->a.tmps.size=nt->
  (∀jF σ' a' w' D' ι',K jF σ'->Step hs D ι w D' ι' w'->St P hs nt D' ι' jF σ' a' w'->a'.defers=a.defers->σ.next<=σ'.next->Q .normal a' w')->wpList P ops Q l a w:=fun l vl j env σ a w D ι U h hv S Us hU E e9 hQ=>by
 have:=y8 [] l vl j env σ a w D ι U h hv S Us hU E e9 hQ
 rwa [List.append_nil]at this
end
end Go.Proofs.YtiabgllilcfheaaGreat.V

namespace Go.Proofs.YtiabgllilcfheaaGreat.V
open Go.RowKit
variable {P:Program} {w w':World} {D D' D2:Nat->Prop} {ι ι' ι2:Names}
section
variable {hs:Nat} {X:gP}
theorem cr {env jP:Env} {x:O} (h:∀t∈ja x,env t=jP t):du env x=du jP x:=by
 cases x with
 |t n=>exact h n (by simp[ja])
 |_=>rfl
theorem map_congr {env jP:Env} {l:List O} (h:∀t∈l.flatMap ja,env t=jP t):l.map (du env)=l.map (du jP):=
 List.map_congr_left fun x hx=>cr fun t ht=>h t (List.mem_flatMap.2 ⟨x,hx,ht⟩)
theorem rz {env jP:Env} {x:Option O} (h:∀t∈y9 x,env t=jP t):x.map (du env)=x.map (du jP):=by
 cases x with
 |none=>rfl
 |some y=>simp only[Option.map_some];rw[cr h]
theorem vU {env jP:Env} {o:iH} {g:Rows} {id:Id} (h:∀t∈o.iM,env t=jP t):eR o (du env) g id=eR o (du jP) g id:=by
 cases o<;>simp only[iH.iM,List.mem_append]at h<;>simp only[eR]
 case dF x=>rw[cr h]
 case pick c a b=>rw[cr (x:=c) fun t ht=>h t (.inl (.inl ht)),cr (x:=a) fun t ht=>h t (.inl (.inr ht)),cr (x:=b) fun t ht=>h t (.inr ht)]
 case box x=>rw[cr h]
 case build z ps=>
  have:(ps.map fun(x:Nat×Nat×O)=>(x.1,x.2.1,du env x.2.2))=ps.map fun(x:Nat×Nat×O)=>(x.1,x.2.1,du jP x.2.2):=List.map_congr_left fun x hx=>by
   rw[cr (x:=x.2.2) fun t ht=>h t (List.mem_flatMap.2 ⟨x,hx,ht⟩)]
  rw[this]
 case fZ a b l=>rw[map_congr h]
 case load a n x=>rw[cr h]
 case C2 x=>rw[cr h]
 case bin a b x y=>rw[cr (x:=x) fun t ht=>h t (.inl ht),cr (x:=y) fun t ht=>h t (.inr ht)]
 case sh a x y=>rw[cr (x:=x) fun t ht=>h t (.inl ht),cr (x:=y) fun t ht=>h t (.inr ht)]
 case yn a x y=>rw[cr (x:=x) fun t ht=>h t (.inl ht),cr (x:=y) fun t ht=>h t (.inr ht)]
 case Nu a b x y=>rw[cr (x:=x) fun t ht=>h t (.inl ht),cr (x:=y) fun t ht=>h t (.inr ht)]
 case WW a b x y=>rw[cr (x:=x) fun t ht=>h t (.inl ht),cr (x:=y) fun t ht=>h t (.inr ht)]
 case Vc a b x=>rw[cr h]
 case WX a x=>rw[cr h]
 case not x=>rw[cr h]
 case neg x=>rw[cr h]
 case conv k x=>rw[cr h]
 case Hr x=>rw[cr h]
 case slice s x lo hi=>rw[cr (x:=x) fun t ht=>h t (.inl (.inl ht)),rz (x:=lo) fun t ht=>h t (.inl (.inr ht)),rz (x:=hi) fun t ht=>h t (.inr ht)]
 case CN x lo hi=>rw[cr (x:=x) fun t ht=>h t (.inl (.inl ht)),rz (x:=lo) fun t ht=>h t (.inl (.inr ht)),rz (x:=hi) fun t ht=>h t (.inr ht)]
 case eA k x=>rw[cr h]
 case field a b c x=>rw[cr h]
 case gz s x y=>rw[cr (x:=x) fun t ht=>h t (.inl ht),cr (x:=y) fun t ht=>h t (.inr ht)]
 case OR n s x y=>rw[cr (x:=x) fun t ht=>h t (.inl ht),cr (x:=y) fun t ht=>h t (.inr ht)]
 case OU x y=>rw[cr (x:=x) fun t ht=>h t (.inl ht),cr (x:=y) fun t ht=>h t (.inr ht)]
 case eO a b c x y=>rw[cr (x:=x) fun t ht=>h t (.inl ht),cr (x:=y) fun t ht=>h t (.inr ht)]
 case extract i x=>rw[cr h]
 case len x=>rw[cr h]
 case O4 x=>rw[cr h]
 case L8 x=>rw[cr h]
 case LY x=>rw[cr h]
 case O7 f l=>rw[map_congr h]
 case O8 f l=>rw[map_congr h]
 case mq f l=>rw[map_congr h]
 case nf z x y=>rw[cr (x:=x) fun t ht=>h t (.inl ht),cr (x:=y) fun t ht=>h t (.inr ht)]
theorem jf {env jP:Env} {o:iH} {g:Rows} {id:Id} (h:∀t∈o.iM,env t=jP t):fN o (du env) g id=fN o (du jP) g id:=by
 cases o<;>simp only[iH.iM,List.mem_append]at h<;>simp only[fN]
 case clear z x=>rw[cr h]
 case mw f l=>rw[map_congr h]
 all_goals rename_i a x y
 all_goals rw[cr (x:=x) fun t ht=>h t (.inl ht),cr (x:=y) fun t ht=>h t (.inr ht)]
theorem KC {n:Nat} {vo:bc} {env jP:Env} {g g':Rows} {v:AV} (h:∀t∈vo.op.iM,env t=jP t) (hv:VS X n vo env g v g'):VS X n vo jP g v g':=by
 unfold VS at hv ⊢
 split at hv
 ·rename_i f args eS
  rw[eS]at h
  simp only[iH.iM]at h
  rw[<-map_congr h];exact hv
 ·rename_i x args eS
  rw[eS]at h
  simp only[iH.iM,List.mem_append]at h
  rw[<-map_congr (l:=args) fun t ht=>h t (.inr ht),<-cr (x:=x) fun t ht=>h t (.inl ht)];exact hv
 ·rw[<-jf h];exact hv
 ·rw[<-jf h];exact hv
 ·rw[<-jf h];exact hv
 ·rw[<-jf h];exact hv
 ·rw[<-jf h];exact hv
 ·rw[<-vU h];exact hv
theorem Gx {q:MQ} {vs:List AV} {g:Rows} {id:Id} {v:AV} {r:Row} (h:bH q vs g id=some (v,some r)):∃m,q=.new m:=by
 unfold bH at h
 split at h
 ·exact⟨_,rfl⟩
 ·simp[Option.bind_eq_some_iff]at h
 ·simp at h
 ·cases h
theorem zi {o:iH} {ρ:O->AV} {g:Rows} {id:Id} {v:AV} {r:Row} (h:eR o ρ g id=some (v,some r)):td o=true:=by
 cases o<;>simp only[eR]at h<;>(try rfl)<;>(try simp at h)
 case mq q xs=>obtain⟨m,rfl⟩:=Gx h;rfl
 all_goals (try(split at h<;>simp at h))
theorem zj {o:iH} {ρ:O->AV} {g g2:Rows} {id id2:Id} (h:o.cls=.pure):eR o ρ g id=eR o ρ g2 id2:=by
 cases o<;>(try simp[iH.cls]at h)<;>(try simp only[eR])
 case mq q xs=>cases q<;>simp[iH.cls]at h
theorem ye {n:Nat} {vo:bc} {env:Env} {g g':Rows} {v:AV} (hw:vo.op.cls≠.write) (hv:VS X n vo env g v g'):∃mr,g'=j7 g ⟨vo.site,n⟩ mr/\(mr≠none->vo.makes=true)/\∀g0,fK vo.hid n g0=fK vo.hid n g->VS X n vo env g0 v (j7 g0 ⟨vo.site,n⟩ mr):=by
 unfold VS at hv
 split at hv
 ·rename_i f args eS
  rcases hv with⟨h1,rfl⟩|⟨hs,sz,rows,hM,rfl,rfl⟩
  ·refine⟨none,rfl,fun h=>(h rfl).elim,fun g0 h0=>?_⟩
   unfold VS;rw[eS];simp only;unfold yi;rw[h0];exact .inl ⟨h1,rfl⟩
  ·refine⟨some _,rfl,fun _=>by unfold bc.makes;rw[eS,hs];simp[iH.nw],fun g0 h0=>?_⟩
   unfold VS;rw[eS];simp only;unfold yi;rw[h0];exact .inr ⟨hs,sz,rows,hM,rfl,rfl⟩
 ·rename_i x args eS
  obtain⟨f,dG,hx,hv⟩:=hv
  rcases hv with⟨h1,rfl⟩|⟨hs,sz,rows,hM,rfl,rfl⟩
  ·refine⟨none,rfl,fun h=>(h rfl).elim,fun g0 h0=>?_⟩
   unfold VS;rw[eS];simp only;unfold yi;rw[h0];exact⟨f,dG,hx,.inl ⟨h1,rfl⟩⟩
  ·refine⟨some _,rfl,fun _=>by unfold bc.makes;rw[eS,hs];simp[iH.nw],fun g0 h0=>?_⟩
   unfold VS;rw[eS];simp only;unfold yi;rw[h0];exact⟨f,dG,hx,.inr ⟨hs,sz,rows,hM,rfl,rfl⟩⟩
 ·rename_i eS;rw[eS]at hw;exact(hw rfl).elim
 ·rename_i eS;rw[eS]at hw;exact(hw rfl).elim
 ·rename_i eS;rw[eS]at hw;exact(hw rfl).elim
 ·rename_i eS;rw[eS]at hw;exact(hw rfl).elim
 ·rename_i eS;rw[eS]at hw;exact(hw rfl).elim
 ·rename_i n1 n2 n3 n4 n5 n6 n7
  obtain⟨mr,hq,rfl⟩:=hv
  refine⟨mr,rfl,fun h=>?_,fun g0 h0=>?_⟩
  ·cases mr with
   |none=>exact(h rfl).elim
   |some r=>unfold bc.makes;rw[zi hq];rfl
  ·unfold VS
   split
   ·rename_i hh;exact(n1 _ _ hh).elim
   ·rename_i hh;exact(n2 _ _ hh).elim
   ·rename_i hh;exact(n3 _ _ _ hh).elim
   ·rename_i hh;exact(n4 _ _ _ hh).elim
   ·rename_i hh;exact(n5 _ _ _ hh).elim
   ·rename_i hh;exact(n6 _ _ hh).elim
   ·rename_i hh;exact(n7 _ _ hh).elim
   ·rw[h0];exact⟨mr,hq,rfl⟩
theorem BF {n:Nat} {vo:bc} {env:Env} {g g':Rows} {v:AV} (hp:vo.op.cls=.pure) (hv:VS X n vo env g v g'):g'=g/\∀g0,VS X n vo env g0 v g0:=by
 unfold VS at hv
 split at hv
 ·rename_i eS;rw[eS]at hp;simp[iH.cls]at hp
 ·rename_i eS;rw[eS]at hp;simp[iH.cls]at hp
 ·rename_i eS;rw[eS]at hp;simp[iH.cls]at hp
 ·rename_i eS;rw[eS]at hp;simp[iH.cls]at hp
 ·rename_i eS;rw[eS]at hp;simp[iH.cls]at hp
 ·rename_i eS;rw[eS]at hp;simp[iH.cls]at hp
 ·rename_i eS;rw[eS]at hp;simp[iH.cls]at hp
 ·rename_i n1 n2 n3 n4 n5 n6 n7
  obtain⟨mr,hq,rfl⟩:=hv
  have Zk:mr=none:=by
   cases mr with
   |none=>rfl
   |some r=>have:=zi hq;simp[td,hp]at this
  subst Zk
  refine⟨rfl,fun g0=>?_⟩
  unfold VS
  split
  ·rename_i hh;exact(n1 _ _ hh).elim
  ·rename_i hh;exact(n2 _ _ hh).elim
  ·rename_i hh;exact(n3 _ _ _ hh).elim
  ·rename_i hh;exact(n4 _ _ _ hh).elim
  ·rename_i hh;exact(n5 _ _ _ hh).elim
  ·rename_i hh;exact(n6 _ _ hh).elim
  ·rename_i hh;exact(n7 _ _ hh).elim
  ·exact⟨none,by rw[zj hp];exact hq,rfl⟩
def GS (X:gP) (n:Nat) (vo:bc) (env:Env) (g:Rows) (v:AV) (g':Rows):Prop:=
 if aF vo.guard env then VS X n vo env g v g' else v=.undef/\g'=g
theorem Fe {hid:List Nat} {g:Rows} {s n:Nat} {mr:Option Row} (h:mr≠none->hid.contains s=true):fK hid n (j7 g ⟨s,n⟩ mr)=fK hid n g:=by
 cases mr with
 |none=>rfl
 |some r=>
  have hc:=h (by simp)
  cases hid with
  |nil=>simp at hc
  |cons a l=>
   funext i
   show(if (a::l).contains i.site=true/\i.bt=n then none else j7 g ⟨s,n⟩ (some r) i)=if (a::l).contains i.site=true/\i.bt=n then none else g i
   by_cases hi:i=⟨s,n⟩
   ·subst hi;rw[if_pos ⟨hc,rfl⟩,if_pos ⟨hc,rfl⟩]
   ·simp only[j7,bK,if_neg hi]
theorem It {g:Rows} {i j:Id} (h:i≠j) (m1 m2:Option Row):j7 (j7 g i m1) j m2=j7 (j7 g j m2) i m1:=by
 cases m1<;>cases m2<;>simp only[j7]
 funext k
 simp only[bK]
 by_cases h1:k=i
 ·subst h1;rw[if_neg h,if_pos rfl];simp
 ·by_cases h2:k=j
  ·subst h2;simp[h1]
  ·simp[h1,h2]
theorem zG {env:Env} {d e:Option Nat} {v u:AV} (h:∀k,d=some k->e≠some k):upd (upd env d v) e u=upd (upd env e u) d v:=by
 cases d with
 |none=>rfl
 |some d=>
  cases e with
  |none=>rfl
  |some e=>
   have iN:d≠e:=fun he=>h d rfl (by rw[he])
   funext t
   simp only[upd]
   by_cases h1:t=d
   ·subst h1;rw[if_neg iN,if_pos rfl,if_pos rfl]
   ·by_cases h2:t=e
    ·subst h2;rw[if_pos rfl,if_neg h1,if_pos rfl]
    ·simp[h1,h2]
theorem od {env:Env} {d:Option Nat} {v:AV} {l:List Nat} (h:∀k,d=some k->k∉l):∀t∈l,upd env d v t=env t:=by
 intro t ht
 cases d with
 |none=>rfl
 |some d=>
  have:t≠d:=fun he=>h d rfl (he▸ht)
  simp[upd,this]
structure Fz (x y:bc):Prop where
 xy:∀k,x.dst=some k->k∉y.iM
 yx:∀k,y.dst=some k->k∉x.iM
 dst:∀k,x.dst=some k->y.dst≠some k
 cls:clash x.op.cls y.op.cls=false
 hx:x.makes=true->y.hid.contains x.site=true
 hy:y.makes=true->x.hid.contains y.site=true
 site:x.site≠y.site
theorem Fz.symm {x y:bc} (h:Fz x y):Fz y x:=
 ⟨h.yx,h.xy,fun k hk he=>h.dst k he hk,by have:=h.cls;revert this;cases x.op.cls<;>cases y.op.cls<;>simp[clash],h.hy,h.hx,fun e=>h.site e.symm⟩
theorem sS {x y:bc} (h:Hz x y=true):Fz x y:=by
 unfold Hz at h
 simp only[Bool.and_eq_true,Bool.not_eq_true',Bool.or_eq_true,bne_iff_ne]at h
 obtain⟨⟨⟨⟨h1,h2⟩,h3⟩,h4⟩,h5⟩:=h
 unfold we at h1
 simp only[Bool.and_eq_true]at h1
 obtain⟨a1,a2⟩:=h1
 refine⟨fun k hk=>?_,fun k hk=>?_,fun k hk=>?_,h2,fun hm=>?_,fun hm=>?_,h5⟩
 ·rw[hk]at a1;simp at a1;exact a1.1
 ·rw[hk]at a2;simpa using a2
 ·rw[hk]at a1;simp at a1;exact a1.2
 ·rcases h3 with h3|h3
  ·rw[hm]at h3;cases h3
  ·exact h3
 ·rcases h4 with h4|h4
  ·rw[hm]at h4;cases h4
  ·exact h4
theorem uC {vo:bc} {t:Nat} (h:t∈vo.op.iM):t∈vo.iM:=List.mem_append_left _ h
theorem o9 {vo:bc} {env jP:Env} (h:∀t∈vo.iM,env t=jP t):aF vo.guard env=aF vo.guard jP:=by
 unfold aF
 cases hg:vo.guard with
 |none=>rfl
 |some p=>
  obtain⟨t,b⟩:=p
  have:env t=jP t:=h t (List.mem_append_right _ (by rw[hg];simp))
  simp only[this]
theorem x7 {n:Nat} {vo:bc} {env jP:Env} {g g':Rows} {v:AV} (h:∀t∈vo.iM,env t=jP t) (hv:GS X n vo env g v g'):GS X n vo jP g v g':=by
 unfold GS at hv ⊢
 rw[<-o9 h]
 split at hv
 ·rename_i hw;rw[if_pos hw];exact KC (fun t ht=>h t (uC ht)) hv
 ·rename_i hw;rw[if_neg hw];exact hv
theorem Hd {n:Nat} {x y:bc} {env:Env} {g g1 g2:Rows} {v v':AV} (F:Fz x y) (h1:GS X n x env g v g1) (h2:GS X n y (upd env x.dst v) g1 v' g2):
  ∃Og,GS X n y env g v' Og/\GS X n x (upd env y.dst v') Og v g2/\upd (upd env x.dst v) y.dst v'=upd (upd env y.dst v') x.dst v:=by
 have Qs:=zG (env:=env) (v:=v) (u:=v') F.dst
 replace h2:GS X n y env g1 v' g2:=x7 (od F.xy) h2
 have back:∀{Og},GS X n x env Og v g2->GS X n x (upd env y.dst v') Og v g2:=fun h=>x7 (fun t ht=>(od F.yx t ht).symm) h
 unfold GS at h1 h2
 by_cases wx:aF x.guard env=true
 ·rw[if_pos wx]at h1
  by_cases wy:aF y.guard env=true
  ·rw[if_pos wy]at h2
   by_cases cx:x.op.cls=.write
   ·have cy:y.op.cls=.pure:=by
     have:=F.cls;rw[cx]at this
     cases hc:y.op.cls<;>simp[clash,hc]at this ⊢
    obtain⟨rfl,eP⟩:=BF cy h2
    exact⟨g,by unfold GS;rw[if_pos wy];exact eP g,back (by unfold GS;rw[if_pos wx];exact h1),Qs⟩
   ·by_cases cy:y.op.cls=.write
    ·have cx':x.op.cls=.pure:=by
      have:=F.cls;rw[cy]at this
      cases hc:x.op.cls<;>simp[clash,hc]at this ⊢
     obtain⟨rfl,eP⟩:=BF cx' h1
     exact⟨g2,by unfold GS;rw[if_pos wy];exact h2,back (by unfold GS;rw[if_pos wx];exact eP g2),Qs⟩
    ·obtain⟨mx,rfl,kx,Ye⟩:=ye cx h1
     obtain⟨my,rfl,ky,QX⟩:=ye cy h2
     have iN:(⟨x.site,n⟩:Id)≠⟨y.site,n⟩:=fun e=>F.site (by injection e)
     refine⟨j7 g ⟨y.site,n⟩ my,?_,back ?_,Qs⟩
     ·unfold GS;rw[if_pos wy]
      exact QX g (Fe fun h=>F.hx (kx h)).symm
     ·unfold GS;rw[if_pos wx,It iN]
      exact Ye _ (Fe fun h=>F.hy (ky h))
  ·rw[if_neg wy]at h2
   obtain⟨rfl,rfl⟩:=h2
   exact⟨g,by unfold GS;rw[if_neg wy];exact⟨rfl,rfl⟩,back (by unfold GS;rw[if_pos wx];exact h1),Qs⟩
 ·rw[if_neg wx]at h1
  obtain⟨rfl,rfl⟩:=h1
  exact⟨g2,h2,back (by unfold GS;rw[if_neg wx];exact⟨rfl,rfl⟩),Qs⟩
end
end Go.Proofs.YtiabgllilcfheaaGreat.V

namespace Go.Proofs.YtiabgllilcfheaaGreat.V
open Go.RowKit
variable {P:Program} {w w':World} {D D' D2:Nat->Prop} {ι ι' ι2:Names}
section
variable {hs:Nat} {X:gP}
def j8 (acc:Array Nat) (o:Oper):Nat:=o.after.foldl (fun s e=>if Region.binds .any e then s|||2 ^ e.on|||acc.getD e.on 0 else s) 0
theorem N2 (ops:Array Oper):kn ops=ops.foldl (fun acc o=>acc.push (j8 acc o)) #[]:=rfl
theorem Dr {acc:Array Nat} {o:Oper} {i:Nat} (h:(j8 acc o).testBit i=true):∃e∈o.after,Region.binds .any e=true/\(e.on=i∨(acc.getD e.on 0).testBit i=true):=by
 unfold j8 at h
 rw[<-Array.foldl_toList]at h
 have gen:∀(l:List Edge) (s:Nat),(l.foldl (fun s e=>if Region.binds .any e then s|||2 ^ e.on|||acc.getD e.on 0 else s) s).testBit i=true->s.testBit i=true∨∃e∈l,Region.binds .any e=true/\(e.on=i∨(acc.getD e.on 0).testBit i=true):=by
  intro l
  induction l with
  |nil=>intro s h;exact .inl h
  |cons e r ih=>
   intro s h
   rw[List.foldl_cons]at h
   rcases ih _ h with h|⟨e',HF,h'⟩
   ·by_cases hb:Region.binds .any e=true
    ·rw[if_pos hb]at h
     simp only[Nat.testBit_or,Bool.or_eq_true]at h
     rcases h with(h|h)|h
     ·exact .inl h
     ·refine .inr ⟨e,by simp,hb,.inl ?_⟩
      rw[Nat.testBit_two_pow]at h
      simpa using h
     ·exact .inr ⟨e,by simp,hb,.inr h⟩
    ·rw[if_neg hb]at h;exact .inl h
   ·exact .inr ⟨e',List.mem_cons_of_mem _ HF,h'⟩
 rcases gen _ _ h with h|⟨e,he,h⟩
 ·simp at h
 ·exact⟨e,Array.mem_toList_iff.1 he,h⟩
theorem KO {ops:Array Oper} {j i:Nat} (h:((kn ops).getD j 0).testBit i=true):∃o,ops[j]? =some o/\∃e∈o.after,Region.binds .any e=true/\(e.on=i∨((kn ops).getD e.on 0).testBit i=true):=by
 have key:∀(l pre:List Oper) (acc:Array Nat),acc.size=pre.length->(∀j i,(acc.getD j 0).testBit i=true->∃o,pre[j]? =some o/\∃e∈o.after,Region.binds .any e=true/\(e.on=i∨(acc.getD e.on 0).testBit i=true))->
   ∀j i,((l.foldl (fun acc o=>acc.push (j8 acc o)) acc).getD j 0).testBit i=true->∃o,(pre++l)[j]? =some o/\∃e∈o.after,Region.binds .any e=true/\(e.on=i∨((l.foldl (fun acc o=>acc.push (j8 acc o)) acc).getD e.on 0).testBit i=true):=by
  intro l
  induction l with
  |nil=>intro pre acc _ h j i hb;simpa using h j i hb
  |cons o r ih=>
   intro pre acc e9 h j i hb
   have Bf:∀k,k<acc.size->(acc.push (j8 acc o)).getD k 0=acc.getD k 0:=fun k hk=>by
    simp only[Array.getD_eq_getD_getElem?,Array.getElem?_push]
    rw[if_neg ae]
   have big:∀k,acc.size<=k->acc.getD k 0=0:=fun k hk=>by simp[Array.getElem?_eq_none hk]
   have lift:∀k i,(acc.getD k 0).testBit i=true->((acc.push (j8 acc o)).getD k 0).testBit i=true:=fun k i hk=>by
    by_cases eM:k<acc.size
    ·rw[Bf k eM];exact hk
    ·rw[big k ae]at hk;simp at hk
   have:=ih (pre++[o]) (acc.push (j8 acc o)) (by simp[e9]) (fun j i hb=>by
    by_cases eM:j<acc.size
    ·rw[Bf j eM]at hb
     obtain⟨o',Fu,e,he,gK,h2⟩:=h j i hb
     refine⟨o',by rw[List.getElem?_append_left ae];exact Fu,e,he,gK,?_⟩
     rcases h2 with h2|h2
     ·exact .inl h2
     ·exact .inr (lift _ _ h2)
    ·by_cases hj:j=acc.size
     ·subst hj
      have e0:(acc.push (j8 acc o)).getD acc.size 0=j8 acc o:=by simp
      rw[e0]at hb
      obtain⟨e,he,gK,h2⟩:=Dr hb
      refine⟨o,by rw[List.getElem?_append_right ae,e9];simp,e,he,gK,?_⟩
      rcases h2 with h2|h2
      ·exact .inl h2
      ·exact .inr (lift _ _ h2)
     ·have:(acc.push (j8 acc o)).getD j 0=0:=by
       simp only[Array.getD_eq_getD_getElem?]
       rw[Array.getElem?_eq_none (by simp;omega)];rfl
      rw[this]at hb;simp at hb) j i (by simpa using hb)
   simpa using this
 rw[N2,<-Array.foldl_toList]at h ⊢
 have:=key ops.toList [] #[] rfl (fun j i h=>by simp at h) j i h
 simpa using this
def DC (ops:Array Oper) (listed:Array Bool):Prop:=∀k i,listed.getD k false=true->((kn ops).getD k 0).testBit i=true->listed.getD i false=true
theorem mc {ops:Array Oper} {listed:Array Bool} (h:DC ops listed) {j:Nat} (hj:j∈Region.ready .any ops listed):∀i,((kn ops).getD j 0).testBit i=true->listed.getD i false=true:=by
 intro i hb
 obtain⟨_,o,ho,eP⟩:=mem_ready.1 hj
 obtain⟨o',Fu,e,he,gK,h2⟩:=KO hb
 rw[ho]at Fu;injection Fu with Fu;subst Fu
 have hl:=eP e he gK
 rcases h2 with h2|h2
 ·rw[<-h2];exact hl
 ·exact h _ _ hl h2
theorem DC.list {ops:Array Oper} {listed:Array Bool} (h:DC ops listed) {j:Nat} (hj:j∈Region.ready .any ops listed):DC ops (listed.setIfInBounds j true):=by
 intro k i hk hb
 by_cases hkj:k=j
 ·subst hkj;exact getD_set_true (mc h hj i hb)
 ·rw[getD_set_ne false (fun e=>hkj e.symm)]at hk
  exact getD_set_true (h k i hk hb)
theorem jY {ops:Array Oper} {listed:Array Bool} {j:Nat} (hj:j∈Region.ready .any ops listed):listed.getD j false=false:=by
 have h0:=(mem_ready.1 hj).1
 rcases Nat.lt_or_ge j listed.size with h|h
 ·simp[h]at h0 ⊢;exact h0
 ·simp[Array.getElem?_eq_none h]at h0
def MV (X:gP) (n:Nat) (ops:Array Oper) (vl:List bc) (K:Env->Rows->Prop):Nat->Array Bool->Env->Rows->Prop
 |0,listed,env,g=>Region.ready .any ops listed=[]/\K env g
 |f+1,listed,env,g=>(Region.ready .any ops listed=[]->K env g)/\∀i∈Region.ready .any ops listed,∃vo,vl[i]? =some vo/\∃v g',GS X n vo env g v g'/\MV X n ops vl K f (listed.setIfInBounds i true) (upd env vo.dst v) g'
theorem DI {ops:Array Oper} {vl:List bc} (h:qm ops vl (kn ops)=true) {i j:Nat} {x y:bc} (hi:vl[i]? =some x) (hj:vl[j]? =some y) (Gd:i≠j) (h1:((kn ops).getD j 0).testBit i=false) (h2:((kn ops).getD i 0).testBit j=false):Fz x y:=by
 unfold qm at h
 simp only[Bool.and_eq_true,List.all_eq_true]at h
 obtain⟨_,h⟩:=h
 have mem:∀(k:Nat) (z:bc),vl[k]? =some z->(z,k)∈vl.zipIdx:=fun k z hk=>by
  rw[List.mem_iff_getElem?]
  exact⟨k,by simp[List.getElem?_zipIdx,hk]⟩
 rcases Nat.lt_or_gt_of_ne Gd with eM|Ow
 ·have:=h _ (mem j y hj) _ (mem i x hi)
  simp only[eM,decide_true,Bool.not_true,Bool.false_or,h1]at this
  exact sS this
 ·have:=h _ (mem i x hi) _ (mem j y hj)
  simp only[Ow,decide_true,Bool.not_true,Bool.false_or,h2]at this
  exact(sS this).symm
theorem G4 {n:Nat} {ops:Array Oper} {vl:List bc} {K:Env->Rows->Prop} (yI:qm ops vl (kn ops)=true) (hlen:vl.length=ops.size) {i:Nat} {vi:bc} (hi:vl[i]? =some vi) {v:AV}:∀(fuel:Nat) (listed:Array Bool) (env:Env) (g g1:Rows),
  DC ops listed->i∈Region.ready .any ops listed->GS X n vi env g v g1->MV X n ops vl K fuel (listed.setIfInBounds i true) (upd env vi.dst v) g1->MV X n ops vl K (fuel+1) listed env g:=by
 intro fuel
 induction fuel with
 |zero=>
  intro listed env g g1 _ hr hG H
  refine⟨fun h=>(by rw[h]at hr;cases hr),fun j hj=>?_⟩
  by_cases ns:j=i
  ·subst ns;exact⟨vi,hi,v,g1,hG,H⟩
  ·have:=ready_mono hj ns
   rw[H.1]at this;cases this
 |succ fuel ih=>
  intro listed env g g1 uM hr hG H
  refine⟨fun h=>(by rw[h]at hr;cases hr),fun j hj=>?_⟩
  by_cases ns:j=i
  ·subst ns;exact⟨vi,hi,v,g1,hG,H⟩
  ·obtain⟨vj,OL,v',g2,YB,H2⟩:=H.2 j (ready_mono hj ns)
   have b1:((kn ops).getD j 0).testBit i=false:=by
    cases hb:((kn ops).getD j 0).testBit i with
    |false=>rfl
    |true=>have:=mc uM hj i hb;rw[jY hr]at this;cases this
   have b2:((kn ops).getD i 0).testBit j=false:=by
    cases hb:((kn ops).getD i 0).testBit j with
    |false=>rfl
    |true=>have:=mc uM hr j hb;rw[jY hj]at this;cases this
   have F:=DI yI hi OL (fun e=>ns e.symm) b1 b2
   obtain⟨Og,q1,q2,q3⟩:=Hd F hG YB
   refine⟨vj,OL,v',Og,q1,ih _ _ _ g2 (uM.list hj) (ready_mono hr (fun e=>ns e.symm)) q2 ?_⟩
   rw[<-q3,Array.setIfInBounds_comm _ _ ns]
   exact H2
theorem QU {n:Nat} {vo:bc} {env:Env} {g:Rows} {v:AV} {mr:Option Row} (h:eR vo.op (du env) (fK vo.hid n g) ⟨vo.site,n⟩=some (v,mr)):VS X n vo env g v (j7 g ⟨vo.site,n⟩ mr):=by
 unfold VS
 split
 ·rename_i eS;rw[eS]at h;simp[eR]at h
 ·rename_i eS;rw[eS]at h;simp[eR]at h
 ·rename_i eS;rw[eS]at h;simp[eR]at h
 ·rename_i eS;rw[eS]at h;simp[eR]at h
 ·rename_i eS;rw[eS]at h;simp[eR]at h
 ·rename_i eS;rw[eS]at h;simp[eR]at h
 ·rename_i eS;rw[eS]at h;simp[eR]at h
 ·exact⟨mr,h,rfl⟩
theorem KD {n:Nat} {vo:bc} {env:Env} {g g':Rows} {v:AV} (h:fN vo.op (du env) g ⟨vo.site,n⟩=some (v,g')):VS X n vo env g v g':=by
 unfold VS
 split
 ·rename_i eS;rw[eS]at h;simp[fN]at h
 ·rename_i eS;rw[eS]at h;simp[fN]at h
 ·exact h
 ·exact h
 ·exact h
 ·exact h
 ·exact h
 ·rename_i n1 n2 n3 n4 n5 n6 n7
  exfalso
  unfold fN at h
  split at h
  ·rename_i hh;exact n3 _ _ _ hh
  ·rename_i hh;exact n4 _ _ _ hh
  ·rename_i hh;exact n5 _ _ _ hh
  ·rename_i hh;exact n6 _ _ hh
  ·rename_i hh;exact n7 _ _ hh
  ·simp at h
theorem SF {vo:bc} {env:Env} {σ:ax} {next:AV->ax->Prop} (hv:fC X true vo env σ next):∃v g',VS X σ.next vo env σ.get v g'/\next v ⟨g',σ.next⟩:=by
 unfold fC at hv
 split at hv
 ·rename_i f args eS
  rcases hv with⟨r,hP,hn⟩|⟨h,_⟩|⟨hs,sz,rows,hM,hn⟩
  ·exact⟨r,σ.get,by unfold VS;rw[eS];exact .inl ⟨hP,rfl⟩,hn⟩
  ·cases h
  ·exact⟨_,_,by unfold VS;rw[eS];exact .inr ⟨hs,sz,rows,hM,rfl,rfl⟩,hn⟩
 ·rename_i x args eS
  split at hv
  ·rename_i f dG hx
   have uR:yh (du env x) (args.map (du env))=some (f,args.map (du env)++dG):=by rw[hx];rfl
   rcases hv with⟨r,hP,hn⟩|⟨h,_⟩|⟨hs,sz,rows,hM,hn⟩
   ·exact⟨r,σ.get,by unfold VS;rw[eS];exact⟨f,_,uR,.inl ⟨hP,rfl⟩⟩,hn⟩
   ·cases h
   ·exact⟨_,_,by unfold VS;rw[eS];exact⟨f,_,uR,.inr ⟨hs,sz,rows,hM,rfl,rfl⟩⟩,hn⟩
  ·rename_i f dG hx
   have uR:yh (du env x) (args.map (du env))=some (f,dG++args.map (du env)):=by rw[hx];rfl
   rcases hv with⟨r,hP,hn⟩|⟨h,_⟩|⟨hs,sz,rows,hM,hn⟩
   ·exact⟨r,σ.get,by unfold VS;rw[eS];exact⟨f,_,uR,.inl ⟨hP,rfl⟩⟩,hn⟩
   ·cases h
   ·exact⟨_,_,by unfold VS;rw[eS];exact⟨f,_,uR,.inr ⟨hs,sz,rows,hM,rfl,rfl⟩⟩,hn⟩
  ·exact hv.elim
 ·split at hv
  ·rename_i v g h;exact⟨v,g,KD h,hv⟩
  ·exact hv.elim
 ·split at hv
  ·rename_i v g h;exact⟨v,g,KD h,hv⟩
  ·exact hv.elim
 ·split at hv
  ·rename_i v g h;exact⟨v,g,KD h,hv⟩
  ·exact hv.elim
 ·split at hv
  ·rename_i v g h;exact⟨v,g,KD h,hv⟩
  ·exact hv.elim
 ·split at hv
  ·rename_i v g h;exact⟨v,g,KD h,hv⟩
  ·exact hv.elim
 ·split at hv
  ·rename_i v r h;exact⟨v,_,QU h,hv⟩
  ·rename_i v h;exact⟨v,_,QU h,hv⟩
  ·exact hv.elim
theorem zH {ops:Array Oper} {vl:List bc} {K:Env->ax->Prop} {n:Nat} (yI:qm ops vl (kn ops)=true) (hlen:vl.length=ops.size):∀(r:List bc) (k:Nat) (listed:Array Bool) (env:Env) (g:Rows),
  (∀j,r[j]? =vl[k+j]?)->listed.size=ops.size->(∀i,i<ops.size->listed[i]? =some (decide (i<k)))->k+r.length=ops.size->DC ops listed->wpOps X true r K env ⟨g,n⟩->MV X n ops vl (fun env g=>K env ⟨g,n+1⟩) r.length listed env g
 |[],k,listed,env,g,_,e9,hl,hk,_,hv=>by
  refine⟨?_,hv⟩
  rw[List.eq_nil_iff_forall_not_mem]
  intro j hj
  obtain⟨h0,o,ho,_⟩:=mem_ready.1 hj
  have eM:j<ops.size:=(Array.getElem?_eq_some_iff.1 ho).1
  have:=hl j eM
  simp at hk
  simp[this,show j<k by omega]at h0
 |vo::r,k,listed,env,g,hr,e9,hl,hk,uM,hv=>by
  simp only[List.length_cons]at hk
  have lp:vl[k]? =some vo:=by simpa using(hr 0).symm
  have mU:k<ops.size:=ae
  have LF:k∈Region.ready .any ops listed:=by
   rw[mem_ready]
   refine⟨by simp[hl k mU],ops[k],Array.getElem?_eq_getElem mU,fun e he hb=>?_⟩
   unfold qm Hs at yI
   simp only[Bool.and_eq_true,List.all_eq_true]at yI
   have hm:(ops[k],k)∈ops.toList.zipIdx:=by
    rw[List.mem_iff_getElem?]
    exact⟨k,by simp[List.getElem?_zipIdx,mU]⟩
   have:=yI.1 _ hm
   rw[Array.all_eq_true_iff_forall_mem]at this
   have:=this e he
   simp only[hb,Bool.not_true,Bool.false_or,decide_eq_true_eq]at this
   simp[hl e.on ae,this]
  have hGS:∃v g',GS X n vo env g v g'/\wpOps X true r K (upd env vo.dst v) ⟨g',n⟩:=by
   unfold wpOps at hv
   unfold GS
   split at hv
   ·rename_i hw
    simp only[hw,if_true]
    exact SF hv
   ·rename_i hw
    simp only[hw]
    exact⟨.undef,g,⟨rfl,rfl⟩,hv⟩
  obtain⟨v,g',h1,h2⟩:=hGS
  refine G4 yI hlen lp r.length listed env g g' uM LF h1 ?_
  refine zH yI hlen r (k+1) _ _ _ (fun j=>by have:=hr (j+1);simpa[Nat.add_assoc,Nat.add_comm 1 j]using this) (by simp[e9]) (fun i hi=>?_) ae (uM.list LF) h2
  by_cases AM:i=k
  ·subst AM;simp[e9,mU]
  ·rw[Array.getElem?_setIfInBounds_ne (fun e=>AM e.symm),hl i hi]
   congr 1
   have:(i<k)=(i<k+1):=by apply propext;omega
   simp[this]
theorem qd {f:Nat->Oper->Option bc}:∀{l:List Oper} {vl:List bc} {j:Nat},allM f l j=some vl->vl.length=l.length/\∀(i:Nat) (o:Oper),l[i]? =some o->∃vo,vl[i]? =some vo/\f (j+i) o=some vo
 |[],vl,j,h=>by simp[allM]at h;subst h;simp
 |o::l,vl,j,h=>by
  simp only[allM,Option.bind_eq_bind,Option.bind_eq_some_iff,Option.pure_def,Option.some.injEq]at h
  obtain⟨vo,lp,wg,uQ,rfl⟩:=h
  obtain⟨h1,h2⟩:=qd uQ
  refine⟨by simp[h1],fun i o' hi=>?_⟩
  cases i with
  |zero=>simp at hi;subst hi;exact⟨vo,rfl,lp⟩
  |succ i=>
   simp at hi
   obtain⟨q,hq,hf⟩:=h2 i o' hi
   exact⟨q,by simpa using hq,by rw[<-hf];congr 1;omega⟩
theorem Aq {ops:Array Oper} {vl:List bc} {nt site0:Nat} {draw mk:Bool} {bs:Array Nat} {hidden:List (Nat×Bool)} {n:Nat} {K:Env->Rows->Prop} {Q:Exit->Act->World->Prop} (eP:allM (lU P ops nt site0 draw mk bs hidden) ops.toList 0=some vl):
  ∀(fuel:Nat) (listed:Array Bool) (env:Env) (g:Rows) (a:Act) (w:World) (D:Nat->Prop) (ι:Names) (U:Nat->Prop),MV (Sound P) n ops vl K fuel listed env g->iD P hs D ι g w->Used ι n U->(∀s,U s->∃i,s=site0+i/\listed.getD i false=true)->di P w D ι env a->a.tmps.size=nt->
  (∀jF g' a' w' D' ι' U',K jF g'->Step hs D ι w D' ι' w'->iD P hs D' ι' g' w'->Used ι' n U'->di P w' D' ι' jF a'->a'.tmps.size=nt->a'.defers=a.defers->Q .normal a' w')->wpAny P .any ops Q fuel listed a w:=by
 intro fuel
 induction fuel with
 |zero=>intro listed env g a w D ι U h S Us hU E e9 hQ;exact⟨h.1,hQ env g a w D ι U h.2 (Step.refl _ _ _ _) S Us E e9 rfl⟩
 |succ fuel ih=>
  intro listed env g a w D ι U h S Us hU E e9 hQ
  refine⟨fun hr=>hQ env g a w D ι U (h.1 hr) (Step.refl _ _ _ _) S Us E e9 rfl,fun i hi=>?_⟩
  obtain⟨vo,lp,v,g',hG,Qm⟩:=h.2 i hi
  obtain⟨_,o,ho,_⟩:=mem_ready.1 hi
  obtain⟨vo',nQ,Vx⟩:=(qd eP).2 i o (by simpa using ho)
  rw[lp]at nQ;injection nQ with nQ;subst nQ
  rw[Nat.zero_add]at Vx
  obtain⟨hc,hd,Ei,zW,hg⟩:=qY Vx
  have hw:=wh (ops:=ops) (vo:=vo) E hg
  have YO:¬U vo.site:=fun hu=>by
   obtain⟨i',he,hl⟩:=hU _ hu
   have:i'=i:=ae
   subst this
   rw[jY hi]at hl;cases hl
  have ko:i<listed.size:=by
   have h0:=(mem_ready.1 hi).1
   rcases Nat.lt_or_ge i listed.size with h|h
   ·exact h
   ·simp[Array.getElem?_eq_none h]at h0
  unfold wpOp
  simp only[ho]
  rw[<-hw]
  unfold GS at hG
  by_cases Jg:aF vo.guard env=true
  ·rw[if_pos Jg]
   rw[if_pos Jg]at hG
   refine .inl (Dk hc hG S Us YO E fun a' w' ⟨u,D',ι',ha,T,S',hR,U'⟩=>?_)
   subst ha
   refine ih _ _ _ _ w' D' ι' _ Qm S' U' (fun s Ee=>?_) (by rw[hd];exact jw (qn E T) hR zW e9) (by rw[fS];exact e9) fun jF g2 a2 w2 D2 ι2 U2 hk T2 S2 Yb E2 sC F6=>hQ jF g2 a2 w2 D2 ι2 U2 hk (T.trans T2) S2 Yb E2 sC (F6.trans (put_defers _ _ _))
   rcases Ee with h|h
   ·obtain⟨i',he,hl⟩:=hU _ h
    exact⟨i',he,getD_set_true hl⟩
   ·exact⟨i,by rw[h,Ei],by simp[ko]⟩
  ·rw[if_neg Jg]
   rw[if_neg Jg]at hG
   obtain⟨rfl,rfl⟩:=hG
   refine ih _ _ _ _ w D ι U Qm S Us (fun s Ee=>?_) (by rw[hd];exact jw E dy.undef zW e9) (by rw[fS];exact e9) fun jF g2 a2 w2 D2 ι2 U2 hk T2 S2 Yb E2 sC F6=>hQ jF g2 a2 w2 D2 ι2 U2 hk T2 S2 Yb E2 sC (F6.trans (put_defers _ _ _))
   obtain⟨i',he,hl⟩:=hU _ Ee
   exact⟨i',he,getD_set_true hl⟩
end
end Go.Proofs.YtiabgllilcfheaaGreat.V

namespace Go.Proofs.YtiabgllilcfheaaGreat.V
open Go.RowKit
variable {P:Program} {w w':World} {D D' D2:Nat->Prop} {ι ι' ι2:Names}
section
variable {hs:Nat} {X:gP}
def sk (X:gP):Prop:=∀f args σ K K',(∀r σ',K r σ'->K' r σ')->X f args σ K->X f args σ K'
theorem lT:sk (Sound P):=fun _ _ _ _ _ hK h hs D ι w vs S U A=>
 (h hs D ι w vs S U A).mono fun _ _ ⟨r,g',n',D',ι',u,he,hk,rest⟩=>⟨r,g',n',D',ι',u,he,hK _ _ hk,rest⟩
def step (X:gP) (vo:bc) (N:Env->ax->Prop) (env:Env) (σ:ax):Prop:=
 if aF vo.guard env then fC X false vo env σ fun v σ'=>N (upd env vo.dst v) σ' else N (upd env vo.dst .undef) σ
theorem sN (hK:sk X) {draw:Bool} {hid:List Nat} {site f:Nat} {args:List AV} {σ:ax} {n n':AV->ax->Prop} (hn:∀v σ',n v σ'->n' v σ') (hp:cK X draw hid site f args σ n):cK X draw hid site f args σ n':=by
 rcases hp with⟨r,h1,h2⟩|⟨h1,h2⟩|⟨h1,sz,rows,h2,h3⟩
 ·exact .inl ⟨r,h1,hn _ _ h2⟩
 ·exact .inr (.inl ⟨h1,hK _ _ _ _ _ hn h2⟩)
 ·exact .inr (.inr ⟨h1,sz,rows,h2,hn _ _ h3⟩)
theorem Ff (hK:sk X) {draw:Bool} {o:bc} {env:Env} {σ:ax} {n n':AV->ax->Prop} (hn:∀v σ',n v σ'->n' v σ') (hp:fC X draw o env σ n):fC X draw o env σ n':=by
 unfold fC at hp ⊢
 split at hp
 ·exact sN hK hn hp
 ·split at hp
  ·exact sN hK hn hp
  ·exact sN hK hn hp
  ·exact hp.elim
 ·split at hp
  ·exact hn _ _ hp
  ·exact hp.elim
 ·split at hp
  ·exact hn _ _ hp
  ·exact hp.elim
 ·split at hp
  ·exact hn _ _ hp
  ·exact hp.elim
 ·split at hp
  ·exact hn _ _ hp
  ·exact hp.elim
 ·split at hp
  ·exact hn _ _ hp
  ·exact hp.elim
 ·split at hp
  ·exact hn _ _ hp
  ·exact hn _ _ hp
  ·exact hp.elim
theorem kR (hK:sk X) {vo:bc} {N N':Env->ax->Prop} (h:∀e s,N e s->N' e s) {env:Env} {σ:ax} (hp:step X vo N env σ):step X vo N' env σ:=by
 unfold step at hp ⊢
 split at hp
 ·rename_i hw;rw[if_pos hw];exact Ff hK (fun v σ'=>h _ _) hp
 ·rename_i hw;rw[if_neg hw];exact h _ _ hp
theorem J9 {env jP:Env} {vo:bc} {σ:ax} {n:AV->ax->Prop} (h:∀t∈vo.op.iM,env t=jP t) (hv:fC X false vo env σ n):fC X false vo jP σ n:=by
 unfold fC at hv ⊢
 split at hv
 ·rename_i f args eS
  rw[eS]at h
  simp only[iH.iM]at h
  rw[<-map_congr h];exact hv
 ·rename_i x args eS
  rw[eS]at h
  simp only[iH.iM,List.mem_append]at h
  rw[<-map_congr (l:=args) fun t ht=>h t (.inr ht),<-cr (x:=x) fun t ht=>h t (.inl ht)];exact hv
 ·rw[<-jf h];exact hv
 ·rw[<-jf h];exact hv
 ·rw[<-jf h];exact hv
 ·rw[<-jf h];exact hv
 ·rw[<-jf h];exact hv
 ·rw[<-vU h];exact hv
theorem ni {x:bc} (hq:mb x=true) {N:Env->ax->Prop} {env:Env} {σ:ax}:step X x N env σ↔∃v g',GS X σ.next x env σ.get v g'/\N (upd env x.dst v) ⟨g',σ.next⟩:=by
 unfold mb at hq
 simp only[Bool.and_eq_true,Bool.not_eq_true',bne_iff_ne]at hq
 obtain⟨Fv,Jc⟩:=hq
 unfold step GS
 by_cases hw:aF x.guard env=true
 ·rw[if_pos hw]
  simp only[hw,if_true]
  unfold fC
  split
  ·rename_i eS;simp[eS,iH.nw]at Fv
  ·rename_i eS;simp[eS,iH.nw]at Fv
  ·rename_i eS;simp[eS,iH.cls]at Jc
  ·rename_i eS;simp[eS,iH.cls]at Jc
  ·rename_i eS;simp[eS,iH.cls]at Jc
  ·rename_i eS;simp[eS,iH.cls]at Jc
  ·rename_i eS;simp[eS,iH.cls]at Jc
  ·rename_i n1 n2 n3 n4 n5 n6 n7
   have hVS:∀v g',VS X σ.next x env σ.get v g'↔∃mr,eR x.op (du env) (fK x.hid σ.next σ.get) ⟨x.site,σ.next⟩=some (v,mr)/\g'=j7 σ.get ⟨x.site,σ.next⟩ mr:=fun v g'=>by
    unfold VS
    split
    ·rename_i hh;exact(n1 _ _ hh).elim
    ·rename_i hh;exact(n2 _ _ hh).elim
    ·rename_i hh;exact(n3 _ _ _ hh).elim
    ·rename_i hh;exact(n4 _ _ _ hh).elim
    ·rename_i hh;exact(n5 _ _ _ hh).elim
    ·rename_i hh;exact(n6 _ _ hh).elim
    ·rename_i hh;exact(n7 _ _ hh).elim
    ·exact Iff.rfl
   simp only[hVS]
   cases hz:eR x.op (du env) (fK x.hid σ.next σ.get) ⟨x.site,σ.next⟩with
   |none=>
    exact⟨fun h=>h.elim,fun⟨v,g',⟨mr,h,_⟩,_⟩=>by cases h⟩
   |some p=>
    obtain⟨v,mr⟩:=p
    have key:∀(v':AV) (g':Rows),(∃UJ,some (v,mr)=some (v',UJ)/\g'=j7 σ.get ⟨x.site,σ.next⟩ UJ)↔v'=v/\g'=j7 σ.get ⟨x.site,σ.next⟩ mr:=fun v' g'=>by
     constructor
     ·rintro⟨UJ,h1,h2⟩
      injection h1 with h1;injection h1 with h1 h3
      subst h1;subst h3
      exact⟨rfl,h2⟩
     ·rintro⟨rfl,rfl⟩;exact⟨mr,rfl,rfl⟩
    have fin:(∃v' g',(∃UJ,some (v,mr)=some (v',UJ)/\g'=j7 σ.get ⟨x.site,σ.next⟩ UJ)/\N (upd env x.dst v') ⟨g',σ.next⟩)↔N (upd env x.dst v) ⟨j7 σ.get ⟨x.site,σ.next⟩ mr,σ.next⟩:=by
     constructor
     ·rintro⟨v',g',h,hN⟩
      obtain⟨rfl,rfl⟩:=(key v' g').1 h
      exact hN
     ·intro hN;exact⟨v,_,(key _ _).2 ⟨rfl,rfl⟩,hN⟩
    cases mr with
    |none=>exact fin.symm
    |some r=>exact fin.symm
 ·rw[if_neg hw]
  simp only[if_neg hw]
  exact⟨fun h=>⟨_,_,⟨rfl,rfl⟩,h⟩,fun⟨v,g',⟨hv,hg⟩,h⟩=>by rw[hv,hg]at h;exact h⟩
def xv (x:bc) (env:Env) (v:AV):Prop:=if aF x.guard env then eR x.op (du env) (fun _=>none) ⟨0,0⟩=some (v,none)else v=.undef
theorem zg {x:bc} (hp:x.op.cls=.pure):mb x=true:=by
 unfold mb
 rw[hp]
 cases hc:x.op<;>simp[hc,iH.cls]at hp<;>rfl
theorem v8 {x:bc} (hp:x.op.cls=.pure) {N:Env->ax->Prop} {env:Env} {σ:ax}:step X x N env σ↔∃v,xv x env v/\N (upd env x.dst v) σ:=by
 rw[ni (zg hp)]
 unfold GS xv
 by_cases hw:aF x.guard env=true
 ·simp only[hw,if_true]
  constructor
  ·rintro⟨v,g',h,hN⟩
   obtain⟨rfl,eP⟩:=BF hp h
   refine⟨v,?_,hN⟩
   unfold VS at h
   split at h
   ·rename_i eS;rw[eS]at hp;simp[iH.cls]at hp
   ·rename_i eS;rw[eS]at hp;simp[iH.cls]at hp
   ·rename_i eS;rw[eS]at hp;simp[iH.cls]at hp
   ·rename_i eS;rw[eS]at hp;simp[iH.cls]at hp
   ·rename_i eS;rw[eS]at hp;simp[iH.cls]at hp
   ·rename_i eS;rw[eS]at hp;simp[iH.cls]at hp
   ·rename_i eS;rw[eS]at hp;simp[iH.cls]at hp
   ·obtain⟨mr,hq,_⟩:=h
    have Zk:mr=none:=by
     cases mr with
     |none=>rfl
     |some r=>have:=zi hq;simp[td,hp]at this
    subst Zk
    rw[<-zj (g:=fK x.hid σ.next σ.get) (id:=⟨x.site,σ.next⟩) hp];exact hq
  ·rintro⟨v,h,hN⟩
   exact⟨v,σ.get,QU (mr:=none) (by rw[zj (g2:=fun _=>none) (id2:=⟨0,0⟩) hp];exact h),hN⟩
 ·simp only[if_neg hw]
  exact⟨fun⟨v,g',⟨hv,hg⟩,h⟩=>⟨v,hv,by rw[hg]at h;exact h⟩,fun⟨v,hv,h⟩=>⟨v,σ.get,⟨hv,rfl⟩,h⟩⟩
theorem M4 {x:bc} {env jP:Env} {v:AV} (h:∀t∈x.iM,env t=jP t) (hv:xv x env v):xv x jP v:=by
 unfold xv at hv ⊢
 rw[<-o9 h,<-vU fun t ht=>h t (uC ht)];exact hv
structure PX (x y:bc):Prop where
 xy:∀k,x.dst=some k->k∉y.iM
 yx:∀k,y.dst=some k->k∉x.iM
 dst:∀k,x.dst=some k->y.dst≠some k
theorem uG {x y:bc} (h:we x y=true):PX x y:=by
 unfold we at h
 simp only[Bool.and_eq_true]at h
 obtain⟨a1,a2⟩:=h
 refine⟨fun k hk=>?_,fun k hk=>?_,fun k hk=>?_⟩
 ·rw[hk]at a1;simp at a1;exact a1.1
 ·rw[hk]at a2;simpa using a2
 ·rw[hk]at a1;simp at a1;exact a1.2
theorem AG {x y:bc} (h:AF x y=true):(PX x y/\x.op.cls=.pure)∨(Fz x y/\mb x=true/\mb y=true):=by
 unfold AF at h
 simp only[Bool.or_eq_true,Bool.and_eq_true,beq_iff_eq]at h
 rcases h with⟨h1,h2⟩|⟨⟨h1,h2⟩,h3⟩
 ·exact .inl ⟨uG h1,h2⟩
 ·exact .inr ⟨sS h1,h2,h3⟩
theorem DO {x y:bc} (h:AF x y=true):mb x=true:=by
 rcases AG h with h|h
 ·exact zg h.2
 ·exact h.2.1
theorem JZ (hK:sk X) {x y:bc} (hf:AF x y=true) {N:Env->ax->Prop} {env:Env} {σ:ax} (h:step X x (fun e s=>step X y N e s) env σ):step X y (fun e s=>step X x N e s) env σ:=by
 rcases AG hf with⟨F,hp⟩|⟨F,hx,hy⟩
 ·rw[v8 hp]at h
  obtain⟨v,hx,h⟩:=h
  have Qs:=fun(v':AV)=>zG (env:=env) (v:=v) (u:=v') F.dst
  have yK:=od (env:=env) (v:=v) F.xy
  have back:∀(v':AV),xv x (upd env y.dst v') v:=fun v'=>M4 (fun t ht=>(od F.yx t ht).symm) hx
  unfold step at h ⊢
  rw[o9 yK]at h
  split at h
  ·rename_i hw
   rw[if_pos hw]
   refine Ff hK (fun v' σ' hN=>?_) (J9 (fun t ht=>yK t (uC ht)) h)
   rw[Qs]at hN
   exact(v8 hp).2 ⟨v,back v',hN⟩
  ·rename_i hw
   rw[if_neg hw]
   rw[Qs]at h
   exact(v8 hp).2 ⟨v,back _,h⟩
 ·rw[ni hx]at h
  obtain⟨v,g1,h1,h⟩:=h
  rw[ni hy]at h
  obtain⟨v',g2,h2,h⟩:=h
  obtain⟨Og,q1,q2,q3⟩:=Hd F h1 h2
  rw[q3]at h
  exact(ni hy).2 ⟨v',Og,q1,(ni hx).2 ⟨v,g2,q2,h⟩⟩
def CV (X:gP) (ops:Array Oper) (vl:List bc) (K:Env->ax->Prop):Nat->Array Bool->Env->ax->Prop
 |0,listed,env,σ=>Region.ready .any ops listed=[]/\K env ⟨σ.get,σ.next+1⟩
 |f+1,listed,env,σ=>(Region.ready .any ops listed=[]->K env ⟨σ.get,σ.next+1⟩)/\∀i∈Region.ready .any ops listed,∃vo,vl[i]? =some vo/\step X vo (fun e s=>CV X ops vl K f (listed.setIfInBounds i true) e s) env σ
theorem FU {ops:Array Oper} {vl:List bc} {bs:Array Nat} {listed:Array Bool} {i:Nat} (h:sR ops vl bs listed i=true) (j:Nat):sR ops vl bs (listed.setIfInBounds j true) i=true:=by
 unfold sR at h ⊢
 split at h
 ·rename_i x hx
  simp only[List.all_eq_true,Bool.or_eq_true]at h ⊢
  intro k hk
  rcases h k hk with((h|h)|h)|h
  ·exact .inl (.inl (.inl (getD_set_true h)))
  ·exact .inl (.inl (.inr h))
  ·exact .inl (.inr h)
  ·exact .inr h
 ·cases h
theorem wv {ops:Array Oper} {vl:List bc} {listed:Array Bool} {i j:Nat} {vi:bc} (uM:DC ops listed) (h:sR ops vl (kn ops) listed i=true) (hi:vl[i]? =some vi) (hr:i∈Region.ready .any ops listed) (hj:j∈Region.ready .any ops listed) (ns:j≠i):∃vj,vl[j]? =some vj/\AF vi vj=true:=by
 unfold sR at h
 rw[hi]at h
 simp only[List.all_eq_true,Bool.or_eq_true,beq_iff_eq]at h
 obtain⟨_,o,ho,_⟩:=mem_ready.1 hj
 rcases h j (List.mem_range.2 (Array.getElem?_eq_some_iff.1 ho).1)with((h|h)|h)|h
 ·rw[jY hj]at h;cases h
 ·exact absurd h ns
 ·have:=mc uM hj i h
  rw[jY hr]at this;cases this
 ·split at h
  ·rename_i y hy;exact⟨y,hy,h⟩
  ·cases h
theorem G6 (hK:sk X) {ops:Array Oper} {vl:List bc} {K:Env->ax->Prop} {i:Nat} {vi:bc} (hi:vl[i]? =some vi):∀(fuel:Nat) (listed:Array Bool) (env:Env) (σ:ax),
  DC ops listed->i∈Region.ready .any ops listed->sR ops vl (kn ops) listed i=true->step X vi (fun e s=>CV X ops vl K fuel (listed.setIfInBounds i true) e s) env σ->CV X ops vl K (fuel+1) listed env σ:=by
 intro fuel
 induction fuel with
 |zero=>
  intro listed env σ uM hr jn H
  refine⟨fun h=>(by rw[h]at hr;cases hr),fun j hj=>?_⟩
  by_cases ns:j=i
  ·subst ns;exact⟨vi,hi,H⟩
  ·obtain⟨vj,OL,VF⟩:=wv uM jn hi hr hj ns
   rw[ni (DO VF)]at H
   obtain⟨v,g',_,H⟩:=H
   have:=ready_mono hj ns
   rw[H.1]at this;cases this
 |succ fuel ih=>
  intro listed env σ uM hr jn H
  refine⟨fun h=>(by rw[h]at hr;cases hr),fun j hj=>?_⟩
  by_cases ns:j=i
  ·subst ns;exact⟨vi,hi,H⟩
  ·obtain⟨vj,OL,VF⟩:=wv uM jn hi hr hj ns
   refine⟨vj,OL,?_⟩
   have H2:step X vi (fun e s=>step X vj (fun e s=>CV X ops vl K fuel ((listed.setIfInBounds i true).setIfInBounds j true) e s) e s) env σ:=kR hK (fun e s h=>by
    obtain⟨vj',Cg,h'⟩:=h.2 j (ready_mono hj ns)
    rw[OL]at Cg;injection Cg with Cg;subst Cg
    exact h') H
   refine kR hK (fun e s h=>?_) (JZ hK VF H2)
   refine ih _ _ _ (uM.list hj) (ready_mono hr (fun e=>ns e.symm)) (FU jn j) ?_
   rw[Array.setIfInBounds_comm _ _ ns]
   exact h
theorem v7 {x:bc} (hg:x.guard=none) {N:Env->ax->Prop} {env:Env} {σ:ax}:step X x N env σ=fC X false x env σ (fun v σ'=>N (upd env x.dst v) σ'):=by
 unfold step
 rw[hg]
 simp[aF]
theorem GY {x y:bc} {t s sz:Nat} {ys:O} (hx:x.op=.append sz (.t t) ys) (hg:x.guard=none) (hf:Hy s x y=true) {N:Env->ax->Prop} {env:Env} {σ:ax} (hl:O5 t s ys env σ.next) (h:step X x (fun e s=>step X y N e s) env σ):
  step X y (fun e σ'=>O5 t s ys e σ'.next/\step X x N e σ') env σ:=by
 unfold Hy at hf
 simp only[Bool.and_eq_true,bne_iff_ne]at hf
 obtain⟨⟨⟨⟨⟨f1,hq⟩,f3⟩,f4⟩,f5⟩,f6⟩:=hf
 have F:=uG f1
 obtain⟨⟨len,ht⟩,hsrc⟩:=hl
 have LI:∀k∈x.op.iM,∀v',upd env y.dst v' k=env k:=fun k hk v'=>od (env:=env) (v:=v') F.yx k (uC hk)
 have ev:t∈x.op.iM:=by rw[hx];simp[iH.iM,ja]
 have HP:∀v',du (upd env y.dst v') ys=du env ys:=fun v'=>(cr fun k hk=>by rw[LI k (by rw[hx];simp[iH.iM,hk])]).symm
 rw[v7 hg]at h
 unfold fC at h
 simp only[hx,fN]at h
 have ex:du env (.t t)=.own ⟨s,σ.next⟩ 0 len:=ht
 rw[ex]at h
 cases hr:bD σ.get (du env ys)with
 |none=>rw[hr]at h;exact h.elim
 |some rs=>
  rw[hr]at h
  simp only[Option.bind_some,aY]at h
  cases Nz:σ.get ⟨s,σ.next⟩with
  |none=>rw[Nz]at h;exact h.elim
  |some r=>
   rw[Nz]at h
   simp only[Option.bind_some]at h
   split at h
   ·rename_i v g1 hv
    split at hv
    ·rename_i hcond
     simp only[Option.some.injEq,Prod.mk.injEq]at hv
     obtain⟨rfl,rfl⟩:=hv
     rw[ni hq]at h
     obtain⟨v',g2,hG,hN⟩:=h
     have Ja:(⟨y.site,σ.next⟩:Id)≠⟨s,σ.next⟩:=fun e=>f5 (by injection e)
     have Lv:(⟨y.site,σ.next⟩:Id)≠⟨x.site,σ.next⟩:=fun e=>f6 (by injection e)
     replace hG:GS X σ.next y env (bK (cq σ.get ⟨s,σ.next⟩) ⟨x.site,σ.next⟩ ⟨true,sz,r.rows++rs⟩) v' g2:=x7 (od F.xy) hG
     have ZM:fK y.hid σ.next σ.get=fK y.hid σ.next (bK (cq σ.get ⟨s,σ.next⟩) ⟨x.site,σ.next⟩ ⟨true,sz,r.rows++rs⟩):=by
      cases hh:y.hid with
      |nil=>rw[hh]at f3;simp at f3
      |cons a l=>
       rw[hh]at f3 f4
       funext i
       show(if (a::l).contains i.site=true/\i.bt=σ.next then none else σ.get i)=if (a::l).contains i.site=true/\i.bt=σ.next then none else _
       by_cases h1:i=⟨x.site,σ.next⟩
       ·subst h1;rw[if_pos ⟨f4,rfl⟩,if_pos ⟨f4,rfl⟩]
       ·by_cases h2:i=⟨s,σ.next⟩
        ·subst h2;rw[if_pos ⟨f3,rfl⟩,if_pos ⟨f3,rfl⟩]
        ·simp only[bK,cq,if_neg h1,if_neg h2]
     obtain⟨my,Y6,hG'⟩:∃my,g2=j7 (bK (cq σ.get ⟨s,σ.next⟩) ⟨x.site,σ.next⟩ ⟨true,sz,r.rows++rs⟩) ⟨y.site,σ.next⟩ my/\GS X σ.next y env σ.get v' (j7 σ.get ⟨y.site,σ.next⟩ my):=by
      unfold GS at hG ⊢
      by_cases wy:aF y.guard env=true
      ·rw[if_pos wy]at hG
       have hcw:y.op.cls≠.write:=by
        unfold mb at hq
        simp only[Bool.and_eq_true,bne_iff_ne]at hq
        exact hq.2
       obtain⟨my,rfl,_,QX⟩:=ye hcw hG
       exact⟨my,rfl,by rw[if_pos wy];exact QX _ ZM⟩
      ·rw[if_neg wy]at hG
       obtain⟨rfl,rfl⟩:=hG
       exact⟨none,rfl,by rw[if_neg wy];exact⟨rfl,rfl⟩⟩
     subst Y6
     refine(ni hq).2 ⟨v',_,hG',⟨⟨len,by rw[LI t ev];exact ht⟩,fun id o l he=>hsrc id o l (by rw[<-HP v'];exact he)⟩,?_⟩
     rw[v7 hg]
     unfold fC
     have ex':du (upd env y.dst v') (.t t)=.own ⟨s,σ.next⟩ 0 len:=by
      show upd env y.dst v' t= _
      rw[LI t ev];exact ht
     simp only[hx,fN,ex',HP v']
     have pS:bD (j7 σ.get ⟨y.site,σ.next⟩ my) (du env ys)=some rs:=by
      cases my with
      |none=>exact hr
      |some row=>
       revert hr
       cases hev:du env ys<;>simp only[bD,j7]<;>try exact fun h=>h
       rename_i id o l
       have:id≠⟨y.site,σ.next⟩:=fun e=>hsrc id o l hev (by rw[e])
       simp only[bK,if_neg this];exact fun h=>h
     have Y8:j7 σ.get ⟨y.site,σ.next⟩ my ⟨s,σ.next⟩=some r:=by
      cases my with
      |none=>exact Nz
      |some row=>simp only[j7,bK,if_neg (fun e=>Ja e.symm:(⟨s,σ.next⟩:Id)≠⟨y.site,σ.next⟩)];exact Nz
     rw[pS]
     simp only[Option.bind_some,aY,Y8]
     rw[if_pos hcond]
     have VI:bK (cq (j7 σ.get ⟨y.site,σ.next⟩ my) ⟨s,σ.next⟩) ⟨x.site,σ.next⟩ ⟨true,sz,r.rows++rs⟩=j7 (bK (cq σ.get ⟨s,σ.next⟩) ⟨x.site,σ.next⟩ ⟨true,sz,r.rows++rs⟩) ⟨y.site,σ.next⟩ my:=by
      cases my with
      |none=>rfl
      |some row=>
       funext i
       simp only[j7,bK,cq]
       by_cases h1:i=⟨y.site,σ.next⟩
       ·subst h1;rw[if_neg Lv,if_neg Ja,if_pos rfl,if_pos rfl]
       ·simp only[if_neg h1]
     have hu:=zG (env:=env) (v:=AV.own ⟨x.site,σ.next⟩ 0 (len+rs.length)) (u:=v') F.dst
     show N (upd (upd env y.dst v') x.dst (.own ⟨x.site,σ.next⟩ 0 (len+rs.length))) ⟨bK (cq (j7 σ.get ⟨y.site,σ.next⟩ my) ⟨s,σ.next⟩) ⟨x.site,σ.next⟩ ⟨true,sz,r.rows++rs⟩,σ.next⟩
     rw[VI,<-hu]
     exact hN
    ·cases hv
   ·exact h.elim
theorem FT {ops:Array Oper} {vl:List bc} {bs:Array Nat} {listed:Array Bool} {i s:Nat} (h:qp ops vl bs listed i s=true) (j:Nat):qp ops vl bs (listed.setIfInBounds j true) i s=true:=by
 unfold qp at h ⊢
 split at h
 ·rename_i x hx
  simp only[List.all_eq_true,Bool.or_eq_true]at h ⊢
  intro k hk
  rcases h k hk with((h|h)|h)|h
  ·exact .inl (.inl (.inl (getD_set_true h)))
  ·exact .inl (.inl (.inr h))
  ·exact .inl (.inr h)
  ·exact .inr h
 ·cases h
theorem DM {ops:Array Oper} {vl:List bc} {listed:Array Bool} {i j s:Nat} {vi:bc} (uM:DC ops listed) (h:qp ops vl (kn ops) listed i s=true) (hi:vl[i]? =some vi) (hr:i∈Region.ready .any ops listed) (hj:j∈Region.ready .any ops listed) (ns:j≠i):∃vj,vl[j]? =some vj/\Hy s vi vj=true:=by
 unfold qp at h
 rw[hi]at h
 simp only[List.all_eq_true,Bool.or_eq_true,beq_iff_eq]at h
 obtain⟨_,o,ho,_⟩:=mem_ready.1 hj
 rcases h j (List.mem_range.2 (Array.getElem?_eq_some_iff.1 ho).1)with((h|h)|h)|h
 ·rw[jY hj]at h;cases h
 ·exact absurd h ns
 ·have:=mc uM hj i h
  rw[jY hr]at this;cases this
 ·split at h
  ·rename_i y hy;exact⟨y,hy,h⟩
  ·cases h
theorem Fg (hK:sk X) {ops:Array Oper} {vl:List bc} {K:Env->ax->Prop} {i t s sz:Nat} {ys:O} {vi:bc} (hi:vl[i]? =some vi) (hx:vi.op=.append sz (.t t) ys) (hg:vi.guard=none):∀(fuel:Nat) (listed:Array Bool) (env:Env) (σ:ax),
  DC ops listed->i∈Region.ready .any ops listed->qp ops vl (kn ops) listed i s=true->O5 t s ys env σ.next->step X vi (fun e s=>CV X ops vl K fuel (listed.setIfInBounds i true) e s) env σ->CV X ops vl K (fuel+1) listed env σ:=by
 intro fuel
 induction fuel with
 |zero=>
  intro listed env σ uM hr jn Ur H
  refine⟨fun h=>(by rw[h]at hr;cases hr),fun j hj=>?_⟩
  by_cases ns:j=i
  ·subst ns;exact⟨vi,hi,H⟩
  ·exfalso
   have h0:=ready_mono hj ns
   rw[v7 hg]at H
   unfold fC at H
   simp only[hx]at H
   split at H
   ·rw[H.1]at h0;cases h0
   ·exact H
 |succ fuel ih=>
  intro listed env σ uM hr jn Ur H
  refine⟨fun h=>(by rw[h]at hr;cases hr),fun j hj=>?_⟩
  by_cases ns:j=i
  ·subst ns;exact⟨vi,hi,H⟩
  ·obtain⟨vj,OL,VF⟩:=DM uM jn hi hr hj ns
   refine⟨vj,OL,?_⟩
   have H2:step X vi (fun e s=>step X vj (fun e s=>CV X ops vl K fuel ((listed.setIfInBounds i true).setIfInBounds j true) e s) e s) env σ:=kR hK (fun e s h=>by
    obtain⟨vj',Cg,h'⟩:=h.2 j (ready_mono hj ns)
    rw[OL]at Cg;injection Cg with Cg;subst Cg
    exact h') H
   refine kR hK (fun e s h=>?_) (GY hx hg VF Ur H2)
   refine ih _ _ _ (uM.list hj) (ready_mono hr (fun e=>ns e.symm)) (FT jn j) h.1 ?_
   rw[Array.setIfInBounds_comm _ _ ns]
   exact h.2
theorem L0 {ops:Array Oper} {vl:List bc} {bs:Array Nat} {listed:Array Bool} {i i' t s:Nat} {y:O} {vo:bc} (h:Se ops vl bs listed i=some (i',t,s,y,vo)):i'=i/\vl[i]? =some vo/\(∃sz,vo.op=.append sz (.t t) y)/\vo.guard=none/\qp ops vl bs listed i s=true:=by
 unfold Se at h
 split at h
 ·rename_i x hx
  split at h
  ·rename_i t' s' y' kI
   split at h
   ·rename_i hf
    simp only[Option.some.injEq,Prod.mk.injEq]at h
    obtain⟨rfl,rfl,rfl,rfl,rfl⟩:=h
    unfold Qy at kI
    split at kI
    ·rename_i sz t2 y2 ho tz
     split at kI
     ·simp only[Option.some.injEq,Prod.mk.injEq]at kI
      obtain⟨rfl,rfl,rfl⟩:=kI
      exact⟨rfl,hx,⟨sz,ho⟩,tz,hf⟩
     ·cases kI
    ·cases kI
   ·cases h
  ·cases h
 ·cases h
theorem Aw {X:gP} {Q:Ex->Env->ax->Prop} {env:Env} {σ:ax}:∀{l:List VC} {t:VC},Dt l=some t->er X t Q env σ->∀c∈l,er X c Q env σ
 |[],t,h,_,c,hc=>by cases hc
 |[c0],t,h,hw,c,hc=>by
  simp only[Dt,Option.some.injEq]at h
  subst h
  rw[List.mem_singleton]at hc
  subst hc;exact hw
 |c0::c1::r,t,h,hw,c,hc=>by
  simp only[Dt,Option.map_eq_some_iff]at h
  obtain⟨t',R5,rfl⟩:=h
  rcases List.mem_cons.1 hc with rfl|hc
  ·exact hw.1
  ·exact Aw R5 hw.2 c hc
theorem mapM_mem {α β:Type} {f:α->Option β}:∀{l:List α} {r:List β},l.mapM f=some r->∀i∈l,∃b∈r,f i=some b
 |[],_,_,i,hi=>by cases hi
 |a::l,r,h,i,hi=>by
  simp only[List.mapM_cons,Option.bind_eq_bind,Option.bind_eq_some_iff,Option.pure_def,Option.some.injEq]at h
  obtain⟨b,hb,r',hr,rfl⟩:=h
  rcases List.mem_cons.1 hi with rfl|hi
  ·exact⟨b,by simp,hb⟩
  ·obtain⟨c,hc,hf⟩:=mapM_mem hr i hi
   exact⟨c,List.mem_cons_of_mem _ hc,hf⟩
theorem J4 (hK:sk X) {ops:Array Oper} {vl:List bc} {Q:Ex->Env->ax->Prop}:∀(n:Nat) (listed:Array Bool) (t:VC) (env:Env) (σ:ax),zF ops vl (kn ops) n listed=some t->DC ops listed->er X t Q env σ->CV X ops vl (Q .normal) n listed env σ:=by
 intro n
 induction n with
 |zero=>
  intro listed t env σ h _ hw
  unfold zF at h
  split at h
  ·rename_i hr
   simp only[Option.some.injEq]at h
   subst h
   exact⟨hr,hw⟩
  ·cases h
 |succ n ih=>
  intro listed t env σ h uM hw
  unfold zF at h
  split at h
  ·rename_i hr
   simp only[Option.some.injEq]at h
   subst h
   exact⟨fun _=>hw,fun i hi=>by rw[hr]at hi;cases hi⟩
  ·rename_i r rs hr
   dsimp only at h
   split at h
   ·rename_i i hfind
    have Oy:=List.mem_of_find?_eq_some hfind
    have xI:=List.find?_some hfind
    rw[<-hr]at Oy
    split at h
    ·rename_i vo lp
     simp only[Option.map_eq_some_iff]at h
     obtain⟨t',R5,rfl⟩:=h
     exact G6 hK lp n listed env σ uM Oy xI (kR hK (fun e s h=>ih _ _ _ _ R5 (uM.list Oy) h) hw)
    ·cases h
   ·split at h
    ·rename_i i t s y vo hfind
     obtain⟨i0,Kk,eM⟩:=List.exists_of_findSome?_eq_some hfind
     obtain⟨rfl,lp,⟨sz,eS⟩,tz,Lo⟩:=L0 eM
     rw[<-hr]at Kk
     simp only[Option.map_eq_some_iff]at h
     obtain⟨t',R5,rfl⟩:=h
     exact Fg hK lp eS tz n listed env σ uM Kk Lo hw.1 (kR hK (fun e s h=>ih _ _ _ _ R5 (uM.list Kk) h) hw.2)
    split at h
    ·rename_i l hl
     have eP:=Aw h hw
     refine⟨fun h=>(by rw[h]at hr;cases hr),fun i hi=>?_⟩
     rw[hr]at hi
     obtain⟨b,Qb,Lj⟩:=mapM_mem hl i hi
     simp only[Option.bind_eq_some_iff,Option.map_eq_some_iff]at Lj
     obtain⟨vo,lp,t',R5,rfl⟩:=Lj
     exact⟨vo,lp,kR hK (fun e s h=>ih _ _ _ _ R5 (uM.list (by rw[hr];exact hi)) h) (eP _ Qb)⟩
    ·cases h
theorem G3 {ops:Array Oper} {vl:List bc} {nt site0:Nat} {draw mk:Bool} {bs:Array Nat} {hidden:List (Nat×Bool)} {K:Env->ax->Prop} {Q:Exit->Act->World->Prop} (eP:allM (lU P ops nt site0 draw mk bs hidden) ops.toList 0=some vl):
  ∀(fuel:Nat) (listed:Array Bool) (env:Env) (σ:ax) (a:Act) (w:World) (D:Nat->Prop) (ι:Names) (U:Nat->Prop),CV (Sound P) ops vl K fuel listed env σ->iD P hs D ι σ.get w->Used ι σ.next U->(∀s,U s->∃i,s=site0+i/\listed.getD i false=true)->di P w D ι env a->a.tmps.size=nt->
  (∀jF σ' a' w' D' ι',K jF σ'->Step hs D ι w D' ι' w'->St P hs nt D' ι' jF σ' a' w'->a'.defers=a.defers->σ.next<=σ'.next->Q .normal a' w')->wpAny P .any ops Q fuel listed a w:=by
 intro fuel
 induction fuel with
 |zero=>intro listed env σ a w D ι U h S Us hU E e9 hQ;exact⟨h.1,hQ env _ a w D ι h.2 (Step.refl _ _ _ _) ⟨S,Us.next,E,e9⟩ rfl (Nat.le_succ _)⟩
 |succ fuel ih=>
  intro listed env σ a w D ι U h S Us hU E e9 hQ
  refine⟨fun hr=>hQ env _ a w D ι (h.1 hr) (Step.refl _ _ _ _) ⟨S,Us.next,E,e9⟩ rfl (Nat.le_succ _),fun i hi=>?_⟩
  obtain⟨vo,lp,hG⟩:=h.2 i hi
  obtain⟨_,o,ho,_⟩:=mem_ready.1 hi
  obtain⟨vo',nQ,Vx⟩:=(qd eP).2 i o (by simpa using ho)
  rw[lp]at nQ;injection nQ with nQ;subst nQ
  rw[Nat.zero_add]at Vx
  obtain⟨hc,hd,Ei,zW,hg⟩:=qY Vx
  have hw:=wh (ops:=ops) (vo:=vo) E hg
  have YO:¬U vo.site:=fun hu=>by
   obtain⟨i',he,hl⟩:=hU _ hu
   have:i'=i:=ae
   subst this
   rw[jY hi]at hl;cases hl
  have ko:i<listed.size:=by
   have h0:=(mem_ready.1 hi).1
   rcases Nat.lt_or_ge i listed.size with h|h
   ·exact h
   ·simp[Array.getElem?_eq_none h]at h0
  unfold wpOp
  simp only[ho]
  rw[<-hw]
  unfold step at hG
  by_cases Jg:aF vo.guard env=true
  ·rw[if_pos Jg]
   rw[if_pos Jg]at hG
   refine .inl (Bz hc hG S Us YO E fun v σ' u D' ι' w' hn T S' hR U' hle=>?_)
   refine ih _ _ _ _ w' D' ι' _ hn S' U' (fun s Ee=>?_) (by rw[hd];exact jw (qn E T) hR zW e9) (by rw[fS];exact e9) fun jF σ2 a2 w2 D2 ι2 hk T2 R4 F6 nu=>hQ jF σ2 a2 w2 D2 ι2 hk (T.trans T2) R4 (F6.trans (put_defers _ _ _)) (Nat.le_trans hle nu)
   rcases Ee with h|h
   ·obtain⟨i',he,hl⟩:=hU _ h
    exact⟨i',he,getD_set_true hl⟩
   ·exact⟨i,by rw[h,Ei],by simp[ko]⟩
  ·rw[if_neg Jg]
   rw[if_neg Jg]at hG
   refine ih _ _ _ _ w D ι U hG S Us (fun s Ee=>?_) (by rw[hd];exact jw E dy.undef zW e9) (by rw[fS];exact e9) fun jF σ2 a2 w2 D2 ι2 hk T2 R4 F6 nu=>hQ jF σ2 a2 w2 D2 ι2 hk T2 R4 (F6.trans (put_defers _ _ _)) nu
   obtain⟨i',he,hl⟩:=hU _ Ee
   exact⟨i',he,getD_set_true hl⟩
end
end Go.Proofs.YtiabgllilcfheaaGreat.V

namespace Go.Proofs.YtiabgllilcfheaaGreat.V
open Go.RowKit
variable {P:Program} {w w':World} {D D' D2:Nat->Prop} {ι ι' ι2:Names}
def Am (P:Program) (c:Code) (Q:Exit->Act->World->Prop) (a:Act) (w:World):Prop:=
 ∀(b:Frame) (k:List Item) (cs:List Frame),b.kind≠.early->∃e a' w',Q e a' w'/\Arrives P (lone (b.at a (.code c::k)) cs w) b k cs e a' w'
section
variable {Q:Exit->Act->World->Prop} {a:Act}
theorem kO {c:Code} (h:c.wp P Q a w):Am P c Q a w:=fun b k cs _=>h b k cs
theorem nh {x y:Code} (h:Am P x (Exit.then (Am P y Q) Q) a w):Am P (.seq x y) Q a w:=by
 intro b k cs hb
 obtain⟨e,a1,w1,hq,jG⟩:=h b (.code y::k) cs hb
 by_cases he:e=.normal
 ·subst he
  obtain⟨e2,a2,w2,Jc,Li⟩:=hq b k cs hb
  exact⟨e2,a2,w2,Jc,.of_steps (.head step_seq jG) Li⟩
 ·refine⟨e,a1,w1,?_,.of_steps (.one step_seq) (.pass (x:=.code y) rfl (fun _ _=>.inl he) jG)⟩
  cases e<;>first|exact absurd rfl he|exact hq
theorem y6 {c:Operand} {x y:Code} {t:Bool} (hc:a.eval c=.bool t) (h:Am P (if t then x else y) Q a w):Am P (.cond c x y) Q a w:=
 fun b k cs hb=>let ⟨e,a',w',q,r⟩:=h b k cs hb;⟨e,a',w',q,.of_steps (.one (step_cond hc)) r⟩
theorem vN {id:Nat} {c:Code} (h:Am P c (Exit.inBlock id Q) a w):Am P (.block id c) Q a w:=by
 intro b k cs hb
 obtain⟨e,a1,w1,hq,jG⟩:=h b (.inBlock id::k) cs hb
 cases e with
 |normal=>exact⟨.normal,a1,w1,hq,.head step_block (Steps.trans jG (.one step_inBlock))⟩
 |exit kV=>
  by_cases hid:kV=id
  ·simp only[Exit.inBlock,hid,if_true]at hq
   exact⟨.normal,a1,w1,hq,.head step_block (jG k (by simp[exitTo,hid]))⟩
  ·simp only[Exit.inBlock,hid,if_false]at hq
   exact⟨.exit kV,a1,w1,hq,fun k' hk=>.head step_block (jG k' (by simp[exitTo,Ne.symm hid,hk]))⟩
 |goto l=>exact⟨_,a1,w1,hq,fun k' hk=>.head step_block (jG k' (by simp[gotoIn,hk]))⟩
 |ret=>exact⟨_,a1,w1,hq,.of_steps (.one step_block) jG⟩
 |panic ch=>exact⟨_,a1,w1,hq,.of_steps (.one step_block) jG⟩
 |outgrown=>exact⟨_,a1,w1,hq,.of_steps (b:=b) (k:=k) (cs:=cs) (e:=.outgrown) (.one step_block) jG⟩
theorem JH {c:Code} (h:Am P c (Exit.noGoto Q) a w):Am P (.scope c) Q a w:=by
 intro b k cs hb
 obtain⟨e,a1,w1,hq,jG⟩:=h b (.inScope c::k) cs hb
 cases e with
 |normal=>exact⟨.normal,a1,w1,hq,.head step_scope (Steps.trans jG (.one step_inScope))⟩
 |exit id=>exact⟨.exit id,a1,w1,hq,fun k' hk=>.head step_scope (jG k' (by simp[exitTo,hk]))⟩
 |goto l=>exact hq.elim
 |ret=>exact⟨_,a1,w1,hq,.of_steps (.one step_scope) jG⟩
 |panic ch=>exact⟨_,a1,w1,hq,.of_steps (.one step_scope) jG⟩
 |outgrown=>exact⟨_,a1,w1,hq,.of_steps (b:=b) (k:=k) (cs:=cs) (e:=.outgrown) (.one step_scope) jG⟩
def rq (P:Program) (c:Code) (Q:Exit->Act->World->Prop):Nat->Act->World->Prop
 |0=>fun _ _=>False
 |n+1=>Am P c (Exit.then (rq P c Q n) Q)
theorem ES {c:Code} (n:Nat) (h:rq P c Q n a w):Am P (.loop c) Q a w:=by
 intro b k cs hb
 have key:∀n a w,rq P c Q n a w->∃e a' w',Q e a' w'/\Arrives P (lone (b.at a (.code c::.inLoop c::k)) cs w) b k cs e a' w':=by
  intro n
  induction n with
  |zero=>intro a w h;exact h.elim
  |succ n ih=>
   intro a w h
   obtain⟨e,a1,w1,hq,jG⟩:=h b (.inLoop c::k) cs hb
   by_cases he:e=.normal
   ·subst he
    obtain⟨e2,a2,w2,Jc,Li⟩:=ih a1 w1 hq
    exact⟨e2,a2,w2,Jc,.of_steps (Steps.trans jG (.one step_inLoop)) Li⟩
   ·refine⟨e,a1,w1,?_,.pass (x:=.inLoop c) rfl (fun _ _=>.inl he) jG⟩
    cases e<;>first|exact absurd rfl he|exact hq
 obtain⟨e,a',w',hq,jG⟩:=key n a w h
 exact⟨e,a',w',hq,.of_steps (.one step_loop) jG⟩
theorem BR {f:FuncId} {fn:Func} {c:Code} {args:Array Value} {R:Ending->World->Prop} (hf:P.funcs[f]? =some fn) (hb:fn.body=some c)
  (h:Am P c (bodyPost P fn R) {tmps:=args++Array.replicate (fn.ntmps-args.size) undef,defers:=[]} w):Calls P f args w R:=by
 intro cs
 have RI:Frame.enter P f args .normal=({(default:Frame)with fn:=f,kind:=.normal}:Frame).at {tmps:=args++Array.replicate (fn.ntmps-args.size) undef,defers:=[]} [.code c]:=by simp[Frame.enter,Frame.at,hf,hb]
 obtain⟨e,a',w',hq,jG⟩:=h {(default:Frame)with fn:=f,kind:=.normal} [] cs (by simp)
 rw[<-RI]at jG
 cases e with
 |normal=>obtain⟨hd,v,hr,hR⟩:=hq;exact⟨.returned v,w',_,hR,Steps.trans jG (.one step_end),rfl,rfl,hd,rfl,fn,hf,hr⟩
 |ret=>obtain⟨hd,v,hr,hR⟩:=hq;obtain⟨todo,hs⟩:=jG;exact⟨.returned v,w',_,hR,hs,rfl,rfl,hd,rfl,fn,hf,hr⟩
 |panic chain=>obtain⟨hd,hR⟩:=hq;obtain⟨todo,hs⟩:=jG;exact⟨.panicked chain,w',_,hR,hs,rfl,rfl,hd,fn,hf⟩
 |exit id=>exact hq.elim
 |goto l=>exact hq.elim
 |outgrown=>exact⟨.outgrown,w',{(default:Frame)with fn:=f,kind:=.normal},hq,jG.resolve_left (by simp),rfl,trivial⟩
def zM (P:Program) (ops:Array Oper) (Q:Exit->Act->World->Prop) (l:List Nat) (a:Act) (w:World):Prop:=
 ∀(b:Frame) (k:List Item) (cs:List Frame),b.kind≠.early->∃e a' w',Q e a' w'/\Arrives P (lone (b.at a (.inRegion ops l::k)) cs w) b k cs e a' w'
theorem Gz {id:Nat} {ops:Array Oper} (h:zM P ops Q (List.range ops.size) a w):Am P (.region id ops false) Q a w:=
 fun b k cs hb=>let ⟨e,a',w',q,r⟩:=h b k cs hb;⟨e,a',w',q,.of_steps (.one step_region) r⟩
theorem Sk {ops:Array Oper} (h:Q .normal a w):zM P ops Q [] a w:=fun _ _ _ _=>⟨.normal,a,w,h,.one step_region_end⟩
theorem qT {o:Oper} {ys:Nat->Option Bool} (h:o.guard=none):Region.wanted o ys=true:=by simp[Region.wanted,h]
theorem Mo {ops:Array Oper} {i:Nat} {rest:List Nat} {o:Oper} {v:Value} (ho:ops[i]? =some o) (hg:o.guard=none) (hr:(execOp a.eval o).run P w=.ok (.value v) w') (h:zM P ops Q rest (a.put o.dst v) w'):zM P ops Q (i::rest) a w:=by
 intro b k cs hb
 obtain⟨e,a',w2,hq,jG⟩:=h b k cs hb
 refine⟨e,a',w2,hq,.of_steps (.one ?_) jG⟩
 have vD:(b.at a (.inRegion ops (i::rest)::k)).finish v=b.at (a.put o.dst v) (.inRegion ops rest::k):=by rw[Frame.finish_at,ho];rfl
 rw[<-vD]
 refine step_lone_go ?_
 have h2:=stepG_op (P:=P) (b:=b) (k:=k) (cs:=cs) (w:=w) (rest:=rest) ho (qT hg (ys:=yielded ops a.tmps))
 rw[h2];simp[stepG.apply,hr]
theorem Pm {ops:Array Oper} {i:Nat} {rest:List Nat} {o:Oper} {v z:Value} {c cap s r:Nat} {buf:Array Value} (ho:ops[i]? =some o) (hg:o.guard=none) (hr:(execOp a.eval o).run P w=.ok (.comm #[Conc.scase c v z] true .send) w)
  (hc:w.heap[c]? =some (.chan cap buf false s r false)) (ik:buf.size<cap) (h:zM P ops Q rest (a.put o.dst undef) (w.setChan c cap (buf.push v) false (s+1) r false)):zM P ops Q (i::rest) a w:=by
 intro b k cs hb
 obtain⟨e,a',w2,hq,jG⟩:=h b k cs hb
 refine⟨e,a',w2,hq,.of_steps (.one ?_) jG⟩
 have vD:(b.at a (.inRegion ops (i::rest)::k)).finish undef=b.at (a.put o.dst undef) (.inRegion ops rest::k):=by rw[Frame.finish_at,ho];rfl
 rw[<-vD,Conc.lone_eq_solo,Conc.lone_eq_solo]
 exact Conc.step_lone_send_room (Conc.stepG_comm ho (qT hg) hb hr) hc ik
theorem Pk {ops:Array Oper} {i:Nat} {rest:List Nat} {o:Oper} {z:Value} {c cap s r:Nat} {buf:Array Value} (ho:ops[i]? =some o) (hg:o.guard=none) (hr:(execOp a.eval o).run P w=.ok (.comm #[Conc.rcase c z] true (.recv false)) w)
  (hc:w.heap[c]? =some (.chan cap buf false s r false)) (LJ:0<buf.size) (h:zM P ops Q rest (a.put o.dst (buf.getD 0 undef)) (w.setChan c cap (buf.extract 1 buf.size) false s (r+1) false)):zM P ops Q (i::rest) a w:=by
 intro b k cs hb
 obtain⟨e,a',w2,hq,jG⟩:=h b k cs hb
 refine⟨e,a',w2,hq,.of_steps (.one ?_) jG⟩
 have vD:(b.at a (.inRegion ops (i::rest)::k)).finish (buf.getD 0 undef)=b.at (a.put o.dst (buf.getD 0 undef)) (.inRegion ops rest::k):=by rw[Frame.finish_at,ho];rfl
 rw[<-vD,Conc.lone_eq_solo,Conc.lone_eq_solo]
 exact Conc.step_lone_recv_buf false (Conc.stepG_comm ho (qT hg) hb hr) hc LJ
end
section
variable {hs:Nat} {g:Rows} {env:Env} {a:Act} {o:Oper}
theorem OY {x y:O} (hc:tx P o.op=some (.snd x y)):∃x' y',o.op=.send x' y'/\cO P x'=some x/\cO P y'=some y:=by
 unfold tx at hc
 split at hc
 case h_25=>
  rename_i x' y' h
  simp only[Option.bind_eq_bind,Option.bind_eq_some_iff,Option.pure_def,Option.some.injEq,iH.snd.injEq]at hc
  obtain⟨p,h1,q,h2,rfl,rfl⟩:=hc
  exact⟨_,_,h,h1,h2⟩
 all_goals (try unfold pg at hc)<;>(try unfold yg at hc)<;>(try unfold uZ at hc)<;>(repeat' (split at hc))<;>(simp only[Option.bind_eq_bind,Option.bind_eq_some_iff,Option.pure_def,Option.some.injEq,Option.map_eq_some_iff,reduceCtorEq,and_false,exists_false]at hc)
theorem OX {x:O} (hc:tx P o.op=some (.Sq x)):∃t dir e i z x',o.op=.recv t x' false/\P.underlying t=some (.chan dir e)/\P.info? e=some i/\i.zero=some z/\cO P x'=some x:=by
 unfold tx at hc
 split at hc
 case h_26=>
  rename_i t x' h
  split at hc
  ·rename_i dir e ht
   split at hc
   ·rename_i z hz
    simp only[Option.bind_eq_some_iff]at hz
    obtain⟨i,hi,hz⟩:=hz
    simp only[Option.map_eq_some_iff,iH.Sq.injEq]at hc
    obtain⟨p,h1,rfl⟩:=hc
    exact⟨t,dir,e,i,z,x',h,ht,hi,hz,h1⟩
   ·cases hc
  ·cases hc
 all_goals (try unfold pg at hc)<;>(try unfold yg at hc)<;>(try unfold uZ at hc)<;>(repeat' (split at hc))<;>(simp only[Option.bind_eq_bind,Option.bind_eq_some_iff,Option.pure_def,Option.some.injEq,Option.map_eq_some_iff,reduceCtorEq,and_false,exists_false]at hc)
theorem U3 {x y:O} {g':Rows} (S:iD P hs D ι g w) (hc:tx P o.op=some (.snd x y)) (E:di P w D ι env a) (hv:ee g (du env x) (du env y)=some g'):
  ∃c cap s r buf u,(execOp a.eval o).run P w=.ok (.comm #[Conc.scase c u (.tuple #[])] true .send) w/\w.heap[c]? =some (.chan cap buf false s r false)/\buf.size<cap/\iD P hs D ι g' (w.setChan c cap (buf.push u) false (s+1) r false)/\Step hs D ι w D ι (w.setChan c cap (buf.push u) false (s+1) r false):=by
 obtain⟨x',y',ho,hx,hy⟩:=OY hc
 have rx:=ek E hx
 have ry:=ek E hy
 unfold ee at hv
 split at hv
 ·rename_i i he
  simp only[Option.bind_eq_some_iff]at hv
  obtain⟨r,hg,hv⟩:=hv
  split at hv
  ·rename_i hcond
   simp only[Option.some.injEq]at hv
   subst hv
   obtain⟨B,c,hu,hB,hk,e9,buf,s,q,hb,Nw,hR⟩:=BS S rx he hg
   obtain⟨B',eG,RR,_⟩:=S.row i r hg
   rw[hB]at eG;injection eG with eG;subst eG
   have pK:=S.J6 (ob:=.chan c (buf.push (a.eval y')) false (s+1) q false) (r':={r with rows:=r.rows++[[du env y]]}) hg hcond.1 hB fun hr lG=>⟨RR.sz,fun cs eD=>?_,fun h0=>(by rw[hk]at h0;cases h0),fun m hm=>(by rw[hk]at hm;cases hm),fun c' lZ=>?_⟩
   ·exact⟨B.b,c,s,q,buf,a.eval y',by simp[execOp,ho,hu,Conc.scase],hb,by rw[Nw];omega,pK.1,pK.2⟩
   ·rcases List.mem_append.1 eD with h|h
    ·exact RR.flat cs h
    ·rw[List.mem_singleton.1 h]
     intro b vz
     rw[List.mem_singleton.1 vz];exact hcond.2.2
   ·rw[hk]at lZ
    simp only[Option.some.injEq,BK.chan.injEq]at lZ
    subst lZ
    refine⟨e9,_,_,_,lG,by simp[Nw],fun j cs hj=>?_⟩
    rw[List.getElem?_append]at hj
    split at hj
    ·rename_i eM
     obtain⟨b,u,q1,q2,q3⟩:=hR j cs hj
     refine⟨b,u,q1,?_,hr _ _ q3⟩
     rw[Array.getElem?_push,if_neg ae];exact q2
    ·rename_i kC
     have iv:j=r.rows.length:=by
      have:=(List.getElem?_eq_some_iff.1 hj).1
      simp at this;omega
     subst iv
     simp at hj
     subst hj
     exact⟨_,_,rfl,by rw[Array.getElem?_push,if_pos Nw.symm],hr _ _ ry⟩
  ·cases hv
 ·cases hv
theorem U0 {x:O} {g':Rows} {v:AV} (S:iD P hs D ι g w) (hc:tx P o.op=some (.Sq x)) (E:di P w D ι env a) (hv:ec g (du env x)=some (v,g')):
  ∃c cap s r buf z,(execOp a.eval o).run P w=.ok (.comm #[Conc.rcase c z] true (.recv false)) w/\w.heap[c]? =some (.chan cap buf false s r false)/\0<buf.size/\iD P hs D ι g' (w.setChan c cap (buf.extract 1 buf.size) false s (r+1) false)/\Step hs D ι w D ι (w.setChan c cap (buf.extract 1 buf.size) false s (r+1) false)/\dy P (w.setChan c cap (buf.extract 1 buf.size) false s (r+1) false) D ι v (buf.getD 0 undef):=by
 obtain⟨t,dir,e,i0,z,x',ho,ht,hi,hz,hx⟩:=OX hc
 have rx:=ek E hx
 unfold ec at hv
 split at hv
 ·rename_i i he
  simp only[Option.bind_eq_some_iff]at hv
  obtain⟨r,hg,hv⟩:=hv
  split at hv
  ·rename_i v' rest qC
   split at hv
   ·rename_i hcond
    simp only[Option.some.injEq,Prod.mk.injEq]at hv
    obtain⟨rfl,rfl⟩:=hv
    obtain⟨B,c,hu,hB,hk,e9,buf,s,q,hb,Nw,hR⟩:=BS S rx he hg
    obtain⟨B',eG,RR,_⟩:=S.row i r hg
    rw[hB]at eG;injection eG with eG;subst eG
    obtain⟨b0,u0,q1,q2,q3⟩:=hR 0 [v'] (by rw[qC];rfl)
    simp only[List.cons.injEq,and_true]at q1
    subst q1
    have lH:0<buf.size:=by rw[Nw,qC];simp
    have XE:buf.getD 0 undef=u0:=by rw[Array.getD_eq_getD_getElem?,q2];rfl
    have pK:=S.J6 (ob:=.chan c (buf.extract 1 buf.size) false s (q+1) false) (r':={r with rows:=rest}) hg hcond hB fun hr lG=>⟨RR.sz,fun cs eD=>RR.flat cs (by rw[qC];exact List.mem_cons_of_mem _ eD),fun h0=>(by rw[hk]at h0;cases h0),fun m hm=>(by rw[hk]at hm;cases hm),fun c' lZ=>?_⟩
    ·refine⟨B.b,c,s,q,buf,z,?_,hb,lH,pK.1,pK.2,?_⟩
     ·have yM:(zeroValue e).run P w=.ok z w:=by simp[zeroValue,typeInfo,hi,hz]
      simp[execOp,ho,hu,Conc.rcase,run_underlying ht,yM]
     ·rw[XE];exact pK.2.rep q3
    ·rw[hk]at lZ
     simp only[Option.some.injEq,BK.chan.injEq]at lZ
     subst lZ
     refine⟨e9,_,_,_,lG,by simp[Nw,qC],fun j cs hj=>?_⟩
     obtain⟨b,u,k1,k2,k3⟩:=hR (j+1) cs (by rw[qC];simpa using hj)
     refine⟨b,u,k1,?_,hr _ _ k3⟩
     have eM:=(Array.getElem?_eq_some_iff.1 k2).1
     rw[Array.getElem?_extract,if_pos ae,Nat.add_comm 1 j];exact k2
   ·cases hv
  ·cases hv
 ·cases hv
theorem IF {ops:Array Oper} {nt site0:Nat} {K:Env->ax->Prop} {Q:Exit->Act->World->Prop}:∀(l:List Oper) (vl:List bc) (j:Nat) (env:Env) (σ:ax) (a:Act) (w:World) (D:Nat->Prop) (ι:Names),
  ops.toList.drop j=l->allM (lU P ops nt site0 false false #[] []) l j=some vl->cz vl K env σ->iD P hs D ι σ.get w->Used ι σ.next (fun _=>False)->di P w D ι env a->a.tmps.size=nt->
  (∀jF σ' a' w' D' ι',K jF σ'->Step hs D ι w D' ι' w'->St P hs nt D' ι' jF σ' a' w'->a'.defers=a.defers->σ.next<=σ'.next->Q .normal a' w')->zM P ops Q (List.range' j l.length) a w:=by
 intro l
 induction l with
 |nil=>
  intro vl j env σ a w D ι _ h hv S Us E e9 hQ
  simp[allM]at h;subst h
  exact Sk (hQ env ⟨σ.get,σ.next+1⟩ a w D ι hv (Step.refl _ _ _ _) ⟨S,Us.next,E,e9⟩ rfl (Nat.le_succ _))
 |cons o l ih=>
  intro vl j env σ a w D ι hl h hv S Us E e9 hQ
  simp only[allM,Option.bind_eq_bind,Option.bind_eq_some_iff,Option.pure_def,Option.some.injEq]at h
  obtain⟨vo,lp,wg,uQ,rfl⟩:=h
  obtain⟨hc,hd,Ei,zW,hg⟩:=qY lp
  obtain⟨VJ,hv⟩:=hv
  have Zs:o.guard=none:=by
   split at hg
   ·assumption
   ·obtain⟨t,_,h⟩:=hg
    rw[VJ]at h;cases h
  have Zt:ops[j]? =some o:=by
   have h0:=congrArg (fun x=>x[0]?) hl
   rw[<-Array.getElem?_toList]
   simpa[List.getElem?_drop]using h0
  have NG:ops.toList.drop (j+1)=l:=by rw[<-List.drop_drop,hl];rfl
  have go:∀(v:AV) (u:Value) (g2:Rows) (w2:World),cz wg K (upd env vo.dst v) ⟨g2,σ.next⟩->iD P hs D ι g2 w2->Step hs D ι w D ι w2->dy P w2 D ι v u->zM P ops Q (List.range' (j+1) l.length) (a.put o.dst u) w2:=fun v u g2 w2 hn S2 T hR=>
   ih wg (j+1) (upd env vo.dst v) ⟨g2,σ.next⟩ (a.put o.dst u) w2 D ι NG uQ hn S2 Us (by rw[hd];exact jw (qn E T) hR zW e9) (by rw[fS];exact e9) fun jF σ2 a' w3 D3 ι3 hk T2 QS F6 nu=>hQ jF σ2 a' w3 D3 ι3 hk (T.trans T2) QS (F6.trans (put_defers _ _ _)) nu
  rw[show List.range' j (o::l).length=j::List.range' (j+1) l.length from rfl]
  split at hv
  ·rename_i x y eS
   split at hv
   ·rename_i g2 Ef
    rw[eS]at hc
    obtain⟨c,cap,s,r,buf,u,iw,hb,ik,S2,T⟩:=U3 S hc E Ef
    exact Pm Zt Zs iw hb ik (go _ _ _ _ hv S2 T dy.undef)
   ·exact hv.elim
  ·rename_i x eS
   split at hv
   ·rename_i v g2 Ef
    rw[eS]at hc
    obtain⟨c,cap,s,r,buf,z,iw,hb,LJ,S2,T,hR⟩:=U0 S hc E Ef
    exact Pk Zt Zs iw hb LJ (go _ _ _ _ hv S2 T hR)
   ·exact hv.elim
  ·split at hv
   ·rename_i v hq
    obtain⟨u,iw,hR⟩:=Bn hc hq S E
    exact Mo Zt Zs iw (go _ _ _ _ hv S (Step.refl _ _ _ _) hR)
   ·exact hv.elim
end
end Go.Proofs.YtiabgllilcfheaaGreat.V

namespace Go.Proofs.YtiabgllilcfheaaGreat.V
open Go.RowKit
variable {P:Program} {w w':World} {D D' D2:Nat->Prop} {ι ι' ι2:Names}
section
variable {hs:Nat} {X:gP}
def WY:Ex->Exit
 | .normal=>.normal
 | .exit id=>.exit id
 | .ret=>.ret
theorem St.drew {nt:Nat} {env:Env} {σ:ax} {a:Act} {D:Nat->Prop} {ι:Names} (h:St P hs nt D ι env σ a w):St P hs nt D ι env σ a w.drew/\Step hs D ι w D ι w.drew:=by
 have T:Step hs D ι w D ι w.drew:=Step.stay h.vZ (fun _ _=>rfl) (Nat.le_refl _) rfl rfl rfl (fun _ h=>h) (fun _ h=>.inl h) (fun _ _ h=>h)
 exact⟨⟨h.vZ.stay (fun _ _=>rfl) (Nat.le_refl _) (fun _ h=>h) h.vZ.dead (fun _ h=>.inl h) (fun _ _ h=>h),h.used,qn h.env T,h.size⟩,T⟩
def wi (P:Program) (hs nt:Nat) (ds:List Deferred) (Q:Ex->Env->ax->Prop) (n0:Nat) (D:Nat->Prop) (ι:Names) (w:World) (Q':Exit->Act->World->Prop):Prop:=
 ∀ex env σ a w' D' ι',Q ex env σ->Step hs D ι w D' ι' w'->St P hs nt D' ι' env σ a w'->a.defers=ds->n0<=σ.next->Q' (WY ex) a w'
theorem wi.later {nt:Nat} {ds:List Deferred} {Q:Ex->Env->ax->Prop} {n0 n1:Nat} {Q':Exit->Act->World->Prop} (h:wi P hs nt ds Q n0 D ι w Q') (T:Step hs D ι w D' ι' w') (hn:n0<=n1):wi P hs nt ds Q n1 D' ι' w' Q':=
 fun ex env σ a w2 D2 ι2 hq T2 ev hd hle=>h ex env σ a w2 D2 ι2 hq (T.trans T2) ev hd (Nat.le_trans hn hle)
theorem sO (hm:P.follows .mixedOrders=true) {md:List (Nat×Nat)} {nt fid:Nat}:∀(c:Code) (vc:VC),jA P md nt fid c=some vc->∀(Q:Ex->Env->ax->Prop) (env:Env) (σ:ax) (a:Act) (w:World) (D:Nat->Prop) (ι:Names) (Q':Exit->Act->World->Prop),
  er (Sound P) vc Q env σ->St P hs nt D ι env σ a w->wi P hs nt a.defers Q σ.next D ι w Q'->Am P c Q' a w:=by
 intro c
 induction c with
 |skip=>
  intro vc h Q env σ a w D ι Q' hv ev hQ
  simp[jA]at h;subst h
  exact kO <| wp_skip (hQ .normal env σ a w D ι hv (Step.refl _ _ _ _) ev rfl (Nat.le_refl _))
 |exit id=>
  intro vc h Q env σ a w D ι Q' hv ev hQ
  simp[jA]at h;subst h
  exact kO <| wp_exit (hQ (.exit id) env σ a w D ι hv (Step.refl _ _ _ _) ev rfl (Nat.le_refl _))
 |ret=>
  intro vc h Q env σ a w D ι Q' hv ev hQ
  simp[jA]at h;subst h
  exact kO <| wp_ret (hQ .ret env σ a w D ι hv (Step.refl _ _ _ _) ev rfl (Nat.le_refl _))
 |seq x y ihx ihy=>
  intro vc h Q env σ a w D ι Q' hv ev hQ
  simp only[jA,Option.bind_eq_bind,Option.bind_eq_some_iff,Option.pure_def,Option.some.injEq]at h
  obtain⟨vx,hx,vy,hy,rfl⟩:=h
  refine nh (ihx vx hx _ env σ a w D ι _ hv ev fun ex jI σ1 a1 w1 D1 ι1 hq T kq hd hle=>?_)
  cases ex with
  |normal=>exact ihy vy hy Q jI σ1 a1 w1 D1 ι1 Q' hq kq (by rw[hd];exact hQ.later T hle)
  |exit id=>exact hQ (.exit id) jI σ1 a1 w1 D1 ι1 hq T kq hd hle
  |ret=>exact hQ .ret jI σ1 a1 w1 D1 ι1 hq T kq hd hle
 |cond c x y ihx ihy=>
  intro vc h Q env σ a w D ι Q' hv ev hQ
  simp only[jA,Option.bind_eq_bind,Option.bind_eq_some_iff,Option.pure_def,Option.some.injEq]at h
  obtain⟨c',hc,vx,hx,vy,hy,rfl⟩:=h
  unfold er at hv
  have hr:=ek ev.env hc
  split at hv
  ·rename_i b hb
   rw[hb]at hr
   refine y6 (gj hr) ?_
   cases b with
   |true=>exact ihx vx hx Q env σ a w D ι Q' hv ev hQ
   |false=>exact ihy vy hy Q env σ a w D ι Q' hv ev hQ
  ·exact hv.elim
 |block id c ih=>
  intro vc h Q env σ a w D ι Q' hv ev hQ
  simp only[jA,Option.map_eq_some_iff]at h
  obtain⟨vx,hx,rfl⟩:=h
  refine vN (ih vx hx _ env σ a w D ι _ hv ev fun ex jI σ1 a1 w1 D1 ι1 hq T kq hd hle=>?_)
  cases ex with
  |normal=>exact hQ .normal jI σ1 a1 w1 D1 ι1 hq T kq hd hle
  |ret=>exact hQ .ret jI σ1 a1 w1 D1 ι1 hq T kq hd hle
  |exit kV=>
   simp only[bj]at hq
   simp only[WY,Exit.inBlock]
   by_cases hid:kV=id
   ·rw[if_pos hid]at hq ⊢;exact hQ .normal jI σ1 a1 w1 D1 ι1 hq T kq hd hle
   ·rw[if_neg hid]at hq ⊢;exact hQ (.exit kV) jI σ1 a1 w1 D1 ι1 hq T kq hd hle
 |loop c ih=>
  intro vc h Q env σ a w D ι Q' hv ev hQ
  simp only[jA,Option.map_eq_some_iff]at h
  obtain⟨vx,hx,rfl⟩:=h
  obtain⟨n,hv⟩:=hv
  refine ES n ?_
  have key:∀n env σ a w D ι,HX (er (Sound P) vx) Q n env σ->St P hs nt D ι env σ a w->wi P hs nt a.defers Q σ.next D ι w Q'->rq P c Q' n a w:=by
   intro n
   induction n with
   |zero=>intro env σ a w D ι h;exact h.elim
   |succ n ihn=>
    intro env σ a w D ι h ev hQ
    refine ih vx hx _ env σ a w D ι _ h ev fun ex jI σ1 a1 w1 D1 ι1 hq T kq hd hle=>?_
    cases ex with
    |normal=>exact ihn jI σ1 a1 w1 D1 ι1 hq kq (by rw[hd];exact hQ.later T hle)
    |exit id=>exact hQ (.exit id) jI σ1 a1 w1 D1 ι1 hq T kq hd hle
    |ret=>exact hQ .ret jI σ1 a1 w1 D1 ι1 hq T kq hd hle
  exact key n env σ a w D ι hv ev hQ
 |region id ops draw=>
  intro vc h Q env σ a w D ι Q' hv ev hQ
  simp only[jA,UZ]at h
  split at h
  ·rename_i hmode
   have YX:draw=true:=by
    simp only[Bool.and_eq_true]at hmode;exact hmode.1
   subst YX
   split at h
   ·rename_i vl eP
    obtain⟨uf,T0⟩:=ev.drew
    have F3:=J4 (X:=Sound P) lT ops.size _ vc env σ h (fun k i h=>by
     exfalso
     rcases Nat.lt_or_ge k ops.size with hk|hk
     ·simp[hk]at h
     ·simp[Nat.not_lt.2 hk]at h) hv
    refine kO (wp_region_any hm ?_)
    exact G3 eP ops.size _ env σ a w.drew D ι (fun _=>False) F3 uf.vZ uf.used (fun _ h=>h.elim) uf.env uf.size fun jI σ1 a1 w1 D1 ι1 hk T kq hd hle=>hQ .normal jI σ1 a1 w1 D1 ι1 hk (T0.trans T) kq hd hle
   ·cases h
  split at h
  ·rename_i hcom
   have YX:draw=false:=by
    simp only[Bool.and_eq_true,Bool.not_eq_true']at hcom;exact hcom.1
   subst YX
   simp only[Option.map_eq_some_iff]at h
   obtain⟨vl,uQ,rfl⟩:=h
   have eP:allM (lU P ops nt ((fid*1000+id)*1000) false false #[] []) ops.toList 0=some vl:=by
    unfold tP at uQ
    simp only[Bool.false_eq_true,if_false,Bool.not_false,Bool.true_or,if_true]at uQ
    split at uQ
    ·rename_i wg h;simp at uQ;subst uQ;exact h
    ·cases uQ
   refine Gz ?_
   have:=IF (Q:=Q') ops.toList vl 0 env σ a w D ι rfl eP hv ev.vZ ev.used ev.env ev.size fun jI σ1 a1 w1 D1 ι1 hk T kq hd hle=>hQ .normal jI σ1 a1 w1 D1 ι1 hk T kq hd hle
   rwa [<-List.range_eq_range',Array.length_toList]at this
  generalize (yY md id==1)=mk at h
  simp only[Option.map_eq_some_iff]at h
  obtain⟨vl,uQ,rfl⟩:=h
  cases draw with
  |false=>
   have eP:∃wg,allM (lU P ops nt ((fid*1000+id)*1000) false mk #[] []) ops.toList 0=some wg/\vl=wg:=by
    unfold tP at uQ
    simp only[Bool.false_eq_true,if_false,Bool.not_false,Bool.true_or,if_true]at uQ
    split at uQ
    ·rename_i wg h;simp at uQ;exact⟨wg,h,uQ.symm⟩
    ·cases uQ
   obtain⟨wg,eP,rfl⟩:=eP
   refine kO (wp_region_list ?_)
   exact Bg ops.toList vl 0 env σ a w D ι (fun _=>False) eP hv ev.vZ ev.used (fun _ h=>h.elim) ev.env ev.size fun jI σ1 a1 w1 D1 ι1 hk T kq hd hle=>hQ .normal jI σ1 a1 w1 D1 ι1 hk T kq hd hle
  |true=>
   have eP:∃hidden wg,allM (lU P ops nt ((fid*1000+id)*1000) true mk (kn ops) hidden) ops.toList 0=some wg/\vl=wg/\qm ops wg (kn ops)=true:=by
    unfold tP at uQ
    simp only[if_true,Bool.not_true,Bool.false_or]at uQ
    split at uQ
    ·rename_i wg h
     split at uQ
     ·rename_i yI;simp at uQ;exact⟨_,wg,h,uQ.symm,yI⟩
     ·cases uQ
    ·cases uQ
   obtain⟨hidden,wg,eP,rfl,yI⟩:=eP
   obtain⟨uf,T0⟩:=ev.drew
   obtain⟨hlen,_⟩:=qd eP
   have yH:vl.length=ops.size:=by rw[hlen];simp
   have F3:=zH (X:=Sound P) (K:=Q .normal) (n:=σ.next) yI yH vl 0 (Array.replicate ops.size false) env σ.get (by simp) (by simp) (fun i hi=>by simp[hi]) (by simp[yH]) (fun k i h=>by
    exfalso
    rcases Nat.lt_or_ge k ops.size with hk|hk
    ·simp[hk]at h
    ·simp[Nat.not_lt.2 hk]at h) hv
   refine kO (wp_region_any hm ?_)
   rw[yH]at F3
   exact Aq eP ops.size _ env σ.get a w.drew D ι (fun _=>False) F3 uf.vZ uf.used (fun _ h=>h.elim) uf.env uf.size fun jI g1 a1 w1 D1 ι1 U1 hk T S1 Ya E1 AR hd=>hQ .normal jI ⟨g1,σ.next+1⟩ a1 w1 D1 ι1 hk (T0.trans T) ⟨S1,Ya.next,E1,AR⟩ hd (Nat.le_succ _)
 |label l=>
  intro vc h Q env σ a w D ι Q' hv ev hQ
  simp[jA]at h;subst h
  exact kO <| wp_label (hQ .normal env σ a w D ι hv (Step.refl _ _ _ _) ev rfl (Nat.le_refl _))
 |scope c ih=>
  intro vc h Q env σ a w D ι Q' hv ev hQ
  simp only[jA]at h
  refine JH (ih vc h Q env σ a w D ι _ hv ev fun ex jI σ1 a1 w1 D1 ι1 hq T kq hd hle=>?_)
  have h1:=hQ ex jI σ1 a1 w1 D1 ι1 hq T kq hd hle
  cases ex with
  |normal=>exact h1
  |exit id=>exact h1
  |ret=>exact h1
 |_=>
  intro vc h
  simp[jA]at h
def MB (tmps:Array Value):ResultVar->Sem Value
 | .tmp t=>pure (tmps.getD t undef)
 | .cell a t=>do loadVar t (<-asAddr (tmps.getD a undef))
theorem GL (fn:Func) (tmps:Array Value):results fn tmps=(do
  let vs <-fn.results.mapM (MB tmps)
  pure (if h:vs.size=1 then vs[0]else .tuple vs)):=by
 unfold results
 congr 2
theorem wZ {nt:Nat} {env:Env} {σ:ax} {a:Act} {D:Nat->Prop} {ι:Names} (ev:St P hs nt D ι env σ a w):∀(rs:List ResultVar) (vr:List pB) (vs:List AV),rs.mapM (FM P)=some vr->gS env σ.get vr=some vs->
  ∃us:List Value,(rs.mapM (MB a.tmps)).run P w=.ok us w/\us.length=vs.length/\∀(j:Nat) (v:AV),vs[j]? =some v->∃u,us[j]? =some u/\dy P w D ι v u
 |[],vr,vs,h,hv=>by
  simp at h;subst h
  simp[gS]at hv;subst hv
  exact⟨[],by simp,rfl,fun j v h=>by simp at h⟩
 |r::rs,vr,vs,h,hv=>by
  simp only[List.mapM_cons,Option.bind_eq_bind,Option.bind_eq_some_iff]at h
  obtain⟨x,hx,vr',hr,h⟩:=h
  simp at h;subst h
  simp only[gS,Option.bind_eq_some_iff,Option.map_eq_some_iff]at hv
  obtain⟨v,AQ,Z3,OM,rfl⟩:=hv
  obtain⟨us,h1,h2,h3⟩:=wZ ev rs vr' Z3 hr OM
  have one:∃u,(MB a.tmps r).run P w=.ok u w/\dy P w D ι v u:=by
   cases r with
   |tmp t=>
    simp[FM]at hx;subst hx
    simp[jD]at AQ;subst AQ
    exact⟨_,rfl,ev.env t⟩
   |cell b t=>
    simp only[FM,Option.bind_eq_bind,Option.bind_eq_some_iff,Option.pure_def,Option.some.injEq]at hx
    obtain⟨ag,xH,n,hn,rfl⟩:=hx
    simp only[jD]at AQ
    have iP:=ev.env b
    unfold ld at AQ
    split at AQ
    ·rename_i kV i' oo hb
     rw[hb]at iP
     obtain⟨B,he,hB,hk⟩:=jy iP
     simp only[Option.bind_eq_some_iff]at AQ
     obtain⟨cs,eD,hp⟩:=AQ
     obtain⟨B',r0,AL,eG,R,hi,fl,f,hf⟩:=MG (S:=ev.vZ) eD (fun B2 h2=>by rw[hB]at h2;injection h2 with h2;subst h2;exact hk)
     rw[hB]at eG;injection eG with eG;subst eG
     obtain⟨u,k1,k2⟩:=lN (w:=w) (b:=B.b) (oo:=i'*B.sz+oo) (f:=fun j=>f (oo+j)) xH hn hp (fun a ha=>fl a (List.mem_of_mem_drop ha)) (fun j hj=>by
      rw[Nat.add_assoc];exact(hf _ (by simp at hj;omega)).1) (fun j a ha=>by
      simp at ha;exact(hf _ ((List.getElem?_eq_some_iff.1 ha).1)).2 _ ha)
     exact⟨u,by simp only[MB,he,asAddr,Sem.run_bind,Sem.run_pure,Result.andThen_ok,k1],k2⟩
    ·rename_i cs hb
     rw[hb]at iP
     obtain⟨b',oo,vs2,he,q1,q2,q3,q4⟩:=me iP
     obtain⟨u,k1,k2⟩:=lN (w:=w) (b:=b') (oo:=oo) (f:=vs2) xH hn AQ q2 q3 (fun j a ha=>.fy _ _ (q4 j a ha))
     exact⟨u,by simp only[MB,he,asAddr,Sem.run_bind,Sem.run_pure,Result.andThen_ok,k1],k2⟩
    ·simp at AQ
  obtain⟨u,hu,z7⟩:=one
  refine⟨u::us,?_,by simp[h2],fun j v' hj=>?_⟩
  ·rw[List.mapM_cons]
   simp only[Sem.run_bind,hu,h1,Result.andThen_ok,Sem.run_pure]
  ·cases j with
   |zero=>simp at hj;subst hj;exact⟨u,rfl,z7⟩
   |succ j=>simp at hj ⊢;exact h3 j v' hj
theorem yf {f:Nat} {fn:Func} {c:Code} {args:List AV} {σ:ax} {K:AV->ax->Prop} {vr:List pB} (Un:P.funcs[f]? =some fn) (hc:fn.body=some c) (hr:fn.results.toList.mapM (FM P)=some vr) (ha:fn.params.size+fn.nfree=args.length) (hle:fn.params.size+fn.nfree<=fn.ntmps)
  (h:∀(hs:Nat) (w:World) (D:Nat->Prop) (ι:Names) (a:Act) (Q':Exit->Act->World->Prop),St P hs fn.ntmps D ι (cw args) σ a w->wi P hs fn.ntmps a.defers (mh vr K) σ.next D ι w Q'->Am P c Q' a w):Sound P f args σ K:=by
 intro hs D ι w vs S Us A
 have e9:vs.size=args.length:=A.1
 refine BR Un hc ?_
 refine h hs w D ι _ _ ⟨S,Us,fun t=>?_,by simp;omega⟩ fun ex jI σ1 a1 w1 D1 ι1 hq T kq hd hle=>?_
 ·simp only[cw]
  by_cases eM:t<args.length
  ·obtain⟨u,hu,z7⟩:=A.2 t args[t] (List.getElem?_eq_getElem eM)
   have e1:args.getD t .undef=args[t]:=by simp[List.getD_eq_getElem?_getD,eM]
   have e2:(vs++Array.replicate (fn.ntmps-vs.size) undef).getD t undef=u:=by
    simp only[Array.getD_eq_getD_getElem?]
    rw[Array.getElem?_append_left ae,hu];rfl
   rw[e1,e2];exact z7
  ·have e1:args.getD t .undef=.undef:=by simp[List.getD_eq_getElem?_getD,Nat.le_of_not_lt eM]
   have e2:(vs++Array.replicate (fn.ntmps-vs.size) undef).getD t undef=undef:=by
    simp only[Array.getD_eq_getD_getElem?]
    rw[Array.getElem?_append_right ae,Array.getElem?_replicate]
    split<;>rfl
   rw[e1,e2];exact dy.undef
 ·have fin:(∃vs,gS jI σ1.get vr=some vs/\K (gx vs) σ1)->a1.defers=[]/\∃v,(results fn a1.tmps).run P w1=.ok v w1/\∃r g' n' D' ι' u,Ending.returned v=.returned u/\K r ⟨g',n'⟩/\Step hs D ι w D' ι' w1/\iD P hs D' ι' g' w1/\Used ι' n' (fun _=>False)/\σ.next<=n'/\dy P w1 D' ι' r u:=by
   rintro⟨avs,OM,hK⟩
   obtain⟨us,h1,h2,h3⟩:=wZ kq fn.results.toList vr avs hr OM
   have RZ:(results fn a1.tmps).run P w1=.ok (if h:us.toArray.size=1 then us.toArray[0]else .tuple us.toArray) w1:=by
    rw[GL,Array.mapM_eq_mapM_toList]
    simp only[Sem.run_bind,Sem.run_map,h1,Result.andThen_ok,Sem.run_pure]
   refine⟨hd,_,RZ,gx avs,σ1.get,σ1.next,D1,ι1,_,rfl,hK,T,kq.vZ,kq.used,hle,?_⟩
   unfold gx
   split
   ·rename_i v
    have hl:us.length=1:=h2
    obtain⟨u,hu,z7⟩:=h3 0 v rfl
    rw[dif_pos (by simpa using hl)]
    have:us.toArray[0]'(by simp[hl])=u:=by
     have:=(List.getElem?_eq_some_iff.1 hu).2
     simpa using this
    rw[this];exact z7
   ·rename_i iN
    rw[dif_neg (by
     simp only[List.size_toArray,h2]
     intro h
     obtain⟨v,hv⟩:=List.length_eq_one_iff.1 h
     exact iN v hv)]
    exact .ib _ _ (fun j=>us.getD j undef) (by simp[h2]) (fun j hj=>by
     have:j<us.length:=by rw[h2];exact hj
     simp[this]) (fun j v hj=>by
     obtain⟨u,hu,z7⟩:=h3 j v hj
     simpa[List.getD_eq_getElem?_getD,hu]using z7)
  cases ex with
  |normal=>exact fin hq
  |ret=>exact fin hq
  |exit id=>exact hq.elim
theorem K9 (hm:P.follows .mixedOrders=true) {f:Nat} {md:List (Nat×Nat)} {vf:FC} {args:List AV} {σ:ax} {K:AV->ax->Prop} (hf:u7 P f md=some vf) (ha:vf.Bc=args.length) (h:er (Sound P) vf.body (mh vf.res K) (cw args) σ):Sound P f args σ K:=by
 unfold u7 at hf
 split at hf
 ·rename_i fn Un
  split at hf
  ·rename_i c hc
   simp only[Option.bind_eq_bind,Option.bind_eq_some_iff]at hf
   obtain⟨vb,hb,vr,hr,hf⟩:=hf
   split at hf
   ·rename_i hle
    simp only[Option.pure_def,Option.some.injEq]at hf
    subst hf
    simp only at ha h
    exact yf Un hc hr ha hle fun hs w D ι a Q' ev hQ=>sO hm c vb hb (mh vr K) (cw args) σ a w D ι Q' h ev hQ
   ·simp at hf
  ·simp at hf
 ·simp at hf
def QC (P:Program) (X:gP):gP:=fun f args σ K=>(∃md vf,u7 P f md=some vf/\vf.Bc=args.length/\((∀a∈args,fB a)->er X vf.body (mh vf.res K) (cw args) σ))∨Sound P f args σ K
def Call (P:Program):gP:=fun f args σ K=>∀X:gP,sk X->(∀f args σ K,QC P X f args σ K->X f args σ K)->X f args σ K
theorem iC (hm:P.follows .mixedOrders=true) {f:Nat} {args:List AV} {σ:ax} {K:AV->ax->Prop} (h:Call P f args σ K):Sound P f args σ K:=
 h (Sound P) lT fun f args σ K hs=>by
  rcases hs with⟨md,vf,h1,h2,h3⟩|h
  ·intro hs D ι w vs S U A
   exact K9 hm h1 h2 (h3 (qJ fun j a hj=>by obtain⟨u,_,hr⟩:=A.2 j a hj;exact hr.LX)) hs D ι w vs S U A
  ·exact h
end
end Go.Proofs.YtiabgllilcfheaaGreat.V

namespace Go.Proofs.YtiabgllilcfheaaGreat.V
open Go.RowKit
variable {P:Program} {X Y:gP}
theorem Kv (h:∀f args σ K,X f args σ K->Y f args σ K) {f:Nat} {args:List AV} {σ:ax} {K:AV->Prop} (hp:fY X f args σ K):fY Y f args σ K:=by
 rcases hp with hp|⟨a,h1,h2⟩
 ·exact .inl (h _ _ _ _ hp)
 ·exact .inr ⟨a,h1,h _ _ _ _ h2⟩
theorem NQ (h:∀f args σ K,X f args σ K->Y f args σ K) {f:Nat} {args:List AV} {σ:ax} {sz:Nat} {rows:List (List AV)} (hp:CM X f args σ sz rows):CM Y f args σ sz rows:=by
 obtain⟨h1,a,h2,h3⟩:=hp
 exact⟨h1,a,h2,h _ _ _ _ h3⟩
theorem sM (h:∀f args σ K,X f args σ K->Y f args σ K) (hK:∀f args σ K K',(∀r σ',K r σ'->K' r σ')->Y f args σ K->Y f args σ K') {draw:Bool} {hid:List Nat} {site:Nat} {f:Nat} {args:List AV} {σ:ax} {n n':AV->ax->Prop} (hn:∀v σ',n v σ'->n' v σ') (hp:cK X draw hid site f args σ n):cK Y draw hid site f args σ n':=by
 rcases hp with⟨r,h1,h2⟩|⟨h1,h2⟩|⟨h1,sz,rows,h2,h3⟩
 ·exact .inl ⟨r,Kv h h1,hn _ _ h2⟩
 ·exact .inr (.inl ⟨h1,hK _ _ _ _ _ hn (h _ _ _ _ h2)⟩)
 ·exact .inr (.inr ⟨h1,sz,rows,NQ h h2,hn _ _ h3⟩)
theorem uJ (h:∀f args σ K,X f args σ K->Y f args σ K) (hK:∀f args σ K K',(∀r σ',K r σ'->K' r σ')->Y f args σ K->Y f args σ K') {draw:Bool} {o:bc} {env:Env} {σ:ax} {n n':AV->ax->Prop} (hn:∀v σ',n v σ'->n' v σ') (hp:fC X draw o env σ n):fC Y draw o env σ n':=by
 unfold fC at hp ⊢
 split at hp
 ·exact sM h hK hn hp
 ·split at hp
  ·exact sM h hK hn hp
  ·exact sM h hK hn hp
  ·exact hp.elim
 ·split at hp
  ·exact hn _ _ hp
  ·exact hp.elim
 ·split at hp
  ·exact hn _ _ hp
  ·exact hp.elim
 ·split at hp
  ·exact hn _ _ hp
  ·exact hp.elim
 ·split at hp
  ·exact hn _ _ hp
  ·exact hp.elim
 ·split at hp
  ·exact hn _ _ hp
  ·exact hp.elim
 ·split at hp
  ·exact hn _ _ hp
  ·exact hn _ _ hp
  ·exact hp.elim
theorem mv (h:∀f args σ K,X f args σ K->Y f args σ K) (hK:∀f args σ K K',(∀r σ',K r σ'->K' r σ')->Y f args σ K->Y f args σ K') {draw:Bool} {Q Q':Env->ax->Prop} (hQ:∀e s,Q e s->Q' e s):∀(l:List bc) (env:Env) (σ:ax),wpOps X draw l Q env σ->wpOps Y draw l Q' env σ
 |[],env,σ,hp=>hQ _ _ hp
 |o::r,env,σ,hp=>by
  unfold wpOps at hp ⊢
  split at hp
  ·rename_i hw;rw[if_pos hw];exact uJ h hK (fun v σ'=>mv h hK hQ r _ _) hp
  ·rename_i hw;rw[if_neg hw];exact mv h hK hQ r _ _ hp
theorem pa {Q Q':Env->ax->Prop} (hQ:∀e s,Q e s->Q' e s):∀(l:List bc) (env:Env) (σ:ax),cz l Q env σ->cz l Q' env σ
 |[],env,σ,hp=>hQ _ _ hp
 |o::r,env,σ,hp=>by
  unfold cz at hp ⊢
  refine⟨hp.1,?_⟩
  replace hp:=hp.2
  split at hp
  ·split at hp
   ·exact pa hQ r _ _ hp
   ·exact hp.elim
  ·split at hp
   ·exact pa hQ r _ _ hp
   ·exact hp.elim
  ·split at hp
   ·exact pa hQ r _ _ hp
   ·exact hp.elim
theorem km (h:∀f args σ K,X f args σ K->Y f args σ K) (hK:∀f args σ K K',(∀r σ',K r σ'->K' r σ')->Y f args σ K->Y f args σ K'):∀(c:VC) (Q Q':Ex->Env->ax->Prop) (env:Env) (σ:ax),(∀x e s,Q x e s->Q' x e s)->er X c Q env σ->er Y c Q' env σ:=by
 intro c
 induction c with
 |skip=>intro Q Q' env σ hQ hp;exact hQ _ _ _ hp
 |exit id=>intro Q Q' env σ hQ hp;exact hQ _ _ _ hp
 |ret=>intro Q Q' env σ hQ hp;exact hQ _ _ _ hp
 |one o c ih=>
  intro Q Q' env σ hQ hp
  unfold er at hp ⊢
  split at hp
  ·rename_i hw;rw[if_pos hw];exact uJ h hK (fun v σ'=>ih Q Q' _ _ hQ) hp
  ·rename_i hw;rw[if_neg hw];exact ih Q Q' _ _ hQ hp
 |both a b iha ihb=>intro Q Q' env σ hQ hp;exact⟨iha Q Q' env σ hQ hp.1,ihb Q Q' env σ hQ hp.2⟩
 |loc t s y c ih=>intro Q Q' env σ hQ hp;exact⟨hp.1,ih Q Q' env σ hQ hp.2⟩
 |Q5 ops=>intro Q Q' env σ hQ hp;exact pa (hQ .normal) ops env σ hp
 |fo draw ops=>intro Q Q' env σ hQ hp;exact mv h hK (hQ .normal) ops env σ hp
 |seq a b iha ihb=>
  intro Q Q' env σ hQ hp
  refine iha _ _ env σ (fun x e s hx=>?_) hp
  cases x with
  |normal=>exact ihb Q Q' e s hQ hx
  |exit id=>exact hQ _ _ _ hx
  |ret=>exact hQ _ _ _ hx
 |cond c a b iha ihb=>
  intro Q Q' env σ hQ hp
  unfold er at hp ⊢
  split at hp
  ·rename_i t ht
   cases t with
   |true=>exact iha Q Q' env σ hQ hp
   |false=>exact ihb Q Q' env σ hQ hp
  ·exact hp.elim
 |block id a iha=>
  intro Q Q' env σ hQ hp
  refine iha _ _ env σ (fun x e s hx=>?_) hp
  cases x with
  |normal=>exact hQ _ _ _ hx
  |ret=>exact hQ _ _ _ hx
  |exit kV=>
   unfold bj at hx ⊢
   dsimp only at hx ⊢
   split at hx
   ·rename_i hid;rw[if_pos hid];exact hQ _ _ _ hx
   ·rename_i hid;rw[if_neg hid];exact hQ _ _ _ hx
 |loop a iha=>
  intro Q Q' env σ hQ hp
  obtain⟨n,hp⟩:=hp
  refine⟨n,?_⟩
  induction n generalizing env σ with
  |zero=>exact hp
  |succ n ihn=>
   refine iha _ _ env σ (fun x e s hx=>?_) hp
   cases x with
   |normal=>exact ihn e s hx
   |exit id=>exact hQ _ _ _ hx
   |ret=>exact hQ _ _ _ hx
theorem aA:sk (Call P):=fun _ _ _ _ _ hK h X hX hc=>hX _ _ _ _ _ hK (h X hX hc)
theorem Ak {f:Nat} {args:List AV} {σ:ax} {K:AV->ax->Prop} (h:QC P (Call P) f args σ K):Call P f args σ K:=by
 intro X hX hc
 refine hc _ _ _ _ ?_
 rcases h with⟨md,vf,h1,h2,h3⟩|h
 ·exact .inl ⟨md,vf,h1,h2,fun hl=>km (fun f args σ K h=>h X hX hc) hX _ _ _ _ _ (fun _ _ _ h=>h) (h3 hl)⟩
 ·exact .inr h
theorem xY {f:Nat} {md:List (Nat×Nat)} {args:List AV} {σ:ax} {K:AV->ax->Prop} {vf:FC} (hf:u7 P f md=some vf) (ha:vf.Bc=args.length) (h:(∀a∈args,fB a)->er (Call P) vf.body (mh vf.res K) (cw args) σ):Call P f args σ K:=
 Ak (.inl ⟨md,vf,hf,ha,h⟩)
theorem nH {f:Nat} {args:List AV} {σ:ax} {K:AV->ax->Prop} {vf:FC} (hf:BP P f=some vf) (ha:vf.Bc=args.length) (h:(∀a∈args,fB a)->er (Call P) vf.body (mh vf.res K) (cw args) σ):Call P f args σ K:=
 xY hf ha h
theorem iS {f:Nat} {args:List AV} {σ:ax} {K:AV->ax->Prop} (h:Sound P f args σ K):Call P f args σ K:=Ak (.inr h)
def Kw (P:Program) (f:Nat) (args:List AV) (r:AV):Prop:=∀σ,PC (Call P) f args σ (fun r'=>r'=r)
theorem Kw.body {f:Nat} {args:List AV} {r:AV} {nt na:Nat} {body:VC} {res:List pB} (hf:BP P f=some ⟨nt,na,body,res⟩) (ha:na=args.length) (h:(∀a∈args,fB a)->∀σ:ax,er (Call P) body (mh res fun r0 σ'=>∃r',fz σ'.get 6 r0=some r'/\r'=r) (cw args) ⟨V.ro σ.get,σ.next⟩):Kw P f args r:=fun σ=>nH hf ha fun hl=>h hl σ
variable {Q:Ex->Env->ax->Prop} {K:Env->ax->Prop} {env:Env} {σ:ax}
theorem Fi {a b:VC} (h:∀N:Env->ax->Prop,(∀e s,er X b Q e s->N e s)->er X a (dn N Q) env σ):er X (.seq a b) Q env σ:=h _ fun _ _ h=>h
theorem CY (h:Q .normal env σ):er X .skip Q env σ:=h
theorem CW {id:Nat} (h:Q (.exit id) env σ):er X (.exit id) Q env σ:=h
theorem Ip (h:Q .ret env σ):er X .ret Q env σ:=h
theorem xT {id:Nat} {c:VC} (h:er X c (bj id Q) env σ):er X (.block id c) Q env σ:=h
theorem Im {o:bc} {c:VC} (h:∀N:AV->ax->Prop,(∀v s,er X c Q (upd env o.dst v) s->N v s)->if aF o.guard env then fC X false o env σ N else N .undef σ):er X (.one o c) Q env σ:=by
 have:=h (fun v s=>er X c Q (upd env o.dst v) s) fun _ _ h=>h
 unfold er
 split
 ·rename_i hw;rw[if_pos hw]at this;exact this
 ·rename_i hw;rw[if_neg hw]at this;exact this
def ef (s n:Nat):AV->Prop
 | .own id 0 _=>id=⟨s,n⟩
 |_=>False
def eo (n:Nat):AV->Prop
 | .own id _ _=>¬id.bt=n
 |_=>True
theorem CX {t s:Nat} {y:O} {c:VC} (h1:ef s σ.next (env t)) (h2:eo σ.next (du env y)) (h:er X c Q env σ):er X (.loc t s y c) Q env σ:=by
 refine⟨⟨?_,fun id o l he=>?_⟩,h⟩
 ·revert h1
  unfold ef
  split
  ·rename_i id l he;rintro rfl;exact⟨l,he⟩
  ·exact fun h=>h.elim
 ·rw[he]at h2;exact h2
theorem dS {a b:VC} (ha:er X a Q env σ) (hb:er X b Q env σ):er X (.both a b) Q env σ:=⟨ha,hb⟩
theorem Io {draw:Bool} {ops:List bc} (h:∀N:Env->ax->Prop,(∀e s,Q .normal e s->N e s)->wpOps X draw ops N env σ):er X (.fo draw ops) Q env σ:=h _ fun _ _ h=>h
theorem MY {ops:List bc} (h:cz ops (Q .normal) env σ):er X (.Q5 ops) Q env σ:=h
theorem Fh {draw:Bool} (h:K env ⟨σ.get,σ.next+1⟩):wpOps X draw [] K env σ:=h
theorem SI {draw:Bool} {o:bc} {r:List bc} (h:∀N:AV->ax->Prop,(∀v s,wpOps X draw r K (upd env o.dst v) s->N v s)->if aF o.guard env then fC X draw o env σ N else N .undef σ):wpOps X draw (o::r) K env σ:=by
 have:=h (fun v s=>wpOps X draw r K (upd env o.dst v) s) fun _ _ h=>h
 unfold wpOps
 split
 ·rename_i hw;rw[if_pos hw]at this;exact this
 ·rename_i hw;rw[if_neg hw]at this;exact this
theorem MZ {c:O} {x y:VC} {b:Bool} (hc:du env c=.bool b) (ht:b=true->er X x Q env σ) (hf:b=false->er X y Q env σ):er X (.cond c x y) Q env σ:=by
 unfold er
 simp only[hc]
 cases b with
 |true=>exact ht rfl
 |false=>exact hf rfl
inductive pV:AV->Prop->Prop->Prop
 |t {A B:Prop}:A->pV (.bool true) A B
 |f {A B:Prop}:B->pV (.bool false) A B
theorem xU {c:O} {x y:VC} {v:AV} (hv:du env c=v) (h:pV v (er X x Q env σ) (er X y Q env σ)):er X (.cond c x y) Q env σ:=by
 cases h with
 |t h=>exact MZ hv (fun _=>h) (fun e=>by cases e)
 |f h=>exact MZ hv (fun e=>by cases e) (fun _=>h)
theorem SH {c:VC} (I:Nat->Env->ax->Prop) (n:Nat) (h0:I n env σ) (step:∀n env σ,I n env σ->er X c (fun x e s=>match x with| .normal=>∃m,m<n/\I m e s|x=>Q x e s) env σ)
  (hX:∀(c:VC) (Q Q':Ex->Env->ax->Prop) env σ,(∀x e s,Q x e s->Q' x e s)->er X c Q env σ->er X c Q' env σ):er X (.loop c) Q env σ:=by
 have key:∀N n env σ,n<N->I n env σ->HX (er X c) Q N env σ:=by
  intro N
  induction N with
  |zero=>intro n env σ h;exact absurd h (Nat.not_lt_zero _)
  |succ N ih=>
   intro n env σ hn hI
   refine hX c _ _ env σ (fun x e s hx=>?_) (step n env σ hI)
   cases x with
   |normal=>obtain⟨m,hm,YI⟩:=hx;exact ih m e s ae YI
   |exit id=>exact hx
   |ret=>exact hx
 exact⟨n+1,key _ n env σ (Nat.lt_succ_self _) h0⟩
theorem PE {c:VC} (I:Nat->Env->ax->Prop) (n:Nat) (h0:I n env σ) (step:∀n env σ,I n env σ->er (Call P) c (fun x e s=>match x with| .normal=>∃m,m<n/\I m e s|x=>Q x e s) env σ):er (Call P) (.loop c) Q env σ:=
 SH I n h0 step fun c Q Q' env σ hQ h=>km (fun _ _ _ _ h=>h) aA c Q Q' env σ hQ h
def Ar:VC->List Nat
 | .fo _ ops=>ops.filterMap (·.dst)
 | .seq a b=>Ar a++Ar b
 | .cond _ a b=>Ar a++Ar b
 | .block _ a=>Ar a
 | .loop a=>Ar a
 | .one o c=>o.dst.toList++Ar c
 | .both a b=>Ar a++Ar b
 | .loc _ _ _ c=>Ar c
 | .Q5 ops=>ops.filterMap (·.dst)
 |_=>[]
def jU (l:List Nat) (env jF:Env):Prop:=∀t,l.contains t=false->jF t=env t
theorem jU.refl (l:List Nat) (env:Env):jU l env env:=fun _ _=>rfl
theorem jU.upd {l:List Nat} {e e':Env} {d:Option Nat} {v:AV} (h:jU l e e') (hd:∀t,d=some t->t∈l):jU l e (upd e' d v):=fun t ht=>by
 cases d with
 |none=>exact h t ht
 |some d=>
  have:t≠d:=fun hc=>by subst hc;rw[<-Bool.not_eq_true,List.contains_iff_mem]at ht;exact ht (hd _ rfl)
  show(if t=d then v else e' t)=e t
  rw[if_neg this];exact h t ht
theorem qU {draw:Bool} {Q:Env->ax->Prop} {l:List Nat} {e0:Env}:∀(ops:List bc) (env:Env) (σ:ax),(∀t,t∈ops.filterMap (·.dst)->t∈l)->jU l e0 env->wpOps (Call P) draw ops Q env σ->wpOps (Call P) draw ops (fun e s=>Q e s/\jU l e0 e) env σ
 |[],env,σ,_,hk,hp=>⟨hp,hk⟩
 |o::r,env,σ,hl,hk,hp=>by
  have hd:∀t,o.dst=some t->t∈l:=fun t ht=>hl t (List.mem_filterMap.2 ⟨o,by simp,ht⟩)
  have hr:∀t,t∈r.filterMap (·.dst)->t∈l:=fun t ht=>hl t (by
   obtain⟨x,hx,h⟩:=List.mem_filterMap.1 ht
   exact List.mem_filterMap.2 ⟨x,List.mem_cons_of_mem _ hx,h⟩)
  unfold wpOps at hp ⊢
  split at hp
  ·rename_i hw;rw[if_pos hw]
   exact uJ (fun _ _ _ _ h=>h) aA (fun v σ' h=>qU r _ _ hr (hk.upd hd) h) hp
  ·rename_i hw;rw[if_neg hw];exact qU r _ _ hr (hk.upd hd) hp
theorem nj {Q:Env->ax->Prop} {l:List Nat} {e0:Env}:∀(ops:List bc) (env:Env) (σ:ax),(∀t,t∈ops.filterMap (·.dst)->t∈l)->jU l e0 env->cz ops Q env σ->cz ops (fun e s=>Q e s/\jU l e0 e) env σ
 |[],env,σ,_,hk,hp=>⟨hp,hk⟩
 |o::r,env,σ,hl,hk,hp=>by
  have hd:∀t,o.dst=some t->t∈l:=fun t ht=>hl t (List.mem_filterMap.2 ⟨o,by simp,ht⟩)
  have hr:∀t,t∈r.filterMap (·.dst)->t∈l:=fun t ht=>hl t (by
   obtain⟨x,hx,h⟩:=List.mem_filterMap.1 ht
   exact List.mem_filterMap.2 ⟨x,List.mem_cons_of_mem _ hx,h⟩)
  unfold cz at hp ⊢
  refine⟨hp.1,?_⟩
  replace hp:=hp.2
  split at hp
  ·split at hp
   ·exact nj r _ _ hr (hk.upd hd) hp
   ·exact hp.elim
  ·split at hp
   ·exact nj r _ _ hr (hk.upd hd) hp
   ·exact hp.elim
  ·split at hp
   ·exact nj r _ _ hr (hk.upd hd) hp
   ·exact hp.elim
theorem BA {l:List Nat} {e0:Env}:∀(c:VC) (Q:Ex->Env->ax->Prop) (env:Env) (σ:ax),(∀t,t∈Ar c->t∈l)->jU l e0 env->er (Call P) c Q env σ->er (Call P) c (fun x e s=>Q x e s/\jU l e0 e) env σ:=by
 intro c
 induction c with
 |skip=>intro Q env σ _ hk hp;exact⟨hp,hk⟩
 |exit id=>intro Q env σ _ hk hp;exact⟨hp,hk⟩
 |ret=>intro Q env σ _ hk hp;exact⟨hp,hk⟩
 |one o c ih=>
  intro Q env σ hl hk hp
  have hd:∀t,o.dst=some t->t∈l:=fun t ht=>hl t (List.mem_append_left _ (by rw[ht];simp))
  have hr:∀t,t∈Ar c->t∈l:=fun t ht=>hl t (List.mem_append_right _ ht)
  unfold er at hp ⊢
  split at hp
  ·rename_i hw;rw[if_pos hw]
   exact uJ (fun _ _ _ _ h=>h) aA (fun v σ' h=>ih Q _ _ hr (hk.upd hd) h) hp
  ·rename_i hw;rw[if_neg hw];exact ih Q _ _ hr (hk.upd hd) hp
 |both a b iha ihb=>
  intro Q env σ hl hk hp
  exact⟨iha Q env σ (fun t ht=>hl t (List.mem_append_left _ ht)) hk hp.1,ihb Q env σ (fun t ht=>hl t (List.mem_append_right _ ht)) hk hp.2⟩
 |loc t s y c ih=>intro Q env σ hl hk hp;exact⟨hp.1,ih Q env σ hl hk hp.2⟩
 |Q5 ops=>intro Q env σ hl hk hp;exact nj ops env σ hl hk hp
 |fo draw ops=>intro Q env σ hl hk hp;exact qU ops env σ hl hk hp
 |seq a b iha ihb=>
  intro Q env σ hl hk hp
  refine km (fun _ _ _ _ h=>h) aA a _ _ env σ (fun x e s hx=>?_) (iha _ env σ (fun t ht=>hl t (List.mem_append_left _ ht)) hk hp)
  cases x with
  |normal=>exact ihb Q e s (fun t ht=>hl t (List.mem_append_right _ ht)) hx.2 hx.1
  |exit id=>exact hx
  |ret=>exact hx
 |cond c a b iha ihb=>
  intro Q env σ hl hk hp
  unfold er at hp ⊢
  split at hp
  ·rename_i t ht
   cases t with
   |true=>exact iha Q env σ (fun t ht=>hl t (List.mem_append_left _ ht)) hk hp
   |false=>exact ihb Q env σ (fun t ht=>hl t (List.mem_append_right _ ht)) hk hp
  ·exact hp.elim
 |block id a iha=>
  intro Q env σ hl hk hp
  refine km (fun _ _ _ _ h=>h) aA a _ _ env σ (fun x e s hx=>?_) (iha _ env σ hl hk hp)
  obtain⟨hx,HH⟩:=hx
  cases x with
  |normal=>exact⟨hx,HH⟩
  |ret=>exact⟨hx,HH⟩
  |exit kV=>
   unfold bj at hx ⊢
   dsimp only at hx ⊢
   split at hx
   ·rename_i hid;rw[if_pos hid];exact⟨hx,HH⟩
   ·rename_i hid;rw[if_neg hid];exact⟨hx,HH⟩
 |loop a iha=>
  intro Q env σ hl hk hp
  obtain⟨n,hp⟩:=hp
  refine⟨n,?_⟩
  induction n generalizing env σ with
  |zero=>exact hp
  |succ n ihn=>
   refine km (fun _ _ _ _ h=>h) aA _ _ _ _ _ (fun x e s hx=>?_) (iha _ env σ hl hk hp)
   obtain⟨hx,HH⟩:=hx
   cases x with
   |normal=>exact ihn e s HH hx
   |exit id=>exact⟨hx,HH⟩
   |ret=>exact⟨hx,HH⟩
theorem bz {c:VC} (I:Nat->Env->ax->Prop) (n:Nat) (h0:I n env σ) (step:∀n e s,I n e s->jU (Ar c) env e->er (Call P) c (fun x e s=>match x with| .normal=>∃m,m<n/\I m e s|x=>Q x e s) e s):er (Call P) (.loop c) Q env σ:=by
 refine PE (fun n e s=>I n e s/\jU (Ar c) env e) n ⟨h0,jU.refl _ _⟩ fun n e s hI=>?_
 refine km (fun _ _ _ _ h=>h) aA _ _ _ _ _ (fun x e' s' hx=>?_) (BA c _ e s (fun _ h=>h) hI.2 (step n e s hI.1 hI.2))
 obtain⟨hx,hk⟩:=hx
 cases x with
 |normal=>obtain⟨m,hm,h⟩:=hx;exact⟨m,hm,h,hk⟩
 |exit id=>exact hx
 |ret=>exact hx
theorem M1 {k:Nat} (h:k<=9223372036854775807):IntKind.i64.wrap (k:Int)=k:=by rw[IntKind.wrap_i64];omega
theorem cD {z:Int} (h: -9223372036854775808<=z/\z<=9223372036854775807):IntKind.i64.wrap z=z:=by rw[IntKind.wrap_i64];omega
theorem az {k:Nat} (h:(k:Int)+1<=9223372036854775807):IntKind.i64.wrap ((k:Int)+1)=((k+1:Nat):Int):=by rw[IntKind.wrap_i64];omega
theorem all_succ {k:Nat} {p:Nat->Prop} (h:∀j,j<k->p j) (hk:p k):∀j,j<k+1->p j:=fun j hj=>by
 by_cases AN:j=k
 ·subst AN;exact hk
 ·exact h j ae
theorem aP (g:Rows) (n:Nat) (k:IntKind) (m:Int):fz g (n+1) (.int k m)=some (.int k m):=by rw[fz]<;>intros<;>simp_all
theorem bh (g:Rows) (n:Nat) (b:Bool):fz g (n+1) (.bool b)=some (.bool b):=by rw[fz]<;>intros<;>simp_all
theorem bZ (g:Rows) (n:Nat) (b:ByteArray):fz g (n+1) (.str b)=some (.str b):=by rw[fz]<;>intros<;>simp_all
theorem cm (g:Rows) (n:Nat) (l:List (List AV)):fz g (n+1) (.sl l)=some (.sl l):=by rw[fz]<;>intros<;>simp_all
theorem aW (g:Rows) (n:Nat):fz g (n+1) .ck=some .ck:=by rw[fz]<;>intros<;>simp_all
def au (P:Program) (f:Nat) (args:List AV) (r:AV):Prop:=∀n:Nat,Call P f args ⟨fun _=>none,n⟩ fun r0 σ'=>∃r',gU σ'.get 6 r0=some r'/\r'=r
theorem au.body {f:Nat} {args:List AV} {r:AV} {nt na:Nat} {body:VC} {res:List pB} (hf:BP P f=some ⟨nt,na,body,res⟩) (ha:na=args.length) (h:(∀a∈args,fB a)->∀n:Nat,er (Call P) body (mh res fun r0 σ'=>∃r',gU σ'.get 6 r0=some r'/\r'=r) (cw args) ⟨fun _=>none,n⟩):au P f args r:=fun n=>nH hf ha fun hl=>h hl n
theorem au.x {f:Nat} {args args':List AV} {r:AV} (h:au P f args' r) {σ:ax} (hv:eC (eu σ.get) 6 args=some args'):fY (Call P) f args σ (fun r'=>r'=r):=.inr ⟨args',hv,h _⟩
theorem Kw.x {f:Nat} {args:List AV} {r:AV} (h:Kw P f args r) (σ:ax):fY (Call P) f args σ (fun r'=>r'=r):=.inl (h σ)
theorem eK (g:Rows) (n:Nat) (k:IntKind) (m:Int):gU g (n+1) (.int k m)=some (.int k m):=by rw[gU]<;>intros<;>simp_all
theorem fD (g:Rows) (n:Nat) (b:Bool):gU g (n+1) (.bool b)=some (.bool b):=by rw[gU]<;>intros<;>simp_all
theorem B5 (g:Rows) (n:Nat) (b:ByteArray):gU g (n+1) (.str b)=some (.str b):=by rw[gU]<;>intros<;>simp_all
theorem lk (g:Rows) (n:Nat):gU g (n+1) .ck=some .ck:=by rw[gU]<;>intros<;>simp_all
theorem fu (g:Rows) (n:Nat) (l:List AV):gU g (n+1) (.ib l)=(fb g n l).map AV.ib:=by rw[gU]
theorem oG (g:Rows) (n:Nat) (l:List AV):gU g (n+1) (.agg l)=(fb g n l).map AV.agg:=by rw[gU]
theorem tX {g:Rows} {n:Nat} {id:Id} {off len sz:Nat} {rows rows':List (List AV)} (h:g id=some ⟨true,sz,rows⟩) (hl:off+len<=rows.length) (hr:iu g n ((rows.drop off).take len)=some rows'):gU g (n+1) (.own id off len)=some (.sl rows'):=by
 rw[gU];simp only[h,if_true,if_pos hl,hr,Option.map_some]
theorem cH (g:Rows) (n:Nat):fb g n []=some []:=by rw[fb]
theorem bF (g:Rows) (n:Nat) (a:AV) (l:List AV):fb g n (a::l)=match gU g n a with
  |some b=>(fb g n l).map (b::·)
  |none=>none:=by rw[fb];cases gU g n a<;>rfl
theorem wC {g:Rows} {n:Nat}:∀{l:List (List AV)},(∀c∈l,fb g n c=some c)->iu g n l=some l
 |[],_=>by rw[iu]
 |c::r,h=>by rw[iu,h c (by simp),wC fun d hd=>h d (List.mem_cons_of_mem _ hd)];rfl
theorem bx (g:Rows) (n:Nat) (l:List AV):fz g (n+1) (.agg l)=(eC g n l).map AV.agg:=by rw[fz]
theorem aK (g:Rows) (n:Nat) (l:List AV):fz g (n+1) (.dv l)=some (.dv l):=by rw[fz]<;>intros<;>simp_all
theorem nq {g:Rows} {n:Nat} {id:Id} {i off sz:Nat} {rows:List (List AV)} {cs tU:List AV} (h:g id=some ⟨true,sz,rows⟩) (hi:rows[i]? =some cs) (hr:eC g n (cs.drop off)=some tU):fz g (n+1) (.ptr id i off)=some (.dv tU):=by
 rw[fz];simp only[h,if_true,hi,hr,Option.map_some]
theorem aj (g:Rows) (n:Nat):eC g n []=some []:=by rw[eC]
theorem ai (g:Rows) (n:Nat) (a:AV) (l:List AV):eC g n (a::l)=match fz g n a with
  |some b=>(eC g n l).map (b::·)
  |none=>none:=by rw[eC];cases fz g n a<;>rfl
theorem zp {t:Nat} {r r0:AV} {x:Ex} (hx:x=.ret∨x=.normal) (he:env t=r0) (hz:gU σ.get 6 r0=some r):mh [.tmp t] (fun r0 σ'=>∃r',gU σ'.get 6 r0=some r'/\r'=r) x env σ:=by
 have:∃vs,gS env σ.get [.tmp t]=some vs/\∃r',gU σ.get 6 (gx vs)=some r'/\r'=r:=⟨[env t],rfl,r,by subst he;exact hz,rfl⟩
 rcases hx with rfl|rfl
 ·exact this
 ·exact this
theorem cu {t:Nat} {b c:Bool} {x:Ex} (hx:x=.ret∨x=.normal) (he:env t=.bool b) (hb:b=c):mh [.tmp t] (fun r0 σ'=>∃r',gU σ'.get 6 r0=some r'/\r'=.bool c) x env σ:=zp hx he (by rw[fD,hb])
theorem dU {t:Nat} {k:IntKind} {b c:Int} {x:Ex} (hx:x=.ret∨x=.normal) (he:env t=.int k b) (hb:b=c):mh [.tmp t] (fun r0 σ'=>∃r',gU σ'.get 6 r0=some r'/\r'=.int k c) x env σ:=zp hx he (by rw[eK,hb])
theorem jL {t u:Nat} {r r1 r2:AV} {x:Ex} (hx:x=.ret∨x=.normal) (h1:env t=r1) (h2:env u=r2) (hz:gU σ.get 6 (.ib [r1,r2])=some r):mh [.tmp t,.tmp u] (fun r0 σ'=>∃r',gU σ'.get 6 r0=some r'/\r'=r) x env σ:=by
 have:∃vs,gS env σ.get [.tmp t,.tmp u]=some vs/\∃r',gU σ.get 6 (gx vs)=some r'/\r'=r:=⟨[env t,env u],rfl,r,by subst h1;subst h2;exact hz,rfl⟩
 rcases hx with rfl|rfl
 ·exact this
 ·exact this
structure Pn (p:Prop):Prop where
 out:p
theorem tw {A B:Prop} (a:A) (b:B):A/\B:=⟨a,b⟩
theorem wk {A R G:Prop} (a:A) (r:R) (h:A->R->G:=by
  intro fL kk
  (repeat(refine Pn.mk ?_;intro N hN))
  (first|((first|apply Fi|apply Io);intro N hN)|((first|(apply SI;intro N hN)|(apply Im;intro N hN));simp only[go_sem, ↓reduceIte,Nat.reduceEqDiff,Nat.reduceAdd,Nat.reduceSub,Nat.reduceMul,Nat.reduceLeDiff,Nat.reduceBEq,reduceCtorEq,Nat.reduceLT,Int.reduceLE,Int.reduceLT,Int.reduceToNat,Int.reduceNeg,Int.reduceAdd,Int.reduceEq,fL];first|(refine hN _ _ ?_;clear hN N)|skip)|(apply xU;(simp only[go_sem, ↓reduceIte,Nat.reduceEqDiff,Nat.reduceAdd,Nat.reduceSub,Nat.reduceMul,Nat.reduceLeDiff,Nat.reduceBEq,reduceCtorEq,Nat.reduceLT,Int.reduceLE,Int.reduceLT,Int.reduceToNat,Int.reduceNeg,Int.reduceAdd,Int.reduceEq,fL];rfl);first|with_reducible apply pV.t|with_reducible apply pV.f)|(apply Fh;refine hN _ _ ?_;clear hN N;try(simp only[dn,bj, ↓reduceIte,Nat.reduceEqDiff]);try(refine hN _ _ ?_;clear hN N))|apply xT|(refine CX ?_ ?_ ?_;(focus(simp only[go_sem, ↓reduceIte,Nat.reduceEqDiff,Nat.reduceAdd,Nat.reduceSub,Nat.reduceMul,Nat.reduceLeDiff,Nat.reduceBEq,reduceCtorEq,Nat.reduceLT,Int.reduceLE,Int.reduceLT,Int.reduceToNat,Int.reduceNeg,Int.reduceAdd,Int.reduceEq,fL];done));(focus(simp only[go_sem, ↓reduceIte,Nat.reduceEqDiff,Nat.reduceAdd,Nat.reduceSub,Nat.reduceMul,Nat.reduceLeDiff,Nat.reduceBEq,reduceCtorEq,Nat.reduceLT,Int.reduceLE,Int.reduceLT,Int.reduceToNat,Int.reduceNeg,Int.reduceAdd,Int.reduceEq,fL];done)))|((first|apply CY|apply CW|apply Ip);try(simp only[dn,bj, ↓reduceIte,Nat.reduceEqDiff]);try(refine hN _ _ ?_;clear hN N))|((first|refine hN _ _ ?_|(clear hN N;first|refine hN _ _ ?_|(clear hN N;first|refine hN _ _ ?_|(clear hN N;first|refine hN _ _ ?_|(clear hN N;refine hN _ _ ?_)))));clear hN N))
  (repeat(first|((first|apply Fi|apply Io);intro N hN)|((first|(apply SI;intro N hN)|(apply Im;intro N hN));simp only[go_sem, ↓reduceIte,Nat.reduceEqDiff,Nat.reduceAdd,Nat.reduceSub,Nat.reduceMul,Nat.reduceLeDiff,Nat.reduceBEq,reduceCtorEq,Nat.reduceLT,Int.reduceLE,Int.reduceLT,Int.reduceToNat,Int.reduceNeg,Int.reduceAdd,Int.reduceEq,fL];first|(refine hN _ _ ?_;clear hN N)|skip)|(apply xU;(simp only[go_sem, ↓reduceIte,Nat.reduceEqDiff,Nat.reduceAdd,Nat.reduceSub,Nat.reduceMul,Nat.reduceLeDiff,Nat.reduceBEq,reduceCtorEq,Nat.reduceLT,Int.reduceLE,Int.reduceLT,Int.reduceToNat,Int.reduceNeg,Int.reduceAdd,Int.reduceEq,fL];rfl);first|with_reducible apply pV.t|with_reducible apply pV.f)|(apply Fh;refine hN _ _ ?_;clear hN N;try(simp only[dn,bj, ↓reduceIte,Nat.reduceEqDiff]);try(refine hN _ _ ?_;clear hN N))|apply xT|(refine CX ?_ ?_ ?_;(focus(simp only[go_sem, ↓reduceIte,Nat.reduceEqDiff,Nat.reduceAdd,Nat.reduceSub,Nat.reduceMul,Nat.reduceLeDiff,Nat.reduceBEq,reduceCtorEq,Nat.reduceLT,Int.reduceLE,Int.reduceLT,Int.reduceToNat,Int.reduceNeg,Int.reduceAdd,Int.reduceEq,fL];done));(focus(simp only[go_sem, ↓reduceIte,Nat.reduceEqDiff,Nat.reduceAdd,Nat.reduceSub,Nat.reduceMul,Nat.reduceLeDiff,Nat.reduceBEq,reduceCtorEq,Nat.reduceLT,Int.reduceLE,Int.reduceLT,Int.reduceToNat,Int.reduceNeg,Int.reduceAdd,Int.reduceEq,fL];done)))|((first|apply CY|apply CW|apply Ip);try(simp only[dn,bj, ↓reduceIte,Nat.reduceEqDiff]);try(refine hN _ _ ?_;clear hN N))|((first|refine hN _ _ ?_|(clear hN N;first|refine hN _ _ ?_|(clear hN N;first|refine hN _ _ ?_|(clear hN N;first|refine hN _ _ ?_|(clear hN N;refine hN _ _ ?_)))));clear hN N)))
  (repeat(revert hN;revert N;apply Pn.out))
  exact kk):G:=h a r
theorem wa {A R G:Prop} (a:A) (r:R) (h:A->R->G:=by
  intro fL kk
  (repeat(refine Pn.mk ?_;intro N hN))
  (first|((first|apply Fi|apply Io);intro N hN)|((first|(refine QH rfl fun N hN=>?_)|(apply Im;intro N hN));simp only[go_sem, ↓reduceIte,Nat.reduceEqDiff,Nat.reduceAdd,Nat.reduceSub,Nat.reduceMul,Nat.reduceLeDiff,Nat.reduceBEq,reduceCtorEq,Nat.reduceLT,Int.reduceLE,Int.reduceLT,Int.reduceToNat,Int.reduceNeg,Int.reduceAdd,Int.reduceEq,fL];first|(refine hN _ _ ?_;clear hN N)|skip)|(apply xU;(simp only[go_sem, ↓reduceIte,Nat.reduceEqDiff,Nat.reduceAdd,Nat.reduceSub,Nat.reduceMul,Nat.reduceLeDiff,Nat.reduceBEq,reduceCtorEq,Nat.reduceLT,Int.reduceLE,Int.reduceLT,Int.reduceToNat,Int.reduceNeg,Int.reduceAdd,Int.reduceEq,fL];rfl);first|with_reducible apply pV.t|with_reducible apply pV.f)|(apply Fh;refine hN _ _ ?_;clear hN N;try(simp only[dn,bj, ↓reduceIte,Nat.reduceEqDiff]);try(refine hN _ _ ?_;clear hN N))|apply xT|(refine CX ?_ ?_ ?_;(focus(simp only[go_sem, ↓reduceIte,Nat.reduceEqDiff,Nat.reduceAdd,Nat.reduceSub,Nat.reduceMul,Nat.reduceLeDiff,Nat.reduceBEq,reduceCtorEq,Nat.reduceLT,Int.reduceLE,Int.reduceLT,Int.reduceToNat,Int.reduceNeg,Int.reduceAdd,Int.reduceEq,fL];done));(focus(simp only[go_sem, ↓reduceIte,Nat.reduceEqDiff,Nat.reduceAdd,Nat.reduceSub,Nat.reduceMul,Nat.reduceLeDiff,Nat.reduceBEq,reduceCtorEq,Nat.reduceLT,Int.reduceLE,Int.reduceLT,Int.reduceToNat,Int.reduceNeg,Int.reduceAdd,Int.reduceEq,fL];done)))|((first|apply CY|apply CW|apply Ip);try(simp only[dn,bj, ↓reduceIte,Nat.reduceEqDiff]);try(refine hN _ _ ?_;clear hN N))|((first|refine hN _ _ ?_|(clear hN N;first|refine hN _ _ ?_|(clear hN N;first|refine hN _ _ ?_|(clear hN N;first|refine hN _ _ ?_|(clear hN N;refine hN _ _ ?_)))));clear hN N))
  (repeat(first|((first|apply Fi|apply Io);intro N hN)|((first|(refine QH rfl fun N hN=>?_)|(apply Im;intro N hN));simp only[go_sem, ↓reduceIte,Nat.reduceEqDiff,Nat.reduceAdd,Nat.reduceSub,Nat.reduceMul,Nat.reduceLeDiff,Nat.reduceBEq,reduceCtorEq,Nat.reduceLT,Int.reduceLE,Int.reduceLT,Int.reduceToNat,Int.reduceNeg,Int.reduceAdd,Int.reduceEq,fL];first|(refine hN _ _ ?_;clear hN N)|skip)|(apply xU;(simp only[go_sem, ↓reduceIte,Nat.reduceEqDiff,Nat.reduceAdd,Nat.reduceSub,Nat.reduceMul,Nat.reduceLeDiff,Nat.reduceBEq,reduceCtorEq,Nat.reduceLT,Int.reduceLE,Int.reduceLT,Int.reduceToNat,Int.reduceNeg,Int.reduceAdd,Int.reduceEq,fL];rfl);first|with_reducible apply pV.t|with_reducible apply pV.f)|(apply Fh;refine hN _ _ ?_;clear hN N;try(simp only[dn,bj, ↓reduceIte,Nat.reduceEqDiff]);try(refine hN _ _ ?_;clear hN N))|apply xT|(refine CX ?_ ?_ ?_;(focus(simp only[go_sem, ↓reduceIte,Nat.reduceEqDiff,Nat.reduceAdd,Nat.reduceSub,Nat.reduceMul,Nat.reduceLeDiff,Nat.reduceBEq,reduceCtorEq,Nat.reduceLT,Int.reduceLE,Int.reduceLT,Int.reduceToNat,Int.reduceNeg,Int.reduceAdd,Int.reduceEq,fL];done));(focus(simp only[go_sem, ↓reduceIte,Nat.reduceEqDiff,Nat.reduceAdd,Nat.reduceSub,Nat.reduceMul,Nat.reduceLeDiff,Nat.reduceBEq,reduceCtorEq,Nat.reduceLT,Int.reduceLE,Int.reduceLT,Int.reduceToNat,Int.reduceNeg,Int.reduceAdd,Int.reduceEq,fL];done)))|((first|apply CY|apply CW|apply Ip);try(simp only[dn,bj, ↓reduceIte,Nat.reduceEqDiff]);try(refine hN _ _ ?_;clear hN N))|((first|refine hN _ _ ?_|(clear hN N;first|refine hN _ _ ?_|(clear hN N;first|refine hN _ _ ?_|(clear hN N;first|refine hN _ _ ?_|(clear hN N;refine hN _ _ ?_)))));clear hN N)))
  (repeat(revert hN;revert N;apply Pn.out))
  exact kk):G:=h a r
theorem sd {A G:Prop} (a:A) (h:A->G:=by
  intro fL
  first|(simp only[go_sem, ↓reduceIte,Nat.reduceEqDiff,Nat.reduceAdd,Nat.reduceSub,Nat.reduceMul,Nat.reduceLeDiff,Nat.reduceBEq,reduceCtorEq,Nat.reduceLT,Int.reduceLE,Int.reduceLT,Int.reduceToNat,Int.reduceNeg,Int.reduceAdd,Int.reduceEq,fL,gS,jD];done)|fail):G:=h a
theorem sl {A G:Prop} (a:A) (h:A->G:=by
  intro fL
  (try simp only[go_sem, ↓reduceIte,Nat.reduceEqDiff,Nat.reduceAdd,Nat.reduceSub,Nat.reduceMul,Nat.reduceLeDiff,Nat.reduceBEq,reduceCtorEq,Nat.reduceLT,Int.reduceLE,Int.reduceLT,Int.reduceToNat,Int.reduceNeg,Int.reduceAdd,Int.reduceEq,fL])
  try rfl):G:=h a
end Go.Proofs.YtiabgllilcfheaaGreat.V

namespace Go.Proofs.YtiabgllilcfheaaGreat
open Go.RowKit
def Sl (w:World) (fp:List Nat) (v:Value) (n:Nat) (xs:List Value):Prop:=
 ∃A c,v=.slice A n c/\n<=c/\c<=maxLen/\
  ((fp=[]/\n=0)∨∃b o,fp=[b]/\A=some ⟨b,o,none⟩/\∀j u,xs[j]? =some u->w.cell? ⟨b,o+j,none⟩=some u)
def lD (fp:List Nat) (lo hi:Nat):Prop:=∀b∈fp,lo<=b/\b<hi
theorem lD.nil (lo hi:Nat):lD [] lo hi:=fun _ h=>by cases h
theorem Sl.nil (w:World):Sl w [] (.slice none 0 0) 0 []:=⟨none,0,rfl,Nat.le_refl _,by simp[maxLen],.inl ⟨rfl,rfl⟩⟩
def QR {α:Type} (rep:World->List Nat->List Value->α->Prop) (sz:Nat) (w:World) (ql:List (List Value)) (Hx:List (List Nat)) (ds:List α):Prop:=
 ql.length=ds.length/\Hx.length=ds.length/\∀(i:Nat) (cs:List Value) (f:List Nat) (d:α),ql[i]? =some cs->Hx[i]? =some f->ds[i]? =some d->rep w f cs d/\cs.length=sz
def oy {α:Type} (rep:World->List Nat->List Value->α->Prop) (sz:Nat) (w:World) (fp:List Nat) (v:Value) (ds:List α):Prop:=
 ∃ql Hx Yo,fp=Yo++Hx.flatten/\Sl w Yo v ds.length ql.flatten/\QR rep sz w ql Hx ds
theorem te {α:Type} {Hx:List (List α)} {i:Nat} {f:List α} (h:Hx[i]? =some f):∀b∈f,b∈Hx.flatten:=fun b hb=>
 List.mem_flatten.2 ⟨f,List.mem_of_getElem? h,hb⟩
theorem wz {α:Type} {ql:List (List α)} {sz:Nat} (h:∀cs∈ql,cs.length=sz) {i j:Nat} {cs:List α} (hi:ql[i]? =some cs) (hj:j<sz):ql.flatten[i*sz+j]? =cs[j]? :=by
 induction ql generalizing i with
 |nil=>simp at hi
 |cons c r ih=>
  have hc:c.length=sz:=h c (by simp)
  cases i with
  |zero=>
   simp at hi;subst hi
   rw[List.flatten_cons,List.getElem?_append_left (by omega)];simp
  |succ i=>
   rw[List.flatten_cons,List.getElem?_append_right (by rw[hc,Nat.succ_mul];omega)]
   have:(i+1)*sz+j-c.length=i*sz+j:=by rw[hc,Nat.succ_mul];omega
   rw[this]
   exact ih (fun cs eD=>h cs (List.mem_cons_of_mem _ eD)) (by simpa using hi)
theorem QR.lens {α:Type} {rep:World->List Nat->List Value->α->Prop} {sz:Nat} {w:World} {ql:List (List Value)} {Hx:List (List Nat)} {ds:List α}
  (h:QR rep sz w ql Hx ds):∀cs∈ql,cs.length=sz:=fun cs eD=>by
 obtain⟨i,hi,rfl⟩:=List.getElem_of_mem eD
 have h1:i<Hx.length:=by rw[h.2.1,<-h.1];exact hi
 have h2:i<ds.length:=by rw[<-h.1];exact hi
 exact(h.2.2 i _ _ _ (List.getElem?_eq_getElem hi) (List.getElem?_eq_getElem h1) (List.getElem?_eq_getElem h2)).2
theorem oy.at_ {α:Type} {rep:World->List Nat->List Value->α->Prop} {sz:Nat} {w:World} {fp:List Nat} {A:Option Addr} {n c:Nat} {ds:List α}
  (h:oy rep sz w fp (.slice A n c) ds) (k:Nat) (hk:k<ds.length):
  ∃b o cs f,A=some ⟨b,o,none⟩/\b∈fp/\(∀x∈f,x∈fp)/\rep w f cs ds[k]/\cs.length=sz/\∀j u,cs[j]? =some u->w.cell? ⟨b,o+(k*sz+j),none⟩=some u:=by
 obtain⟨ql,Hx,Yo,rfl,⟨A',c',hv,_,_,hc⟩,hr⟩:=h
 simp only[Value.slice.injEq]at hv
 obtain⟨rfl,hn,rfl⟩:=hv
 rcases hc with⟨_,h0⟩|⟨b,o,rfl,rfl,hc⟩
 ·omega
 have h1:k<ql.length:=by rw[hr.1];exact hk
 have h2:k<Hx.length:=by rw[hr.2.1];exact hk
 obtain⟨iP,hl⟩:=hr.2.2 k _ _ _ (List.getElem?_eq_getElem h1) (List.getElem?_eq_getElem h2) (List.getElem?_eq_getElem hk)
 refine⟨b,o,ql[k],Hx[k],rfl,by simp,fun x hx=>List.mem_append_right _ (te (List.getElem?_eq_getElem h2) x hx),iP,hl,fun j u hj=>?_⟩
 have iv:j<sz:=by rw[<-hl];exact(List.getElem?_eq_some_iff.1 hj).1
 exact hc _ u (by rw[wz hr.lens (List.getElem?_eq_getElem h1) iv];exact hj)
theorem oy.len {α:Type} {rep:World->List Nat->List Value->α->Prop} {sz:Nat} {w:World} {fp:List Nat} {v:Value} {ds:List α}
  (h:oy rep sz w fp v ds):∃A c,v=.slice A ds.length c/\ds.length<=c/\c<=maxLen:=by
 obtain⟨_,_,_,_,⟨A,c,hv,h1,h2,_⟩,_⟩:=h
 exact⟨A,c,hv,h1,h2⟩
theorem oy.nil {α:Type} (rep:World->List Nat->List Value->α->Prop) (sz:Nat) (w:World):oy rep sz w [] (.slice none 0 0) ([]:List α):=
 ⟨[],[],[],rfl,Sl.nil w,rfl,rfl,fun i cs f d hc=>by simp at hc⟩
def Flat {α:Type} (enc:α->List Value):World->List Nat->List Value->α->Prop:=fun _ f cs d=>f=[]/\cs=enc d
def Q (w w':World):Prop:=∃q,w'=w.drewN q
theorem UW {B:Nat} {a w:World} (h:Below B a w) (n:Nat):Below B a (w.drewN n):=⟨h.os,h.tape,h.output,h.size,h.block⟩
theorem jC {a b:Bool} (h:a=b):Ending.returned (.bool a)=.returned (.bool b):=by rw[h]
theorem H7 {k:IntKind} {a b:Int} (h:a=b):Ending.returned (.int k a)=.returned (.int k b):=by rw[h]
def Unf (w:World) (b:Nat):Prop:=∃cs e,w.heap[b]? =some (.cells cs e (0,0))
def putCells (w:World) (g:Nat):Nat->List Value->World
 |_,[]=>w
 |i,v::r=>putCells (w.setCell ⟨g,i,none⟩ v) g (i+1) r
structure lz (fp:List Nat) (w w':World):Prop where
 os:w'.os=w.os
 tape:w'.tape=w.tape
 output:w'.output=w.output
 size:w.heap.size<=w'.heap.size
 block:∀x,x<w.heap.size->x∉fp->w'.heap[x]? =w.heap[x]?
 unf:∀x,Unf w x->Unf w' x
theorem lz.trans {fp:List Nat} {a b c:World} (h:lz fp a b) (k:lz fp b c):lz fp a c:=
 ⟨k.os.trans h.os,k.tape.trans h.tape,k.output.trans h.output,Nat.le_trans h.size k.size,fun x h1 h2=>(k.block x (Nat.lt_of_lt_of_le h1 h.size) h2).trans (h.block x h1 h2),fun x hx=>k.unf x (h.unf x hx)⟩
structure ar where
 fP:Int
 fE:Int
deriving DecidableEq
structure aa where
 aV:ar
 bp:Int
deriving DecidableEq
structure sH where
 aq:List aa
deriving DecidableEq
structure kE where
 cI:ByteArray
 iX:Int
deriving DecidableEq
structure jE where
 cI:ByteArray
 ep:List Int
deriving DecidableEq
structure ay where
 br:List kE
 aq:List jE
deriving DecidableEq
structure aw where
 aZ:ay
 cj:sH
 aX:Int
deriving DecidableEq
def gn (d:aa):List Value:=[.int .i64 d.aV.fP,.int .i64 d.aV.fE,.int .i64 d.bp]
end Go.Proofs.YtiabgllilcfheaaGreat

namespace Go.Proofs.YtiabgllilcfheaaGreat.V
open Go.RowKit
variable {P:Program} {w:World} {D:Nat->Prop}
def Ks (P:Program) (w:World) (D:Nat->Prop) (al:List AV) (cs:List Value):Prop:=∀(j:Nat) (a:AV),al[j]? =some a->∃u:Value,cs[j]? =some u/\ly P w D a u
theorem MI {α:Type} {rep:World->List Nat->List Value->α->Prop} {e:α->List AV} {sz:Nat} {f:List Nat} {v:Value} {xs:List α} (h:oy rep sz w f v xs) (hD:∀b∈f,D b)
  (hl:∀x∈xs,(e x).length=sz) (hc:∀x∈xs,∀a∈e x,a.cell=true) (hr:∀x∈xs,∀f' cs,rep w f' cs x->(∀b∈f',D b)->Ks P w D (e x) cs):ly P w D (.sl (xs.map e)) v:=by
 obtain⟨A,c,rfl,h1,h2⟩:=oy.len h
 by_cases h0:xs=[]
 ·subst h0;exact .Db _ _ h2
 have lH:0<xs.length:=List.length_pos_iff.2 h0
 obtain⟨b,o,cs0,f0,rfl,hb,Xm,ZC,Ot,kB⟩:=oy.at_ h 0 lH
 have key:∀(i:Nat) (hi:i<xs.length),∃cs f',(∀x∈f',x∈f)/\rep w f' cs xs[i]/\cs.length=sz/\∀j u,cs[j]? =some u->w.cell? ⟨b,o+(i*sz+j),none⟩=some u:=by
  intro i hi
  obtain⟨b',o',cs,f',Xg,_,Um,pS,eD,lZ⟩:=oy.at_ h i hi
  simp only[Option.some.injEq,Addr.mk.injEq,and_true]at Xg
  obtain⟨rfl,rfl⟩:=Xg
  exact⟨cs,f',Um,pS,eD,lZ⟩
 refine .sl _ b o _ c sz (fun i j=>(w.cell? ⟨b,o+(i*sz+j),none⟩).getD Go.undef) (by simp) h1 h2 (hD b hb) ?_ ?_ ?_ ?_
 ·intro cs eD
  obtain⟨x,hx,rfl⟩:=List.mem_map.1 eD
  exact hl x hx
 ·intro cs eD
  obtain⟨x,hx,rfl⟩:=List.mem_map.1 eD
  exact hc x hx
 ·intro i j hi hj
  obtain⟨cs,f',_,_,eD,lZ⟩:=key i hi
  rw[lZ j cs[j] (List.getElem?_eq_getElem ae)]
  rfl
 ·intro i j cs a eD ha
  have hi:i<xs.length:=by
   have:=(List.getElem?_eq_some_iff.1 eD).1
   simpa using this
  obtain⟨tU,f',Um,pS,hcs',lZ⟩:=key i hi
  simp[hi]at eD
  subst eD
  obtain⟨u,hu,him⟩:=hr _ (List.getElem_mem hi) f' tU pS (fun b hb=>hD b (Um b hb)) j a ha
  rw[lZ j u hu]
  exact him
end Go.Proofs.YtiabgllilcfheaaGreat.V

namespace Go.Proofs.YtiabgllilcfheaaGreat.V
open Go.RowKit
variable {P:Program} {w:World} {D:Nat->Prop}
def aJ (d:Int):List AV:=[.int .i64 d]
def ah (d:ar):List AV:=[.int .i64 d.fP,.int .i64 d.fE]
def ab (d:aa):List AV:=[.int .i64 d.aV.fP,.int .i64 d.aV.fE,.int .i64 d.bp]
def Ue (d:sH):List AV:=[.sl (d.aq.map ab)]
def ez (d:kE):List AV:=[.str d.cI,.int .i64 d.iX]
def dD (d:jE):List AV:=[.str d.cI,.sl (d.ep.map aJ)]
def ad (d:ay):List AV:=[.sl (d.br.map ez),.sl (d.aq.map dD)]
def aH (d:aw):List AV:=[.sl (d.aZ.br.map ez),.sl (d.aZ.aq.map dD),.sl (d.cj.aq.map ab),.int .i64 d.aX]
end Go.Proofs.YtiabgllilcfheaaGreat.V

namespace Go.Proofs.YtiabgllilcfheaaGreat.V
open Go.RowKit
variable {P:Program} {X:gP} {env:Env} {σ:ax}
theorem bI (g:Rows) (n:Nat) (l:List AV):fz g (n+1) (.ib l)=(eC g n l).map AV.ib:=by rw[fz]
theorem cP (g:Rows) (n:Nat) (f:Nat) (l:List AV):fz g (n+1) (.fn f l)=if l.all AV.cell then(eC g n l).map (AV.fn f)else none:=by rw[fz]
theorem bf (g:Rows) (n:Nat) (id:Id) (i off:Nat):fz g (n+1) (.ptr id i off)=match g id with
  |some r=>if r.w then(match r.rows[i]? with
   |some cs=>(eC g n (cs.drop off)).map AV.dv
   |none=>none)else none
  |none=>none:=by rw[fz];rfl
theorem iW (g:Rows) (n:Nat) (id:Id) (off len:Nat):fz g (n+1) (.own id off len)=match g id with
  |some r=>if r.w then(if off+len<=r.rows.length then(eZ g n ((r.rows.drop off).take len)).map AV.sl else none)else none
  |none=>none:=by rw[fz];rfl
theorem qv (g:Rows) (n:Nat):eZ g n []=some []:=by rw[eZ]
theorem B4 (g:Rows) (n:Nat) (c:List AV) (l:List (List AV)):eZ g n (c::l)=match eC g n c with
  |some b=>(eZ g n l).map (b::·)
  |none=>none:=by rw[eZ];cases eC g n c<;>rfl
theorem yC {g:Rows} {n:Nat}:∀{l:List (List AV)},(∀c∈l,eC g n c=some c)->eZ g n l=some l
 |[],_=>by rw[eZ]
 |c::r,h=>by rw[eZ,h c (by simp),yC fun d hd=>h d (List.mem_cons_of_mem _ hd)];rfl
theorem kF {α:Type} {g:Rows} {n:Nat} {e:α->List AV} {l:List α} (h:∀x,eC g n (e x)=some (e x)):eZ g n (l.map e)=some (l.map e):=yC fun c hc=>by
 obtain⟨x,_,rfl⟩:=List.mem_map.1 hc
 exact h x
theorem wE {α:Type} {g:Rows} {n:Nat} {e:α->List AV} {l:List α} (h:∀x,fb g n (e x)=some (e x)):iu g n (l.map e)=some (l.map e):=wC fun c hc=>by
 obtain⟨x,_,rfl⟩:=List.mem_map.1 hc
 exact h x
theorem kG {α:Type} {g:Rows} {n:Nat} {e:α->List AV} {l:List α} {id:Id} {sz len:Nat} (hg:g id=some ⟨true,sz,l.map e⟩) (hl:len=l.length) (h:∀x,eC g n (e x)=some (e x)):fz g (n+1) (.own id 0 len)=some (.sl (l.map e)):=by
 subst hl
 rw[iW];simp only[hg,if_true]
 rw[if_pos (by simp),List.drop_zero,List.take_of_length_le (by simp),kF h];rfl
theorem eE {α:Type} {g:Rows} {n:Nat} {e:α->List AV} {l:List α} {id:Id} {sz len:Nat} (hg:g id=some ⟨true,sz,l.map e⟩) (hl:len=l.length) (h:∀x,fb g n (e x)=some (e x)):gU g (n+1) (.own id 0 len)=some (.sl (l.map e)):=by
 subst hl
 exact tX hg (by simp) (by rw[List.drop_zero,List.take_of_length_le (by simp),wE h])
theorem all_map {α:Type} {e:α->List AV} {sz:Nat} {l:List α} (h:∀x,(e x).length=sz/\(e x).all AV.cell=true):(l.map e).all (fun c=>c.length==sz&&c.all AV.cell)=true:=by
 rw[List.all_eq_true]
 intro c hc
 obtain⟨x,_,rfl⟩:=List.mem_map.1 hc
 simp[(h x).1,(h x).2]
def RowM (P:Program) (f:Nat) (args:List AV) (sz:Nat) (rows:List (List AV)):Prop:=(∀c∈rows,∀a∈c,a.plain=true)/\∀n:Nat,Call P f args ⟨fun _=>none,n⟩ fun r σ'=>∃id,r=.own id 0 rows.length/\σ'.get id=some ⟨true,sz,rows⟩
theorem Wr {res:List pB} {r:AV} {vs:List AV} {x:Ex} (hx:x=.ret∨x=.normal) (hv:gS env σ.get res=some vs) (hz:fz σ.get 6 (gx vs)=some r):mh res (fun r0 σ'=>∃r',fz σ'.get 6 r0=some r'/\r'=r) x env σ:=by
 rcases hx with rfl|rfl
 ·exact⟨vs,hv,r,hz,rfl⟩
 ·exact⟨vs,hv,r,hz,rfl⟩
theorem pw {res:List pB} {r:AV} {vs:List AV} {x:Ex} (hx:x=.ret∨x=.normal) (hv:gS env σ.get res=some vs) (hz:gU σ.get 6 (gx vs)=some r):mh res (fun r0 σ'=>∃r',gU σ'.get 6 r0=some r'/\r'=r) x env σ:=by
 rcases hx with rfl|rfl
 ·exact⟨vs,hv,r,hz,rfl⟩
 ·exact⟨vs,hv,r,hz,rfl⟩
theorem gN {res:List pB} {K:AV->ax->Prop} {vs:List AV} {x:Ex} (hx:x=.ret∨x=.normal) (hv:gS env σ.get res=some vs) (hK:K (gx vs) σ):mh res K x env σ:=by
 rcases hx with rfl|rfl
 ·exact⟨vs,hv,hK⟩
 ·exact⟨vs,hv,hK⟩
theorem ij {f:Nat} {args:List AV} {σ:ax} {K:AV->ax->Prop} {nt na:Nat} {body:VC} {res:List pB} (hf:BP P f=some ⟨nt,na,body,res⟩) (ha:na=args.length) (h:(∀a∈args,fB a)->er (Call P) body (mh res K) (cw args) σ):Call P f args σ K:=nH hf ha h
theorem xX {f:Nat} {md:List (Nat×Nat)} {args:List AV} {σ:ax} {K:AV->ax->Prop} {nt na:Nat} {body:VC} {res:List pB} (hf:u7 P f md=some ⟨nt,na,body,res⟩) (ha:na=args.length) (h:(∀a∈args,fB a)->er (Call P) body (mh res K) (cw args) σ):Call P f args σ K:=xY hf ha h
theorem dj {i:Id} {n:Nat} (h:i.bt<n):(∀s,(i=⟨s,n⟩)=False/\(i=⟨s,n+1⟩)=False/\(i=⟨s,n+1+1⟩)=False/\(i=⟨s,n+1+1+1⟩)=False/\(i=⟨s,n+1+1+1+1⟩)=False/\(i=⟨s,n+1+1+1+1+1⟩)=False/\(i=⟨s,n+1+1+1+1+1+1⟩)=False/\(i=⟨s,n+1+1+1+1+1+1+1⟩)=False/\(i=⟨s,n+1+1+1+1+1+1+1+1⟩)=False/\(i=⟨s,n+1+1+1+1+1+1+1+1+1⟩)=False/\(⟨s,n⟩=i)=False/\(⟨s,n+1⟩=i)=False/\(⟨s,n+1+1⟩=i)=False/\(⟨s,n+1+1+1⟩=i)=False/\(⟨s,n+1+1+1+1⟩=i)=False/\(⟨s,n+1+1+1+1+1⟩=i)=False/\(⟨s,n+1+1+1+1+1+1⟩=i)=False/\(⟨s,n+1+1+1+1+1+1+1⟩=i)=False/\(⟨s,n+1+1+1+1+1+1+1+1⟩=i)=False/\(⟨s,n+1+1+1+1+1+1+1+1+1⟩=i)=False)/\(i.bt=n)=False/\(i.bt=n+1)=False/\(i.bt=n+1+1)=False/\(i.bt=n+1+1+1)=False/\(i.bt=n+1+1+1+1)=False/\(i.bt=n+1+1+1+1+1)=False/\(i.bt=n+1+1+1+1+1+1)=False/\(i.bt=n+1+1+1+1+1+1+1)=False/\(i.bt=n+1+1+1+1+1+1+1+1)=False/\(i.bt=n+1+1+1+1+1+1+1+1+1)=False:=by
 refine⟨fun s=>?_,?_⟩
 ·obtain⟨a,b⟩:=i
  simp only[Id.mk.injEq,eq_iff_iff,iff_false,not_and]
  simp only at h
  refine⟨?_,?_,?_,?_,?_,?_,?_,?_,?_,?_,?_,?_,?_,?_,?_,?_,?_,?_,?_,?_⟩<;>(intros;omega)
 ·simp only[eq_iff_iff,iff_false]
  refine⟨?_,?_,?_,?_,?_,?_,?_,?_,?_,?_⟩<;>omega
def QQ (a b:Nat) (ids:List Id):Prop:=ids.Nodup/\∀i∈ids,a<=i.bt/\i.bt<b
def Kept (σ σ':ax):Prop:=σ.next<=σ'.next/\∀j:Id,j.bt<σ.next->σ'.get j=σ.get j
end Go.Proofs.YtiabgllilcfheaaGreat.V

namespace Go.Proofs.YtiabgllilcfheaaGreat.V
open Go.RowKit
attribute [local irreducible] er wpOps fY Call
attribute [local go_sem] aF fC eR fN fK du upd cw K.av cQ AV.cells AV.cell rowOf rowsOf part ld rowAt bK cq dH dX gG bP dd eh fJ fa dw ea db da dM dP bV bd cU bU cW cV dV eb dZ cR bY dc dY bQ aD cY cF gF bD cL bW aY dn bj dI AV.undef bH bJ dQ dW dL dK cK ef eo cz ee ec cX cZ List.getD_cons_zero List.getD_cons_succ List.getD_nil List.all_cons List.all_nil Bool.and_true Bool.true_and Bool.and_self Bool.not_true Bool.not_false Option.map_some Option.map_none Option.bind_some Option.bind_none List.length_cons List.length_nil List.take_succ_cons List.take_zero List.take_nil List.drop_succ_cons List.drop_zero List.drop_nil List.head?_cons List.map_cons List.map_nil List.getElem?_cons_zero List.getElem?_cons_succ List.cons_append List.nil_append List.append_nil List.length_map List.set_cons_zero List.set_cons_succ Nat.reduceMul eq_self Int.toNat_natCast Int.natCast_nonneg and_self true_and and_true decide_true decide_false Bool.false_eq_true Nat.zero_add Nat.add_zero List.contains_cons List.contains_nil Bool.or_false Bool.false_or beq_self_eq_true Nat.reduceBEq ne_eq not_true_eq_false not_false_eq_true Id.mk.injEq false_and and_false Nat.reduceLT Int.reduceLE Int.reduceLT Int.reduceToNat Int.reduceNeg Int.reduceAdd Nat.le_refl List.length_append beq_true beq_false Bool.not_eq_eq_eq_not or_false false_or eu ai aj aP bh bZ cm aW bx aK bf cP bI
variable {P:Program}
theorem lJ {X:gP} {Q:Ex->Env->ax->Prop} {N:Env->ax->Prop} {c:VC} {env:Env} {σ:ax} (I:Env->ax->Prop) (h2:∀e s,I e s->N e s) (h1:∀N':Env->ax->Prop,(∀e s,I e s->N' e s)->er X c (dn N' Q) env σ):er X c (dn N Q) env σ:=h1 N h2
def s9 (f z:Nat) (a:Bool):FC:=let s:=f*1000000
 ⟨19,2,(.seq (.fo false [q 4 (.dF (.k (.int .i64 0))) s]) (.seq (.seq (.fo false [q 6 (.dF (.t 0)) (s+1000),q 7 (.len (.t 6)) (s+1001),q 8 (.dF (.k (.int .i64 0))) (s+1002)]) (.block 0 (.loop (.seq (.fo false [q 9 (.bin .lss .i64 (.t 8) (.t 7)) (s+2000)]) (.seq (.cond (.t 9) .skip (.exit 0)) (.seq (.block 1 (.seq (.fo false [q 10 (.dF (.t 8)) (s+3000),q 5 (.dF (.t 10)) (s+3001)]) (.seq (.fo false [q 11 (.dF (.t 1)) (s+4000),q 12 (.dF (.t 0)) (s+4001),q 13 (.dF (.t 5)) (s+4002),q 14 (.gz z (.t 12) (.t 13)) (s+4003),q 15 (.load a z (.t 14)) (s+4004),q 16 (.wu (.t 11) [(.t 15)]) (s+4005)]) (.cond (.t 16) (.seq (.fo false [q 17 (.dF (.t 5)) (s+5000),q 4 (.dF (.t 17)) (s+5001)]) .ret) .skip)))) (.fo false [q 18 (.bin .add .i64 (.t 8) (.k (.int .i64 1))) (s+6000),q 8 (.dF (.t 18)) (s+6001)]))))))) (.seq (.fo false [q 4 (.dF (.k (.int .i64 (-1)))) (s+7000)]) .ret))),[(.tmp 4)]⟩
def Cb (f g:Nat):FC:=let s:=f*1000000
 ⟨9,2,(.seq (.fo false [q 4 (.dF (.k (.bool false))) s]) (.seq (.fo false [q 5 (.dF (.t 0)) (s+1000),q 6 (.dF (.t 1)) (s+1001),q 7 (.call g [(.t 5),(.t 6)]) (s+1002),q 8 (.bin .geq .i64 (.t 7) (.k (.int .i64 0))) (s+1003),q 4 (.dF (.t 8)) (s+1004)]) .ret)),[(.tmp 4)]⟩
def jx {α:Type} (p:α->Bool) (xs:List α):Int:=if xs.findIdx p<xs.length then(xs.findIdx p:Int)else -1
theorem K3 {α:Type} (p:α->Bool) (xs:List α):decide (0<=jx p xs)=xs.any p:=by
 unfold jx
 by_cases h:xs.findIdx p<xs.length
 ·rw[if_pos h]
  have:xs.any p=true:=List.any_eq_true.2 (List.findIdx_lt_length.1 h)
  rw[this];simp
 ·rw[if_neg h]
  have:xs.any p=false:=by
   rw[Bool.eq_false_iff]
   intro hc
   exact h (List.findIdx_lt_length.2 (List.any_eq_true.1 hc))
  rw[this];rfl
theorem xu (a:AV) (l m:List AV):a::l++m=a::(l++m):=rfl
theorem BL (l:List AV):[]++l=l:=rfl
structure UM {α:Type} (e:α->List AV) (v:α->AV) (z:Nat) (a:Bool):Prop where
 len:∀x,(e x).length=z
 val:∀x,if a=true then v x=.agg (e x)else e x=[v x]
 fz:∀x g,eC g 6 [v x]=some [v x]
theorem qD {α:Type} {e:α->List AV} {v:α->AV} {z fk:Nat} {a:Bool} (hE:UM e v z a) (hc:BP P fk=some (s9 fk z a)) (xs:List α) (hlen:xs.length<=1048576) (f:Nat) (dG:List AV) (p:α->Bool)
  (hf:∀x∈xs,au P f (v x::dG) (.bool (p x))) (I7:∀g,eC g 6 dG=some dG):
  au P fk [.sl (xs.map e),.fn f dG] (.int .i64 (jx p xs)):=by
 refine au.body hc rfl fun hl n0=>?_
 try simp only[q]
 clear hl
 (try((repeat(revert hN;revert N;apply Pn.out));refine wk @Nat.zero_add ?_;(repeat(refine Pn.mk ?_;intro N hN))))
 refine bz (fun n env st=>∃k:Nat,n=(xs.length)-k/\k<=(xs.length)/\env 8=.int .i64 (k:Int)/\(∀j:Nat,j<k->∀h:j<xs.length,p xs[j]=false)) (xs.length) ⟨0,ae,ae,sl @Nat.zero_add,fun _ h=>absurd h (Nat.not_lt_zero _)⟩ ?_
 rintro n_a env_a st_a ⟨k,rfl,ale,a8,pR⟩ eJ
 have a0:=eJ 0 (by kernel_rfl);have a1:=eJ 1 (by kernel_rfl);have a7:=eJ 7 (by kernel_rfl)
 simp only[go_sem, ↓reduceIte,Nat.reduceEqDiff,Nat.reduceAdd,Nat.reduceSub,Nat.reduceLeDiff,reduceCtorEq]at a0 a1 a7
 clear eJ
 by_cases hk:(k:Int)<(xs.length:Int)
 ·have dx:∀{e:Env},(e 8=.int .i64 (IntKind.i64.wrap ((k:Int)+1)))->(∀h:k<xs.length,p xs[k]=false)->∃m0,m0<(xs.length)-k/\∃k:Nat,m0=(xs.length)-k/\k<=(xs.length)/\e 8=.int .i64 (k:Int)/\(∀j:Nat,j<k->∀h:j<xs.length,p xs[j]=false):=fun x1 x2=>⟨_,ae,k+1,rfl,ae,(by rw[x1,az ae]),(all_succ pR x2)⟩
  have iR:k<xs.length:=ae
  have hg:(xs.map e)[k]? =some (e xs[k]):=by simp[iR]
  have HJ:=hf _ (List.getElem_mem iR)
  have hz:=hE.len xs[k]
  have hv:=hE.val xs[k]
  have sC:eC (eu st_a.get) 6 (v xs[k]::dG)=some (v xs[k]::dG):=by
   have h1:=hE.fz xs[k] (eu st_a.get)
   rw[ai,aj]at h1
   rw[ai,I7]
   revert h1
   cases V.fz (eu st_a.get) 6 (v xs[k])<;>simp
  have fin:∀hN:True,(p xs[k]=true->xs.findIdx p=k):=fun _ hp=>by
   rw[List.findIdx_eq iR];exact⟨hp,fun j hj=>pR j hj ae⟩
  cases hp:p xs[k]
  ·have VU:=hp
   cases a
   ·rw[if_neg (by simp)]at hv
    have AR:z=1:=by rw[<-hz,hv];rfl
    subst AR
    rw[hv]at hg hz
    rw[hp]at HJ
    generalize v xs[k]=c at HJ sC hg hz
    (try((repeat(revert hN;revert N;apply Pn.out));refine wk (tw @a8 (tw @a0 (tw @a1 (tw @a7 (tw @hk (tw @hg (tw @hz (tw @xu @BL)))))))) ?_;(repeat(refine Pn.mk ?_;intro N hN))))
    refine .inl ⟨_,au.x HJ sC,?_⟩
    refine hN _ _ ?_
    clear hN N
    (try((repeat(revert hN;revert N;apply Pn.out));refine wk (tw @a8 (tw @a0 (tw @a1 @a7))) ?_;(repeat(refine Pn.mk ?_;intro N hN))))
    exact dx (sd (tw @a8 (tw @a0 (tw @a1 @a7)))) (fun _=>VU)
   ·rw[if_pos rfl]at hv
    have ht:(e xs[k]).take z=e xs[k]:=by rw[<-hz,List.take_length]
    rw[hv]at HJ sC
    rw[hp]at HJ
    generalize e xs[k]=c at HJ sC hg hz ht
    (try((repeat(revert hN;revert N;apply Pn.out));refine wk (tw @a8 (tw @a0 (tw @a1 (tw @a7 (tw @hk (tw @hg (tw @hz (tw @ht (tw @xu (tw @BL @Nat.le_refl)))))))))) ?_;(repeat(refine Pn.mk ?_;intro N hN))))
    refine .inl ⟨_,au.x HJ sC,?_⟩
    refine hN _ _ ?_
    clear hN N
    (try((repeat(revert hN;revert N;apply Pn.out));refine wk (tw @a8 (tw @a0 (tw @a1 @a7))) ?_;(repeat(refine Pn.mk ?_;intro N hN))))
    exact dx (sd (tw @a8 (tw @a0 (tw @a1 @a7)))) (fun _=>VU)
  ·have hi:=fin trivial hp
   cases a
   ·rw[if_neg (by simp)]at hv
    have AR:z=1:=by rw[<-hz,hv];rfl
    subst AR
    rw[hv]at hg hz
    rw[hp]at HJ
    generalize v xs[k]=c at HJ sC hg hz
    (try((repeat(revert hN;revert N;apply Pn.out));refine wk (tw @a8 (tw @a0 (tw @a1 (tw @a7 (tw @hk (tw @hg (tw @hz (tw @xu @BL)))))))) ?_;(repeat(refine Pn.mk ?_;intro N hN))))
    refine .inl ⟨_,au.x HJ sC,?_⟩
    refine hN _ _ ?_
    clear hN N
    (try((repeat(revert hN;revert N;apply Pn.out));refine wk (tw @a8 (tw @a0 (tw @a1 @a7))) ?_;(repeat(refine Pn.mk ?_;intro N hN))))
    exact dU (b:=(k:Int)) (.inl rfl) (sd @Nat.zero_add) (by rw[jx,hi,if_pos iR])
   ·rw[if_pos rfl]at hv
    have ht:(e xs[k]).take z=e xs[k]:=by rw[<-hz,List.take_length]
    rw[hv]at HJ sC
    rw[hp]at HJ
    generalize e xs[k]=c at HJ sC hg hz ht
    (try((repeat(revert hN;revert N;apply Pn.out));refine wk (tw @a8 (tw @a0 (tw @a1 (tw @a7 (tw @hk (tw @hg (tw @hz (tw @ht (tw @xu (tw @BL @Nat.le_refl)))))))))) ?_;(repeat(refine Pn.mk ?_;intro N hN))))
    refine .inl ⟨_,au.x HJ sC,?_⟩
    refine hN _ _ ?_
    clear hN N
    (try((repeat(revert hN;revert N;apply Pn.out));refine wk (tw @a8 (tw @a0 (tw @a1 @a7))) ?_;(repeat(refine Pn.mk ?_;intro N hN))))
    exact dU (b:=(k:Int)) (.inl rfl) (sd @Nat.zero_add) (by rw[jx,hi,if_pos iR])
 ·(try((repeat(revert hN;revert N;apply Pn.out));refine wk (tw @a8 (tw @a0 (tw @a1 (tw @a7 @hk)))) ?_;(repeat(refine Pn.mk ?_;intro N hN))))
  have hi:¬xs.findIdx p<xs.length:=by
   rw[List.findIdx_lt_length]
   rintro⟨x,hx,LB⟩
   obtain⟨j,hj,rfl⟩:=List.getElem_of_mem hx
   rw[pR j ae hj]at LB;cases LB
  exact dU (b:=-1) (.inl rfl) (sd @Nat.zero_add) (by rw[jx,if_neg hi])
theorem lX {α:Type} {e:α->List AV} {v:α->AV} {z fk gk:Nat} {a:Bool} (hE:UM e v z a) (hc:BP P fk=some (Cb fk gk)) (I4:BP P gk=some (s9 gk z a)) (xs:List α) (hlen:xs.length<=1048576) (f:Nat) (dG:List AV) (p:α->Bool) (Lk:dG.all AV.cell=true) (Ou:∀g,eC g 5 dG=some dG)
  (hf:∀x∈xs,au P f (v x::dG) (.bool (p x))) (I7:∀g,eC g 6 dG=some dG):
  au P fk [.sl (xs.map e),.fn f dG] (.bool (xs.any p)):=by
 refine au.body hc rfl fun hl n0=>?_
 try simp only[q]
 clear hl
 have hi:=qD hE I4 xs hlen f dG p hf I7
 (repeat(first|((repeat(revert hN;revert N;apply Pn.out));refine wk (tw @Lk @Ou) ?_;(repeat(refine Pn.mk ?_;intro N hN)))|((try apply Or.inl);refine⟨_,au.x (hi) (sd (tw @Lk @Ou)),?_⟩;refine hN _ _ ?_;clear hN N)))
 exact cu (b:=decide (0<=jx p xs)) (.inl rfl) (sd @Nat.zero_add) (K3 p xs)
end Go.Proofs.YtiabgllilcfheaaGreat.V

namespace Go.Proofs.YtiabgllilcfheaaGreat.V
open Go.RowKit
def um (P:Program) (mk:Bool):List Oper->Nat->List Nat
 |[],_=>[]
 |o::r,i=>match tx P o.op with
  |some v=>if td v||mk&&v.nw then i::um P mk r (i+1)else um P mk r (i+1)
  |none=>um P mk r (i+1)
def BQ (P:Program) (ops:Array Oper) (site0:Nat) (mk:Bool) (bs:Array Nat) (hidden:List Nat):List Oper->Nat->Option (List bc)
 |[],_=>some []
 |o::r,j=>do
  let v <-tx P o.op
  let g <-FL ops o
  pure ({dst:=o.dst,op:=v,guard:=g,site:=site0+j,hid:=(hidden.filter fun i=> !(bs.getD j 0).testBit i&&(i !=j||mk&&v.nw)).map fun i=>site0+i}::(<-BQ P ops site0 mk bs hidden r (j+1)))
def qj (P:Program) (md:List (Nat×Nat)) (fid:Nat):Code->Option VC
 | .skip=>some .skip
 | .region id ops draw=>if draw then(BQ P ops ((fid*1000+id)*1000) (yY md id==1) (kn ops) (um P (yY md id==1) ops.toList 0) ops.toList 0).map (VC.fo true)else(BQ P ops ((fid*1000+id)*1000) false #[] [] ops.toList 0).map (if ops.toList.any fun o=>Qw o.op then VC.Q5 else VC.fo false)
 | .seq a b=>do pure (.seq (<-qj P md fid a) (<-qj P md fid b))
 | .cond c x y=>do pure (.cond (<-cO P c) (<-qj P md fid x) (<-qj P md fid y))
 | .block id c=>(qj P md fid c).map (VC.block id)
 | .loop c=>(qj P md fid c).map VC.loop
 | .exit id=>some (.exit id)
 | .ret=>some .ret
 | .label _=>some .skip
 | .scope c=>qj P md fid c
 |_=>none
def UX (P:Program) (md:List (Nat×Nat)) (f:Nat):Option FC:=
 match P.funcs[f]? with
 |some fn=>match fn.body with
  |some c=>do
   let b <-qj P md f c
   let r <-fn.results.toList.mapM (FM P)
   pure {ntmps:=fn.ntmps,Bc:=fn.params.size+fn.nfree,body:=b,res:=r}
  |none=>none
 |none=>none
theorem cfM {P:Program} (md:List (Nat×Nat)) {f:Nat} {v:FC} (_:UX P md f=some v:=by(conv=>lhs;cbv)<;>exact rfl) (h:u7 P f md=some v:=by kernel_rfl):u7 P f md=some v:=h
theorem fF {P:Program} {f:Nat} {v:FC} (_:UX P [] f=some v:=by(conv=>lhs;cbv)<;>exact rfl) (h:BP P f=some v:=by kernel_rfl):BP P f=some v:=h
def zL:List Nat:=[144007021,144007022,144007024]
def S5:bc:=⟨(some 31),(.load false 1 (.t 30)),none,144007003,zL⟩
def XW:bc:=⟨(some 34),(.gz 3 (.t 32) (.t 33)),none,144007006,zL⟩
def XX:bc:=⟨(some 35),(.eA 0 (.t 34)),none,144007007,zL⟩
def XY:bc:=⟨(some 36),(.load false 1 (.t 35)),none,144007008,zL⟩
def Ts:bc:=⟨(some 50),(.append 1 (.t 47) (.t 49)),none,144007022,[144007024]⟩
def XZ:VC:=(.one ⟨(some 51),(.gz 1 (.t 31) (.t 36)),none,144007023,[144007024]⟩ (.one ⟨none,(.store 1 (.t 51) (.t 50)),none,144007024,[]⟩ (.fo false [])))
def Z6:VC:=(.one Ts XZ)
def X0:VC:=(.one XY XZ)
def Z7:VC:=(.both (.one XY Z6) (.one Ts X0))
def S6:VC:=(.one XW (.one XX X0))
def mL:List Nat:=[144008021,144008022,144008024]
def G7:bc:=⟨(some 55),(.load false 1 (.t 54)),none,144008003,mL⟩
def PL:bc:=⟨(some 58),(.gz 3 (.t 56) (.t 57)),none,144008006,mL⟩
def PM:bc:=⟨(some 59),(.eA 1 (.t 58)),none,144008007,mL⟩
def PN:bc:=⟨(some 60),(.load false 1 (.t 59)),none,144008008,mL⟩
def G8:bc:=⟨(some 74),(.append 1 (.t 71) (.t 73)),none,144008022,[144008024]⟩
def PO:VC:=(.one ⟨(some 75),(.gz 1 (.t 55) (.t 60)),none,144008023,[144008024]⟩ (.one ⟨none,(.store 1 (.t 75) (.t 74)),none,144008024,[]⟩ (.fo false [])))
def S7:VC:=(.one G8 PO)
def PQ:VC:=(.one PN PO)
def S8:VC:=(.both (.one PN S7) (.one G8 PQ))
def S9:VC:=(.one PL (.one PM PQ))
def SD:FC:=⟨77,2,(.seq (.fo false [q 4 (.dF (.k .iZ)) 144000000]) (.seq (.fo false [q 7 (.dF (.t 0)) 144001000,q 8 (.dF (.t 1)) 144001001,q 9 (.build [(.int .i64 0),.ck,.ck,.ck] [(0,(1,(.t 7))),(1,(1,(.t 8)))]) 144001002,q 10 (.box (.t 9)) 144001003,q 5 (.dF (.t 10)) 144001004]) (.seq (.fo false [q 11 (.dF (.t 5)) 144002000,q 12 (.dF (.t 0)) 144002001,q 13 (.nf [.ck] (.t 12) (.t 12)) 144002002,q 14 (.C2 (.t 11)) 144002003,q 15 (.eA 2 (.t 14)) 144002004,⟨none,(.store 1 (.t 15) (.t 13)),none,144002005,[]⟩]) (.seq (.fo false [q 16 (.dF (.t 5)) 144003000,q 17 (.dF (.t 1)) 144003001,q 18 (.len (.t 17)) 144003002,q 19 (.nf [(.int .i64 0)] (.t 18) (.t 18)) 144003003,q 20 (.C2 (.t 16)) 144003004,q 21 (.eA 3 (.t 20)) 144003005,⟨none,(.store 1 (.t 21) (.t 19)),none,144003006,[]⟩]) (.seq (.seq (.fo false [q 6 (.dF (.k (.int .i64 0))) 144004000]) (.block 0 (.loop (.seq (.seq (.fo false [q 22 (.dF (.t 6)) 144005000,q 23 (.dF (.t 1)) 144005001,q 24 (.len (.t 23)) 144005002,q 25 (.bin .lss .i64 (.t 22) (.t 24)) 144005003]) (.cond (.t 25) .skip (.exit 0))) (.seq (.block 1 (.seq (.one ⟨(some 28),(.dF (.t 5)),none,144007000,zL⟩ (.one ⟨(some 29),(.C2 (.t 28)),none,144007001,zL⟩ (.one ⟨(some 30),(.eA 2 (.t 29)),none,144007002,zL⟩ (.one ⟨(some 32),(.dF (.t 1)),none,144007004,zL⟩ (.one ⟨(some 33),(.dF (.t 6)),none,144007005,zL⟩ (.one ⟨(some 37),(.dF (.t 5)),none,144007009,zL⟩ (.one ⟨(some 38),(.C2 (.t 37)),none,144007010,zL⟩ (.one ⟨(some 39),(.eA 2 (.t 38)),none,144007011,zL⟩ (.one ⟨(some 40),(.load false 1 (.t 39)),none,144007012,zL⟩ (.one ⟨(some 41),(.dF (.t 1)),none,144007013,zL⟩ (.one ⟨(some 42),(.dF (.t 6)),none,144007014,zL⟩ (.one ⟨(some 43),(.gz 3 (.t 41) (.t 42)),none,144007015,zL⟩ (.one ⟨(some 44),(.eA 0 (.t 43)),none,144007016,zL⟩ (.one ⟨(some 45),(.load false 1 (.t 44)),none,144007017,zL⟩ (.one ⟨(some 46),(.gz 1 (.t 40) (.t 45)),none,144007018,zL⟩ (.one ⟨(some 47),(.load false 1 (.t 46)),none,144007019,zL⟩ (.one ⟨(some 48),(.dF (.t 6)),none,144007020,zL⟩ (.one ⟨(some 49),(.fZ 1 1 [(.t 48)]),none,144007021,[144007022,144007024]⟩ (.both (.one S5 (.both (.one XW (.one XX Z7)) (.one Ts S6))) (.both (.one XW (.one XX (.both (.one S5 Z7) (.both (.one XY (.both (.one S5 Z6) (.one Ts (.one S5 XZ)))) (.one Ts (.one S5 X0)))))) (.one Ts (.one S5 S6)))))))))))))))))))))) (.one ⟨(some 52),(.dF (.t 5)),none,144008000,mL⟩ (.one ⟨(some 53),(.C2 (.t 52)),none,144008001,mL⟩ (.one ⟨(some 54),(.eA 2 (.t 53)),none,144008002,mL⟩ (.one ⟨(some 56),(.dF (.t 1)),none,144008004,mL⟩ (.one ⟨(some 57),(.dF (.t 6)),none,144008005,mL⟩ (.one ⟨(some 61),(.dF (.t 5)),none,144008009,mL⟩ (.one ⟨(some 62),(.C2 (.t 61)),none,144008010,mL⟩ (.one ⟨(some 63),(.eA 2 (.t 62)),none,144008011,mL⟩ (.one ⟨(some 64),(.load false 1 (.t 63)),none,144008012,mL⟩ (.one ⟨(some 65),(.dF (.t 1)),none,144008013,mL⟩ (.one ⟨(some 66),(.dF (.t 6)),none,144008014,mL⟩ (.one ⟨(some 67),(.gz 3 (.t 65) (.t 66)),none,144008015,mL⟩ (.one ⟨(some 68),(.eA 1 (.t 67)),none,144008016,mL⟩ (.one ⟨(some 69),(.load false 1 (.t 68)),none,144008017,mL⟩ (.one ⟨(some 70),(.gz 1 (.t 64) (.t 69)),none,144008018,mL⟩ (.one ⟨(some 71),(.load false 1 (.t 70)),none,144008019,mL⟩ (.one ⟨(some 72),(.dF (.t 6)),none,144008020,mL⟩ (.one ⟨(some 73),(.fZ 1 1 [(.t 72)]),none,144008021,[144008022,144008024]⟩ (.both (.one G7 (.both (.one PL (.one PM S8)) (.one G8 S9))) (.both (.one PL (.one PM (.both (.one G7 S8) (.both (.one PN (.both (.one G7 S7) (.one G8 (.one G7 PO)))) (.one G8 (.one G7 PQ)))))) (.one G8 (.one G7 S9)))))))))))))))))))))))) (.fo false [q 26 (.dF (.t 6)) 144006000,q 27 (.bin .add .i64 (.t 26) (.k (.int .i64 1))) 144006001,q 6 (.dF (.t 27)) 144006002])))))) (.seq (.fo false [q 76 (.dF (.t 5)) 144009000,q 4 (.dF (.t 76)) 144009001]) .ret)))))),[(.tmp 4)]⟩
theorem Q3:u7 Tryz.prog 144 [(7,2),(8,2)]=some SD:=by kernel_rfl
def Ta:VC:=(.one (q 48 (.call 188 [(.t 47)]) 173010011) (.one (q 9 (.dF (.t 42)) 173010012) (.one (q 10 (.dF (.t 48)) 173010013) (.fo false []))))
def Tb:VC:=(.one (q 47 (.load false 1 (.t 46)) 173010010) Ta)
def Td:VC:=(.one (q 46 (.gz 1 (.t 43) (.t 45)) 173010009) Tb)
def SE:FC:=⟨118,2,(.seq (.fo false [q 4 (.dF (.k .ck)) 173000000]) (.seq (.fo false [q 17 (.dF (.t 0)) 173001000,q 18 (.nf [.iZ] (.t 17) (.t 17)) 173001001,q 5 (.dF (.t 18)) 173001002]) (.seq (.seq (.fo false [q 19 (.dF (.t 5)) 173002000,q 20 (.len (.t 19)) 173002001,q 21 (.dF (.k (.int .i64 0))) 173002002]) (.block 0 (.loop (.seq (.fo false [q 22 (.bin .lss .i64 (.t 21) (.t 20)) 173003000]) (.seq (.cond (.t 22) .skip (.exit 0)) (.seq (.block 1 (.seq (.fo false [q 23 (.dF (.t 21)) 173004000,q 6 (.dF (.t 23)) 173004001]) (.fo false [q 24 (.dF (.t 5)) 173005000,q 25 (.dF (.t 6)) 173005001,q 26 (.dF (.t 6)) 173005002,q 27 (.build [.iZ,(.int .i64 0)] [(1,(1,(.t 26)))]) 173005003,q 28 (.box (.t 27)) 173005004,q 29 (.gz 1 (.t 24) (.t 25)) 173005005,⟨none,(.store 1 (.t 29) (.t 28)),none,173005006,[]⟩]))) (.fo false [q 30 (.bin .add .i64 (.t 21) (.k (.int .i64 1))) 173006000,q 21 (.dF (.t 30)) 173006001]))))))) (.seq (.seq (.fo false [q 31 (.dF (.t 1)) 173007000,q 32 (.len (.t 31)) 173007001,q 33 (.dF (.k (.int .i64 0))) 173007002]) (.block 2 (.loop (.seq (.fo false [q 34 (.bin .lss .i64 (.t 33) (.t 32)) 173008000]) (.seq (.cond (.t 34) .skip (.exit 2)) (.seq (.block 3 (.seq (.fo false [q 35 (.gz 3 (.t 31) (.t 33)) 173009000,q 36 (.load true 3 (.t 35)) 173009001,q 8 (.new [(.int .i64 0),(.int .i64 0),(.int .i64 0)]) 173009002,⟨none,(.store 3 (.t 8) (.t 36)),none,173009003,[]⟩]) (.seq (.one (q 37 (.dF (.t 5)) 173010000) (.one (q 38 (.eA 0 (.t 8)) 173010001) (.one (q 39 (.load false 1 (.t 38)) 173010002) (.one (q 40 (.gz 1 (.t 37) (.t 39)) 173010003) (.one (q 41 (.load false 1 (.t 40)) 173010004) (.one (q 43 (.dF (.t 5)) 173010006) (.one (q 44 (.eA 1 (.t 8)) 173010007) (.both (.one (q 42 (.call 188 [(.t 41)]) 173010005) (.one (q 45 (.load false 1 (.t 44)) 173010008) Td)) (.one (q 45 (.load false 1 (.t 44)) 173010008) (.both (.one (q 42 (.call 188 [(.t 41)]) 173010005) Td) (.one (q 46 (.gz 1 (.t 43) (.t 45)) 173010009) (.both (.one (q 42 (.call 188 [(.t 41)]) 173010005) Tb) (.one (q 47 (.load false 1 (.t 46)) 173010010) (.one (q 42 (.call 188 [(.t 41)]) 173010005) Ta)))))))))))))) (.block 4 (.seq (.fo true [q 50 (.dF (.t 9)) 173011000,q 51 (.C2 (.t 50)) 173011001,q 52 (.eA 1 (.t 51)) 173011002,q 53 (.load false 1 (.t 52)) 173011003,q 54 (.dF (.t 10)) 173011004,q 55 (.C2 (.t 54)) 173011005,q 56 (.eA 1 (.t 55)) 173011006,q 57 (.load false 1 (.t 56)) 173011007,q 58 (.bin .lss .i64 (.t 53) (.t 57)) 173011008,q 49 (.dF (.t 58)) 173011009]) (.cond (.t 49) (.fo false [q 59 (.dF (.t 10)) 173012000,q 60 (.dF (.t 9)) 173012001,q 61 (.C2 (.t 59)) 173012002,q 62 (.eA 0 (.t 61)) 173012003,⟨none,(.store 1 (.t 62) (.t 60)),none,173012004,[]⟩]) (.seq (.fo true [q 64 (.dF (.t 10)) 173013000,q 65 (.C2 (.t 64)) 173013001,q 66 (.eA 1 (.t 65)) 173013002,q 67 (.load false 1 (.t 66)) 173013003,q 68 (.dF (.t 9)) 173013004,q 69 (.C2 (.t 68)) 173013005,q 70 (.eA 1 (.t 69)) 173013006,q 71 (.load false 1 (.t 70)) 173013007,q 72 (.bin .lss .i64 (.t 67) (.t 71)) 173013008,q 63 (.dF (.t 72)) 173013009]) (.cond (.t 63) (.fo false [q 73 (.dF (.t 9)) 173014000,q 74 (.dF (.t 10)) 173014001,q 75 (.C2 (.t 73)) 173014002,q 76 (.eA 0 (.t 75)) 173014003,⟨none,(.store 1 (.t 76) (.t 74)),none,173014004,[]⟩]) .skip)))))))) (.fo false [q 77 (.bin .add .i64 (.t 33) (.k (.int .i64 1))) 173015000,q 33 (.dF (.t 77)) 173015001]))))))) (.seq (.fo false [q 11 (.dF (.k .ck)) 173016000]) (.seq (.fo false [⟨(some 78),(.mq (.new ⟨false,[.tI]⟩) []),none,173017000,[]⟩,q 12 (.dF (.t 78)) 173017001]) (.seq (.seq (.fo false [q 79 (.dF (.t 5)) 173018000,q 80 (.len (.t 79)) 173018001,q 81 (.dF (.k (.int .i64 0))) 173018002]) (.block 5 (.loop (.seq (.fo false [q 82 (.bin .lss .i64 (.t 81) (.t 80)) 173019000]) (.seq (.cond (.t 82) .skip (.exit 5)) (.seq (.block 6 (.seq (.fo false [q 83 (.dF (.t 81)) 173020000,q 84 (.gz 1 (.t 79) (.t 81)) 173020001,q 85 (.load false 1 (.t 84)) 173020002,q 13 (.dF (.t 83)) 173020003,q 14 (.dF (.t 85)) 173020004]) (.seq (.fo false [q 87 (.dF (.t 12)) 173021000,q 88 (.dF (.t 14)) 173021001,q 89 (.call 188 [(.t 88)]) 173021002,q 90 (.C2 (.t 89)) 173021003,q 91 (.eA 1 (.t 90)) 173021004,q 92 (.load false 1 (.t 91)) 173021005,⟨(some 93),(.mq (.look ⟨false,[.tI]⟩ true (.int .i64 0)) [(.t 87),(.t 92)]),none,173021006,[]⟩,q 86 (.dF (.t 93)) 173021007,q 94 (.extract 0 (.t 86)) 173021008,q 95 (.extract 1 (.t 86)) 173021009,q 15 (.dF (.t 94)) 173021010,q 16 (.dF (.t 95)) 173021011]) (.seq (.seq (.fo false [q 96 (.dF (.t 16)) 173022000,q 97 (.not (.t 96)) 173022001]) (.cond (.t 97) (.seq (.fo false [q 98 (.dF (.t 11)) 173023000,q 99 (.len (.t 98)) 173023001,q 15 (.dF (.t 99)) 173023002]) (.seq (.fo false [q 100 (.dF (.t 12)) 173024000,q 101 (.dF (.t 13)) 173024001,q 102 (.dF (.t 15)) 173024002,⟨none,(.mw (.set ⟨false,[.tI]⟩) [(.t 100),(.t 101),(.t 102)]),none,173024003,[]⟩]) (.fo false [q 103 (.dF (.t 11)) 173025000,q 104 (.fZ 1 1 [(.k .ck)]) 173025001,q 105 (.append 1 (.t 103) (.t 104)) 173025002,q 11 (.dF (.t 105)) 173025003]))) .skip)) (.fo false [q 106 (.dF (.t 11)) 173026000,q 107 (.dF (.t 15)) 173026001,q 108 (.dF (.t 11)) 173026002,q 109 (.dF (.t 15)) 173026003,q 110 (.gz 1 (.t 108) (.t 109)) 173026004,q 111 (.load false 1 (.t 110)) 173026005,q 112 (.dF (.t 13)) 173026006,q 113 (.fZ 1 1 [(.t 112)]) 173026007,q 114 (.append 1 (.t 111) (.t 113)) 173026008,q 115 (.gz 1 (.t 106) (.t 107)) 173026009,⟨none,(.store 1 (.t 115) (.t 114)),none,173026010,[]⟩]))))) (.fo false [q 116 (.bin .add .i64 (.t 81) (.k (.int .i64 1))) 173027000,q 81 (.dF (.t 116)) 173027001]))))))) (.seq (.fo false [q 117 (.dF (.t 11)) 173028000,q 4 (.dF (.t 117)) 173028001]) .ret)))))))),[(.tmp 4)]⟩
theorem Q4:u7 Tryz.prog 173 [(10,2)]=some SE:=by kernel_rfl
def Fm:List Nat:=[23007007,23007008,23007010]
def Te:bc:=⟨(some 43),(.load false 1 (.t 42)),none,23010001,[23010007]⟩
def Tf:bc:=⟨(some 46),(.call 30 [(.t 44),(.t 45)]),none,23010004,[23010007]⟩
def Tg:VC:=(.one ⟨(some 47),(.bin .add .i64 (.k (.int .i64 1)) (.t 46)),none,23010005,[23010007]⟩ (.one ⟨(some 48),(.gz 1 (.t 43) (.k (.int .i64 0))),none,23010006,[23010007]⟩ (.one ⟨none,(.store 1 (.t 48) (.t 47)),none,23010007,[]⟩ (.fo false []))))
def Th:bc:=⟨(some 52),(.load false 1 (.t 51)),none,23012001,[23012007]⟩
def Ti:bc:=⟨(some 55),(.call 30 [(.t 53),(.t 54)]),none,23012004,[23012007]⟩
def Tj:VC:=(.one ⟨(some 56),(.bin .add .i64 (.k (.int .i64 1)) (.t 55)),none,23012005,[23012007]⟩ (.one ⟨(some 57),(.gz 1 (.t 52) (.k (.int .i64 2))),none,23012006,[23012007]⟩ (.one ⟨none,(.store 1 (.t 57) (.t 56)),none,23012007,[]⟩ (.fo false []))))
def Wz:FC:=⟨110,1,(.seq (.fo false [q 2 (.new [.ck,.ck,.ck,(.int .i64 0)]) 23000000]) (.seq (.fo false [q 10 (.dF (.t 0)) 23001000,q 11 (.call 30 [(.t 10),(.k (.int .i64 2))]) 23001001,q 12 (.bin .add .i64 (.k (.int .i64 1)) (.t 11)) 23001002,q 3 (.dF (.t 12)) 23001003]) (.seq (.fo false [q 13 (.build [.ck,.ck] []) 23002000,q 4 (.new [.ck,.ck]) 23002001,⟨none,(.store 2 (.t 4) (.t 13)),none,23002002,[]⟩]) (.seq (.fo false [q 14 (.dF (.t 0)) 23003000,q 15 (.call 30 [(.t 14),(.k (.int .i64 6))]) 23003001,q 16 (.bin .add .i64 (.k (.int .i64 2)) (.t 15)) 23003002,q 5 (.dF (.t 16)) 23003003]) (.seq (.seq (.fo false [q 6 (.dF (.k (.int .i64 0))) 23004000]) (.block 0 (.loop (.seq (.seq (.fo false [q 17 (.dF (.t 6)) 23005000,q 18 (.dF (.t 5)) 23005001,q 19 (.bin .lss .i64 (.t 17) (.t 18)) 23005002]) (.cond (.t 19) .skip (.exit 0))) (.seq (.block 1 (.seq (.fo true [⟨(some 22),(.eA 0 (.t 4)),none,23007000,Fm⟩,⟨(some 23),(.load false 1 (.t 22)),none,23007001,Fm⟩,⟨(some 24),(.dF (.t 6)),none,23007002,Fm⟩,⟨(some 25),(.call 58 [(.t 24)]),none,23007003,Fm⟩,⟨(some 26),(.yn .add (.k (.str [103])) (.t 25)),none,23007004,Fm⟩,⟨(some 27),(.dF (.t 3)),none,23007005,Fm⟩,⟨(some 28),(.build [(.str []),(.int .i64 0)] [(0,(1,(.t 26))),(1,(1,(.t 27)))]),none,23007006,Fm⟩,⟨(some 29),(.fZ 2 1 [(.t 28)]),none,23007007,[23007008,23007010]⟩,⟨(some 30),(.append 2 (.t 23) (.t 29)),none,23007008,[23007010]⟩,⟨(some 31),(.eA 0 (.t 4)),none,23007009,[23007010]⟩,⟨none,(.store 1 (.t 31) (.t 30)),none,23007010,[]⟩]) (.seq (.fo false [q 32 (.dF (.t 6)) 23008000,q 33 (.call 58 [(.t 32)]) 23008001,q 34 (.yn .add (.k (.str [116])) (.t 33)) 23008002,q 35 (.dF (.t 6)) 23008003,q 36 (.bin .add .i64 (.t 35) (.k (.int .i64 1))) 23008004,q 37 (.dF (.t 6)) 23008005,q 38 (.fZ 1 4 [(.k (.int .i64 0)),(.t 36),(.k (.int .i64 0)),(.t 37)]) 23008006,q 39 (.build [(.str []),.ck] [(0,(1,(.t 34))),(1,(1,(.t 38)))]) 23008007,q 7 (.new [(.str []),.ck]) 23008008,⟨none,(.store 2 (.t 7) (.t 39)),none,23008009,[]⟩]) (.seq (.seq (.fo false [q 40 (.dF (.t 0)) 23009000,q 41 (.call 22 [(.t 40),(.k (.int .i64 4))]) 23009001]) (.cond (.t 41) (.one ⟨(some 42),(.eA 1 (.t 7)),none,23010000,[23010007]⟩ (.one ⟨(some 44),(.dF (.t 0)),none,23010002,[23010007]⟩ (.one ⟨(some 45),(.dF (.t 5)),none,23010003,[23010007]⟩ (.both (.one Te (.one Tf Tg)) (.one Tf (.one Te Tg)))))) .skip)) (.seq (.seq (.fo false [q 49 (.dF (.t 0)) 23011000,q 50 (.call 22 [(.t 49),(.k (.int .i64 4))]) 23011001]) (.cond (.t 50) (.one ⟨(some 51),(.eA 1 (.t 7)),none,23012000,[23012007]⟩ (.one ⟨(some 53),(.dF (.t 0)),none,23012002,[23012007]⟩ (.one ⟨(some 54),(.dF (.t 5)),none,23012003,[23012007]⟩ (.both (.one Th (.one Ti Tj)) (.one Ti (.one Th Tj)))))) .skip)) (.fo false [q 58 (.eA 1 (.t 4)) 23013000,q 59 (.load false 1 (.t 58)) 23013001,q 60 (.load true 2 (.t 7)) 23013002,q 61 (.fZ 2 1 [(.t 60)]) 23013003,q 62 (.append 2 (.t 59) (.t 61)) 23013004,q 63 (.eA 1 (.t 4)) 23013005,⟨none,(.store 1 (.t 63) (.t 62)),none,23013006,[]⟩])))))) (.fo false [q 20 (.dF (.t 6)) 23006000,q 21 (.bin .add .i64 (.t 20) (.k (.int .i64 1))) 23006001,q 6 (.dF (.t 21)) 23006002])))))) (.seq (.seq (.fo false [q 8 (.dF (.k (.int .i64 0))) 23014000]) (.block 2 (.loop (.seq (.seq (.fo false [q 64 (.dF (.t 8)) 23015000,q 65 (.eA 1 (.t 4)) 23015001,q 66 (.load false 1 (.t 65)) 23015002,q 67 (.len (.t 66)) 23015003,q 68 (.bin .lss .i64 (.t 64) (.t 67)) 23015004]) (.cond (.t 68) .skip (.exit 2))) (.seq (.block 3 (.seq (.fo false [q 9 (.dF (.k (.int .i64 0))) 23017000]) (.block 4 (.loop (.seq (.seq (.fo false [q 71 (.dF (.t 9)) 23018000,q 72 (.bin .lss .i64 (.t 71) (.k (.int .i64 4))) 23018001]) (.cond (.t 72) .skip (.exit 4))) (.seq (.block 5 (.seq (.fo false [q 75 (.eA 1 (.t 4)) 23020000,q 76 (.load false 1 (.t 75)) 23020001,q 77 (.dF (.t 8)) 23020002,q 78 (.gz 2 (.t 76) (.t 77)) 23020003,q 79 (.eA 1 (.t 78)) 23020004,q 80 (.load false 1 (.t 79)) 23020005,q 81 (.dF (.t 9)) 23020006,q 82 (.gz 1 (.t 80) (.t 81)) 23020007,q 83 (.load false 1 (.t 82)) 23020008,q 84 (.dF (.t 5)) 23020009,q 85 (.bin .gtr .i64 (.t 83) (.t 84)) 23020010]) (.cond (.t 85) (.fo false [q 86 (.eA 1 (.t 4)) 23021000,q 87 (.load false 1 (.t 86)) 23021001,q 88 (.dF (.t 8)) 23021002,q 89 (.gz 2 (.t 87) (.t 88)) 23021003,q 90 (.eA 1 (.t 89)) 23021004,q 91 (.load false 1 (.t 90)) 23021005,q 92 (.dF (.t 9)) 23021006,q 93 (.gz 1 (.t 91) (.t 92)) 23021007,⟨none,(.store 1 (.t 93) (.k (.int .i64 0))),none,23021008,[]⟩]) .skip))) (.fo false [q 73 (.dF (.t 9)) 23019000,q 74 (.bin .add .i64 (.t 73) (.k (.int .i64 1))) 23019001,q 9 (.dF (.t 74)) 23019002]))))))) (.fo false [q 69 (.dF (.t 8)) 23016000,q 70 (.bin .add .i64 (.t 69) (.k (.int .i64 1))) 23016001,q 8 (.dF (.t 70)) 23016002])))))) (.seq (.seq (.fo false [q 94 (.dF (.t 0)) 23022000,q 95 (.call 22 [(.t 94),(.k (.int .i64 2))]) 23022001]) (.cond (.t 95) (.fo false [q 96 (.eA 1 (.t 4)) 23023000,q 97 (.load false 1 (.t 96)) 23023001,q 98 (.dF (.t 5)) 23023002,q 99 (.bin .sub .i64 (.t 98) (.k (.int .i64 1))) 23023003,q 100 (.gz 2 (.t 97) (.t 99)) 23023004,q 101 (.eA 1 (.t 100)) 23023005,q 102 (.load false 1 (.t 101)) 23023006,q 103 (.gz 1 (.t 102) (.k (.int .i64 1))) 23023007,⟨none,(.store 1 (.t 103) (.k (.int .i64 0))),none,23023008,[]⟩]) .skip)) (.seq (.fo false [q 104 (.load true 2 (.t 4)) 23024000,q 105 (.build [(.int .i64 0),(.int .i64 0),(.int .i64 0)] []) 23024001,q 106 (.fZ 3 1 [(.t 105)]) 23024002,q 107 (.build [.ck] [(0,(1,(.t 106)))]) 23024003,q 108 (.dF (.t 3)) 23024004,q 109 (.build [.ck,.ck,.ck,(.int .i64 0)] [(0,(2,(.t 104))),(2,(1,(.t 107))),(3,(1,(.t 108)))]) 23024005,⟨none,(.store 4 (.t 2) (.t 109)),none,23024006,[]⟩]) .ret)))))))),[(.cell true 4 2)]⟩
theorem U4:u7 Tryz.prog 23 [(10,2),(12,2)]=some Wz:=by kernel_rfl
def G9:List Nat:=[25011006,25011007,25011009]
def xr:List Nat:=[25013011,25013013,25013014,25013016]
def Ha:bc:=⟨(some 53),(.load false 1 (.t 52)),none,25013001,xr⟩
def Nb:bc:=⟨(some 55),(.call 58 [(.t 54)]),none,25013003,xr⟩
def Nc:bc:=⟨(some 56),(.yn .add (.k (.str [101])) (.t 55)),none,25013004,xr⟩
def Nd:bc:=⟨(some 58),(.call 30 [(.t 57),(.k (.int .i64 2))]),none,25013006,xr⟩
def Tk:bc:=⟨(some 59),(.bin .add .i64 (.k (.int .i64 1)) (.t 58)),none,25013007,xr⟩
def Kc:bc:=⟨(some 61),(.load false 1 (.t 60)),none,25013009,xr⟩
def Kd:bc:=⟨(some 62),(.len (.t 61)),none,25013010,xr⟩
def Tl:List Nat:=[25013013,25013014,25013016]
def Tm:VC:=(.one ⟨(some 63),(.fZ 1 4 [(.t 59),(.k (.int .i64 0)),(.k (.int .i64 0)),(.t 62)]),none,25013011,Tl⟩ (.one ⟨(some 64),(.build [(.str []),.ck] [(0,(1,(.t 56))),(1,(1,(.t 63)))]),none,25013012,Tl⟩ (.one ⟨(some 65),(.fZ 2 1 [(.t 64)]),none,25013013,[25013014,25013016]⟩ (.one ⟨(some 66),(.append 2 (.t 53) (.t 65)),none,25013014,[25013016]⟩ (.one ⟨(some 67),(.eA 1 (.t 5)),none,25013015,[25013016]⟩ (.one ⟨none,(.store 1 (.t 67) (.t 66)),none,25013016,[]⟩ (.fo false [])))))))
def Tn:VC:=(.one Tk (.one Kc (.one Kd Tm)))
def To:VC:=(.one Tk Tm)
def PR:VC:=(.one Nd To)
def Tp:VC:=(.both (.one Nd Tn) (.one Kc (.one Kd PR)))
def Tq:VC:=(.one Nb (.one Nc PR))
def Tr:VC:=(.both (.one Ha PR) (.one Nd (.one Ha To)))
def Hb:List Nat:=[25019006,25019007,25019009]
def xt:List Nat:=[25021011,25021013,25021014,25021016]
def Hc:bc:=⟨(some 97),(.load false 1 (.t 96)),none,25021001,xt⟩
def Nf:bc:=⟨(some 99),(.call 58 [(.t 98)]),none,25021003,xt⟩
def Ng:bc:=⟨(some 100),(.yn .add (.k (.str [110])) (.t 99)),none,25021004,xt⟩
def Nh:bc:=⟨(some 102),(.call 30 [(.t 101),(.k (.int .i64 2))]),none,25021006,xt⟩
def Tt:bc:=⟨(some 103),(.bin .add .i64 (.k (.int .i64 1)) (.t 102)),none,25021007,xt⟩
def Ke:bc:=⟨(some 105),(.load false 1 (.t 104)),none,25021009,xt⟩
def Kf:bc:=⟨(some 106),(.len (.t 105)),none,25021010,xt⟩
def Tu:List Nat:=[25021013,25021014,25021016]
def Tv:VC:=(.one ⟨(some 107),(.fZ 1 4 [(.k (.int .i64 0)),(.t 103),(.t 106),(.k (.int .i64 0))]),none,25021011,Tu⟩ (.one ⟨(some 108),(.build [(.str []),.ck] [(0,(1,(.t 100))),(1,(1,(.t 107)))]),none,25021012,Tu⟩ (.one ⟨(some 109),(.fZ 2 1 [(.t 108)]),none,25021013,[25021014,25021016]⟩ (.one ⟨(some 110),(.append 2 (.t 97) (.t 109)),none,25021014,[25021016]⟩ (.one ⟨(some 111),(.eA 1 (.t 5)),none,25021015,[25021016]⟩ (.one ⟨none,(.store 1 (.t 111) (.t 110)),none,25021016,[]⟩ (.fo false [])))))))
def Tw:VC:=(.one Tt (.one Ke (.one Kf Tv)))
def Ty:VC:=(.one Tt Tv)
def PS:VC:=(.one Nh Ty)
def Tz:VC:=(.both (.one Nh Tw) (.one Ke (.one Kf PS)))
def TA:VC:=(.one Nf (.one Ng PS))
def TB:VC:=(.both (.one Hc PS) (.one Nh (.one Hc Ty)))
def si:List Nat:=[25027015,25027017,25027018,25027020]
def PT:bc:=⟨(some 124),(.load false 1 (.t 123)),none,25027001,si⟩
def TC:bc:=⟨(some 126),(.call 58 [(.t 125)]),none,25027003,si⟩
def TD:bc:=⟨(some 127),(.yn .add (.k (.str [114])) (.t 126)),none,25027004,si⟩
def TE:bc:=⟨(some 130),(.call 30 [(.t 129),(.k (.int .i64 2))]),none,25027007,si⟩
def TF:List Nat:=[25027017,25027018,25027020]
def TG:VC:=(.one ⟨(some 131),(.bin .add .i64 (.k (.int .i64 1)) (.t 130)),none,25027008,si⟩ (.one ⟨(some 138),(.fZ 1 4 [(.t 128),(.t 131),(.t 134),(.t 137)]),none,25027015,TF⟩ (.one ⟨(some 139),(.build [(.str []),.ck] [(0,(1,(.t 127))),(1,(1,(.t 138)))]),none,25027016,TF⟩ (.one ⟨(some 140),(.fZ 2 1 [(.t 139)]),none,25027017,[25027018,25027020]⟩ (.one ⟨(some 141),(.append 2 (.t 124) (.t 140)),none,25027018,[25027020]⟩ (.one ⟨(some 142),(.eA 1 (.t 5)),none,25027019,[25027020]⟩ (.one ⟨none,(.store 1 (.t 142) (.t 141)),none,25027020,[]⟩ (.fo false []))))))))
def TH:VC:=(.one TE TG)
def C0:List Nat:=[25029008,25029010,25029011,25029013]
def PU:bc:=⟨(some 146),(.load false 1 (.t 145)),none,25029001,C0⟩
def TI:bc:=⟨(some 148),(.call 30 [(.t 147),(.k (.int .i64 2))]),none,25029003,C0⟩
def TJ:bc:=⟨(some 149),(.bin .add .i64 (.k (.int .i64 1)) (.t 148)),none,25029004,C0⟩
def TK:bc:=⟨(some 151),(.call 30 [(.t 150),(.k (.int .i64 2))]),none,25029006,C0⟩
def TL:List Nat:=[25029010,25029011,25029013]
def TM:VC:=(.one ⟨(some 152),(.bin .add .i64 (.k (.int .i64 1)) (.t 151)),none,25029007,C0⟩ (.one ⟨(some 153),(.fZ 1 4 [(.k (.int .i64 1)),(.k (.int .i64 2)),(.t 149),(.t 152)]),none,25029008,TL⟩ (.one ⟨(some 154),(.build [(.str []),.ck] [(0,(1,(.k (.str [114,52])))),(1,(1,(.t 153)))]),none,25029009,TL⟩ (.one ⟨(some 155),(.fZ 2 1 [(.t 154)]),none,25029010,[25029011,25029013]⟩ (.one ⟨(some 156),(.append 2 (.t 146) (.t 155)),none,25029011,[25029013]⟩ (.one ⟨(some 157),(.eA 1 (.t 5)),none,25029012,[25029013]⟩ (.one ⟨none,(.store 1 (.t 157) (.t 156)),none,25029013,[]⟩ (.fo false []))))))))
def TN:VC:=(.one TK TM)
def WA:FC:=⟨163,1,(.seq (.fo false [q 2 (.new [.ck,.ck,.ck,(.int .i64 0)]) 25000000]) (.seq (.fo false [q 12 (.dF (.t 0)) 25001000,q 13 (.call 30 [(.t 12),(.k (.int .i64 4))]) 25001001,q 14 (.bin .add .i64 (.k (.int .i64 1)) (.t 13)) 25001002,q 3 (.dF (.t 14)) 25001003]) (.seq (.fo false [q 15 (.dF (.t 0)) 25002000,q 16 (.call 30 [(.t 15),(.k (.int .i64 4))]) 25002001,q 17 (.bin .add .i64 (.k (.int .i64 1)) (.t 16)) 25002002,q 4 (.dF (.t 17)) 25002003]) (.seq (.fo false [q 18 (.build [.ck,.ck] []) 25003000,q 5 (.new [.ck,.ck]) 25003001,⟨none,(.store 2 (.t 5) (.t 18)),none,25003002,[]⟩]) (.seq (.fo false [⟨(some 19),(.build [(.str []),(.int .i64 0)] [(0,(1,(.k (.str [122,101,114,111])))),(1,(1,(.k (.int .i64 1))))]),none,25004000,[]⟩,⟨(some 20),(.build [(.str []),(.int .i64 0)] [(0,(1,(.k (.str [111,110,101])))),(1,(1,(.k (.int .i64 1))))]),none,25004001,[]⟩,q 21 (.fZ 2 2 [(.t 19),(.t 20)]) 25004002,q 22 (.eA 0 (.t 5)) 25004003,⟨none,(.store 1 (.t 22) (.t 21)),none,25004004,[]⟩]) (.seq (.fo false [q 23 (.fZ 1 4 [(.k (.int .i64 0)),(.k (.int .i64 0)),(.k (.int .i64 0)),(.k (.int .i64 0))]) 25005000,⟨(some 24),(.build [(.str []),.ck] [(0,(1,(.k (.str [115,101,101,100])))),(1,(1,(.t 23)))]),none,25005001,[]⟩,q 6 (.new [(.str []),.ck]) 25005002,⟨none,(.store 2 (.t 6) (.t 24)),none,25005003,[]⟩]) (.seq (.fo false [q 25 (.load true 2 (.t 6)) 25006000,q 26 (.fZ 2 1 [(.t 25)]) 25006001,q 27 (.eA 1 (.t 5)) 25006002,⟨none,(.store 1 (.t 27) (.t 26)),none,25006003,[]⟩]) (.seq (.fo false [q 7 (.dF (.k (.int .i64 0))) 25007000]) (.seq (.seq (.fo false [q 8 (.dF (.k (.int .i64 0))) 25008000]) (.block 0 (.loop (.seq (.seq (.fo false [q 28 (.dF (.t 8)) 25009000,q 29 (.dF (.t 3)) 25009001,q 30 (.bin .lss .i64 (.t 28) (.t 29)) 25009002]) (.cond (.t 30) .skip (.exit 0))) (.seq (.block 1 (.seq (.fo true [⟨(some 33),(.eA 0 (.t 5)),none,25011000,G9⟩,⟨(some 34),(.load false 1 (.t 33)),none,25011001,G9⟩,⟨(some 35),(.dF (.t 8)),none,25011002,G9⟩,⟨(some 36),(.call 58 [(.t 35)]),none,25011003,G9⟩,⟨(some 37),(.yn .add (.k (.str [120])) (.t 36)),none,25011004,G9⟩,⟨(some 38),(.build [(.str []),(.int .i64 0)] [(0,(1,(.t 37))),(1,(1,(.k (.int .i64 2))))]),none,25011005,G9⟩,⟨(some 39),(.fZ 2 1 [(.t 38)]),none,25011006,[25011007,25011009]⟩,⟨(some 40),(.append 2 (.t 34) (.t 39)),none,25011007,[25011009]⟩,⟨(some 41),(.eA 0 (.t 5)),none,25011008,[25011009]⟩,⟨none,(.store 1 (.t 41) (.t 40)),none,25011009,[]⟩]) (.seq (.fo true [⟨(some 42),(.eA 1 (.t 5)),none,25012000,[25012010]⟩,⟨(some 43),(.load false 1 (.t 42)),none,25012001,[25012010]⟩,⟨(some 44),(.dF (.t 7)),none,25012002,[25012010]⟩,⟨(some 45),(.gz 2 (.t 43) (.t 44)),none,25012003,[25012010]⟩,⟨(some 46),(.eA 1 (.t 45)),none,25012004,[25012010]⟩,⟨(some 47),(.load false 1 (.t 46)),none,25012005,[25012010]⟩,⟨(some 48),(.eA 0 (.t 5)),none,25012006,[25012010]⟩,⟨(some 49),(.load false 1 (.t 48)),none,25012007,[25012010]⟩,⟨(some 50),(.len (.t 49)),none,25012008,[25012010]⟩,⟨(some 51),(.gz 1 (.t 47) (.k (.int .i64 1))),none,25012009,[25012010]⟩,⟨none,(.store 1 (.t 51) (.t 50)),none,25012010,[]⟩]) (.seq (.one ⟨(some 52),(.eA 1 (.t 5)),none,25013000,xr⟩ (.one ⟨(some 54),(.dF (.t 8)),none,25013002,xr⟩ (.one ⟨(some 57),(.dF (.t 0)),none,25013005,xr⟩ (.one ⟨(some 60),(.eA 0 (.t 5)),none,25013008,xr⟩ (.both (.one Ha (.both (.one Nb (.one Nc Tp)) (.one Kc (.one Kd Tq)))) (.both (.one Nb (.one Nc (.both (.one Ha Tp) (.both (.one Nd (.one Ha Tn)) (.one Kc (.one Kd Tr)))))) (.one Kc (.one Kd (.both (.one Ha Tq) (.one Nb (.one Nc Tr))))))))))) (.fo false [q 68 (.eA 1 (.t 5)) 25014000,q 69 (.load false 1 (.t 68)) 25014001,q 70 (.len (.t 69)) 25014002,q 71 (.bin .sub .i64 (.t 70) (.k (.int .i64 1))) 25014003,q 7 (.dF (.t 71)) 25014004]))))) (.fo false [q 31 (.dF (.t 8)) 25010000,q 32 (.bin .add .i64 (.t 31) (.k (.int .i64 1))) 25010001,q 8 (.dF (.t 32)) 25010002])))))) (.seq (.fo false [q 7 (.dF (.k (.int .i64 0))) 25015000]) (.seq (.seq (.fo false [q 9 (.dF (.k (.int .i64 0))) 25016000]) (.block 2 (.loop (.seq (.seq (.fo false [q 72 (.dF (.t 9)) 25017000,q 73 (.dF (.t 4)) 25017001,q 74 (.bin .lss .i64 (.t 72) (.t 73)) 25017002]) (.cond (.t 74) .skip (.exit 2))) (.seq (.block 3 (.seq (.fo true [⟨(some 77),(.eA 0 (.t 5)),none,25019000,Hb⟩,⟨(some 78),(.load false 1 (.t 77)),none,25019001,Hb⟩,⟨(some 79),(.dF (.t 9)),none,25019002,Hb⟩,⟨(some 80),(.call 58 [(.t 79)]),none,25019003,Hb⟩,⟨(some 81),(.yn .add (.k (.str [121])) (.t 80)),none,25019004,Hb⟩,⟨(some 82),(.build [(.str []),(.int .i64 0)] [(0,(1,(.t 81))),(1,(1,(.k (.int .i64 2))))]),none,25019005,Hb⟩,⟨(some 83),(.fZ 2 1 [(.t 82)]),none,25019006,[25019007,25019009]⟩,⟨(some 84),(.append 2 (.t 78) (.t 83)),none,25019007,[25019009]⟩,⟨(some 85),(.eA 0 (.t 5)),none,25019008,[25019009]⟩,⟨none,(.store 1 (.t 85) (.t 84)),none,25019009,[]⟩]) (.seq (.fo true [⟨(some 86),(.eA 1 (.t 5)),none,25020000,[25020010]⟩,⟨(some 87),(.load false 1 (.t 86)),none,25020001,[25020010]⟩,⟨(some 88),(.dF (.t 7)),none,25020002,[25020010]⟩,⟨(some 89),(.gz 2 (.t 87) (.t 88)),none,25020003,[25020010]⟩,⟨(some 90),(.eA 1 (.t 89)),none,25020004,[25020010]⟩,⟨(some 91),(.load false 1 (.t 90)),none,25020005,[25020010]⟩,⟨(some 92),(.eA 0 (.t 5)),none,25020006,[25020010]⟩,⟨(some 93),(.load false 1 (.t 92)),none,25020007,[25020010]⟩,⟨(some 94),(.len (.t 93)),none,25020008,[25020010]⟩,⟨(some 95),(.gz 1 (.t 91) (.k (.int .i64 0))),none,25020009,[25020010]⟩,⟨none,(.store 1 (.t 95) (.t 94)),none,25020010,[]⟩]) (.seq (.one ⟨(some 96),(.eA 1 (.t 5)),none,25021000,xt⟩ (.one ⟨(some 98),(.dF (.t 9)),none,25021002,xt⟩ (.one ⟨(some 101),(.dF (.t 0)),none,25021005,xt⟩ (.one ⟨(some 104),(.eA 0 (.t 5)),none,25021008,xt⟩ (.both (.one Hc (.both (.one Nf (.one Ng Tz)) (.one Ke (.one Kf TA)))) (.both (.one Nf (.one Ng (.both (.one Hc Tz) (.both (.one Nh (.one Hc Tw)) (.one Ke (.one Kf TB)))))) (.one Ke (.one Kf (.both (.one Hc TA) (.one Nf (.one Ng TB))))))))))) (.fo false [q 112 (.eA 1 (.t 5)) 25022000,q 113 (.load false 1 (.t 112)) 25022001,q 114 (.len (.t 113)) 25022002,q 115 (.bin .sub .i64 (.t 114) (.k (.int .i64 1))) 25022003,q 7 (.dF (.t 115)) 25022004]))))) (.fo false [q 75 (.dF (.t 9)) 25018000,q 76 (.bin .add .i64 (.t 75) (.k (.int .i64 1))) 25018001,q 9 (.dF (.t 76)) 25018002])))))) (.seq (.seq (.fo false [q 10 (.dF (.k (.int .i64 0))) 25023000]) (.block 4 (.loop (.seq (.seq (.fo false [q 116 (.dF (.t 10)) 25024000,q 117 (.bin .lss .i64 (.t 116) (.k (.int .i64 4))) 25024001]) (.cond (.t 117) .skip (.exit 4))) (.seq (.block 5 (.seq (.fo false [q 120 (.dF (.t 0)) 25026000,q 121 (.call 30 [(.t 120),(.k (.int .i64 2))]) 25026001,q 122 (.bin .add .i64 (.k (.int .i64 1)) (.t 121)) 25026002,q 11 (.dF (.t 122)) 25026003]) (.one ⟨(some 123),(.eA 1 (.t 5)),none,25027000,si⟩ (.one ⟨(some 125),(.dF (.t 10)),none,25027002,si⟩ (.one ⟨(some 128),(.dF (.t 11)),none,25027005,si⟩ (.one ⟨(some 129),(.dF (.t 0)),none,25027006,si⟩ (.one ⟨(some 132),(.dF (.t 10)),none,25027009,si⟩ (.one ⟨(some 133),(.bin .rem .i64 (.t 132) (.k (.int .i64 2))),none,25027010,si⟩ (.one ⟨(some 134),(.bin .add .i64 (.k (.int .i64 1)) (.t 133)),none,25027011,si⟩ (.one ⟨(some 135),(.dF (.t 10)),none,25027012,si⟩ (.one ⟨(some 136),(.bin .quo .i64 (.t 135) (.k (.int .i64 2))),none,25027013,si⟩ (.one ⟨(some 137),(.bin .add .i64 (.k (.int .i64 1)) (.t 136)),none,25027014,si⟩ (.both (.one PT (.one TC (.one TD TH))) (.one TC (.one TD (.both (.one PT TH) (.one TE (.one PT TG)))))))))))))))))) (.fo false [q 118 (.dF (.t 10)) 25025000,q 119 (.bin .add .i64 (.t 118) (.k (.int .i64 1))) 25025001,q 10 (.dF (.t 119)) 25025002])))))) (.seq (.seq (.fo false [q 143 (.dF (.t 0)) 25028000,q 144 (.call 22 [(.t 143),(.k (.int .i64 3))]) 25028001]) (.cond (.t 144) (.one ⟨(some 145),(.eA 1 (.t 5)),none,25029000,C0⟩ (.one ⟨(some 147),(.dF (.t 0)),none,25029002,C0⟩ (.one ⟨(some 150),(.dF (.t 0)),none,25029005,C0⟩ (.both (.one PU (.one TI (.one TJ TN))) (.one TI (.one TJ (.both (.one PU TN) (.one TK (.one PU TM))))))))) .skip)) (.seq (.fo false [q 158 (.load true 2 (.t 5)) 25030000,q 159 (.build [(.int .i64 0),(.int .i64 0),(.int .i64 0)] []) 25030001,q 160 (.fZ 3 1 [(.t 159)]) 25030002,q 161 (.build [.ck] [(0,(1,(.t 160)))]) 25030003,⟨(some 162),(.build [.ck,.ck,.ck,(.int .i64 0)] [(0,(2,(.t 158))),(2,(1,(.t 161))),(3,(1,(.k (.int .i64 2))))]),none,25030004,[]⟩,⟨none,(.store 4 (.t 2) (.t 162)),none,25030005,[]⟩]) .ret)))))))))))))),[(.cell true 4 2)]⟩
theorem U5:u7 Tryz.prog 25 [(13,2),(21,2),(27,2),(29,2)]=some WA:=by kernel_rfl
def Ni:bc:=⟨(some 29),(.load true 4 (.t 5)),none,3004000,[3004008,3004010]⟩
def Nj:bc:=⟨(some 31),(.call 8 [(.t 30)]),none,3004002,[3004008,3004010]⟩
def TP:bc:=⟨(some 32),(.call 7 [(.t 29),(.t 31),(.k (.int .i64 9))]),none,3004003,[3004008,3004010]⟩
def TQ:bc:=⟨(some 28),(.dF (.t 32)),none,3004004,[3004008,3004010]⟩
def TR:bc:=⟨(some 33),(.extract 0 (.t 28)),none,3004005,[3004008,3004010]⟩
def TU:bc:=⟨(some 34),(.extract 1 (.t 28)),none,3004006,[3004008,3004010]⟩
def TV:bc:=⟨(some 35),(.extract 2 (.t 28)),none,3004007,[3004008,3004010]⟩
def Nk:bc:=⟨(some 7),(.new [.ck]),none,3004008,[3004010]⟩
def TW:VC:=(.one ⟨(some 6),(.dF (.t 33)),none,3004009,[3004010]⟩ (.one ⟨none,(.store 1 (.t 7) (.t 34)),none,3004010,[]⟩ (.one (q 8 (.dF (.t 35)) 3004011) (.fo false []))))
def PV:VC:=(.one TP (.one TQ (.one TR (.one TU (.one TV TW)))))
def TX:VC:=(.both (.one TP (.one TQ (.one TR (.one TU (.one TV (.one Nk TW)))))) (.one Nk PV))
def TY:VC:=(.one Nj PV)
def Nl:bc:=⟨(some 37),(.load true 4 (.t 5)),none,3005000,[3005008,3005010]⟩
def Nn:bc:=⟨(some 39),(.call 8 [(.t 38)]),none,3005002,[3005008,3005010]⟩
def TZ:bc:=⟨(some 40),(.call 7 [(.t 37),(.t 39),(.k (.int .i64 9))]),none,3005003,[3005008,3005010]⟩
def T5:bc:=⟨(some 36),(.dF (.t 40)),none,3005004,[3005008,3005010]⟩
def T6:bc:=⟨(some 41),(.extract 0 (.t 36)),none,3005005,[3005008,3005010]⟩
def T7:bc:=⟨(some 42),(.extract 1 (.t 36)),none,3005006,[3005008,3005010]⟩
def M7:bc:=⟨(some 43),(.extract 2 (.t 36)),none,3005007,[3005008,3005010]⟩
def Fk:bc:=⟨(some 10),(.new [.ck]),none,3005008,[3005010]⟩
def M8:VC:=(.one ⟨(some 9),(.dF (.t 41)),none,3005009,[3005010]⟩ (.one ⟨none,(.store 1 (.t 10) (.t 42)),none,3005010,[]⟩ (.one (q 11 (.dF (.t 43)) 3005011) (.fo false []))))
def Iq:VC:=(.one TZ (.one T5 (.one T6 (.one T7 (.one M7 M8)))))
def M9:VC:=(.both (.one TZ (.one T5 (.one T6 (.one T7 (.one M7 (.one Fk M8)))))) (.one Fk Iq))
def Na:VC:=(.one Nn Iq)
def Z1:FC:=⟨115,2,(.seq (.fo false [q 4 (.dF (.k (.bool false))) 3000000]) (.seq (.seq (.fo false [q 20 (.dF (.t 0)) 3001000,q 21 (.call 5 [(.t 20)]) 3001001,q 22 (.dF (.t 21)) 3001002,⟨(some 23),(.dF (.t 1)),(some (22,false)),3001003,[]⟩,⟨(some 24),(.call 5 [(.t 23)]),(some (22,false)),3001004,[]⟩,q 25 (.pick (.t 22) (.k (.bool true)) (.t 24)) 3001005]) (.cond (.t 25) (.seq (.fo false [q 4 (.dF (.k (.bool true))) 3002000]) .ret) .skip)) (.seq (.fo false [q 26 (.dF (.t 0)) 3003000,q 27 (.call 6 [(.t 26)]) 3003001,q 5 (.new [.ck,.ck,.ck,(.int .i64 0)]) 3003002,⟨none,(.store 4 (.t 5) (.t 27)),none,3003003,[]⟩]) (.seq (.one ⟨(some 30),(.dF (.t 0)),none,3004001,[3004008,3004010]⟩ (.both (.one Ni (.both (.one Nj TX) (.one Nk TY))) (.both (.one Nj (.one Ni TX)) (.one Nk (.both (.one Ni TY) (.one Nj (.one Ni PV))))))) (.seq (.one ⟨(some 38),(.dF (.t 1)),none,3005001,[3005008,3005010]⟩ (.both (.one Nl (.both (.one Nn M9) (.one Fk Na))) (.both (.one Nn (.one Nl M9)) (.one Fk (.both (.one Nl Na) (.one Nn (.one Nl Iq))))))) (.seq (.seq (.fo false [q 44 (.dF (.t 8)) 3006000,q 45 (.Nu true .tI (.t 44) (.k (.int .i64 0))) 3006001,q 46 (.dF (.t 45)) 3006002,⟨(some 47),(.dF (.t 11)),(some (46,false)),3006003,[]⟩,⟨(some 48),(.Nu true .tI (.t 47) (.k (.int .i64 0))),(some (46,false)),3006004,[]⟩,q 49 (.pick (.t 46) (.k (.bool true)) (.t 48)) 3006005]) (.cond (.t 49) (.seq (.fo false [q 4 (.dF (.k (.bool true))) 3007000]) .ret) .skip)) (.seq (.fo false [q 51 (.load true 4 (.t 5)) 3008000,q 52 (.load true 1 (.t 7)) 3008001,q 53 (.load true 1 (.t 10)) 3008002,q 54 (.call 9 [(.t 51),(.t 52),(.t 53)]) 3008003,q 50 (.dF (.t 54)) 3008004,q 55 (.extract 0 (.t 50)) 3008005,q 56 (.extract 1 (.t 50)) 3008006,q 12 (.new [.ck]) 3008007,⟨none,(.store 1 (.t 12) (.t 55)),none,3008008,[]⟩,q 13 (.dF (.t 56)) 3008009]) (.seq (.fo false [q 58 (.load true 4 (.t 5)) 3009000,q 59 (.load true 1 (.t 7)) 3009001,q 60 (.load true 1 (.t 10)) 3009002,q 61 (.call 10 [(.t 58),(.t 59),(.t 60)]) 3009003,q 57 (.dF (.t 61)) 3009004,q 62 (.extract 0 (.t 57)) 3009005,q 63 (.extract 1 (.t 57)) 3009006,q 14 (.new [.ck]) 3009007,⟨none,(.store 1 (.t 14) (.t 62)),none,3009008,[]⟩,q 15 (.dF (.t 63)) 3009009]) (.seq (.fo false [q 65 (.load true 4 (.t 5)) 3010000,q 66 (.load true 1 (.t 7)) 3010001,q 67 (.load true 1 (.t 7)) 3010002,q 68 (.call 9 [(.t 65),(.t 66),(.t 67)]) 3010003,q 64 (.dF (.t 68)) 3010004,q 69 (.extract 0 (.t 64)) 3010005,q 70 (.extract 1 (.t 64)) 3010006,q 16 (.new [.ck]) 3010007,⟨none,(.store 1 (.t 16) (.t 69)),none,3010008,[]⟩,q 17 (.dF (.t 70)) 3010009]) (.seq (.fo false [q 72 (.load true 4 (.t 5)) 3011000,q 73 (.load true 1 (.t 14)) 3011001,q 74 (.call 11 [(.t 72),(.t 73)]) 3011002,q 71 (.dF (.t 74)) 3011003,q 75 (.extract 0 (.t 71)) 3011004,q 76 (.extract 1 (.t 71)) 3011005,q 18 (.dF (.t 75)) 3011006,q 19 (.dF (.t 76)) 3011007]) (.seq (.fo false [q 77 (.dF (.t 13)) 3012000,q 78 (.dF (.t 15)) 3012001,q 79 (.Nu false .tI (.t 77) (.t 78)) 3012002,q 80 (.dF (.t 79)) 3012003,⟨(some 81),(.dF (.t 13)),(some (80,true)),3012004,[]⟩,⟨(some 82),(.Nu false .tI (.t 81) (.k (.int .i64 0))),(some (80,true)),3012005,[]⟩,q 83 (.pick (.t 80) (.t 82) (.k (.bool false))) 3012006,q 84 (.dF (.t 83)) 3012007,⟨(some 85),(.load true 1 (.t 12)),(some (84,true)),3012008,[]⟩,⟨(some 86),(.load true 1 (.t 14)),(some (84,true)),3012009,[]⟩,⟨(some 87),(.call 12 [(.t 85),(.t 86)]),(some (84,true)),3012010,[]⟩,q 88 (.pick (.t 84) (.t 87) (.k (.bool false))) 3012011,q 89 (.dF (.t 88)) 3012012,⟨(some 90),(.load true 1 (.t 14)),(some (89,true)),3012013,[]⟩,⟨(some 91),(.load true 1 (.t 7)),(some (89,true)),3012014,[]⟩,⟨(some 92),(.call 13 [(.t 90),(.t 91)]),(some (89,true)),3012015,[]⟩,q 93 (.pick (.t 89) (.t 92) (.k (.bool false))) 3012016,q 94 (.dF (.t 93)) 3012017,⟨(some 95),(.load true 1 (.t 14)),(some (94,true)),3012018,[]⟩,⟨(some 96),(.load true 1 (.t 10)),(some (94,true)),3012019,[]⟩,⟨(some 97),(.call 13 [(.t 95),(.t 96)]),(some (94,true)),3012020,[]⟩,q 98 (.pick (.t 94) (.t 97) (.k (.bool false))) 3012021,q 99 (.dF (.t 98)) 3012022,⟨(some 100),(.dF (.t 17)),(some (99,true)),3012023,[]⟩,⟨(some 101),(.Nu false .tI (.t 100) (.k (.int .i64 0))),(some (99,true)),3012024,[]⟩,q 102 (.pick (.t 99) (.t 101) (.k (.bool false))) 3012025,q 103 (.dF (.t 102)) 3012026,⟨(some 104),(.load true 1 (.t 16)),(some (103,true)),3012027,[]⟩,⟨(some 105),(.load true 1 (.t 7)),(some (103,true)),3012028,[]⟩,⟨(some 106),(.call 12 [(.t 104),(.t 105)]),(some (103,true)),3012029,[]⟩,q 107 (.pick (.t 103) (.t 106) (.k (.bool false))) 3012030,q 108 (.dF (.t 107)) 3012031,⟨(some 109),(.dF (.t 19)),(some (108,true)),3012032,[]⟩,⟨(some 110),(.Nu false .tI (.t 109) (.k (.int .i64 0))),(some (108,true)),3012033,[]⟩,q 111 (.pick (.t 108) (.t 110) (.k (.bool false))) 3012034,q 112 (.dF (.t 111)) 3012035,⟨(some 113),(.dF (.t 18)),(some (112,true)),3012036,[]⟩,q 114 (.pick (.t 112) (.t 113) (.k (.bool false))) 3012037,q 4 (.dF (.t 114)) 3012038]) .ret))))))))))),[(.tmp 4)]⟩
theorem Ym:u7 Tryz.prog 3 [(4,2),(5,2)]=some Z1:=by kernel_rfl
end Go.Proofs.YtiabgllilcfheaaGreat.V

namespace Go.Proofs.YtiabgllilcfheaaGreat.V
open Go.RowKit
attribute [local irreducible] er wpOps fY Call
attribute [local go_sem] aF fC eR fN fK du upd cw K.av cQ AV.cells AV.cell rowOf rowsOf part ld rowAt bK cq dH dX gG bP dd eh fJ fa dw ea db da dM dP bV bd cU bU cW cV dV eb dZ cR bY dc dY bQ aD cY cF gF bD cL bW aY dn bj dI AV.undef bH bJ dQ dW dL dK cK ef eo cz ee ec cX cZ List.getD_cons_zero List.getD_cons_succ List.getD_nil List.all_cons List.all_nil Bool.and_true Bool.true_and Bool.and_self Bool.not_true Bool.not_false Option.map_some Option.map_none Option.bind_some Option.bind_none List.length_cons List.length_nil List.take_succ_cons List.take_zero List.take_nil List.drop_succ_cons List.drop_zero List.drop_nil List.head?_cons List.map_cons List.map_nil List.getElem?_cons_zero List.getElem?_cons_succ List.cons_append List.nil_append List.append_nil List.length_map List.set_cons_zero List.set_cons_succ Nat.reduceMul eq_self Int.toNat_natCast Int.natCast_nonneg and_self true_and and_true decide_true decide_false Bool.false_eq_true Nat.zero_add Nat.add_zero List.contains_cons List.contains_nil Bool.or_false Bool.false_or beq_self_eq_true Nat.reduceBEq ne_eq not_true_eq_false not_false_eq_true Id.mk.injEq false_and and_false Nat.reduceLT Int.reduceLE Int.reduceLT Int.reduceToNat Int.reduceNeg Int.reduceAdd Nat.le_refl List.length_append beq_true beq_false Bool.not_eq_eq_eq_not or_false false_or eu ai aj aP bh bZ cm aW bx aK bf cP bI
def js (n lo hi:Int):Bool:=decide (lo<=n)&&decide (n<=hi)
theorem eL {n lo hi:Int} (h:js n lo hi=true):lo<=n/\n<=hi:=by simpa[js]using h
theorem jo {n lo hi:Int} (h:lo<=n/\n<=hi):js n lo hi=true:=by simpa[js]using h
def zf (p:ar):Bool:=js p.fP (-60) 60&&js p.fE (-60) 60
theorem k6 (n lo hi:Int):au Tryz.prog 28 [.int .i64 n,.int .i64 lo,.int .i64 hi] (.bool (js n lo hi)):=by
 refine au.body fF rfl fun hl n0=>?_
 clear hl
 by_cases h1:lo<=n
 ·(try((repeat(revert hN;revert N;apply Pn.out));refine wk @h1 ?_;(repeat(refine Pn.mk ?_;intro N hN))))
  exact cu (b:=decide (n<=hi)) (.inl rfl) (sd @Nat.zero_add) (by simp[js,h1])
 ·(try((repeat(revert hN;revert N;apply Pn.out));refine wk @h1 ?_;(repeat(refine Pn.mk ?_;intro N hN))))
  exact cu (b:=false) (.inl rfl) (sd @Nat.zero_add) (by simp[js,h1])
theorem mu (n lo hi:Int):au Tryz.prog 104 [.int .i64 n,.int .i64 lo,.int .i64 hi] (.bool (js n lo hi)):=by
 refine au.body fF rfl fun hl n0=>?_
 clear hl
 by_cases h1:lo<=n
 ·(try((repeat(revert hN;revert N;apply Pn.out));refine wk @h1 ?_;(repeat(refine Pn.mk ?_;intro N hN))))
  exact cu (b:=decide (n<=hi)) (.inl rfl) (sd @Nat.zero_add) (by simp[js,h1])
 ·(try((repeat(revert hN;revert N;apply Pn.out));refine wk @h1 ?_;(repeat(refine Pn.mk ?_;intro N hN))))
  exact cu (b:=false) (.inl rfl) (sd @Nat.zero_add) (by simp[js,h1])
theorem LR (d:Int):au Tryz.prog 140 [.int .i64 d] (.bool (js d 0 3)):=by
 refine au.body fF rfl fun hl n0=>?_
 clear hl
 have h:=k6 d 0 3
 (repeat(first|((repeat(revert hN;revert N;apply Pn.out));refine wk @Nat.zero_add ?_;(repeat(refine Pn.mk ?_;intro N hN)))|((try apply Or.inl);refine⟨_,au.x (h) (sd @Nat.zero_add),?_⟩;refine hN _ _ ?_;clear hN N)))
 exact cu (b:=js d 0 3) (.inl rfl) (sd @Nat.zero_add) rfl
theorem tb (p:ar):au Tryz.prog 87 [.agg (ah p)] (.bool (zf p)):=by
 refine au.body fF rfl fun hl n0=>?_
 clear hl
 have h1:=k6 p.fP (-60) 60
 have h2:=k6 p.fE (-60) 60
 by_cases q:js p.fP (-60) 60=true
 ·rw[q]at h1
  (repeat(first|((repeat(revert hN;revert N;apply Pn.out));refine wk @ah.eq_1 ?_;(repeat(refine Pn.mk ?_;intro N hN)))|((try apply Or.inl);refine⟨_,au.x (h1) (sd @ah.eq_1),?_⟩;refine hN _ _ ?_;clear hN N)|((try apply Or.inl);refine⟨_,au.x (h2) (sd @ah.eq_1),?_⟩;refine hN _ _ ?_;clear hN N)))
  exact cu (b:=js p.fE (-60) 60) (.inl rfl) (sd @Nat.zero_add) (by rw[zf,q];rfl)
 ·rw[Bool.not_eq_true]at q
  rw[q]at h1
  (repeat(first|((repeat(revert hN;revert N;apply Pn.out));refine wk @ah.eq_1 ?_;(repeat(refine Pn.mk ?_;intro N hN)))|((try apply Or.inl);refine⟨_,au.x (h1) (sd @ah.eq_1),?_⟩;refine hN _ _ ?_;clear hN N)|((try apply Or.inl);refine⟨_,au.x (h2) (sd @ah.eq_1),?_⟩;refine hN _ _ ?_;clear hN N)))
  exact cu (b:=false) (.inl rfl) (sd @Nat.zero_add) (by rw[zf,q];rfl)
theorem tJ (p:ar):au Tryz.prog 77 [.agg (ah p)] (.bool (zf p)):=by
 refine au.body fF rfl fun hl n0=>?_
 clear hl
 have h1:=mu p.fP (-60) 60
 have h2:=mu p.fE (-60) 60
 by_cases q:js p.fP (-60) 60=true
 ·rw[q]at h1
  (repeat(first|((repeat(revert hN;revert N;apply Pn.out));refine wk @ah.eq_1 ?_;(repeat(refine Pn.mk ?_;intro N hN)))|((try apply Or.inl);refine⟨_,au.x (h1) (sd @ah.eq_1),?_⟩;refine hN _ _ ?_;clear hN N)|((try apply Or.inl);refine⟨_,au.x (h2) (sd @ah.eq_1),?_⟩;refine hN _ _ ?_;clear hN N)))
  exact cu (b:=js p.fE (-60) 60) (.inl rfl) (sd @Nat.zero_add) (by rw[zf,q];rfl)
 ·rw[Bool.not_eq_true]at q
  rw[q]at h1
  (repeat(first|((repeat(revert hN;revert N;apply Pn.out));refine wk @ah.eq_1 ?_;(repeat(refine Pn.mk ?_;intro N hN)))|((try apply Or.inl);refine⟨_,au.x (h1) (sd @ah.eq_1),?_⟩;refine hN _ _ ?_;clear hN N)|((try apply Or.inl);refine⟨_,au.x (h2) (sd @ah.eq_1),?_⟩;refine hN _ _ ?_;clear hN N)))
  exact cu (b:=false) (.inl rfl) (sd @Nat.zero_add) (by rw[zf,q];rfl)
def tp (d:Int):Int:=if js d 0 3 then(d+2) % 4 else -1
def dq (p:ar) (d:Int):ar:=
 if d=0 then⟨p.fP,p.fE+1⟩else if d=1 then⟨p.fP+1,p.fE⟩else if d=2 then⟨p.fP,p.fE-1⟩else if d=3 then⟨p.fP-1,p.fE⟩else p
def iB (n:Int):Prop:=-4611686018427387904<=n/\n<=4611686018427387904
theorem rl (p:ar) (d:Int) (hd:js d 0 3=true) (hx:iB p.fP) (hy:iB p.fE):au Tryz.prog 112 [.agg (ah p),.int .i64 d] (.agg (ah (dq p d))):=by
 refine au.body fF rfl fun hl n0=>?_
 clear hl
 obtain⟨x1,x2⟩:=hx
 obtain⟨y1,y2⟩:=hy
 have w1:IntKind.i64.wrap (p.fP+1)=p.fP+1:=cD ae
 have w2:IntKind.i64.wrap (p.fP-1)=p.fP-1:=cD ae
 have w3:IntKind.i64.wrap (p.fE+1)=p.fE+1:=cD ae
 have w4:IntKind.i64.wrap (p.fE-1)=p.fE-1:=cD ae
 have hb:=eL hd
 have hc:d=0∨d=1∨d=2∨d=3:=ae
 rcases hc with rfl|rfl|rfl|rfl
 ·(try((repeat(revert hN;revert N;apply Pn.out));refine wk (tw @ah.eq_1 @w3) ?_;(repeat(refine Pn.mk ?_;intro N hN))))
  exact pw (.inl rfl) (vs:=[.agg (ah (dq p 0))]) (by simp only[go_sem, ↓reduceIte,Nat.reduceEqDiff,Nat.reduceAdd,Nat.reduceSub,Nat.reduceLeDiff,reduceCtorEq,gS,jD,ah,dq]) (by simp[gx,ah,gU,fb])
 ·(try((repeat(revert hN;revert N;apply Pn.out));refine wk (tw @ah.eq_1 @w1) ?_;(repeat(refine Pn.mk ?_;intro N hN))))
  exact pw (.inl rfl) (vs:=[.agg (ah (dq p 1))]) (by simp[gS,jD,ah,dq,ld,rowAt,bK,upd,part]) (by simp[gx,ah,gU,fb])
 ·(try((repeat(revert hN;revert N;apply Pn.out));refine wk (tw @ah.eq_1 @w4) ?_;(repeat(refine Pn.mk ?_;intro N hN))))
  exact pw (.inl rfl) (vs:=[.agg (ah (dq p 2))]) (by simp[gS,jD,ah,dq,ld,rowAt,bK,upd,part]) (by simp[gx,ah,gU,fb])
 ·(try((repeat(revert hN;revert N;apply Pn.out));refine wk (tw @ah.eq_1 @w2) ?_;(repeat(refine Pn.mk ?_;intro N hN))))
  exact pw (.inl rfl) (vs:=[.agg (ah (dq p 3))]) (by simp[gS,jD,ah,dq,ld,rowAt,bK,upd,part]) (by simp[gx,ah,gU,fb])
theorem CC (p p2:ar) (x y:Int) (hx:IntKind.i64.wrap (p.fP+p2.fP)=x) (hy:IntKind.i64.wrap (p.fE+p2.fE)=y):au Tryz.prog 135 [.agg (ah p),.agg (ah p2)] (.agg [.int .i64 x,.int .i64 y]):=by
 refine au.body fF rfl fun hl n0=>?_
 clear hl
 (try((repeat(revert hN;revert N;apply Pn.out));refine wk (tw @ah.eq_1 (tw @hx @hy)) ?_;(repeat(refine Pn.mk ?_;intro N hN))))
 exact pw (.inl rfl) (vs:=[.agg [.int .i64 x,.int .i64 y]]) (by simp only[go_sem, ↓reduceIte,Nat.reduceEqDiff,Nat.reduceAdd,Nat.reduceSub,Nat.reduceLeDiff,reduceCtorEq,gS,jD,ah]) (by simp[gx,gU,fb])
theorem GZ (p:ar) (d:Int) (hd:js d 0 3=true) (hx:iB p.fP) (hy:iB p.fE):au Tryz.prog 106 [.agg (ah p),.int .i64 d] (.agg (ah (dq p d))):=by
 refine au.body fF rfl fun hl n0=>?_
 clear hl
 obtain⟨x1,x2⟩:=hx
 obtain⟨y1,y2⟩:=hy
 have hb:=eL hd
 have hc:d=0∨d=1∨d=2∨d=3:=ae
 rcases hc with rfl|rfl|rfl|rfl
 ·have h:=CC p ⟨0,1⟩ (p.fP) (p.fE+1) (by rw[cD (by constructor<;>simp only<;>omega)]<;>(try simp only)<;>(try omega)) (by rw[cD (by constructor<;>simp only<;>omega)]<;>(try simp only)<;>(try omega))
  simp only[ah]at h
  (repeat(first|((repeat(revert hN;revert N;apply Pn.out));refine wk @ah.eq_1 ?_;(repeat(refine Pn.mk ?_;intro N hN)))|((try apply Or.inl);refine⟨_,au.x (h) (sd @ah.eq_1),?_⟩;refine hN _ _ ?_;clear hN N)))
  exact pw (.inl rfl) (vs:=[.agg (ah (dq p 0))]) (by simp[gS,jD,ah,dq,ld,rowAt,bK,upd,part]) (by simp[gx,ah,gU,fb])
 ·have h:=CC p ⟨1,0⟩ (p.fP+1) (p.fE) (by rw[cD (by constructor<;>simp only<;>omega)]<;>(try simp only)<;>(try omega)) (by rw[cD (by constructor<;>simp only<;>omega)]<;>(try simp only)<;>(try omega))
  simp only[ah]at h
  (repeat(first|((repeat(revert hN;revert N;apply Pn.out));refine wk @ah.eq_1 ?_;(repeat(refine Pn.mk ?_;intro N hN)))|((try apply Or.inl);refine⟨_,au.x (h) (sd @ah.eq_1),?_⟩;refine hN _ _ ?_;clear hN N)))
  exact pw (.inl rfl) (vs:=[.agg (ah (dq p 1))]) (by simp[gS,jD,ah,dq,ld,rowAt,bK,upd,part]) (by simp[gx,ah,gU,fb])
 ·have h:=CC p ⟨0,(-1)⟩ (p.fP) (p.fE-1) (by rw[cD (by constructor<;>simp only<;>omega)]<;>(try simp only)<;>(try omega)) (by rw[cD (by constructor<;>simp only<;>omega)]<;>(try simp only)<;>(try omega))
  simp only[ah]at h
  (repeat(first|((repeat(revert hN;revert N;apply Pn.out));refine wk @ah.eq_1 ?_;(repeat(refine Pn.mk ?_;intro N hN)))|((try apply Or.inl);refine⟨_,au.x (h) (sd @ah.eq_1),?_⟩;refine hN _ _ ?_;clear hN N)))
  exact pw (.inl rfl) (vs:=[.agg (ah (dq p 2))]) (by simp[gS,jD,ah,dq,ld,rowAt,bK,upd,part]) (by simp[gx,ah,gU,fb])
 ·have h:=CC p ⟨(-1),0⟩ (p.fP-1) (p.fE) (by rw[cD (by constructor<;>simp only<;>omega)]<;>(try simp only)<;>(try omega)) (by rw[cD (by constructor<;>simp only<;>omega)]<;>(try simp only)<;>(try omega))
  simp only[ah]at h
  (repeat(first|((repeat(revert hN;revert N;apply Pn.out));refine wk @ah.eq_1 ?_;(repeat(refine Pn.mk ?_;intro N hN)))|((try apply Or.inl);refine⟨_,au.x (h) (sd @ah.eq_1),?_⟩;refine hN _ _ ?_;clear hN N)))
  exact pw (.inl rfl) (vs:=[.agg (ah (dq p 3))]) (by simp[gS,jD,ah,dq,ld,rowAt,bK,upd,part]) (by simp[gx,ah,gU,fb])
theorem GC (d:Int) (hd:js d 0 3=true):au Tryz.prog 141 [.int .i64 d] (.int .i64 (tp d)):=by
 refine au.body fF rfl fun hl n0=>?_
 clear hl
 have hb:=eL hd
 have hw:IntKind.i64.wrap (d+2)=d+2:=cD ae
 have ht:Int.tmod (d+2) 4=(d+2) % 4:=Int.tmod_eq_emod_of_nonneg ae
 have h4:¬((4:Int)=0):=ae
 (try((repeat(revert hN;revert N;apply Pn.out));refine wk (tw @hw (tw @ht @h4)) ?_;(repeat(refine Pn.mk ?_;intro N hN))))
 exact dU (b:=(d+2) % 4) (.inl rfl) (sd @Nat.zero_add) (by rw[tp,if_pos hd])
theorem ya (d:Int) (hd:js d 0 3=true):au Tryz.prog 114 [.int .i64 d] (.int .i64 (tp d)):=by
 refine au.body fF rfl fun hl n0=>?_
 clear hl
 have hb:=eL hd
 have hw:IntKind.i64.wrap (d+2)=d+2:=cD ae
 have ht:Int.tmod (d+2) 4=(d+2) % 4:=Int.tmod_eq_emod_of_nonneg ae
 have h4:¬((4:Int)=0):=ae
 have h:=LR d
 rw[hd]at h
 (repeat(first|((repeat(revert hN;revert N;apply Pn.out));refine wk (tw @hw (tw @ht @h4)) ?_;(repeat(refine Pn.mk ?_;intro N hN)))|((try apply Or.inl);refine⟨_,au.x (h) (sd (tw @hw (tw @ht @h4))),?_⟩;refine hN _ _ ?_;clear hN N)))
 exact dU (b:=(d+2) % 4) (.inl rfl) (sd @Nat.zero_add) (by rw[tp,if_pos hd])
def eU (s:ay) (t:Int):Bool:=js t 0 ((s.aq.length:Int)-1)
theorem yR (s:ay) (t:Int):au Tryz.prog 95 [.dv (ad s),.int .i64 t] (.bool (eU s t)):=by
 refine au.body fF rfl fun hl n0=>?_
 have hn:s.aq.length<=9223372036854775807:=by
  have h1:=(hl (.dv (ad s)) (by simp)).Es (a:=.sl (s.aq.map dD)) (by simp[ad])
  simpa using h1.len
 clear hl
 have hw:IntKind.i64.wrap ((s.aq.length:Int)-1)=(s.aq.length:Int)-1:=cD ae
 have h:=k6 t 0 ((s.aq.length:Int)-1)
 (repeat(first|((repeat(revert hN;revert N;apply Pn.out));refine wk (tw @ad.eq_1 @hw) ?_;(repeat(refine Pn.mk ?_;intro N hN)))|((try apply Or.inl);refine⟨_,au.x (h) (sd (tw @ad.eq_1 @hw)),?_⟩;refine hN _ _ ?_;clear hN N)))
 exact cu (b:=eU s t) (.inl rfl) (by simp only[go_sem, ↓reduceIte,Nat.reduceEqDiff,Nat.reduceAdd,Nat.reduceSub,Nat.reduceLeDiff,reduceCtorEq,eU]) rfl
theorem AZ (t n:Int) (h0:0<=n) (h1:n<=9223372036854775807):au Tryz.prog 78 [.int .i64 t,.int .i64 n] (.bool (js t 0 (n-1))):=by
 refine au.body fF rfl fun hl n0=>?_
 clear hl
 have hw:IntKind.i64.wrap (n-1)=n-1:=cD ae
 have h:=mu t 0 (n-1)
 (repeat(first|((repeat(revert hN;revert N;apply Pn.out));refine wk @hw ?_;(repeat(refine Pn.mk ?_;intro N hN)))|((try apply Or.inl);refine⟨_,au.x (h) (sd @hw),?_⟩;refine hN _ _ ?_;clear hN N)))
 exact cu (b:=js t 0 (n-1)) (.inl rfl) (sd @Nat.zero_add) rfl
theorem LQ (s:ay) (t:Int):au Tryz.prog 55 [.agg (ad s),.int .i64 t] (.bool (eU s t)):=by
 refine au.body fF rfl fun hl n0=>?_
 have hn:s.aq.length<=9223372036854775807:=by
  have h1:=(hl (.agg (ad s)) (by simp)).QW (a:=.sl (s.aq.map dD)) (by simp[ad])
  simpa using h1.len
 clear hl
 have h:=AZ t s.aq.length ae ae
 (repeat(first|((repeat(revert hN;revert N;apply Pn.out));refine wk @ad.eq_1 ?_;(repeat(refine Pn.mk ?_;intro N hN)))|((try apply Or.inl);refine⟨_,au.x (h) (sd @ad.eq_1),?_⟩;refine hN _ _ ?_;clear hN N)))
 exact cu (b:=eU s t) (.inl rfl) (by simp only[go_sem, ↓reduceIte,Nat.reduceEqDiff,Nat.reduceAdd,Nat.reduceSub,Nat.reduceLeDiff,reduceCtorEq,eU]) rfl
def Cz:jE:=⟨⟨#[]⟩,[]⟩
def ej (s:ay) (t:Int):jE:=s.aq.getD t.toNat Cz
def ei (t:jE) (d:Int):Int:=t.ep.getD d.toNat 0
def sU (s:ay) (g:Int):kE:=s.br.getD g.toNat ⟨⟨#[]⟩,0⟩
def sf (s:ay) (g:Int):Int:=if g=0 then 0 else(sU s (g-1)).iX
def iI (s:ay) (a d b:Int):Int:=if ei (ej s a) d=ei (ej s b) (tp d)then sf s (ei (ej s a) d)else 0
structure jV (s:ay):Prop where
 qP:∀t∈s.aq,t.ep.length=4
 wG:∀t∈s.aq,∀g∈t.ep,0<=g/\g<=s.br.length
theorem getD_map {α β:Type} (e:α->β) {l:List α} {k:Nat} {d:α} (h:k<l.length):(l.map e)[k]? =some (e (l.getD k d)):=by simp[List.getD_eq_getElem?_getD,h]
theorem sD (s:ay) (g:Int) (h0:0<=g) (h1:g<=s.br.length):au Tryz.prog 115 [.dv (ad s),.int .i64 g] (.int .i64 (sf s g)):=by
 refine au.body fF rfl fun hl n0=>?_
 have hn:s.br.length<=9223372036854775807:=by
  have h1:=(hl (.dv (ad s)) (by simp)).Es (a:=.sl (s.br.map ez)) (by simp[ad])
  simpa using h1.len
 clear hl
 by_cases hg:g=0
 ·have e:decide (g=0)=true:=decide_eq_true hg
  (try((repeat(revert hN;revert N;apply Pn.out));refine wk (tw @ad.eq_1 @e) ?_;(repeat(refine Pn.mk ?_;intro N hN))))
  exact dU (b:=0) (.inl rfl) (sd @Nat.zero_add) (by rw[sf,if_pos hg])
 ·have e:decide (g=0)=false:=decide_eq_false hg
  have hw:IntKind.i64.wrap (g-1)=g-1:=cD ae
  have kC:0<=g-1:=ae
  have ji:(s.br.map ez)[(g-1).toNat]? =some (ez (sU s (g-1))):=getD_map ez ae
  (try((repeat(revert hN;revert N;apply Pn.out));refine wk (tw @ad.eq_1 (tw @e (tw @hw (tw @kC (tw @ji @ez.eq_1))))) ?_;(repeat(refine Pn.mk ?_;intro N hN))))
  exact dU (b:=(sU s (g-1)).iX) (.inl rfl) (sd @Nat.zero_add) (by rw[sf,if_neg hg])
theorem lx {s:ay} {a:Int} (h:eU s a=true):0<=a/\(s.aq.map dD)[a.toNat]? =some (dD (ej s a))/\ej s a∈s.aq:=by
 have h':=eL h
 have eM:a.toNat<s.aq.length:=ae
 refine⟨h'.1,getD_map dD eM,?_⟩
 unfold ej
 rw[List.getD_eq_getElem?_getD,List.getElem?_eq_getElem eM]
 exact List.getElem_mem eM
theorem ml {t:jE} {d:Int} (h:t.ep.length=4) (hd:js d 0 3=true):(t.ep.map aJ)[d.toNat]? =some [.int .i64 (ei t d)]:=by
 have:=eL hd
 exact getD_map aJ ae
theorem zw {t:jE} {d:Int} (h:t.ep.length=4) (hd:js d 0 3=true):ei t d∈t.ep:=by
 have:=eL hd
 have eM:d.toNat<t.ep.length:=ae
 unfold ei
 rw[List.getD_eq_getElem?_getD,List.getElem?_eq_getElem eM]
 exact List.getElem_mem eM
theorem tq {d:Int} (hd:js d 0 3=true):js (tp d) 0 3=true:=by
 have:=eL hd
 refine jo ?_
 rw[tp,if_pos hd];omega
theorem A5 (s:ay) (hF:jV s) (a d b:Int) (ha:eU s a=true) (hb:eU s b=true) (hd:js d 0 3=true):au Tryz.prog 124 [.dv (ad s),.int .i64 a,.int .i64 d,.int .i64 b] (.int .i64 (iI s a d b)):=by
 refine au.body fF rfl fun hl n0=>?_
 clear hl
 obtain⟨a0,a1,a2⟩:=lx ha
 obtain⟨b0,b1,b2⟩:=lx hb
 have s1:=ml (hF.qP _ a2) hd
 have s2:=ml (hF.qP _ b2) (tq hd)
 have gl:=hF.wG _ a2 _ (zw (hF.qP _ a2) hd)
 have d0:=(eL hd).1
 have d1:=(eL (tq hd)).1
 have h:=ya d hd
 have hs:=sD s (ei (ej s a) d) gl.1 gl.2
 rw[ad]at hs
 by_cases e:ei (ej s a) d=ei (ej s b) (tp d)
 ·have e':decide (ei (ej s a) d=ei (ej s b) (tp d))=true:=decide_eq_true e
  (repeat(first|((repeat(revert hN;revert N;apply Pn.out));refine wk (tw @ad.eq_1 (tw @dD.eq_1 (tw @a0 (tw @a1 (tw @b0 (tw @b1 (tw @s1 (tw @s2 (tw @d0 (tw @d1 @e')))))))))) ?_;(repeat(refine Pn.mk ?_;intro N hN)))|((try apply Or.inl);refine⟨_,au.x (h) (sd (tw @ad.eq_1 (tw @dD.eq_1 (tw @a0 (tw @a1 (tw @b0 (tw @b1 (tw @s1 (tw @s2 (tw @d0 (tw @d1 @e'))))))))))),?_⟩;refine hN _ _ ?_;clear hN N)|((try apply Or.inl);refine⟨_,au.x (hs) (sd (tw @ad.eq_1 (tw @dD.eq_1 (tw @a0 (tw @a1 (tw @b0 (tw @b1 (tw @s1 (tw @s2 (tw @d0 (tw @d1 @e'))))))))))),?_⟩;refine hN _ _ ?_;clear hN N)))
  exact dU (b:=sf s (ei (ej s a) d)) (.inl rfl) (sd @Nat.zero_add) (by rw[iI,if_pos e])
 ·have e':decide (ei (ej s a) d=ei (ej s b) (tp d))=false:=decide_eq_false e
  (repeat(first|((repeat(revert hN;revert N;apply Pn.out));refine wk (tw @ad.eq_1 (tw @dD.eq_1 (tw @a0 (tw @a1 (tw @b0 (tw @b1 (tw @s1 (tw @s2 (tw @d0 (tw @d1 @e')))))))))) ?_;(repeat(refine Pn.mk ?_;intro N hN)))|((try apply Or.inl);refine⟨_,au.x (h) (sd (tw @ad.eq_1 (tw @dD.eq_1 (tw @a0 (tw @a1 (tw @b0 (tw @b1 (tw @s1 (tw @s2 (tw @d0 (tw @d1 @e'))))))))))),?_⟩;refine hN _ _ ?_;clear hN N)))
  exact dU (b:=0) (.inl rfl) (sd @Nat.zero_add) (by rw[iI,if_neg e])
theorem G2 (s:ay) (hF:jV s) (a d:Int) (ha:eU s a=true) (hd:js d 0 3=true):au Tryz.prog 142 [.agg (ad s),.int .i64 a,.int .i64 d] (.int .i64 (sf s (ei (ej s a) d))):=by
 refine au.body fF rfl fun hl n0=>?_
 have hn:s.br.length<=9223372036854775807:=by
  have h1:=(hl (.agg (ad s)) (by simp)).QW (a:=.sl (s.br.map ez)) (by simp[ad])
  simpa using h1.len
 clear hl
 obtain⟨a0,a1,a2⟩:=lx ha
 have s1:=ml (hF.qP _ a2) hd
 have gl:=hF.wG _ a2 _ (zw (hF.qP _ a2) hd)
 have d0:=(eL hd).1
 by_cases hg:ei (ej s a) d=0
 ·have e:¬(0<ei (ej s a) d):=ae
  (try((repeat(revert hN;revert N;apply Pn.out));refine wk (tw @ad.eq_1 (tw @dD.eq_1 (tw @a0 (tw @a1 (tw @s1 (tw @d0 @e)))))) ?_;(repeat(refine Pn.mk ?_;intro N hN))))
  exact dU (b:=0) (.inl rfl) (sd @Nat.zero_add) (by rw[sf,if_pos hg])
 ·have e:0<ei (ej s a) d:=ae
  have hw:IntKind.i64.wrap (ei (ej s a) d-1)=ei (ej s a) d-1:=cD ae
  have kC:0<=ei (ej s a) d-1:=ae
  have ji:(s.br.map ez)[(ei (ej s a) d-1).toNat]? =some (ez (sU s (ei (ej s a) d-1))):=getD_map ez ae
  (try((repeat(revert hN;revert N;apply Pn.out));refine wk (tw @ad.eq_1 (tw @dD.eq_1 (tw @a0 (tw @a1 (tw @s1 (tw @d0 (tw @e (tw @hw (tw @kC (tw @ji @ez.eq_1)))))))))) ?_;(repeat(refine Pn.mk ?_;intro N hN))))
  exact dU (b:=(sU s (ei (ej s a) d-1)).iX) (.inl rfl) (sd @Nat.zero_add) (by rw[sf,if_neg hg])
theorem KP (s:ay) (hF:jV s) (a d b:Int) (ha:eU s a=true) (hb:eU s b=true) (hd:js d 0 3=true):au Tryz.prog 116 [.agg (ad s),.int .i64 a,.int .i64 d,.int .i64 b] (.int .i64 (iI s a d b)):=by
 refine au.body fF rfl fun hl n0=>?_
 clear hl
 obtain⟨a0,a1,a2⟩:=lx ha
 obtain⟨b0,b1,b2⟩:=lx hb
 have s1:=ml (hF.qP _ a2) hd
 have s2:=ml (hF.qP _ b2) (tq hd)
 have d0:=(eL hd).1
 have d1:=(eL (tq hd)).1
 have h:=GC d hd
 have hs:=G2 s hF a d ha hd
 rw[ad]at hs
 by_cases e:ei (ej s a) d=ei (ej s b) (tp d)
 ·have e':decide (ei (ej s a) d=ei (ej s b) (tp d))=true:=decide_eq_true e
  (repeat(first|((repeat(revert hN;revert N;apply Pn.out));refine wk (tw @ad.eq_1 (tw @dD.eq_1 (tw @a0 (tw @a1 (tw @b0 (tw @b1 (tw @s1 (tw @s2 (tw @d0 (tw @d1 @e')))))))))) ?_;(repeat(refine Pn.mk ?_;intro N hN)))|((try apply Or.inl);refine⟨_,au.x (h) (sd (tw @ad.eq_1 (tw @dD.eq_1 (tw @a0 (tw @a1 (tw @b0 (tw @b1 (tw @s1 (tw @s2 (tw @d0 (tw @d1 @e'))))))))))),?_⟩;refine hN _ _ ?_;clear hN N)|((try apply Or.inl);refine⟨_,au.x (hs) (sd (tw @ad.eq_1 (tw @dD.eq_1 (tw @a0 (tw @a1 (tw @b0 (tw @b1 (tw @s1 (tw @s2 (tw @d0 (tw @d1 @e'))))))))))),?_⟩;refine hN _ _ ?_;clear hN N)))
  exact dU (b:=sf s (ei (ej s a) d)) (.inl rfl) (sd @Nat.zero_add) (by rw[iI,if_pos e])
 ·have e':decide (ei (ej s a) d=ei (ej s b) (tp d))=false:=decide_eq_false e
  (repeat(first|((repeat(revert hN;revert N;apply Pn.out));refine wk (tw @ad.eq_1 (tw @dD.eq_1 (tw @a0 (tw @a1 (tw @b0 (tw @b1 (tw @s1 (tw @s2 (tw @d0 (tw @d1 @e')))))))))) ?_;(repeat(refine Pn.mk ?_;intro N hN)))|((try apply Or.inl);refine⟨_,au.x (h) (sd (tw @ad.eq_1 (tw @dD.eq_1 (tw @a0 (tw @a1 (tw @b0 (tw @b1 (tw @s1 (tw @s2 (tw @d0 (tw @d1 @e'))))))))))),?_⟩;refine hN _ _ ?_;clear hN N)))
  exact dU (b:=0) (.inl rfl) (sd @Nat.zero_add) (by rw[iI,if_neg e])
end Go.Proofs.YtiabgllilcfheaaGreat.V

namespace Go.Proofs.YtiabgllilcfheaaGreat
open Go.RowKit
def l8 (n:Int):Bool:=(decide (97<=n)&&decide (n<=122))||(decide (65<=n)&&decide (n<=90))
def mC (n:Int):Bool:=decide (48<=n)&&decide (n<=57)
def xc (i:Nat) (n:Int):Prop:=l8 n=true∨(0<i/\(mC n=true∨n=95))
def x9 (s:ByteArray):Prop:=(1<=s.size/\s.size<=12)/\∀i (h:i<s.size),xc i s[i].toNat
open Classical in
noncomputable def kD (s:ByteArray):Bool:=decide (x9 s)
theorem Gy {s:ByteArray} (h:x9 s):true=kD s:=by simp[kD,h]
theorem eY {s:ByteArray} (h:¬x9 s):false=kD s:=by simp[kD,h]
theorem EN {s:ByteArray} {b:Bool} (hb:b=true) (h:x9 s):b=kD s:=by simp[kD,h,hb]
theorem ur {s:ByteArray} {b:Bool} (hb:b=false) (h:¬x9 s):b=kD s:=by simp[kD,h,hb]
theorem yV (w:World) (n:Int):Calls Tryz.prog 119 #[.int .u8 n] w fun e w'=>e=.returned (.bool (l8 n))/\w=w':=by
 go_enter Tryz.func119,Tryz.ntmps119
 go_wp2_with fail
 all_goals
  go_ret
  exact⟨jC (by unfold l8;simp[*];try omega),rfl⟩
theorem IP (w:World) (n:Int):Calls Tryz.prog 120 #[.int .u8 n] w fun e w'=>e=.returned (.bool (mC n))/\w=w':=by
 go_enter Tryz.func120,Tryz.ntmps120
 go_wp2_with fail
 all_goals
  go_ret
  exact⟨jC (by unfold mC;simp[*];try omega),rfl⟩
theorem E6 (w:World) (s:ByteArray) (hs:s.size<=9223372036854775807):Calls Tryz.prog 92 #[.string s] w fun e w'=>e=.returned (.bool (kD s))/\Below w.heap.size w w':=by
 by_cases h1:1<=s.size
 case neg=>
  go_enter Tryz.func92,Tryz.ntmps92
  go_wp2_with fail
  go_ret
  exact⟨jC (eY fun h=>h1 h.1.1),Below.refl _ _⟩
 by_cases h2:s.size<=12
 case neg=>
  go_enter Tryz.func92,Tryz.ntmps92
  go_wp2_with fail
  go_ret
  exact⟨jC (eY fun h=>h2 h.1.2),Below.refl _ _⟩
 go_enter Tryz.func92,Tryz.ntmps92
 go_wp2_with fail
 refine(yV _ _).mono ?_
 rintro e w' ⟨rfl,rfl⟩
 cases h3:l8 s[0].toNat
 ·go_wp2_with fail
  go_ret
  exact⟨jC (eY fun h=>by have:=h.2 0 (by omega);simp only[xc]at this;rw[h3]at this;simp at this),Below.refl _ _⟩
 ·replace h3:=Lib.hid h3
  go_wp2_with fail
  go_loop [3] (fun i=>∃k:Nat,1<=k/\k<=s.size/\i=.int .i64 k/\Hid (∀j (h:j<s.size),j<k->xc j s[j].toNat)) (fun i=>s.size-(intOf i).toNat)
  case atStart=>exact⟨1,by omega,by omega,rfl,Lib.hid fun j h hj=>by
   obtain rfl:j=0:=by omega
   exact .inl h3.out⟩
  case round=>
   obtain⟨k,tC,hk,rfl,eP⟩:=hrel
   by_cases eM:k<s.size
   ·go_wp2_with fail
    refine(yV _ _).mono ?_
    rintro e w' ⟨rfl,rfl⟩
    have lQ:xc k s[k].toNat∨¬xc k s[k].toNat:=Classical.em _
    cases hl:l8 s[k].toNat
    ·go_wp2_with fail
     refine(IP _ _).mono ?_
     rintro e w' ⟨rfl,rfl⟩
     cases hd:mC s[k].toNat
     ·by_cases xF:(s[k].toNat:Int)=95
      ·have Yv:((s[k].toNat:Int) !=95)=false:=by simp;omega
       replace xF:=Lib.hid xF
       replace hl:=Lib.hid hl
       replace hd:=Lib.hid hd
       go_wp2_with fail
       go_round
       case rel=>exact⟨k+1,by omega,by omega,by go_num,Lib.hid fun j h hj=>by
        by_cases AN:j=k
        ·subst AN;exact .inr ⟨by omega,.inr xF.out⟩
        ·exact eP.out j h (by omega)⟩
       case measure=>simp[intOf];omega
      ·have Yv:((s[k].toNat:Int) !=95)=true:=by simp;omega
       replace xF:=Lib.hid xF
       replace hl:=Lib.hid hl
       replace hd:=Lib.hid hd
       go_wp2_with fail
       go_ret
       exact⟨jC (eY fun h=>by
        have:=h.2 k eM;simp only[xc,hl.out,hd.out]at this;exact xF.out (by simp at this;exact this.2)),Below.refl _ _⟩
     ·replace hl:=Lib.hid hl
      replace hd:=Lib.hid hd
      go_wp2_with fail
      go_round
      case rel=>exact⟨k+1,by omega,by omega,by go_num,Lib.hid fun j h hj=>by
       by_cases AN:j=k
       ·subst AN;exact .inr ⟨by omega,.inl hd.out⟩
       ·exact eP.out j h (by omega)⟩
      case measure=>simp[intOf];omega
    ·replace hl:=Lib.hid hl
     go_wp2_with fail
     go_round
     case rel=>exact⟨k+1,by omega,by omega,by go_num,Lib.hid fun j h hj=>by
      by_cases AN:j=k
      ·subst AN;exact .inl hl.out
      ·exact eP.out j h (by omega)⟩
     case measure=>simp[intOf];omega
   ·go_wp2_with fail
    go_ret
    exact⟨jC (Gy ⟨⟨h1,h2⟩,fun i h=>eP.out i h (by omega)⟩),Below.refl _ _⟩
theorem Ek (w:World) (s:ByteArray) (hs:s.size<=9223372036854775807):Calls Tryz.prog 132 #[.string s] w fun e w'=>e=.returned (.bool (kD s))/\w=w':=by
 go_enter Tryz.func132,Tryz.ntmps132
 go_wp2_with fail
 go_loop [8] (fun i=>∃k:Nat,k<=s.size/\i=.int .i64 k/\Hid (∀j (h:j<s.size),j<k->xc j s[j].toNat)) (fun i=>s.size-(intOf i).toNat)
 case atStart=>exact⟨0,by omega,rfl,Lib.hid fun j h hj=>by omega⟩
 case round=>
  obtain⟨k,hk,rfl,eP⟩:=hrel
  by_cases eM:k<s.size
  ·have hc:(s[k].toNat:Int)<48∨(48<=(s[k].toNat:Int)/\(s[k].toNat:Int)<=57)∨(58<=(s[k].toNat:Int)/\(s[k].toNat:Int)<=64)∨(65<=(s[k].toNat:Int)/\(s[k].toNat:Int)<=90)∨(91<=(s[k].toNat:Int)/\(s[k].toNat:Int)<=94)∨(95<=(s[k].toNat:Int)/\(s[k].toNat:Int)<=95)∨(96<=(s[k].toNat:Int)/\(s[k].toNat:Int)<=96)∨(97<=(s[k].toNat:Int)/\(s[k].toNat:Int)<=122)∨123<=(s[k].toNat:Int):=by omega
   by_cases xk:k=0
   ·subst xk
    rcases hc with h|⟨h,h'⟩|⟨h,h'⟩|⟨h,h'⟩|⟨h,h'⟩|⟨h,h'⟩|⟨h,h'⟩|⟨h,h'⟩|h
    ·have xF:((s[0].toNat:Int) !=95)=true:=by simp;try omega
     go_wp2_with fail
     all_goals first
      |(go_ret;exact⟨jC (eY fun hh=>by have:=hh.2 0 eM;simp[xc,l8,mC]at this;omega),rfl⟩)
      |(exfalso;simp_all;done)
      |(exfalso;simp_all;omega)
    ·have xF:((s[0].toNat:Int) !=95)=true:=by simp;try omega
     go_wp2_with fail
     all_goals first
      |(go_ret;exact⟨jC (eY fun hh=>by have:=hh.2 0 eM;simp[xc,l8,mC]at this;omega),rfl⟩)
      |(exfalso;simp_all;done)
      |(exfalso;simp_all;omega)
    ·have xF:((s[0].toNat:Int) !=95)=true:=by simp;try omega
     go_wp2_with fail
     all_goals first
      |(go_ret;exact⟨jC (eY fun hh=>by have:=hh.2 0 eM;simp[xc,l8,mC]at this;omega),rfl⟩)
      |(exfalso;simp_all;done)
      |(exfalso;simp_all;omega)
    ·have xF:((s[0].toNat:Int) !=95)=true:=by simp;try omega
     go_wp2_with fail
     go_round
     case rel=>exact⟨0+1,by omega,by go_num,Lib.hid fun j hj AN=>by
      by_cases Lt:j=0
      ·subst Lt;simp[xc,l8,mC];omega
      ·exact eP.out j hj (by omega)⟩
     case measure=>simp[intOf];try omega
    ·have xF:((s[0].toNat:Int) !=95)=true:=by simp;try omega
     go_wp2_with fail
     all_goals first
      |(go_ret;exact⟨jC (eY fun hh=>by have:=hh.2 0 eM;simp[xc,l8,mC]at this;omega),rfl⟩)
      |(exfalso;simp_all;done)
      |(exfalso;simp_all;omega)
    ·have xF:((s[0].toNat:Int) !=95)=false:=by simp;try omega
     go_wp2_with fail
     all_goals first
      |(go_ret;exact⟨jC (eY fun hh=>by have:=hh.2 0 eM;simp[xc,l8,mC]at this;omega),rfl⟩)
      |(exfalso;simp_all;done)
      |(exfalso;simp_all;omega)
    ·have xF:((s[0].toNat:Int) !=95)=true:=by simp;try omega
     go_wp2_with fail
     all_goals first
      |(go_ret;exact⟨jC (eY fun hh=>by have:=hh.2 0 eM;simp[xc,l8,mC]at this;omega),rfl⟩)
      |(exfalso;simp_all;done)
      |(exfalso;simp_all;omega)
    ·have xF:((s[0].toNat:Int) !=95)=true:=by simp;try omega
     go_wp2_with fail
     go_round
     case rel=>exact⟨0+1,by omega,by go_num,Lib.hid fun j hj AN=>by
      by_cases Lt:j=0
      ·subst Lt;simp[xc,l8,mC];omega
      ·exact eP.out j hj (by omega)⟩
     case measure=>simp[intOf];try omega
    ·have xF:((s[0].toNat:Int) !=95)=true:=by simp;try omega
     go_wp2_with fail
     all_goals first
      |(go_ret;exact⟨jC (eY fun hh=>by have:=hh.2 0 eM;simp[xc,l8,mC]at this;omega),rfl⟩)
      |(exfalso;simp_all;done)
      |(exfalso;simp_all;omega)
   ·have hz:((k:Int)==0)=false:=by simpa using xk
    have tC:1<=k:=by omega
    clear xk
    rcases hc with h|⟨h,h'⟩|⟨h,h'⟩|⟨h,h'⟩|⟨h,h'⟩|⟨h,h'⟩|⟨h,h'⟩|⟨h,h'⟩|h
    ·have xF:((s[k].toNat:Int) !=95)=true:=by simp;try omega
     go_wp2_with fail
     all_goals first
      |(go_ret;exact⟨jC (eY fun hh=>by have:=hh.2 k eM;simp[xc,l8,mC]at this;omega),rfl⟩)
      |(exfalso;simp_all;done)
      |(exfalso;simp_all;omega)
    ·have xF:((s[k].toNat:Int) !=95)=true:=by simp;try omega
     go_wp2_with fail
     go_round
     case rel=>exact⟨k+1,by omega,by go_num,Lib.hid fun j hj AN=>by
      by_cases Lt:j=k
      ·subst Lt;simp[xc,l8,mC];omega
      ·exact eP.out j hj (by omega)⟩
     case measure=>simp[intOf];try omega
    ·have xF:((s[k].toNat:Int) !=95)=true:=by simp;try omega
     go_wp2_with fail
     all_goals first
      |(go_ret;exact⟨jC (eY fun hh=>by have:=hh.2 k eM;simp[xc,l8,mC]at this;omega),rfl⟩)
      |(exfalso;simp_all;done)
      |(exfalso;simp_all;omega)
    ·have xF:((s[k].toNat:Int) !=95)=true:=by simp;try omega
     go_wp2_with fail
     go_round
     case rel=>exact⟨k+1,by omega,by go_num,Lib.hid fun j hj AN=>by
      by_cases Lt:j=k
      ·subst Lt;simp[xc,l8,mC];omega
      ·exact eP.out j hj (by omega)⟩
     case measure=>simp[intOf];try omega
    ·have xF:((s[k].toNat:Int) !=95)=true:=by simp;try omega
     go_wp2_with fail
     all_goals first
      |(go_ret;exact⟨jC (eY fun hh=>by have:=hh.2 k eM;simp[xc,l8,mC]at this;omega),rfl⟩)
      |(exfalso;simp_all;done)
      |(exfalso;simp_all;omega)
    ·have xF:((s[k].toNat:Int) !=95)=false:=by simp;try omega
     go_wp2_with fail
     go_round
     case rel=>exact⟨k+1,by omega,by go_num,Lib.hid fun j hj AN=>by
      by_cases Lt:j=k
      ·subst Lt;simp[xc,l8,mC];omega
      ·exact eP.out j hj (by omega)⟩
     case measure=>simp[intOf];try omega
    ·have xF:((s[k].toNat:Int) !=95)=true:=by simp;try omega
     go_wp2_with fail
     all_goals first
      |(go_ret;exact⟨jC (eY fun hh=>by have:=hh.2 k eM;simp[xc,l8,mC]at this;omega),rfl⟩)
      |(exfalso;simp_all;done)
      |(exfalso;simp_all;omega)
    ·have xF:((s[k].toNat:Int) !=95)=true:=by simp;try omega
     go_wp2_with fail
     go_round
     case rel=>exact⟨k+1,by omega,by go_num,Lib.hid fun j hj AN=>by
      by_cases Lt:j=k
      ·subst Lt;simp[xc,l8,mC];omega
      ·exact eP.out j hj (by omega)⟩
     case measure=>simp[intOf];try omega
    ·have xF:((s[k].toNat:Int) !=95)=true:=by simp;try omega
     go_wp2_with fail
     all_goals first
      |(go_ret;exact⟨jC (eY fun hh=>by have:=hh.2 k eM;simp[xc,l8,mC]at this;omega),rfl⟩)
      |(exfalso;simp_all;done)
      |(exfalso;simp_all;omega)
  ·by_cases h1:1<=s.size
   ·by_cases h2:s.size<=12
    ·go_wp2_with fail
     go_ret
     exact⟨jC (EN (by simp<;>omega) ⟨⟨h1,h2⟩,fun i h=>eP.out i h (by omega)⟩),rfl⟩
    ·go_wp2_with fail
     go_ret
     exact⟨jC (ur (by simp<;>omega) fun h=>h2 h.1.2),rfl⟩
   ·go_wp2_with fail
    go_ret
    exact⟨jC (ur (by simp<;>omega) fun h=>h1 h.1.1),rfl⟩
end Go.Proofs.YtiabgllilcfheaaGreat

namespace Go.Proofs.YtiabgllilcfheaaGreat.V
open Go.RowKit
theorem mixed:Tryz.prog.follows .mixedOrders=true:=by kernel_rfl
variable {P:Program} {w:World} {D:Nat->Prop} {ι:Names}
theorem nz {f:Nat} {args:List AV} {r:AV} {vs0:Array Value} {u0:Value} (pq:∀(w:World) (D:Nat->Prop) (ι:Names) vs,gy P w D ι args vs->vs=vs0) (hr:∀(w:World) (D:Nat->Prop) (ι:Names),dy P w D ι r u0) (Ou:∀g,gU g 6 r=some r)
  (h:∀w,Calls P f vs0 w fun e w'=>e=.returned u0/\Below w.heap.size w w'):au P f args r:=by
 intro n
 refine iS fun hs D ι w vs S U A=>?_
 have:=pq w D ι vs A
 subst this
 refine(h w).mono ?_
 rintro e w' ⟨rfl,hb⟩
 exact⟨r,_,n,D,ι,u0,rfl,⟨r,Ou _,rfl⟩,Step.stay S hb.block hb.size hb.os hb.tape hb.output (fun _ h=>h) (fun _ h=>.inl h) (fun _ _ h=>h),
  S.stay hb.block hb.size (fun _ h=>h) (fun b hd=>Nat.lt_of_lt_of_le (S.dead b hd) hb.size) (fun _ h=>.inl h) (fun _ _ h=>h),U,Nat.le_refl _,hr _ _ _⟩
theorem EZ {s:ByteArray} {vs:Array Value} (h:gy P w D ι [.str s] vs):vs= #[.string s]:=by
 obtain⟨h1,h2⟩:=h
 obtain⟨u,hu,hr⟩:=h2 0 _ rfl
 rw[gM hr]at hu
 obtain⟨l⟩:=vs
 cases l with
 |nil=>simp at h1
 |cons a l=>cases l with
  |nil=>simp at hu;subst hu;rfl
  |cons b l=>simp at h1
theorem H8 (s:ByteArray) (hs:s.size<=9223372036854775807):au Tryz.prog 92 [.str s] (.bool (kD s)):=
 nz (fun _ _ _ _=>EZ) (fun _ _ _=>.fy _ _ (.bool _)) (fun g=>fD g 5 _) fun w=>E6 w s hs
theorem HR (s:ByteArray) (hs:s.size<=9223372036854775807):au Tryz.prog 132 [.str s] (.bool (kD s)):=
 nz (fun _ _ _ _=>EZ) (fun _ _ _=>.fy _ _ (.bool _)) (fun g=>fD g 5 _) fun w=>(Ek w s hs).mono (by rintro e w' ⟨rfl,rfl⟩;exact⟨rfl,Below.refl _ _⟩)
end Go.Proofs.YtiabgllilcfheaaGreat.V

namespace Go.Proofs.YtiabgllilcfheaaGreat.V
open Go.RowKit
attribute [local irreducible] er wpOps fY Call
attribute [local go_sem] aF fC eR fN fK du upd cw K.av cQ AV.cells AV.cell rowOf rowsOf part ld rowAt bK cq dH dX gG bP dd eh fJ fa dw ea db da dM dP bV bd cU bU cW cV dV eb dZ cR bY dc dY bQ aD cY cF gF bD cL bW aY dn bj dI AV.undef bH bJ dQ dW dL dK cK ef eo cz ee ec cX cZ List.getD_cons_zero List.getD_cons_succ List.getD_nil List.all_cons List.all_nil Bool.and_true Bool.true_and Bool.and_self Bool.not_true Bool.not_false Option.map_some Option.map_none Option.bind_some Option.bind_none List.length_cons List.length_nil List.take_succ_cons List.take_zero List.take_nil List.drop_succ_cons List.drop_zero List.drop_nil List.head?_cons List.map_cons List.map_nil List.getElem?_cons_zero List.getElem?_cons_succ List.cons_append List.nil_append List.append_nil List.length_map List.set_cons_zero List.set_cons_succ Nat.reduceMul eq_self Int.toNat_natCast Int.natCast_nonneg and_self true_and and_true decide_true decide_false Bool.false_eq_true Nat.zero_add Nat.add_zero List.contains_cons List.contains_nil Bool.or_false Bool.false_or beq_self_eq_true Nat.reduceBEq ne_eq not_true_eq_false not_false_eq_true Id.mk.injEq false_and and_false Nat.reduceLT Int.reduceLE Int.reduceLT Int.reduceToNat Int.reduceNeg Int.reduceAdd Nat.le_refl List.length_append beq_true beq_false Bool.not_eq_eq_eq_not or_false false_or eu ai aj aP bh bZ cm aW bx aK bf cP bI
variable {P:Program}
end Go.Proofs.YtiabgllilcfheaaGreat.V

namespace Go.Proofs.YtiabgllilcfheaaGreat.V
open Go.RowKit
attribute [local irreducible] er wpOps fY Call
attribute [local go_sem] aF fC eR fN fK du upd cw K.av cQ AV.cells AV.cell rowOf rowsOf part ld rowAt bK cq dH dX gG bP dd eh fJ fa dw ea db da dM dP bV bd cU bU cW cV dV eb dZ cR bY dc dY bQ aD cY cF gF bD cL bW aY dn bj dI AV.undef bH bJ dQ dW dL dK cK ef eo cz ee ec cX cZ List.getD_cons_zero List.getD_cons_succ List.getD_nil List.all_cons List.all_nil Bool.and_true Bool.true_and Bool.and_self Bool.not_true Bool.not_false Option.map_some Option.map_none Option.bind_some Option.bind_none List.length_cons List.length_nil List.take_succ_cons List.take_zero List.take_nil List.drop_succ_cons List.drop_zero List.drop_nil List.head?_cons List.map_cons List.map_nil List.getElem?_cons_zero List.getElem?_cons_succ List.cons_append List.nil_append List.append_nil List.length_map List.set_cons_zero List.set_cons_succ Nat.reduceMul eq_self Int.toNat_natCast Int.natCast_nonneg and_self true_and and_true decide_true decide_false Bool.false_eq_true Nat.zero_add Nat.add_zero List.contains_cons List.contains_nil Bool.or_false Bool.false_or beq_self_eq_true Nat.reduceBEq ne_eq not_true_eq_false not_false_eq_true Id.mk.injEq false_and and_false Nat.reduceLT Int.reduceLE Int.reduceLT Int.reduceToNat Int.reduceNeg Int.reduceAdd Nat.le_refl List.length_append beq_true beq_false Bool.not_eq_eq_eq_not or_false false_or eu ai aj aP bh bZ cm aW bx aK bf cP bI
def jj (s:ay):Prop:=(∀g∈s.br,g.cI.size<=9223372036854775807)/\∀t∈s.aq,t.cI.size<=9223372036854775807
end Go.Proofs.YtiabgllilcfheaaGreat.V
