/- One operation, calls among them. -/
import Derived.Test.YtihgaadadaekmaaGreatDoorDrA
import Derived.Orders
import Derived.Conc.LoneCalls
import Derived.WalkKit
import Derived.WalkSpells
import Derived.WalkLawsBesides
import Derived.Lib.Hide
import Derived.Deep.QuietTactic
import Derived.BigQuiet
import Derived.StillTailTactics
import Derived.Deep.RegionWith
import Derived.Deep.RegionHeld3
import Derived.Deep.LoopGhost
import Derived.Deep.CutRange
import Derived.Deep.DeepCutAuto
import Derived.Test.YtihgaadadaekmaaGreatDoorChecked
set_option linter.unusedVariables false
set_option linter.unusedSimpArgs false
set_option maxRecDepth 100000
set_option maxHeartbeats 16000000
namespace Go.Proofs.YtihgaadadaekmaaGreatDoor.V
open Go.RowKit
variable {P:Program} {w w':World} {D D' D2:Nat->Prop} {ι ι' ι2:Names}
def Sound (P:Program):e6:=fun f args σ K=>∀(hs:Nat) (D:Nat->Prop) (ι:Names) (w:World) (vs:Array Value),fJ P hs D ι σ.get w->Used ι σ.next (fun _=>False)->eM P w D ι args vs->
 Calls P f vs w fun e w'=>∃r g' n' D' ι' u,e=.returned u/\K r ⟨g',n'⟩/\Step hs D ι w D' ι' w'/\fJ P hs D' ι' g' w'/\Used ι' n' (fun _=>False)/\σ.next<=n'/\cw P w' D' ι' r u
section
variable {g:Rows} {hs:Nat} {env:Env} {a:Act} {o:Oper} {id:Id} {v:AV}
theorem fJ.ro (S:fJ P hs D ι g w):fJ P w.heap.size D ι (ro g) w:=by
 refine⟨Nat.le_refl _,S.dead,fun id r h=>?_,fun id jU r r' B B' h h' hw=>?_⟩
 ·unfold V.ro at h
  simp only[Option.map_eq_some_iff]at h
  obtain⟨r0,h0,rfl⟩:=h
  obtain⟨B,hB,R,_,_⟩:=S.row id r0 h0
  exact⟨B,hB,R.flag false,fun h=>by simp at h,fun h=>by simp at h⟩
 ·unfold V.ro at h
  simp only[Option.map_eq_some_iff]at h
  obtain⟨r0,h0,rfl⟩:=h
  simp at hw
theorem xK {g0:Rows} {f:Nat} {args:List AV} {n:Nat} {K:AV->Prop} {vs:Array Value} (h:PC (Sound P) f args ⟨g0,n⟩ K) (oI:∀id r,g0 id=some r->g id=some r) (S:fJ P hs D ι g w) (U:Used ι n (fun _=>False)) (A:eM P w D ι args vs):
  Calls P f vs w fun e w'=>∃r D' u,e=.returned u/\K r/\Step hs D ι w D' ι w'/\fJ P hs D' ι g w'/\cw P w' D' ι r u:=by
 refine(h w.heap.size D ι w vs (S.sub oI).ro U A).mono ?_
 rintro e w' ⟨r0,g',n',D1,ι1,u,rfl,⟨r,hr,hK⟩,T,S1,_,_,hR⟩
 have hb:∀b,b<w.heap.size->w'.heap[b]? =w.heap[b]? :=T.below.block
 have hz:=T.below.size
 have q:=po (D2:=fun b=>D b∨(w.heap.size<=b/\b<w'.heap.size)) (ι2:=ι) (fun b hd=>by
  rcases T.new b hd with h|h
  ·exact .inl h
  ·exact .inr ⟨h,S1.dead b hd⟩) (fun id row hg hw=>by
  obtain⟨B,hB,R,h1,_⟩:=S1.row id row hg
  exact⟨B,hB,R,.inr ⟨h1 hw,R.lt⟩⟩) 6 r0 u r hR hr
 refine⟨r,_,u,rfl,hK,?_,?_,q.1⟩
 ·exact Step.stay S hb hz T.below.os T.below.tape T.below.output (fun _ h=>.inl h) (fun b h=>by rcases h with h|h;exact .inl h;exact .inr h.1) (fun _ _ h=>h)
 ·exact S.stay hb hz (fun _ h=>.inl h) (fun b h=>by rcases h with h|h;exact Nat.lt_of_lt_of_le (S.dead b h) hz;exact h.2) (fun b h=>by rcases h with h|h;exact .inl h;exact .inr h.1) (fun _ _ h=>h)
theorem uF {g0:Rows} {f:Nat} {args:List AV} {n:Nat} {K:AV->Prop} {vs:Array Value} (h:PCv (Sound P) f args ⟨g0,n⟩ K) (oI:∀id r,g0 id=some r->g id=some r) (S:fJ P hs D ι g w) (U:Used ι n (fun _=>False)) (A:eM P w D ι args vs):
  Calls P f vs w fun e w'=>∃r D' u,e=.returned u/\K r/\Step hs D ι w D' ι w'/\fJ P hs D' ι g w'/\cw P w' D' ι r u:=by
 obtain⟨eI,ha,h⟩:=h
 let D1:Nat->Prop:=fun b=>D b∨∃id r B,g id=some r/\ι id=some B/\b=B.b
 have lt:∀id r B,g id=some r->ι id=some B->B.b<w.heap.size:=fun id r B h1 h2=>by
  obtain⟨B',dn,R,_⟩:=S.row id r h1
  rw[h2]at dn;injection dn with dn;subst dn
  exact R.lt
 have S0:fJ P w.heap.size D1 ι (fun _=>none) w:=⟨Nat.le_refl _,fun b hb=>by
  rcases hb with hb|⟨id,r,B,h1,h2,rfl⟩
  ·exact S.dead b hb
  ·exact lt id r B h1 h2,fun id r h=>(by cases h),fun id jU r r' B B' h=>(by cases h)⟩
 obtain⟨l1,l2⟩:=fE ha
 have A':eM P w D1 ι eI vs:=⟨by rw[A.1,l1],fun j a hj=>by
  obtain⟨a0,kh,hf⟩:=l2 j a hj
  obtain⟨u,hu,hr⟩:=A.2 j a0 kh
  refine⟨u,hu,(po (D2:=D1) (ι2:=ι) (fun b h=>.inl h) (fun id row hg hw=>?_) 6 a0 u a hr hf).1⟩
  unfold dz at hg
  simp only[Option.map_eq_some_iff]at hg
  obtain⟨r,mD,rfl⟩:=hg
  obtain⟨B,hB,R,_,_⟩:=S.row id r (oI id r mD)
  exact⟨B,hB,R.flag true,.inr ⟨id,r,B,oI id r mD,hB,rfl⟩⟩⟩
 refine(h w.heap.size D1 ι w vs S0 U A').mono ?_
 rintro e w' ⟨r0,g',n',D2,ι1,u,rfl,⟨r,hr,hK⟩,T,S1,_,_,hR⟩
 have hb:∀b,b<w.heap.size->w'.heap[b]? =w.heap[b]? :=T.below.block
 have hz:=T.below.size
 have q:=Dj (D2:=fun b=>D b∨(w.heap.size<=b/\b<w'.heap.size)) (ι2:=ι) (fun id row hg hw=>by
  obtain⟨B,hB,R,h1,_⟩:=S1.row id row hg
  exact⟨B,hB,R,.inr ⟨h1 hw,R.lt⟩⟩) 6 r0 u r hR hr
 refine⟨r,_,u,rfl,hK,?_,?_,q.1⟩
 ·exact Step.stay S hb hz T.below.os T.below.tape T.below.output (fun _ h=>.inl h) (fun b h=>by rcases h with h|h;exact .inl h;exact .inr h.1) (fun _ _ h=>h)
 ·exact S.stay hb hz (fun _ h=>.inl h) (fun b h=>by rcases h with h|h;exact Nat.lt_of_lt_of_le (S.dead b h) hz;exact h.2) (fun b h=>by rcases h with h|h;exact .inl h;exact .inr h.1) (fun _ _ h=>h)
theorem CQ {g0:Rows} {f:Nat} {args:List AV} {n:Nat} {K:AV->Prop} {vs:Array Value} (h:gN (Sound P) f args ⟨g0,n⟩ K) (oI:∀id r,g0 id=some r->g id=some r) (S:fJ P hs D ι g w) (U:Used ι n (fun _=>False)) (A:eM P w D ι args vs):
  Calls P f vs w fun e w'=>∃r D' u,e=.returned u/\K r/\Step hs D ι w D' ι w'/\fJ P hs D' ι g w'/\cw P w' D' ι r u:=by
 rcases h with h|h
 ·exact xK h oI S U A
 ·exact uF h oI S U A
theorem Ef {D1 D2:Nat->Prop} {ι1 ι2:Names} {w1:World} {a:AV} {v:Value} (hp:a.plain=true) (h:cw P w D1 ι1 a v):cw P w1 D2 ι2 a v:=by
 cases h with
 |ev a v h=>cases h<;>first|(simp[AV.plain]at hp;done)|exact .ev _ _ (by constructor)
 |_=>simp[AV.plain]at hp
theorem fJ.add {r:Row} {B:qN} (S:fJ P hs D ι g w) (S':fJ P hs D ι g w') (hf:ι id=none) (jz:w.heap.size<=B.b) (R:gM P w' D (kf ι id B) B r):fJ P hs D (kf ι id B) (bK g id r) w':=by
 have lt:∀jU r' B',g jU=some r'->ι jU=some B'->B'.b<w.heap.size:=fun jU r' B' h1 h2=>by
  obtain⟨B2,nW,R2,_⟩:=S.row jU r' h1
  rw[h2]at nW;injection nW with nW;subst nW
  exact R2.lt
 have ne:∀jU r',g jU=some r'->jU≠id:=fun jU r' h he=>by
  subst he
  obtain⟨B2,nW,_⟩:=S.row _ r' h
  rw[hf]at nW;cases nW
 refine⟨S'.lo,S'.dead,fun jU r' h=>?_,fun Oh id2 r1 r2 B1 B2 h1 h2 hw xz nW hb=>?_⟩
 ·unfold bK at h
  split at h
  ·rename_i he
   subst he
   injection h with h;subst h
   exact⟨B,dL _ _ _,R,fun _=>Nat.le_trans S.lo jz,fun _ hd=>Nat.lt_irrefl _ (Nat.lt_of_lt_of_le (S.dead _ hd) jz)⟩
  ·obtain⟨B',dn,R',k1,k2⟩:=S'.row jU r' h
   exact⟨B',by rw[fw (ne _ _ h)];exact dn,R'.frame rfl (fun a v hr=>hr.frame (fun _ _=>rfl) (fun _ h=>h) (fx hf)),k1,k2⟩
 ·unfold bK at h1 h2
  split at h1
  ·rename_i e1
   split at h2
   ·rename_i e2;rw[e1,e2]
   ·exfalso
    subst e1
    rw[dL]at xz;injection xz with xz;subst xz
    rw[fw (ne _ _ h2)]at nW
    have:=lt _ _ _ h2 nW
    omega
  ·rw[fw (ne _ _ h1)]at xz
   split at h2
   ·rename_i e2
    exfalso
    subst e2
    rw[dL]at nW;injection nW with nW;subst nW
    have:=lt _ _ _ h1 xz
    omega
   ·rw[fw (ne _ _ h2)]at nW
    exact S'.inj Oh id2 r1 r2 B1 B2 h1 h2 hw xz nW hb
theorem EY {g0:Rows} {f:Nat} {args:List AV} {n sz:Nat} {rows:List (List AV)} {vs:Array Value} (h:CM (Sound P) f args ⟨g0,n⟩ sz rows) (oI:∀id r,g0 id=some r->g id=some r) (S:fJ P hs D ι g w) (U:Used ι n (fun _=>False)) (A:eM P w D ι args vs) (hf:ι id=none):
  Calls P f vs w fun e w'=>∃u B,e=.returned u/\Step hs D ι w D (kf ι id B) w'/\fJ P hs D (kf ι id B) (bK g id ⟨true,sz,rows⟩) w'/\cw P w' D (kf ι id B) (.own id 0 rows.length) u:=by
 obtain⟨mv,eI,ha,h⟩:=h
 let D1:Nat->Prop:=fun b=>D b∨∃id r B,g id=some r/\ι id=some B/\b=B.b
 have lt:∀id r B,g id=some r->ι id=some B->B.b<w.heap.size:=fun id r B h1 h2=>by
  obtain⟨B',dn,R,_⟩:=S.row id r h1
  rw[h2]at dn;injection dn with dn;subst dn
  exact R.lt
 have S0:fJ P w.heap.size D1 ι (fun _=>none) w:=⟨Nat.le_refl _,fun b hb=>by
  rcases hb with hb|⟨id,r,B,h1,h2,rfl⟩
  ·exact S.dead b hb
  ·exact lt id r B h1 h2,fun id r h=>(by cases h),fun id jU r r' B B' h=>(by cases h)⟩
 obtain⟨l1,l2⟩:=fE ha
 have A':eM P w D1 ι eI vs:=⟨by rw[A.1,l1],fun j a hj=>by
  obtain⟨a0,kh,hz⟩:=l2 j a hj
  obtain⟨u,hu,hr⟩:=A.2 j a0 kh
  refine⟨u,hu,(po (D2:=D1) (ι2:=ι) (fun b h=>.inl h) (fun id row hg hw=>?_) 6 a0 u a hr hz).1⟩
  unfold dz at hg
  simp only[Option.map_eq_some_iff]at hg
  obtain⟨r,mD,rfl⟩:=hg
  obtain⟨B,hB,R,_,_⟩:=S.row id r (oI id r mD)
  exact⟨B,hB,R.flag true,.inr ⟨id,r,B,oI id r mD,hB,rfl⟩⟩⟩
 refine(h w.heap.size D1 ι w vs S0 U A').mono ?_
 rintro e w' ⟨r0,g',n',D2,ι1,u,rfl,⟨i0,hr,hg⟩,T,S1,_,_,hR⟩
 subst hr
 have hb:∀b,b<w.heap.size->w'.heap[b]? =w.heap[b]? :=T.below.block
 have hz:=T.below.size
 obtain⟨B,hB,R,k1,_⟩:=S1.row i0 _ hg
 have jz:w.heap.size<=B.b:=k1 rfl
 obtain⟨o,cap,B',rfl,dn,q2,q3,q4,q5,hk⟩:=iH hR
 rw[hB]at dn;injection dn with dn;subst dn
 replace R:=R.row hk
 have S':fJ P hs D ι g w':=S.stay hb hz (fun _ h=>h) (fun b h=>Nat.lt_of_lt_of_le (S.dead b h) hz) (fun b h=>.inl h) (fun _ _ h=>h)
 have R':kz P w' D (kf ι id B) B ⟨true,sz,rows⟩:=⟨R.sz,R.CU,R.fits,R.len,R.flat,fun i j cs a hi hj=>by
  obtain⟨v,h1,h2⟩:=R.at_ i j cs a hi hj
  exact⟨v,h1,Ef (mv cs (List.mem_of_getElem? hi) a (List.mem_of_getElem? hj)) h2⟩⟩
 exact⟨_,B,rfl,Step.stay S hb hz T.below.os T.below.tape T.below.output (fun _ h=>h) (fun _ h=>.inl h) (fx hf),S.add S' hf jz (R'.obj hk),.own id 0 _ _ _ B (dL _ _ _) hk q2 q3 q4 q5⟩
theorem iK {f:Nat} {args:Array Value} (hc:e8 P f=true):(callFunc f args).run P w=.ok (.enter f args) w:=by
 unfold e8 at hc
 split at hc
 ·rename_i fn hf
  simp only[Bool.and_eq_true,Bool.not_eq_true']at hc
  have hb:fn.body.isNone=false:=by cases hq:fn.body<;>simp_all
  simp only[callFunc,Sem.run_bind,run_program,Result.andThen_ok,hf,hc.2,Bool.false_eq_true,if_false,hb]
  rfl
 ·simp at hc
theorem yU {f:Nat} {args:List O} (hc:oW P o.op=some (.call f args)):∃c,o.op=.call c/\c.callee=.value (.func f)/\e8 P f=true/\c.args.toList.mapM (cO P)=some args:=by
 unfold oW at hc
 split at hc
 case h_23=>
  rename_i c ho
  refine⟨c,ho,?_⟩
  unfold l8 at hc
  split at hc
  all_goals (try(repeat' (split at hc))<;>(simp only[Option.bind_eq_bind,Option.bind_eq_some_iff,Option.pure_def,Option.some.injEq,Option.map_eq_some_iff,reduceCtorEq,and_false,exists_false]at hc))
  all_goals simp_all
 all_goals (try unfold sy at hc)<;>(try unfold qg at hc)<;>(repeat' (split at hc))<;>(simp only[Option.bind_eq_bind,Option.bind_eq_some_iff,Option.pure_def,Option.some.injEq,Option.map_eq_some_iff,reduceCtorEq,and_false,exists_false]at hc)
theorem qx {x:O} {args:List O} (hc:oW P o.op=some (.qT x args)):∃c t,o.op=.call c/\c.callee=.value (.tmp t)/\x=.t t/\c.args.toList.mapM (cO P)=some args:=by
 unfold oW at hc
 split at hc
 case h_23=>
  rename_i c ho
  refine⟨c,?_⟩
  unfold l8 at hc
  split at hc
  all_goals (try(repeat' (split at hc))<;>(simp only[Option.bind_eq_bind,Option.bind_eq_some_iff,Option.pure_def,Option.some.injEq,Option.map_eq_some_iff,reduceCtorEq,and_false,exists_false]at hc))
  all_goals simp_all
 all_goals (try unfold sy at hc)<;>(try unfold qg at hc)<;>(repeat' (split at hc))<;>(simp only[Option.bind_eq_bind,Option.bind_eq_some_iff,Option.pure_def,Option.some.injEq,Option.map_eq_some_iff,reduceCtorEq,and_false,exists_false]at hc)
theorem DF {n:Nat} {x y:O} (hc:oW P o.op=some (.store n x y)):∃t x' y',o.op=.store t x' y'/\dx P t=some n/\cO P x'=some x/\cO P y'=some y:=by
 unfold oW at hc
 split at hc
 case h_7=>
  rename_i t x' y' ho
  refine⟨t,x',y',ho,?_⟩
  simp only[Option.bind_eq_bind,Option.bind_eq_some_iff,Option.pure_def,Option.some.injEq]at hc
  obtain⟨n',h1,x2,h2,y2,h3,he⟩:=hc
  injection he with e1 e2 e3
  subst e1;subst e2;subst e3
  exact⟨h1,h2,h3⟩
 all_goals (try unfold sy at hc)<;>(try unfold qg at hc)<;>(try unfold l8 at hc)<;>(repeat' (split at hc))<;>(simp only[Option.bind_eq_bind,Option.bind_eq_some_iff,Option.pure_def,Option.some.injEq,Option.map_eq_some_iff,reduceCtorEq,and_false,exists_false]at hc)
theorem AS {n:Nat} {x y:O} (hc:oW P o.op=some (.append n x y)):∃(t e:TypeId) (m:Nat) (z:List K) (i:TypeInfo) (x' y':Operand),n=m+1/\o.op=.call {callee:=.builtin .append,args:= #[x',y'],argTypes:= #[t,t]}/\
  P.underlying t=some (.slice e)/\dx P e=some (m+1)/\iR P e=some z/\P.info? e=some i/\i.bytes<=32768/\cO P x'=some x/\cO P y'=some y:=by
 unfold oW at hc
 split at hc
 case h_23=>
  rename_i c ho
  unfold l8 at hc
  split at hc
  case h_2=>
   rename_i jH
   split at hc
   ·rename_i x' y' t u h1 h2
    split at hc
    ·rename_i e ht
     split at hc
     ·rename_i m z i e1 e2 e3
      split at hc
      ·rename_i hb
       simp only[Option.bind_eq_bind,Option.bind_eq_some_iff,Option.pure_def,Option.some.injEq]at hc
       obtain⟨x2,h3,y2,h4,he⟩:=hc
       injection he with k1 k2 k3
       subst k1;subst k2;subst k3
       obtain⟨Hw,rfl⟩:=hb
       refine⟨t,e,m,z,i,x',y',rfl,?_,ht,e1,e2,e3,Hw,h3,h4⟩
       rw[ho]
       obtain⟨ca,cb,cc⟩:=c
       simp only at h1 h2 jH
       subst jH
       congr
       ·exact Array.ext' h1
       ·exact Array.ext' h2
      ·simp at hc
     ·simp at hc
    ·simp at hc
   ·simp at hc
  all_goals (repeat' (split at hc))<;>(simp only[Option.bind_eq_bind,Option.bind_eq_some_iff,Option.pure_def,Option.some.injEq,Option.map_eq_some_iff,reduceCtorEq,and_false,exists_false]at hc)
 all_goals (try unfold sy at hc)<;>(try unfold qg at hc)<;>(repeat' (split at hc))<;>(simp only[Option.bind_eq_bind,Option.bind_eq_some_iff,Option.pure_def,Option.some.injEq,Option.map_eq_some_iff,reduceCtorEq,and_false,exists_false]at hc)
theorem Gg {n:Nat} {x y:O} (hc:oW P o.op=some (.copy n x y)):∃(t t2 e:TypeId) (m:Nat) (x' y':Operand),n=m+1/\o.op=.call {callee:=.builtin .copy,args:= #[x',y'],argTypes:= #[t,t2]}/\
  P.underlying t=some (.slice e)/\dx P e=some (m+1)/\cO P x'=some x/\cO P y'=some y:=by
 unfold oW at hc
 split at hc
 case h_23=>
  rename_i c ho
  unfold l8 at hc
  split at hc
  case h_7=>
   rename_i jH
   split at hc
   ·rename_i x' y' t t2 h1 h2
    split at hc
    ·rename_i e ht
     split at hc
     ·rename_i m e1
      simp only[Option.bind_eq_bind,Option.bind_eq_some_iff,Option.pure_def,Option.some.injEq,fD.copy.injEq]at hc
      obtain⟨x2,h3,y2,h4,k0,k1,k2⟩:=hc
      subst k1;subst k2
      refine⟨t,t2,e,m,x',y',k0.symm,?_,ht,e1,h3,h4⟩
      rw[ho]
      obtain⟨ca,cb,cc⟩:=c
      simp only at h1 h2 jH
      subst jH
      congr
      ·exact Array.ext' h1
      ·exact Array.ext' h2
     ·simp at hc
    ·simp at hc
   ·simp at hc
  all_goals (repeat' (split at hc))<;>(simp only[Option.bind_eq_bind,Option.bind_eq_some_iff,Option.pure_def,Option.some.injEq,Option.map_eq_some_iff,reduceCtorEq,and_false,exists_false]at hc)
 all_goals (try unfold sy at hc)<;>(try unfold qg at hc)<;>(repeat' (split at hc))<;>(simp only[Option.bind_eq_bind,Option.bind_eq_some_iff,Option.pure_def,Option.some.injEq,Option.map_eq_some_iff,reduceCtorEq,and_false,exists_false]at hc)
theorem DE {z:List K} {x:O} (hc:oW P o.op=some (.clear z x)):∃(t e:TypeId) (m:Nat) (x':Operand),o.op=.call {callee:=.builtin .clear,args:= #[x'],argTypes:= #[t]}/\
  P.underlying t=some (.slice e)/\dx P e=some (m+1)/\iR P e=some z/\cO P x'=some x:=by
 unfold oW at hc
 split at hc
 case h_23=>
  rename_i c ho
  unfold l8 at hc
  split at hc
  case h_3=>
   rename_i jH
   split at hc
   ·rename_i x' t h1 h2
    split at hc
    ·rename_i e ht
     split at hc
     ·rename_i m z' e1 e2
      simp only[Option.map_eq_some_iff]at hc
      obtain⟨x2,h3,he⟩:=hc
      injection he with k1 k2
      subst k1;subst k2
      refine⟨t,e,m,x',?_,ht,e1,e2,h3⟩
      rw[ho]
      obtain⟨ca,cb,cc⟩:=c
      simp only at h1 h2 jH
      subst jH
      congr
      ·exact Array.ext' h1
      ·exact Array.ext' h2
     ·simp at hc
    ·simp at hc
   ·simp at hc
  all_goals (repeat' (split at hc))<;>(simp only[Option.bind_eq_bind,Option.bind_eq_some_iff,Option.pure_def,Option.some.injEq,Option.map_eq_some_iff,reduceCtorEq,and_false,exists_false]at hc)
 all_goals (try unfold sy at hc)<;>(try unfold qg at hc)<;>(repeat' (split at hc))<;>(simp only[Option.bind_eq_bind,Option.bind_eq_some_iff,Option.pure_def,Option.some.injEq,Option.map_eq_some_iff,reduceCtorEq,and_false,exists_false]at hc)
theorem Lw {q:MW} {xs:List O} (hc:oW P o.op=some (.mw q xs)):
  (∃t x k y m z x' k' y',(o.op=.mapUpdate t x k y∨o.op=.insert t x k y)/\qh P t=some (m,z)/\cO P x=some x'/\cO P k=some k'/\cO P y=some y'/\q=.set m/\xs=[x',k',y'])∨
  (∃t t' x k m z x' k',o.op=.call {callee:=.builtin .delete,args:= #[x,k],argTypes:= #[t,t']}/\qh P t=some (m,z)/\cO P x=some x'/\cO P k=some k'/\q=.del m/\xs=[x',k']):=by
 unfold oW at hc
 split at hc
 case h_23=>
  rename_i c ho
  right
  unfold l8 at hc
  split at hc
  case h_6=>
   rename_i jH
   split at hc
   ·rename_i x k t t' h1 h2
    split at hc
    ·rename_i m z x' k' e1 e2 e3
     injection hc with hc
     injection hc with q1 q2
     refine⟨t,t',x,k,m,z,x',k',?_,e1,e2,e3,q1.symm,q2.symm⟩
     rw[ho]
     obtain⟨ca,cb,cc⟩:=c
     simp only at h1 h2 jH
     subst jH
     congr
     ·exact Array.ext' h1
     ·exact Array.ext' h2
    ·cases hc
   ·cases hc
  all_goals (repeat' (split at hc))<;>(simp only[Option.bind_eq_bind,Option.bind_eq_some_iff,Option.pure_def,Option.some.injEq,Option.map_eq_some_iff,reduceCtorEq,and_false,exists_false]at hc)
 case h_29=>
  rename_i t x k y ho
  left
  split at hc
  ·rename_i m z x' k' y' e1 e2 e3 e4
   injection hc with hc
   injection hc with q1 q2
   exact⟨t,x,k,y,m,z,x',k',y',.inl ho,e1,e2,e3,e4,q1.symm,q2.symm⟩
  ·cases hc
 case h_30=>
  rename_i t x k y ho
  left
  split at hc
  ·rename_i m z x' k' y' e1 e2 e3 e4
   injection hc with hc
   injection hc with q1 q2
   exact⟨t,x,k,y,m,z,x',k',y',.inr ho,e1,e2,e3,e4,q1.symm,q2.symm⟩
  ·cases hc
 all_goals (try unfold sy at hc)<;>(try unfold qg at hc)<;>(repeat' (split at hc))<;>(simp only[Option.bind_eq_bind,Option.bind_eq_some_iff,Option.pure_def,Option.some.injEq,Option.map_eq_some_iff,reduceCtorEq,and_false,exists_false]at hc)
def il (g:Rows) (id:Id):Option Row->Rows
 |some r=>bK g id r
 |none=>g
def sD (X:e6) (hid:List Nat) (site n:Nat) (f:Nat) (args:List AV) (g:Rows) (v:AV) (g':Rows):Prop:=
 (gN X f args ⟨fV hid n g,n+1⟩ (fun r=>r=v)/\g'=g)∨
 (hid.contains site=true/\∃sz rows,CM X f args ⟨fV hid n g,n+1⟩ sz rows/\v=.own ⟨site,n⟩ 0 rows.length/\g'=bK g ⟨site,n⟩ ⟨true,sz,rows⟩)
def VS (X:e6) (n:Nat) (vo:aV) (env:Env) (g:Rows) (v:AV) (g':Rows):Prop:=
 match vo.op with
 | .call f args=>sD X vo.hid vo.site n f (args.map (cv env)) g v g'
 | .qT x args=>∃f l,sC (cv env x) (args.map (cv env))=some (f,l)/\sD X vo.hid vo.site n f l g v g'
 | .store .. | .append .. | .copy .. | .clear .. | .mw .. =>fW vo.op (cv env) g ⟨vo.site,n⟩=some (v,g')
 |_=>∃mr,eE vo.op (cv env) (fV vo.hid n g) ⟨vo.site,n⟩=some (v,mr)/\g'=il g ⟨vo.site,n⟩ mr
def JA (P:Program) (hs:Nat) (D:Nat->Prop) (ι:Names) (w:World) (U:Nat->Prop) (site n:Nat) (a:Act) (dst:Option Tmp) (v:AV) (g':Rows) (a':Act) (w':World):Prop:=
 ∃u D' ι',a'=a.put dst u/\Step hs D ι w D' ι' w'/\fJ P hs D' ι' g' w'/\cw P w' D' ι' v u/\Used ι' n (fun s=>U s∨s=site)
theorem fresh {n:Nat} {U:Nat->Prop} {s:Nat} (h:Used ι n U) (hU:¬U s):ι ⟨s,n⟩=none:=by
 cases hq:ι ⟨s,n⟩with
 |none=>rfl
 |some B=>
  rcases h ⟨s,n⟩ (by rw[hq];simp)with h|⟨_,h⟩
  ·exact absurd h (Nat.lt_irrefl _)
  ·exact absurd h hU
theorem Used.more {n:Nat} {U U':Nat->Prop} (h:Used ι n U) (hU:∀s,U s->U' s):Used ι n U':=fun id hid=>by
 rcases h id hid with h|⟨h1,h2⟩
 ·exact .inl h
 ·exact .inr ⟨h1,hU _ h2⟩
theorem Used.next {n:Nat} {U:Nat->Prop} (h:Used ι n U):Used ι (n+1) (fun _=>False):=fun id hid=>by
 rcases h id hid with h|⟨h1,_⟩
 ·exact .inl (Nat.lt_succ_of_lt h)
 ·exact .inl ab
theorem Used.upd {n:Nat} {U:Nat->Prop} {s:Nat} {B:qN} (h:Used ι n U):Used (kf ι ⟨s,n⟩ B) n (fun x=>U x∨x=s):=fun id hid=>by
 by_cases he:id=⟨s,n⟩
 ·subst he;exact .inr ⟨rfl,.inr rfl⟩
 ·rw[fw he]at hid
  exact(h.more (U':=fun x=>U x∨x=s) fun _ h=>Or.inl h) id hid
theorem mO {xs:Array Operand} {ys:List O} (E:bu P w D ι env a) (h:xs.toList.mapM (cO P)=some ys):eM P w D ι (ys.map (cv env)) (xs.map a.eval):=by
 obtain⟨h1,h2⟩:=Bj E h
 refine⟨by simpa using h1,fun j b hj=>?_⟩
 simp only[List.getElem?_map,Option.map_eq_some_iff]at hj
 obtain⟨y,hy,rfl⟩:=hj
 have dF:j<xs.size:=by have:=(List.getElem?_eq_some_iff.1 hy).1;simp at h1;omega
 refine⟨a.eval xs[j],by simp[dF],?_⟩
 have:=h2 j y hy
 simpa[List.getD_eq_getElem?_getD,dF]using this
theorem nv {xs ys:List AV} {vs us:Array Value} (h:eM P w D ι xs vs) (k:eM P w D ι ys us):eM P w D ι (xs++ys) (vs++us):=
 ⟨by simp[h.1,k.1],fun j b hj=>by
  by_cases dF:j<xs.length
  ·rw[List.getElem?_append_left dF]at hj
   obtain⟨u,hu,uu⟩:=h.2 j b hj
   exact⟨u,by rw[Array.getElem?_append_left (by rw[h.1];exact dF)];exact hu,uu⟩
  ·rw[List.getElem?_append_right ab]at hj
   obtain⟨u,hu,uu⟩:=k.2 _ b hj
   exact⟨u,by rw[Array.getElem?_append_right (by rw[h.1];omega),h.1];exact hu,uu⟩⟩
theorem tq:eM P w D ι [] #[]:=⟨rfl,fun j b hj=>by simp at hj⟩
theorem sE {x:AV} {l l':List AV} {f:Nat} {vs:Array Value} {v:Value} (h:sC x l=some (f,l')) (hr:cw P w D ι x v) (hA:eM P w D ι l vs):
  ∃first cr,v=.func (.func f) first cr/\e8 P f=true/\eM P w D ι l' (first++vs++cr):=by
 unfold sC at h
 split at h
 ·simp only[Option.some.injEq,Prod.mk.injEq]at h
  obtain⟨rfl,rfl⟩:=h
  obtain⟨us,q,he,Ce,n1,q1,q2⟩:=Bl hr
  refine⟨#[],us,he,Ce,?_⟩
  rw[Array.empty_append]
  exact nv hA ⟨n1,fun j b hj=>⟨q j,q1 j (List.getElem?_eq_some_iff.1 hj).1,q2 j b hj⟩⟩
 ·simp only[Option.some.injEq,Prod.mk.injEq]at h
  obtain⟨rfl,rfl⟩:=h
  obtain⟨us,q,he,Ce,n1,q1,q2⟩:=Jj hr
  refine⟨us, #[],he,Ce,?_⟩
  rw[Array.append_empty]
  exact nv ⟨n1,fun j b hj=>⟨q j,q1 j (List.getElem?_eq_some_iff.1 hj).1,q2 j b hj⟩⟩ hA
 ·cases h
theorem xP {n:Nat} {vo:aV} {g':Rows} {U:Nat->Prop} {Q:Exit->Act->World->Prop} {K:Act->World->Prop} (hc:oW P o.op=some vo.op) (hv:VS (Sound P) n vo env g v g') (S:fJ P hs D ι g w) (Us:Used ι n U) (hU:¬U vo.site) (E:bu P w D ι env a)
  (hK:∀a' w',JA P hs D ι w U vo.site n a o.dst v g' a' w'->K a' w'):o.wp P a w K Q:=by
 have hf:=fresh Us hU
 have xY:∀(f:Nat) (args:List AV) (vs:Array Value),sD (Sound P) vo.hid vo.site n f args g v g'->eM P w D ι args vs->(execOp a.eval o).run P w=.ok (.enter f vs) w->o.wp P a w K Q:=by
  intro f args vs hP hA gC
  unfold Oper.wp
  rw[gC]
  rcases hP with⟨hP,rfl⟩|⟨_,sz,rows,hM,rfl,rfl⟩
  ·refine(CQ hP xl S Us.next hA).mono ?_
   rintro e w' ⟨r,D',u,rfl,rfl,T,S',hR⟩
   exact hK _ _ ⟨u,D',ι,rfl,T,S',hR,Us.more fun _ h=>.inl h⟩
  ·refine(EY hM xl S Us.next hA hf).mono ?_
   rintro e w' ⟨u,B,rfl,T,S',hR⟩
   exact hK _ _ ⟨u,D,_,rfl,T,S',hR,Us.upd⟩
 have quiet:∀(mr:Option Row),eE vo.op (cv env) (fV vo.hid n g) ⟨vo.site,n⟩=some (v,mr)->g'=il g ⟨vo.site,n⟩ mr->o.wp P a w K Q:=by
  intro mr hq hg
  have hqs:=vI hc hq (S.sub xl) E
  unfold Oper.wp
  cases mr with
  |none=>
   obtain⟨u,gC,hR⟩:=hqs
   rw[gC]
   subst hg
   exact hK _ _ ⟨u,D,ι,rfl,Step.refl _ _ _ _,S,hR,Us.more fun _ h=>.inl h⟩
  |some r=>
   rcases hqs with⟨u,cells,T,gC,h1,h2,h3,h4,h5,h6⟩|⟨m,gC,Lt,AK⟩|⟨c,gC,Lt,AK⟩
   case inr.inr=>
    rw[gC]
    subst hg Lt AK
    have eS:w.heap.size<(w.alloc (.chan c #[] false 0 0 false)).heap.size:=by simp
    have S':=S.stay (w':=w.alloc (.chan c #[] false 0 0 false)) (D':=D) (ι':=ι) (fun k hk=>Below.heap_alloc _ _ _ hk) (by simp) (fun _ h=>h) (fun b hd=>Nat.lt_trans (S.dead b hd) eS) (fun _ h=>.inl h) (fun _ _ h=>h)
    have S1:=S.add S' (id:=⟨vo.site,n⟩) (B:=⟨w.heap.size,ph+c,0,some (.chan c)⟩) (r:=⟨true,ph+c,[]⟩) hf (Nat.le_refl _) ⟨rfl,fun cs h=>by simp at h,fun h=>by simp at h,fun m' h=>(by simp at h),fun c' h=>by
     simp only[Option.some.injEq,BK.chan.injEq]at h;subst h
     exact⟨rfl, #[],0,0,(show(w.heap.push (Obj.chan c #[] false 0 0 false))[w.heap.size]? =some (Obj.chan c #[] false 0 0 false) by simp),rfl,fun i cs h=>by simp at h⟩⟩
    exact hK _ _ ⟨_,D,_,rfl,Step.stay S (fun k hk=>Below.heap_alloc _ _ _ hk) (by simp) rfl rfl rfl (fun _ h=>h) (fun _ h=>.inl h) (fx hf),S1,.qk _ _ _ (dL _ _ _) rfl,Us.upd⟩
   case inr.inl=>
    rw[gC]
    subst hg Lt AK
    have eS:w.heap.size<(w.alloc (.map #[] 0)).heap.size:=by simp
    have S':=S.stay (w':=w.alloc (.map #[] 0)) (D':=D) (ι':=ι) (fun k hk=>Below.heap_alloc _ _ _ hk) (by simp) (fun _ h=>h) (fun b hd=>Nat.lt_trans (S.dead b hd) eS) (fun _ h=>.inl h) (fun _ _ h=>h)
    have S1:=S.add S' (id:=⟨vo.site,n⟩) (B:=⟨w.heap.size,m.Bp,0,some (.map m)⟩) (r:=⟨true,m.Bp,[]⟩) hf (Nat.le_refl _) ⟨rfl,fun cs h=>by simp at h,fun h=>by simp at h,fun m' h=>by
     simp only[Option.some.injEq,BK.map.injEq]at h;subst h
     exact⟨rfl, #[],0,(show(w.heap.push (Obj.map #[] 0))[w.heap.size]? =some (Obj.map #[] 0) by simp),rfl,⟨fun cs h=>by simp at h,fun x h=>by simp at h,by simp⟩,fun i cs h=>by simp at h⟩,fun c h=>by simp at h⟩
    exact hK _ _ ⟨_,D,_,rfl,Step.stay S (fun k hk=>Below.heap_alloc _ _ _ hk) (by simp) rfl rfl rfl (fun _ h=>h) (fun _ h=>.inl h) (fx hf),S1,.map _ _ _ (dL _ _ _) rfl,Us.upd⟩
   rw[gC]
   subst hg
   have S1:=S.alloc (id:=⟨vo.site,n⟩) (w':=w.alloc (.cells cells T)) rfl hf h1 h2 h3 h4 h5
   refine hK _ _ ⟨u,D,_,rfl,Step.stay S (fun k hk=>Below.heap_alloc _ _ _ hk) (by simp) rfl rfl rfl (fun _ h=>h) (fun _ h=>.inl h) (fx hf),S1,(h6 (kf ι _ _) (dL _ _ _)).frame (fun b hd=>Below.heap_alloc _ _ _ (S.dead b hd)) (fun _ h=>h) (fun _ _ h=>h),Us.upd⟩
 have Mr:fW vo.op (cv env) g ⟨vo.site,n⟩=some (v,g')->(∀HM,zK P hs a o HM D ι ⟨vo.site,n⟩ v g'->HM=w->o.wp P a w K Q):=by
  intro _ HM hE he
  subst he
  obtain⟨u,w',ι',gC,T,S',hR,hι⟩:=hE
  have FJ:JA P hs D ι HM U vo.site n a o.dst v g' (a.put o.dst u) w':=⟨u,D,ι',rfl,T,S',hR,fun id hid=>by
   by_cases he:id=⟨vo.site,n⟩
   ·subst he;exact .inr ⟨rfl,.inr rfl⟩
   ·rw[hι id he]at hid
    exact(Us.more (U':=fun x=>U x∨x=vo.site) fun _ h=>Or.inl h) id hid⟩
  unfold Oper.wp
  rcases gC with gC|⟨gC,rfl⟩
  ·rw[gC];exact hK _ _ FJ
  ·rw[gC];exact hK _ _ FJ
 unfold VS at hv
 split at hv
 ·rename_i f args dB
  rw[dB]at hc
  obtain⟨c,ho,jH,Ce,mb⟩:=yU hc
  refine xY f _ (c.args.map a.eval) hv (mO E mb) ?_
  simp only[execOp,ho,resolve,jH,Deferred.ofValue,Act.eval,Sem.run_bind,Sem.run_pure,Result.andThen_ok,invoke,Array.empty_append,Array.append_empty]
  exact iK Ce
 ·rename_i x args dB
  obtain⟨f,l,hx,hP⟩:=hv
  rw[dB]at hc
  obtain⟨c,t,ho,jH,rfl,mb⟩:=qx hc
  obtain⟨first,cr,he,Ce,hL⟩:=sE (v:=a.eval (.tmp t)) hx (E t) (mO E mb)
  refine xY f _ (first++c.args.map a.eval++cr) hP hL ?_
  simp only[execOp,ho,resolve,jH,he,Deferred.ofValue,Sem.run_bind,Sem.run_pure,Result.andThen_ok,invoke]
  exact iK Ce
 ·rename_i m x y dB
  have jQ:=hc
  rw[dB]at jQ
  obtain⟨t,x',y',ho,h1,h2,h3⟩:=DF jQ
  have mA:=hv
  rw[dB]at mA
  simp only[fW,Option.map_eq_some_iff,Prod.mk.injEq]at mA
  obtain⟨g1,xD,rfl,rfl⟩:=mA
  exact Mr hv w (H8 S E ho h1 h2 h3 xD) rfl
 ·rename_i m x y dB
  have jQ:=hc
  rw[dB]at jQ
  obtain⟨t,e,m',z,i,x',y',rfl,ho,h1,h2,h3,h4,h5,h6,h7⟩:=AS jQ
  have mA:=hv
  rw[dB]at mA
  simp only[fW,Option.bind_eq_some_iff]at mA
  obtain⟨ys,Cl,mA⟩:=mA
  exact Mr hv w (Fw S E hf ho h1 h2 h3 h4 h5 h6 h7 Cl mA) rfl
 ·rename_i m x y dB
  have jQ:=hc
  rw[dB]at jQ
  obtain⟨t,t2,e,m',x',y',rfl,ho,h1,h2,h3,h4⟩:=Gg jQ
  have mA:=hv
  rw[dB]at mA
  simp only[fW,Option.bind_eq_some_iff]at mA
  obtain⟨ys,Cl,mA⟩:=mA
  exact Mr hv w (KB S E ho h1 h2 h3 h4 Cl mA) rfl
 ·rename_i z x dB
  have jQ:=hc
  rw[dB]at jQ
  obtain⟨t,e,m',x',ho,h1,h2,h3,h4⟩:=DE jQ
  have mA:=hv
  rw[dB]at mA
  simp only[fW,Option.map_eq_some_iff,Prod.mk.injEq]at mA
  obtain⟨g1,xD,rfl,rfl⟩:=mA
  exact Mr hv w (H7 S E ho h1 h2 h3 h4 xD) rfl
 ·rename_i q xs dB
  have jQ:=hc
  rw[dB]at jQ
  have mA:=hv
  rw[dB]at mA
  simp only[fW,Option.map_eq_some_iff,Prod.mk.injEq]at mA
  obtain⟨g1,xD,rfl,rfl⟩:=mA
  rcases Lw jQ with⟨t,x,k,y,m,z,x',k',y',ho,h1,h2,h3,h4,rfl,rfl⟩|⟨t,t',x,k,m,z,x',k',ho,h1,h2,h3,rfl,rfl⟩
  ·exact Mr hv w (KD S E ho h1 h2 h3 h4 xD) rfl
  ·exact Mr hv w (KC S E ho h1 h2 h3 xD) rfl
 ·obtain⟨mr,hq,hg⟩:=hv
  exact quiet mr hq hg
end
end Go.Proofs.YtihgaadadaekmaaGreatDoor.V

namespace Go.Proofs.YtihgaadadaekmaaGreatDoor.V
open Go.RowKit
variable {P:Program} {w w':World} {D D' D2:Nat->Prop} {ι ι' ι2:Names}
section
variable {g:Rows} {hs:Nat} {env:Env} {a:Act} {o:Oper} {id:Id} {v:AV}
theorem nF {ops:Array Oper} {nt site0 j:Nat} {draw mk:Bool} {bs:Array Nat} {hidden:List (Nat×Bool)} {vo:aV} (h:k5 P ops nt site0 draw mk bs hidden j o=some vo):
  oW P o.op=some vo.op/\vo.dst=o.dst/\vo.site=site0+j/\(∀d,o.dst=some d->d<nt)/\(match o.guard with
   |none=>vo.guard=none
   |some (i,b)=>∃t,(ops[i]?).bind (·.dst)=some t/\vo.guard=some (t,b)):=by
 unfold k5 at h
 simp only[Option.bind_eq_bind,Option.bind_eq_some_iff]at h
 obtain⟨v,hv,gd,hg,h⟩:=h
 split at h
 ·rename_i hd
  simp only[Option.pure_def,Option.some.injEq]at h
  subst h
  refine⟨hv,rfl,rfl,fun d O5=>?_,?_⟩
  ·rw[O5]at hd;simpa using hd
  ·unfold zY at hg
   cases uj:o.guard with
   |none=>rw[uj]at hg;simp at hg;exact hg.symm
   |some p=>
    obtain⟨i,b⟩:=p
    rw[uj]at hg
    dsimp only at hg ⊢
    split at hg
    ·rename_i t ht
     simp at hg;exact⟨t,ht,hg.symm⟩
    ·simp at hg
 ·simp at h
theorem qM {ops:Array Oper} {vo:aV} (E:bu P w D ι env a) (hg:match o.guard with
   |none=>vo.guard=none
   |some (i,b)=>∃t,(ops[i]?).bind (·.dst)=some t/\vo.guard=some (t,b)):aI vo.guard env=Region.wanted o (yielded ops a.tmps):=by
 unfold Region.wanted
 cases uj:o.guard with
 |none=>rw[uj]at hg;simp only at hg;rw[hg];rfl
 |some p=>
  obtain⟨i,b⟩:=p
  rw[uj]at hg
  obtain⟨t,ht,hv⟩:=hg
  rw[hv]
  simp only[aI,yielded,ht,Option.bind_some]
  have hr:=E t
  by_cases dF:t<a.tmps.size
  ·have dE:a.tmps[t]? =some a.tmps[t]:=Array.getElem?_eq_getElem dF
   have hd:a.tmps.getD t undef=a.tmps[t]:=by simp[dF]
   rw[hd]at hr
   rw[dE]
   generalize a.tmps[t]=u at hr
   cases he:env t with
   |bool c=>rw[he]at hr;rw[eG hr];simp
   |_=>
    rw[he]at hr
    have:∀c,u≠.bool c:=by
     intro c hu
     subst hu
     cases hr with
     |ev _ _ h=>cases h
    cases u<;>simp_all
  ·have dE:a.tmps[t]? =none:=Array.getElem?_eq_none (Nat.le_of_not_lt dF)
   have hd:a.tmps.getD t undef=undef:=by simp[dE]
   rw[hd]at hr
   rw[dE]
   cases he:env t with
   |bool c=>rw[he]at hr;have:=eG hr;simp[undef]at this
   |_=>simp
theorem lG {dst:Option Nat} {nt:Nat} {u:Value} (E:bu P w D ι env a) (hr:cw P w D ι v u) (hd:∀d,dst=some d->d<nt) (hs:a.tmps.size=nt):bu P w D ι (upd env dst v) (a.put dst u):=by
 intro t
 cases dst with
 |none=>exact E t
 |some d=>
  have dF:d<a.tmps.size:=by rw[hs];exact hd d rfl
  simp only[upd,Act.put]
  by_cases ht:t=d
  ·subst ht
   simp[dF];exact hr
  ·rw[if_neg ht]
   have:(a.tmps.setIfInBounds d u).getD t undef=a.tmps.getD t undef:=by
    simp only[Array.getD_eq_getD_getElem?]
    rw[Array.getElem?_setIfInBounds_ne (fun e=>ht e.symm)]
   rw[this];exact E t
theorem m3 {hs:Nat} (E:bu P w D ι env a) (T:Step hs D ι w D' ι' w'):bu P w' D' ι' env a:=fun t=>T.rep (E t)
theorem jZ (a:Act) (dst:Option Tmp) (u:Value):(a.put dst u).tmps.size=a.tmps.size:=by cases dst<;>simp[Act.put]
theorem put_defers (a:Act) (dst:Option Tmp) (u:Value):(a.put dst u).defers=a.defers:=by cases dst<;>rfl
theorem vP {draw:Bool} {vo:aV} {σ:aw} {next:AV->aw->Prop} {U:Nat->Prop} {Q:Exit->Act->World->Prop} {K:Act->World->Prop} (hc:oW P o.op=some vo.op) (hv:fI (Sound P) draw vo env σ next) (S:fJ P hs D ι σ.get w) (Us:Used ι σ.next U) (hU:¬U vo.site) (E:bu P w D ι env a)
  (hK:∀v σ' u D' ι' w',next v σ'->Step hs D ι w D' ι' w'->fJ P hs D' ι' σ'.get w'->cw P w' D' ι' v u->Used ι' σ'.next (fun s=>U s∨s=vo.site)->σ.next<=σ'.next->K (a.put o.dst u) w'):o.wp P a w K Q:=by
 have close:∀v g',VS (Sound P) σ.next vo env σ.get v g'->next v ⟨g',σ.next⟩->o.wp P a w K Q:=fun v g' h1 h2=>
  xP hc h1 S Us hU E fun a' w' ⟨u,D',ι',ha,T,S',hR,U'⟩=>by subst ha;exact hK v ⟨g',σ.next⟩ u D' ι' w' h2 T S' hR U' (Nat.le_refl _)
 have GH:∀(f:Nat) (args:List AV) (vs:Array Value),Sound P f args ⟨σ.get,σ.next+1⟩ next->eM P w D ι args vs->(execOp a.eval o).run P w=.ok (.enter f vs) w->o.wp P a w K Q:=by
  intro f args vs h hA gC
  unfold Oper.wp
  rw[gC]
  refine(h hs D ι w vs S Us.next hA).mono ?_
  rintro e w' ⟨r,g',n',D',ι',u,rfl,hn,T,S',U',hle,hR⟩
  exact hK r ⟨g',n'⟩ u D' ι' w' hn T S' hR (U'.more fun _ h=>h.elim) (Nat.le_trans (Nat.le_succ _) hle)
 unfold fI at hv
 split at hv
 ·rename_i f args dB
  rcases hv with⟨r,hP,hn⟩|⟨_,hX⟩|⟨J1,sz,rows,hM,hn⟩
  ·exact close r σ.get (by unfold VS;rw[dB];exact .inl ⟨hP,rfl⟩) hn
  rotate_left
  ·exact close _ _ (by unfold VS;rw[dB];exact .inr ⟨J1,sz,rows,hM,rfl,rfl⟩) hn
  ·have jQ:=hc
   rw[dB]at jQ
   obtain⟨c,ho,jH,Ce,mb⟩:=yU jQ
   refine GH f _ (c.args.map a.eval) hX (mO E mb) ?_
   simp only[execOp,ho,resolve,jH,Deferred.ofValue,Act.eval,Sem.run_bind,Sem.run_pure,Result.andThen_ok,invoke,Array.empty_append,Array.append_empty]
   exact iK Ce
 ·rename_i x args dB
  split at hv
  ·rename_i f cr hx
   have oM:sC (cv env x) (args.map (cv env))=some (f,args.map (cv env)++cr):=by rw[hx];rfl
   rcases hv with⟨r,hP,hn⟩|⟨_,hX⟩|⟨J1,sz,rows,hM,hn⟩
   ·exact close r σ.get (by unfold VS;rw[dB];exact⟨f,_,oM,.inl ⟨hP,rfl⟩⟩) hn
   rotate_left
   ·exact close _ _ (by unfold VS;rw[dB];exact⟨f,_,oM,.inr ⟨J1,sz,rows,hM,rfl,rfl⟩⟩) hn
   ·have jQ:=hc
    rw[dB]at jQ
    obtain⟨c,t,ho,jH,rfl,mb⟩:=qx jQ
    obtain⟨first,us,he,Ce,hL⟩:=sE (v:=a.eval (.tmp t)) oM (E t) (mO E mb)
    refine GH f _ (first++c.args.map a.eval++us) hX hL ?_
    simp only[execOp,ho,resolve,jH,he,Deferred.ofValue,Sem.run_bind,Sem.run_pure,Result.andThen_ok,invoke]
    exact iK Ce
  ·rename_i f cr hx
   have oM:sC (cv env x) (args.map (cv env))=some (f,cr++args.map (cv env)):=by rw[hx];rfl
   rcases hv with⟨r,hP,hn⟩|⟨_,hX⟩|⟨J1,sz,rows,hM,hn⟩
   ·exact close r σ.get (by unfold VS;rw[dB];exact⟨f,_,oM,.inl ⟨hP,rfl⟩⟩) hn
   rotate_left
   ·exact close _ _ (by unfold VS;rw[dB];exact⟨f,_,oM,.inr ⟨J1,sz,rows,hM,rfl,rfl⟩⟩) hn
   ·have jQ:=hc
    rw[dB]at jQ
    obtain⟨c,t,ho,jH,rfl,mb⟩:=qx jQ
    obtain⟨first,us,he,Ce,hL⟩:=sE (v:=a.eval (.tmp t)) oM (E t) (mO E mb)
    refine GH f _ (first++c.args.map a.eval++us) hX hL ?_
    simp only[execOp,ho,resolve,jH,he,Deferred.ofValue,Sem.run_bind,Sem.run_pure,Result.andThen_ok,invoke]
    exact iK Ce
  ·exact hv.elim
 ·rename_i m x y dB
  split at hv
  ·rename_i v' g' he
   exact close v' g' (by unfold VS;rw[dB];rw[dB]at he;exact he) hv
  ·exact hv.elim
 ·rename_i m x y dB
  split at hv
  ·rename_i v' g' he
   exact close v' g' (by unfold VS;rw[dB];rw[dB]at he;exact he) hv
  ·exact hv.elim
 ·rename_i m x y dB
  split at hv
  ·rename_i v' g' he
   exact close v' g' (by unfold VS;rw[dB];rw[dB]at he;exact he) hv
  ·exact hv.elim
 ·rename_i m x dB
  split at hv
  ·rename_i v' g' he
   exact close v' g' (by unfold VS;rw[dB];rw[dB]at he;exact he) hv
  ·exact hv.elim
 ·rename_i m x dB
  split at hv
  ·rename_i v' g' he
   exact close v' g' (by unfold VS;rw[dB];rw[dB]at he;exact he) hv
  ·exact hv.elim
 ·rename_i n1 n2 n3 n4 n5 n6 n7
  split at hv
  ·rename_i v' r hq
   refine close v' (bK σ.get ⟨vo.site,σ.next⟩ r) ?_ hv
   unfold VS
   split
   ·rename_i h;exact(n1 _ _ h).elim
   ·rename_i h;exact(n2 _ _ h).elim
   ·rename_i h;exact(n3 _ _ _ h).elim
   ·rename_i h;exact(n4 _ _ _ h).elim
   ·rename_i h;exact(n5 _ _ _ h).elim
   ·rename_i h;exact(n6 _ _ h).elim
   ·rename_i h;exact(n7 _ _ h).elim
   ·exact⟨some r,hq,rfl⟩
  ·rename_i v' hq
   refine close v' σ.get ?_ hv
   unfold VS
   split
   ·rename_i h;exact(n1 _ _ h).elim
   ·rename_i h;exact(n2 _ _ h).elim
   ·rename_i h;exact(n3 _ _ _ h).elim
   ·rename_i h;exact(n4 _ _ _ h).elim
   ·rename_i h;exact(n5 _ _ _ h).elim
   ·rename_i h;exact(n6 _ _ h).elim
   ·rename_i h;exact(n7 _ _ h).elim
   ·exact⟨none,hq,rfl⟩
  ·exact hv.elim
structure St (P:Program) (hs nt:Nat) (D:Nat->Prop) (ι:Names) (env:Env) (σ:aw) (a:Act) (w:World):Prop where
 HL:fJ P hs D ι σ.get w
 used:Used ι σ.next (fun _=>False)
 env:bu P w D ι env a
 size:a.tmps.size=nt
theorem Bg (rest:List Oper) {ops:Array Oper} {nt site0:Nat} {draw mk:Bool} {bs:Array Nat} {hidden:List (Nat×Bool)} {K:Env->aw->Prop} {Q:Exit->Act->World->Prop}:∀(l:List Oper) (vl:List aV) (j:Nat) (env:Env) (σ:aw) (a:Act) (w:World) (D:Nat->Prop) (ι:Names) (U:Nat->Prop),
  allM (k5 P ops nt site0 draw mk bs hidden) l j=some vl->wpOps (Sound P) draw vl K env σ->fJ P hs D ι σ.get w->Used ι σ.next U->(∀s,U s->s<site0+j)->bu P w D ι env a->a.tmps.size=nt->
  (∀gJ σ' a' w' D' ι',K gJ σ'->Step hs D ι w D' ι' w'->St P hs nt D' ι' gJ σ' a' w'->a'.defers=a.defers->σ.next<=σ'.next->wpList P ops Q rest a' w')->wpList P ops Q (l++rest) a w:=by
 intro l
 induction l with
 |nil=>
  intro vl j env σ a w D ι U h hv S Us _ E eS hQ
  simp[allM]at h;subst h
  exact hQ env ⟨σ.get,σ.next+1⟩ a w D ι hv (Step.refl _ _ _ _) ⟨S,Us.next,E,eS⟩ rfl (Nat.le_succ _)
 |cons o l ih=>
  intro vl j env σ a w D ι U h hv S Us hU E eS hQ
  simp only[allM,Option.bind_eq_bind,Option.bind_eq_some_iff,Option.pure_def,Option.some.injEq]at h
  obtain⟨vo,n8,qL,qc,rfl⟩:=h
  obtain⟨hc,hd,yP,ui,hg⟩:=nF n8
  have hw:=qM (ops:=ops) (vo:=vo) E hg
  unfold wpOps at hv
  show wpList P ops Q (o::(l++rest)) a w
  unfold wpList
  rw[<-hw]
  split at hv
  ·rename_i Dv
   rw[if_pos Dv]
   refine .inl (vP hc hv S Us (fun h=>by have:=hU _ h;omega) E fun v σ' u D' ι' w' hn T S' hR U' hle=>?_)
   refine ih qL (j+1) (upd env vo.dst v) σ' (a.put o.dst u) w' D' ι' _ qc hn S' U' (fun s yL=>by
    rcases yL with h|h
    ·have:=hU _ h;omega
    ·omega) (by rw[hd];exact lG (m3 E T) hR ui eS) (by rw[jZ];exact eS) fun gJ σ2 a' w2 D2 ι2 hk T2 MZ Ay lJ=>hQ gJ σ2 a' w2 D2 ι2 hk (T.trans T2) MZ (Ay.trans (put_defers _ _ _)) (Nat.le_trans hle lJ)
  ·rename_i Dv
   rw[if_neg Dv]
   refine ih qL (j+1) (upd env vo.dst .undef) σ (a.put o.dst undef) w D ι U qc hv S Us (fun s yL=>by have:=hU _ yL;omega) (by rw[hd];exact lG E cw.undef ui eS) (by rw[jZ];exact eS) fun gJ σ2 a' w2 D2 ι2 hk T2 MZ Ay lJ=>hQ gJ σ2 a' w2 D2 ι2 hk T2 MZ (Ay.trans (put_defers _ _ _)) lJ
theorem Eb {ops:Array Oper} {nt site0:Nat} {draw mk:Bool} {bs:Array Nat} {hidden:List (Nat×Bool)} {K:Env->aw->Prop} {Q:Exit->Act->World->Prop}:∀(l:List Oper) (vl:List aV) (j:Nat) (env:Env) (σ:aw) (a:Act) (w:World) (D:Nat->Prop) (ι:Names) (U:Nat->Prop),
  allM (k5 P ops nt site0 draw mk bs hidden) l j=some vl->wpOps (Sound P) draw vl K env σ->fJ P hs D ι σ.get w->Used ι σ.next U->(∀s,U s->s<site0+j)->bu P w D ι env a->a.tmps.size=nt->
  (∀gJ σ' a' w' D' ι',K gJ σ'->Step hs D ι w D' ι' w'->St P hs nt D' ι' gJ σ' a' w'->a'.defers=a.defers->σ.next<=σ'.next->Q .normal a' w')->wpList P ops Q l a w:=fun l vl j env σ a w D ι U h hv S Us hU E eS hQ=>by
 have:=Bg [] l vl j env σ a w D ι U h hv S Us hU E eS hQ
 rwa [List.append_nil]at this
end
end Go.Proofs.YtihgaadadaekmaaGreatDoor.V

namespace Go.Proofs.YtihgaadadaekmaaGreatDoor.V
open Go.RowKit
variable {P:Program} {w w':World} {D D' D2:Nat->Prop} {ι ι' ι2:Names}
section
variable {hs:Nat} {X:e6}
theorem aP {env gU:Env} {x:O} (h:∀t∈fR x,env t=gU t):cv env x=cv gU x:=by
 cases x with
 |t n=>exact h n (by simp[fR])
 |_=>rfl
theorem map_congr {env gU:Env} {l:List O} (h:∀t∈l.flatMap fR,env t=gU t):l.map (cv env)=l.map (cv gU):=
 List.map_congr_left fun x hx=>aP fun t ht=>h t (List.mem_flatMap.2 ⟨x,hx,ht⟩)
theorem nK {env gU:Env} {x:Option O} (h:∀t∈th x,env t=gU t):x.map (cv env)=x.map (cv gU):=by
 cases x with
 |none=>rfl
 |some y=>simp only[Option.map_some];rw[aP h]
theorem qD {env gU:Env} {o:fD} {g:Rows} {id:Id} (h:∀t∈o.fH,env t=gU t):eE o (cv env) g id=eE o (cv gU) g id:=by
 cases o<;>simp only[fD.fH,List.mem_append]at h<;>simp only[eE]
 case cG x=>rw[aP h]
 case pick c a b=>rw[aP (x:=c) fun t ht=>h t (.inl (.inl ht)),aP (x:=a) fun t ht=>h t (.inl (.inr ht)),aP (x:=b) fun t ht=>h t (.inr ht)]
 case box x=>rw[aP h]
 case build z ps=>
  have:(ps.map fun(x:Nat×Nat×O)=>(x.1,x.2.1,cv env x.2.2))=ps.map fun(x:Nat×Nat×O)=>(x.1,x.2.1,cv gU x.2.2):=List.map_congr_left fun x hx=>by
   rw[aP (x:=x.2.2) fun t ht=>h t (List.mem_flatMap.2 ⟨x,hx,ht⟩)]
  rw[this]
 case lD a b l=>rw[map_congr h]
 case load a n x=>rw[aP h]
 case x9 x=>rw[aP h]
 case bin a b x y=>rw[aP (x:=x) fun t ht=>h t (.inl ht),aP (x:=y) fun t ht=>h t (.inr ht)]
 case sh a x y=>rw[aP (x:=x) fun t ht=>h t (.inl ht),aP (x:=y) fun t ht=>h t (.inr ht)]
 case H0 a x y=>rw[aP (x:=x) fun t ht=>h t (.inl ht),aP (x:=y) fun t ht=>h t (.inr ht)]
 case KF a b x y=>rw[aP (x:=x) fun t ht=>h t (.inl ht),aP (x:=y) fun t ht=>h t (.inr ht)]
 case OR a b x y=>rw[aP (x:=x) fun t ht=>h t (.inl ht),aP (x:=y) fun t ht=>h t (.inr ht)]
 case Ng a b x=>rw[aP h]
 case OS a x=>rw[aP h]
 case not x=>rw[aP h]
 case neg x=>rw[aP h]
 case conv k x=>rw[aP h]
 case BX x=>rw[aP h]
 case slice s x lo hi=>rw[aP (x:=x) fun t ht=>h t (.inl (.inl ht)),nK (x:=lo) fun t ht=>h t (.inl (.inr ht)),nK (x:=hi) fun t ht=>h t (.inr ht)]
 case xf x lo hi=>rw[aP (x:=x) fun t ht=>h t (.inl (.inl ht)),nK (x:=lo) fun t ht=>h t (.inl (.inr ht)),nK (x:=hi) fun t ht=>h t (.inr ht)]
 case fm k x=>rw[aP h]
 case field a b c x=>rw[aP h]
 case dp s x y=>rw[aP (x:=x) fun t ht=>h t (.inl ht),aP (x:=y) fun t ht=>h t (.inr ht)]
 case IG n s x y=>rw[aP (x:=x) fun t ht=>h t (.inl ht),aP (x:=y) fun t ht=>h t (.inr ht)]
 case II x y=>rw[aP (x:=x) fun t ht=>h t (.inl ht),aP (x:=y) fun t ht=>h t (.inr ht)]
 case fF a b c x y=>rw[aP (x:=x) fun t ht=>h t (.inl ht),aP (x:=y) fun t ht=>h t (.inr ht)]
 case extract i x=>rw[aP h]
 case len x=>rw[aP h]
 case IT x=>rw[aP h]
 case Gx x=>rw[aP h]
 case Gl x=>rw[aP h]
 case I1 f l=>rw[map_congr h]
 case I2 f l=>rw[map_congr h]
 case mq f l=>rw[map_congr h]
 case jg z x y=>rw[aP (x:=x) fun t ht=>h t (.inl ht),aP (x:=y) fun t ht=>h t (.inr ht)]
theorem fX {env gU:Env} {o:fD} {g:Rows} {id:Id} (h:∀t∈o.fH,env t=gU t):fW o (cv env) g id=fW o (cv gU) g id:=by
 cases o<;>simp only[fD.fH,List.mem_append]at h<;>simp only[fW]
 case clear z x=>rw[aP h]
 case mw f l=>rw[map_congr h]
 all_goals rename_i a x y
 all_goals rw[aP (x:=x) fun t ht=>h t (.inl ht),aP (x:=y) fun t ht=>h t (.inr ht)]
theorem Fc {n:Nat} {vo:aV} {env gU:Env} {g g':Rows} {v:AV} (h:∀t∈vo.op.fH,env t=gU t) (hv:VS X n vo env g v g'):VS X n vo gU g v g':=by
 unfold VS at hv ⊢
 split at hv
 ·rename_i f args dB
  rw[dB]at h
  simp only[fD.fH]at h
  rw[<-map_congr h];exact hv
 ·rename_i x args dB
  rw[dB]at h
  simp only[fD.fH,List.mem_append]at h
  rw[<-map_congr (l:=args) fun t ht=>h t (.inr ht),<-aP (x:=x) fun t ht=>h t (.inl ht)];exact hv
 ·rw[<-fX h];exact hv
 ·rw[<-fX h];exact hv
 ·rw[<-fX h];exact hv
 ·rw[<-fX h];exact hv
 ·rw[<-fX h];exact hv
 ·rw[<-qD h];exact hv
theorem A7 {q:MQ} {vs:List AV} {g:Rows} {id:Id} {v:AV} {r:Row} (h:bB q vs g id=some (v,some r)):∃m,q=.new m:=by
 unfold bB at h
 split at h
 ·exact⟨_,rfl⟩
 ·simp[Option.bind_eq_some_iff]at h
 ·simp at h
 ·cases h
theorem tk {o:fD} {ρ:O->AV} {g:Rows} {id:Id} {v:AV} {r:Row} (h:eE o ρ g id=some (v,some r)):oN o=true:=by
 cases o<;>simp only[eE]at h<;>(try rfl)<;>(try simp at h)
 case mq q xs=>obtain⟨m,rfl⟩:=A7 h;rfl
 all_goals (try(split at h<;>simp at h))
theorem tn {o:fD} {ρ:O->AV} {g g2:Rows} {id id2:Id} (h:o.cls=.pure):eE o ρ g id=eE o ρ g2 id2:=by
 cases o<;>(try simp[fD.cls]at h)<;>(try simp only[eE])
 case mq q xs=>cases q<;>simp[fD.cls]at h
theorem sv {n:Nat} {vo:aV} {env:Env} {g g':Rows} {v:AV} (hw:vo.op.cls≠.write) (hv:VS X n vo env g v g'):∃mr,g'=il g ⟨vo.site,n⟩ mr/\(mr≠none->vo.makes=true)/\∀g0,fV vo.hid n g0=fV vo.hid n g->VS X n vo env g0 v (il g0 ⟨vo.site,n⟩ mr):=by
 unfold VS at hv
 split at hv
 ·rename_i f args dB
  rcases hv with⟨h1,rfl⟩|⟨hs,sz,rows,hM,rfl,rfl⟩
  ·refine⟨none,rfl,fun h=>(h rfl).elim,fun g0 h0=>?_⟩
   unfold VS;rw[dB];simp only;unfold sD;rw[h0];exact .inl ⟨h1,rfl⟩
  ·refine⟨some _,rfl,fun _=>by unfold aV.makes;rw[dB,hs];simp[fD.kN],fun g0 h0=>?_⟩
   unfold VS;rw[dB];simp only;unfold sD;rw[h0];exact .inr ⟨hs,sz,rows,hM,rfl,rfl⟩
 ·rename_i x args dB
  obtain⟨f,cr,hx,hv⟩:=hv
  rcases hv with⟨h1,rfl⟩|⟨hs,sz,rows,hM,rfl,rfl⟩
  ·refine⟨none,rfl,fun h=>(h rfl).elim,fun g0 h0=>?_⟩
   unfold VS;rw[dB];simp only;unfold sD;rw[h0];exact⟨f,cr,hx,.inl ⟨h1,rfl⟩⟩
  ·refine⟨some _,rfl,fun _=>by unfold aV.makes;rw[dB,hs];simp[fD.kN],fun g0 h0=>?_⟩
   unfold VS;rw[dB];simp only;unfold sD;rw[h0];exact⟨f,cr,hx,.inr ⟨hs,sz,rows,hM,rfl,rfl⟩⟩
 ·rename_i dB;rw[dB]at hw;exact(hw rfl).elim
 ·rename_i dB;rw[dB]at hw;exact(hw rfl).elim
 ·rename_i dB;rw[dB]at hw;exact(hw rfl).elim
 ·rename_i dB;rw[dB]at hw;exact(hw rfl).elim
 ·rename_i dB;rw[dB]at hw;exact(hw rfl).elim
 ·rename_i n1 n2 n3 n4 n5 n6 n7
  obtain⟨mr,hq,rfl⟩:=hv
  refine⟨mr,rfl,fun h=>?_,fun g0 h0=>?_⟩
  ·cases mr with
   |none=>exact(h rfl).elim
   |some r=>unfold aV.makes;rw[tk hq];rfl
  ·unfold VS
   split
   ·rename_i hh;exact(n1 _ _ hh).elim
   ·rename_i hh;exact(n2 _ _ hh).elim
   ·rename_i hh;exact(n3 _ _ _ hh).elim
   ·rename_i hh;exact(n4 _ _ _ hh).elim
   ·rename_i hh;exact(n5 _ _ _ hh).elim
   ·rename_i hh;exact(n6 _ _ hh).elim
   ·rename_i hh;exact(n7 _ _ hh).elim
   ·rw[h0];exact⟨mr,hq,rfl⟩
theorem vW {n:Nat} {vo:aV} {env:Env} {g g':Rows} {v:AV} (hp:vo.op.cls=.pure) (hv:VS X n vo env g v g'):g'=g/\∀g0,VS X n vo env g0 v g0:=by
 unfold VS at hv
 split at hv
 ·rename_i dB;rw[dB]at hp;simp[fD.cls]at hp
 ·rename_i dB;rw[dB]at hp;simp[fD.cls]at hp
 ·rename_i dB;rw[dB]at hp;simp[fD.cls]at hp
 ·rename_i dB;rw[dB]at hp;simp[fD.cls]at hp
 ·rename_i dB;rw[dB]at hp;simp[fD.cls]at hp
 ·rename_i dB;rw[dB]at hp;simp[fD.cls]at hp
 ·rename_i dB;rw[dB]at hp;simp[fD.cls]at hp
 ·rename_i n1 n2 n3 n4 n5 n6 n7
  obtain⟨mr,hq,rfl⟩:=hv
  have QA:mr=none:=by
   cases mr with
   |none=>rfl
   |some r=>have:=tk hq;simp[oN,hp]at this
  subst QA
  refine⟨rfl,fun g0=>?_⟩
  unfold VS
  split
  ·rename_i hh;exact(n1 _ _ hh).elim
  ·rename_i hh;exact(n2 _ _ hh).elim
  ·rename_i hh;exact(n3 _ _ _ hh).elim
  ·rename_i hh;exact(n4 _ _ _ hh).elim
  ·rename_i hh;exact(n5 _ _ _ hh).elim
  ·rename_i hh;exact(n6 _ _ hh).elim
  ·rename_i hh;exact(n7 _ _ hh).elim
  ·exact⟨none,by rw[tn hp];exact hq,rfl⟩
def GS (X:e6) (n:Nat) (vo:aV) (env:Env) (g:Rows) (v:AV) (g':Rows):Prop:=
 if aI vo.guard env then VS X n vo env g v g' else v=.undef/\g'=g
theorem zy {hid:List Nat} {g:Rows} {s n:Nat} {mr:Option Row} (h:mr≠none->hid.contains s=true):fV hid n (il g ⟨s,n⟩ mr)=fV hid n g:=by
 cases mr with
 |none=>rfl
 |some r=>
  have hc:=h (by simp)
  cases hid with
  |nil=>simp at hc
  |cons a l=>
   funext i
   show(if (a::l).contains i.site=true/\i.bV=n then none else il g ⟨s,n⟩ (some r) i)=if (a::l).contains i.site=true/\i.bV=n then none else g i
   by_cases hi:i=⟨s,n⟩
   ·subst hi;rw[if_pos ⟨hc,rfl⟩,if_pos ⟨hc,rfl⟩]
   ·simp only[il,bK,if_neg hi]
theorem CS {g:Rows} {i j:Id} (h:i≠j) (m1 m2:Option Row):il (il g i m1) j m2=il (il g j m2) i m1:=by
 cases m1<;>cases m2<;>simp only[il]
 funext k
 simp only[bK]
 by_cases h1:k=i
 ·subst h1;rw[if_neg h,if_pos rfl];simp
 ·by_cases h2:k=j
  ·subst h2;simp[h1]
  ·simp[h1,h2]
theorem tO {env:Env} {d e:Option Nat} {v u:AV} (h:∀k,d=some k->e≠some k):upd (upd env d v) e u=upd (upd env e u) d v:=by
 cases d with
 |none=>rfl
 |some d=>
  cases e with
  |none=>rfl
  |some e=>
   have gF:d≠e:=fun he=>h d rfl (by rw[he])
   funext t
   simp only[upd]
   by_cases h1:t=d
   ·subst h1;rw[if_neg gF,if_pos rfl,if_pos rfl]
   ·by_cases h2:t=e
    ·subst h2;rw[if_pos rfl,if_neg h1,if_pos rfl]
    ·simp[h1,h2]
theorem lp {env:Env} {d:Option Nat} {v:AV} {l:List Nat} (h:∀k,d=some k->k∉l):∀t∈l,upd env d v t=env t:=by
 intro t ht
 cases d with
 |none=>rfl
 |some d=>
  have:t≠d:=fun he=>h d rfl (he▸ht)
  simp[upd,this]
structure zL (x y:aV):Prop where
 xy:∀k,x.dst=some k->k∉y.fH
 yx:∀k,y.dst=some k->k∉x.fH
 dst:∀k,x.dst=some k->y.dst≠some k
 cls:clash x.op.cls y.op.cls=false
 hx:x.makes=true->y.hid.contains x.site=true
 hy:y.makes=true->x.hid.contains y.site=true
 site:x.site≠y.site
theorem zL.symm {x y:aV} (h:zL x y):zL y x:=
 ⟨h.yx,h.xy,fun k hk he=>h.dst k he hk,by have:=h.cls;revert this;cases x.op.cls<;>cases y.op.cls<;>simp[clash],h.hy,h.hx,fun e=>h.site e.symm⟩
theorem oF {x y:aV} (h:Ca x y=true):zL x y:=by
 unfold Ca at h
 simp only[Bool.and_eq_true,Bool.not_eq_true',Bool.or_eq_true,bne_iff_ne]at h
 obtain⟨⟨⟨⟨h1,h2⟩,h3⟩,h4⟩,h5⟩:=h
 unfold qK at h1
 simp only[Bool.and_eq_true]at h1
 obtain⟨a1,a2⟩:=h1
 refine⟨fun k hk=>?_,fun k hk=>?_,fun k hk=>?_,h2,fun hm=>?_,fun hm=>?_,h5⟩
 ·rw[hk]at a1;simp at a1;exact a1.1
 ·rw[hk]at a2;simpa using a2
 ·rw[hk]at a1;simp at a1;exact a1.2
 ·rcases h3 with h3|h3
  ·rw[hm]at h3;cases h3
  ·exact h3
 ·rcases h4 with h4|h4
  ·rw[hm]at h4;cases h4
  ·exact h4
theorem pS {vo:aV} {t:Nat} (h:t∈vo.op.fH):t∈vo.fH:=List.mem_append_left _ h
theorem lU {vo:aV} {env gU:Env} (h:∀t∈vo.fH,env t=gU t):aI vo.guard env=aI vo.guard gU:=by
 unfold aI
 cases hg:vo.guard with
 |none=>rfl
 |some p=>
  obtain⟨t,b⟩:=p
  have:env t=gU t:=h t (List.mem_append_right _ (by rw[hg];simp))
  simp only[this]
theorem sq {n:Nat} {vo:aV} {env gU:Env} {g g':Rows} {v:AV} (h:∀t∈vo.fH,env t=gU t) (hv:GS X n vo env g v g'):GS X n vo gU g v g':=by
 unfold GS at hv ⊢
 rw[<-lU h]
 split at hv
 ·rename_i hw;rw[if_pos hw];exact Fc (fun t ht=>h t (pS ht)) hv
 ·rename_i hw;rw[if_neg hw];exact hv
theorem BO {n:Nat} {x y:aV} {env:Env} {g g1 g2:Rows} {v v':AV} (F:zL x y) (h1:GS X n x env g v g1) (h2:GS X n y (upd env x.dst v) g1 v' g2):
  ∃Ib,GS X n y env g v' Ib/\GS X n x (upd env y.dst v') Ib v g2/\upd (upd env x.dst v) y.dst v'=upd (upd env y.dst v') x.dst v:=by
 have ER:=tO (env:=env) (v:=v) (u:=v') F.dst
 replace h2:GS X n y env g1 v' g2:=sq (lp F.xy) h2
 have back:∀{Ib},GS X n x env Ib v g2->GS X n x (upd env y.dst v') Ib v g2:=fun h=>sq (fun t ht=>(lp F.yx t ht).symm) h
 unfold GS at h1 h2
 by_cases wx:aI x.guard env=true
 ·rw[if_pos wx]at h1
  by_cases wy:aI y.guard env=true
  ·rw[if_pos wy]at h2
   by_cases cx:x.op.cls=.write
   ·have cy:y.op.cls=.pure:=by
     have:=F.cls;rw[cx]at this
     cases hc:y.op.cls<;>simp[clash,hc]at this ⊢
    obtain⟨rfl,di⟩:=vW cy h2
    exact⟨g,by unfold GS;rw[if_pos wy];exact di g,back (by unfold GS;rw[if_pos wx];exact h1),ER⟩
   ·by_cases cy:y.op.cls=.write
    ·have cx':x.op.cls=.pure:=by
      have:=F.cls;rw[cy]at this
      cases hc:x.op.cls<;>simp[clash,hc]at this ⊢
     obtain⟨rfl,di⟩:=vW cx' h1
     exact⟨g2,by unfold GS;rw[if_pos wy];exact h2,back (by unfold GS;rw[if_pos wx];exact di g2),ER⟩
    ·obtain⟨mx,rfl,kx,PE⟩:=sv cx h1
     obtain⟨my,rfl,ky,Kq⟩:=sv cy h2
     have gF:(⟨x.site,n⟩:Id)≠⟨y.site,n⟩:=fun e=>F.site (by injection e)
     refine⟨il g ⟨y.site,n⟩ my,?_,back ?_,ER⟩
     ·unfold GS;rw[if_pos wy]
      exact Kq g (zy fun h=>F.hx (kx h)).symm
     ·unfold GS;rw[if_pos wx,CS gF]
      exact PE _ (zy fun h=>F.hy (ky h))
  ·rw[if_neg wy]at h2
   obtain⟨rfl,rfl⟩:=h2
   exact⟨g,by unfold GS;rw[if_neg wy];exact⟨rfl,rfl⟩,back (by unfold GS;rw[if_pos wx];exact h1),ER⟩
 ·rw[if_neg wx]at h1
  obtain⟨rfl,rfl⟩:=h1
  exact⟨g2,h2,back (by unfold GS;rw[if_neg wx];exact⟨rfl,rfl⟩),ER⟩
end
end Go.Proofs.YtihgaadadaekmaaGreatDoor.V

namespace Go.Proofs.YtihgaadadaekmaaGreatDoor.V
open Go.RowKit
variable {P:Program} {w w':World} {D D' D2:Nat->Prop} {ι ι' ι2:Names}
section
variable {hs:Nat} {X:e6}
def im (acc:Array Nat) (o:Oper):Nat:=o.after.foldl (fun s e=>if Region.binds .any e then s|||2 ^ e.on|||acc.getD e.on 0 else s) 0
theorem HW (ops:Array Oper):iN ops=ops.foldl (fun acc o=>acc.push (im acc o)) #[]:=rfl
theorem xW {acc:Array Nat} {o:Oper} {i:Nat} (h:(im acc o).testBit i=true):∃e∈o.after,Region.binds .any e=true/\(e.on=i∨(acc.getD e.on 0).testBit i=true):=by
 unfold im at h
 rw[<-Array.foldl_toList]at h
 have gen:∀(l:List Edge) (s:Nat),(l.foldl (fun s e=>if Region.binds .any e then s|||2 ^ e.on|||acc.getD e.on 0 else s) s).testBit i=true->s.testBit i=true∨∃e∈l,Region.binds .any e=true/\(e.on=i∨(acc.getD e.on 0).testBit i=true):=by
  intro l
  induction l with
  |nil=>intro s h;exact .inl h
  |cons e r ih=>
   intro s h
   rw[List.foldl_cons]at h
   rcases ih _ h with h|⟨e',Ik,h'⟩
   ·by_cases hb:Region.binds .any e=true
    ·rw[if_pos hb]at h
     simp only[Nat.testBit_or,Bool.or_eq_true]at h
     rcases h with(h|h)|h
     ·exact .inl h
     ·refine .inr ⟨e,by simp,hb,.inl ?_⟩
      rw[Nat.testBit_two_pow]at h
      simpa using h
     ·exact .inr ⟨e,by simp,hb,.inr h⟩
    ·rw[if_neg hb]at h;exact .inl h
   ·exact .inr ⟨e',List.mem_cons_of_mem _ Ik,h'⟩
 rcases gen _ _ h with h|⟨e,he,h⟩
 ·simp at h
 ·exact⟨e,Array.mem_toList_iff.1 he,h⟩
theorem Fl {ops:Array Oper} {j i:Nat} (h:((iN ops).getD j 0).testBit i=true):∃o,ops[j]? =some o/\∃e∈o.after,Region.binds .any e=true/\(e.on=i∨((iN ops).getD e.on 0).testBit i=true):=by
 have key:∀(l pre:List Oper) (acc:Array Nat),acc.size=pre.length->(∀j i,(acc.getD j 0).testBit i=true->∃o,pre[j]? =some o/\∃e∈o.after,Region.binds .any e=true/\(e.on=i∨(acc.getD e.on 0).testBit i=true))->
   ∀j i,((l.foldl (fun acc o=>acc.push (im acc o)) acc).getD j 0).testBit i=true->∃o,(pre++l)[j]? =some o/\∃e∈o.after,Region.binds .any e=true/\(e.on=i∨((l.foldl (fun acc o=>acc.push (im acc o)) acc).getD e.on 0).testBit i=true):=by
  intro l
  induction l with
  |nil=>intro pre acc _ h j i hb;simpa using h j i hb
  |cons o r ih=>
   intro pre acc eS h j i hb
   have zf:∀k,k<acc.size->(acc.push (im acc o)).getD k 0=acc.getD k 0:=fun k hk=>by
    simp only[Array.getD_eq_getD_getElem?,Array.getElem?_push]
    rw[if_neg ab]
   have big:∀k,acc.size<=k->acc.getD k 0=0:=fun k hk=>by simp[Array.getElem?_eq_none hk]
   have lift:∀k i,(acc.getD k 0).testBit i=true->((acc.push (im acc o)).getD k 0).testBit i=true:=fun k i hk=>by
    by_cases dF:k<acc.size
    ·rw[zf k dF];exact hk
    ·rw[big k ab]at hk;simp at hk
   have:=ih (pre++[o]) (acc.push (im acc o)) (by simp[eS]) (fun j i hb=>by
    by_cases dF:j<acc.size
    ·rw[zf j dF]at hb
     obtain⟨o',AH,e,he,fc,h2⟩:=h j i hb
     refine⟨o',by rw[List.getElem?_append_left ab];exact AH,e,he,fc,?_⟩
     rcases h2 with h2|h2
     ·exact .inl h2
     ·exact .inr (lift _ _ h2)
    ·by_cases hj:j=acc.size
     ·subst hj
      have e0:(acc.push (im acc o)).getD acc.size 0=im acc o:=by simp
      rw[e0]at hb
      obtain⟨e,he,fc,h2⟩:=xW hb
      refine⟨o,by rw[List.getElem?_append_right ab,eS];simp,e,he,fc,?_⟩
      rcases h2 with h2|h2
      ·exact .inl h2
      ·exact .inr (lift _ _ h2)
     ·have:(acc.push (im acc o)).getD j 0=0:=by
       simp only[Array.getD_eq_getD_getElem?]
       rw[Array.getElem?_eq_none (by simp;omega)];rfl
      rw[this]at hb;simp at hb) j i (by simpa using hb)
   simpa using this
 rw[HW,<-Array.foldl_toList]at h ⊢
 have:=key ops.toList [] #[] rfl (fun j i h=>by simp at h) j i h
 simpa using this
def DC (ops:Array Oper) (listed:Array Bool):Prop:=∀k i,listed.getD k false=true->((iN ops).getD k 0).testBit i=true->listed.getD i false=true
theorem j3 {ops:Array Oper} {listed:Array Bool} (h:DC ops listed) {j:Nat} (hj:j∈Region.ready .any ops listed):∀i,((iN ops).getD j 0).testBit i=true->listed.getD i false=true:=by
 intro i hb
 obtain⟨_,o,ho,di⟩:=mem_ready.1 hj
 obtain⟨o',AH,e,he,fc,h2⟩:=Fl hb
 rw[ho]at AH;injection AH with AH;subst AH
 have hl:=di e he fc
 rcases h2 with h2|h2
 ·rw[<-h2];exact hl
 ·exact h _ _ hl h2
theorem DC.list {ops:Array Oper} {listed:Array Bool} (h:DC ops listed) {j:Nat} (hj:j∈Region.ready .any ops listed):DC ops (listed.setIfInBounds j true):=by
 intro k i hk hb
 by_cases hkj:k=j
 ·subst hkj;exact getD_set_true (j3 h hj i hb)
 ·rw[getD_set_ne false (fun e=>hkj e.symm)]at hk
  exact getD_set_true (h k i hk hb)
theorem g7 {ops:Array Oper} {listed:Array Bool} {j:Nat} (hj:j∈Region.ready .any ops listed):listed.getD j false=false:=by
 have h0:=(mem_ready.1 hj).1
 rcases Nat.lt_or_ge j listed.size with h|h
 ·simp[h]at h0 ⊢;exact h0
 ·simp[Array.getElem?_eq_none h]at h0
def Hi (X:e6) (n:Nat) (ops:Array Oper) (vl:List aV) (K:Env->Rows->Prop):Nat->Array Bool->Env->Rows->Prop
 |0,listed,env,g=>Region.ready .any ops listed=[]/\K env g
 |f+1,listed,env,g=>(Region.ready .any ops listed=[]->K env g)/\∀i∈Region.ready .any ops listed,∃vo,vl[i]? =some vo/\∃v g',GS X n vo env g v g'/\Hi X n ops vl K f (listed.setIfInBounds i true) (upd env vo.dst v) g'
theorem yf {ops:Array Oper} {vl:List aV} (h:mZ ops vl (iN ops)=true) {i j:Nat} {x y:aV} (hi:vl[i]? =some x) (hj:vl[j]? =some y) (Pa:i≠j) (h1:((iN ops).getD j 0).testBit i=false) (h2:((iN ops).getD i 0).testBit j=false):zL x y:=by
 unfold mZ at h
 simp only[Bool.and_eq_true,List.all_eq_true]at h
 obtain⟨_,h⟩:=h
 have mem:∀(k:Nat) (z:aV),vl[k]? =some z->(z,k)∈vl.zipIdx:=fun k z hk=>by
  rw[List.mem_iff_getElem?]
  exact⟨k,by simp[List.getElem?_zipIdx,hk]⟩
 rcases Nat.lt_or_gt_of_ne Pa with dF|Ip
 ·have:=h _ (mem j y hj) _ (mem i x hi)
  simp only[dF,decide_true,Bool.not_true,Bool.false_or,h1]at this
  exact oF this
 ·have:=h _ (mem i x hi) _ (mem j y hj)
  simp only[Ip,decide_true,Bool.not_true,Bool.false_or,h2]at this
  exact(oF this).symm
theorem BL {n:Nat} {ops:Array Oper} {vl:List aV} {K:Env->Rows->Prop} (sV:mZ ops vl (iN ops)=true) (hlen:vl.length=ops.size) {i:Nat} {vi:aV} (hi:vl[i]? =some vi) {v:AV}:∀(fuel:Nat) (listed:Array Bool) (env:Env) (g g1:Rows),
  DC ops listed->i∈Region.ready .any ops listed->GS X n vi env g v g1->Hi X n ops vl K fuel (listed.setIfInBounds i true) (upd env vi.dst v) g1->Hi X n ops vl K (fuel+1) listed env g:=by
 intro fuel
 induction fuel with
 |zero=>
  intro listed env g g1 _ hr hG H
  refine⟨fun h=>(by rw[h]at hr;cases hr),fun j hj=>?_⟩
  by_cases lq:j=i
  ·subst lq;exact⟨vi,hi,v,g1,hG,H⟩
  ·have:=ready_mono hj lq
   rw[H.1]at this;cases this
 |succ fuel ih=>
  intro listed env g g1 qa hr hG H
  refine⟨fun h=>(by rw[h]at hr;cases hr),fun j hj=>?_⟩
  by_cases lq:j=i
  ·subst lq;exact⟨vi,hi,v,g1,hG,H⟩
  ·obtain⟨vj,IE,v',g2,hG2,H2⟩:=H.2 j (ready_mono hj lq)
   have b1:((iN ops).getD j 0).testBit i=false:=by
    cases hb:((iN ops).getD j 0).testBit i with
    |false=>rfl
    |true=>have:=j3 qa hj i hb;rw[g7 hr]at this;cases this
   have b2:((iN ops).getD i 0).testBit j=false:=by
    cases hb:((iN ops).getD i 0).testBit j with
    |false=>rfl
    |true=>have:=j3 qa hr j hb;rw[g7 hj]at this;cases this
   have F:=yf sV hi IE (fun e=>lq e.symm) b1 b2
   obtain⟨Ib,q1,q2,q3⟩:=BO F hG hG2
   refine⟨vj,IE,v',Ib,q1,ih _ _ _ g2 (qa.list hj) (ready_mono hr (fun e=>lq e.symm)) q2 ?_⟩
   rw[<-q3,Array.setIfInBounds_comm _ _ lq]
   exact H2
theorem Kn {n:Nat} {vo:aV} {env:Env} {g:Rows} {v:AV} {mr:Option Row} (h:eE vo.op (cv env) (fV vo.hid n g) ⟨vo.site,n⟩=some (v,mr)):VS X n vo env g v (il g ⟨vo.site,n⟩ mr):=by
 unfold VS
 split
 ·rename_i dB;rw[dB]at h;simp[eE]at h
 ·rename_i dB;rw[dB]at h;simp[eE]at h
 ·rename_i dB;rw[dB]at h;simp[eE]at h
 ·rename_i dB;rw[dB]at h;simp[eE]at h
 ·rename_i dB;rw[dB]at h;simp[eE]at h
 ·rename_i dB;rw[dB]at h;simp[eE]at h
 ·rename_i dB;rw[dB]at h;simp[eE]at h
 ·exact⟨mr,h,rfl⟩
theorem Fe {n:Nat} {vo:aV} {env:Env} {g g':Rows} {v:AV} (h:fW vo.op (cv env) g ⟨vo.site,n⟩=some (v,g')):VS X n vo env g v g':=by
 unfold VS
 split
 ·rename_i dB;rw[dB]at h;simp[fW]at h
 ·rename_i dB;rw[dB]at h;simp[fW]at h
 ·exact h
 ·exact h
 ·exact h
 ·exact h
 ·exact h
 ·rename_i n1 n2 n3 n4 n5 n6 n7
  exfalso
  unfold fW at h
  split at h
  ·rename_i hh;exact n3 _ _ _ hh
  ·rename_i hh;exact n4 _ _ _ hh
  ·rename_i hh;exact n5 _ _ _ hh
  ·rename_i hh;exact n6 _ _ hh
  ·rename_i hh;exact n7 _ _ hh
  ·simp at h
theorem L2 {vo:aV} {env:Env} {σ:aw} {next:AV->aw->Prop} (hv:fI X true vo env σ next):∃v g',VS X σ.next vo env σ.get v g'/\next v ⟨g',σ.next⟩:=by
 unfold fI at hv
 split at hv
 ·rename_i f args dB
  rcases hv with⟨r,hP,hn⟩|⟨h,_⟩|⟨hs,sz,rows,hM,hn⟩
  ·exact⟨r,σ.get,by unfold VS;rw[dB];exact .inl ⟨hP,rfl⟩,hn⟩
  ·cases h
  ·exact⟨_,_,by unfold VS;rw[dB];exact .inr ⟨hs,sz,rows,hM,rfl,rfl⟩,hn⟩
 ·rename_i x args dB
  split at hv
  ·rename_i f cr hx
   have oM:sC (cv env x) (args.map (cv env))=some (f,args.map (cv env)++cr):=by rw[hx];rfl
   rcases hv with⟨r,hP,hn⟩|⟨h,_⟩|⟨hs,sz,rows,hM,hn⟩
   ·exact⟨r,σ.get,by unfold VS;rw[dB];exact⟨f,_,oM,.inl ⟨hP,rfl⟩⟩,hn⟩
   ·cases h
   ·exact⟨_,_,by unfold VS;rw[dB];exact⟨f,_,oM,.inr ⟨hs,sz,rows,hM,rfl,rfl⟩⟩,hn⟩
  ·rename_i f cr hx
   have oM:sC (cv env x) (args.map (cv env))=some (f,cr++args.map (cv env)):=by rw[hx];rfl
   rcases hv with⟨r,hP,hn⟩|⟨h,_⟩|⟨hs,sz,rows,hM,hn⟩
   ·exact⟨r,σ.get,by unfold VS;rw[dB];exact⟨f,_,oM,.inl ⟨hP,rfl⟩⟩,hn⟩
   ·cases h
   ·exact⟨_,_,by unfold VS;rw[dB];exact⟨f,_,oM,.inr ⟨hs,sz,rows,hM,rfl,rfl⟩⟩,hn⟩
  ·exact hv.elim
 ·split at hv
  ·rename_i v g h;exact⟨v,g,Fe h,hv⟩
  ·exact hv.elim
 ·split at hv
  ·rename_i v g h;exact⟨v,g,Fe h,hv⟩
  ·exact hv.elim
 ·split at hv
  ·rename_i v g h;exact⟨v,g,Fe h,hv⟩
  ·exact hv.elim
 ·split at hv
  ·rename_i v g h;exact⟨v,g,Fe h,hv⟩
  ·exact hv.elim
 ·split at hv
  ·rename_i v g h;exact⟨v,g,Fe h,hv⟩
  ·exact hv.elim
 ·split at hv
  ·rename_i v r h;exact⟨v,_,Kn h,hv⟩
  ·rename_i v h;exact⟨v,_,Kn h,hv⟩
  ·exact hv.elim
theorem tP {ops:Array Oper} {vl:List aV} {K:Env->aw->Prop} {n:Nat} (sV:mZ ops vl (iN ops)=true) (hlen:vl.length=ops.size):∀(r:List aV) (k:Nat) (listed:Array Bool) (env:Env) (g:Rows),
  (∀j,r[j]? =vl[k+j]?)->listed.size=ops.size->(∀i,i<ops.size->listed[i]? =some (decide (i<k)))->k+r.length=ops.size->DC ops listed->wpOps X true r K env ⟨g,n⟩->Hi X n ops vl (fun env g=>K env ⟨g,n+1⟩) r.length listed env g
 |[],k,listed,env,g,_,eS,hl,hk,_,hv=>by
  refine⟨?_,hv⟩
  rw[List.eq_nil_iff_forall_not_mem]
  intro j hj
  obtain⟨h0,o,ho,_⟩:=mem_ready.1 hj
  have dF:j<ops.size:=(Array.getElem?_eq_some_iff.1 ho).1
  have:=hl j dF
  simp at hk
  simp[this,show j<k by omega]at h0
 |vo::r,k,listed,env,g,hr,eS,hl,hk,qa,hv=>by
  simp only[List.length_cons]at hk
  have n8:vl[k]? =some vo:=by simpa using(hr 0).symm
  have ki:k<ops.size:=ab
  have F6:k∈Region.ready .any ops listed:=by
   rw[mem_ready]
   refine⟨by simp[hl k ki],ops[k],Array.getElem?_eq_getElem ki,fun e he hb=>?_⟩
   unfold mZ B3 at sV
   simp only[Bool.and_eq_true,List.all_eq_true]at sV
   have hm:(ops[k],k)∈ops.toList.zipIdx:=by
    rw[List.mem_iff_getElem?]
    exact⟨k,by simp[List.getElem?_zipIdx,ki]⟩
   have:=sV.1 _ hm
   rw[Array.all_eq_true_iff_forall_mem]at this
   have:=this e he
   simp only[hb,Bool.not_true,Bool.false_or,decide_eq_true_eq]at this
   simp[hl e.on ab,this]
  have hGS:∃v g',GS X n vo env g v g'/\wpOps X true r K (upd env vo.dst v) ⟨g',n⟩:=by
   unfold wpOps at hv
   unfold GS
   split at hv
   ·rename_i hw
    simp only[hw,if_true]
    exact L2 hv
   ·rename_i hw
    simp only[hw]
    exact⟨.undef,g,⟨rfl,rfl⟩,hv⟩
  obtain⟨v,g',h1,h2⟩:=hGS
  refine BL sV hlen n8 r.length listed env g g' qa F6 h1 ?_
  refine tP sV hlen r (k+1) _ _ _ (fun j=>by have:=hr (j+1);simpa[Nat.add_assoc,Nat.add_comm 1 j]using this) (by simp[eS]) (fun i hi=>?_) ab (qa.list F6) h2
  by_cases u5:i=k
  ·subst u5;simp[eS,ki]
  ·rw[Array.getElem?_setIfInBounds_ne (fun e=>u5 e.symm),hl i hi]
   congr 1
   have:(i<k)=(i<k+1):=by apply propext;omega
   simp[this]
theorem mN {f:Nat->Oper->Option aV}:∀{l:List Oper} {vl:List aV} {j:Nat},allM f l j=some vl->vl.length=l.length/\∀(i:Nat) (o:Oper),l[i]? =some o->∃vo,vl[i]? =some vo/\f (j+i) o=some vo
 |[],vl,j,h=>by simp[allM]at h;subst h;simp
 |o::l,vl,j,h=>by
  simp only[allM,Option.bind_eq_bind,Option.bind_eq_some_iff,Option.pure_def,Option.some.injEq]at h
  obtain⟨vo,n8,qL,qc,rfl⟩:=h
  obtain⟨h1,h2⟩:=mN qc
  refine⟨by simp[h1],fun i o' hi=>?_⟩
  cases i with
  |zero=>simp at hi;subst hi;exact⟨vo,rfl,n8⟩
  |succ i=>
   simp at hi
   obtain⟨q,hq,hf⟩:=h2 i o' hi
   exact⟨q,by simpa using hq,by rw[<-hf];congr 1;omega⟩
theorem uH {ops:Array Oper} {vl:List aV} {nt site0:Nat} {draw mk:Bool} {bs:Array Nat} {hidden:List (Nat×Bool)} {n:Nat} {K:Env->Rows->Prop} {Q:Exit->Act->World->Prop} (di:allM (k5 P ops nt site0 draw mk bs hidden) ops.toList 0=some vl):
  ∀(fuel:Nat) (listed:Array Bool) (env:Env) (g:Rows) (a:Act) (w:World) (D:Nat->Prop) (ι:Names) (U:Nat->Prop),Hi (Sound P) n ops vl K fuel listed env g->fJ P hs D ι g w->Used ι n U->(∀s,U s->∃i,s=site0+i/\listed.getD i false=true)->bu P w D ι env a->a.tmps.size=nt->
  (∀gJ g' a' w' D' ι' U',K gJ g'->Step hs D ι w D' ι' w'->fJ P hs D' ι' g' w'->Used ι' n U'->bu P w' D' ι' gJ a'->a'.tmps.size=nt->a'.defers=a.defers->Q .normal a' w')->wpAny P .any ops Q fuel listed a w:=by
 intro fuel
 induction fuel with
 |zero=>intro listed env g a w D ι U h S Us hU E eS hQ;exact⟨h.1,hQ env g a w D ι U h.2 (Step.refl _ _ _ _) S Us E eS rfl⟩
 |succ fuel ih=>
  intro listed env g a w D ι U h S Us hU E eS hQ
  refine⟨fun hr=>hQ env g a w D ι U (h.1 hr) (Step.refl _ _ _ _) S Us E eS rfl,fun i hi=>?_⟩
  obtain⟨vo,n8,v,g',hG,J0⟩:=h.2 i hi
  obtain⟨_,o,ho,_⟩:=mem_ready.1 hi
  obtain⟨vo',k8,NC⟩:=(mN di).2 i o (by simpa using ho)
  rw[n8]at k8;injection k8 with k8;subst k8
  rw[Nat.zero_add]at NC
  obtain⟨hc,hd,yP,ui,hg⟩:=nF NC
  have hw:=qM (ops:=ops) (vo:=vo) E hg
  have Qd:¬U vo.site:=fun hu=>by
   obtain⟨i',he,hl⟩:=hU _ hu
   have:i'=i:=ab
   subst this
   rw[g7 hi]at hl;cases hl
  have iO:i<listed.size:=by
   have h0:=(mem_ready.1 hi).1
   rcases Nat.lt_or_ge i listed.size with h|h
   ·exact h
   ·simp[Array.getElem?_eq_none h]at h0
  unfold wpOp
  simp only[ho]
  rw[<-hw]
  unfold GS at hG
  by_cases Dv:aI vo.guard env=true
  ·rw[if_pos Dv]
   rw[if_pos Dv]at hG
   refine .inl (xP hc hG S Us Qd E fun a' w' ⟨u,D',ι',ha,T,S',hR,U'⟩=>?_)
   subst ha
   refine ih _ _ _ _ w' D' ι' _ J0 S' U' (fun s yL=>?_) (by rw[hd];exact lG (m3 E T) hR ui eS) (by rw[jZ];exact eS) fun gJ g2 a2 w2 D2 ι2 U2 hk T2 S2 PD E2 kF Ay=>hQ gJ g2 a2 w2 D2 ι2 U2 hk (T.trans T2) S2 PD E2 kF (Ay.trans (put_defers _ _ _))
   rcases yL with h|h
   ·obtain⟨i',he,hl⟩:=hU _ h
    exact⟨i',he,getD_set_true hl⟩
   ·exact⟨i,by rw[h,yP],by simp[iO]⟩
  ·rw[if_neg Dv]
   rw[if_neg Dv]at hG
   obtain⟨rfl,rfl⟩:=hG
   refine ih _ _ _ _ w D ι U J0 S Us (fun s yL=>?_) (by rw[hd];exact lG E cw.undef ui eS) (by rw[jZ];exact eS) fun gJ g2 a2 w2 D2 ι2 U2 hk T2 S2 PD E2 kF Ay=>hQ gJ g2 a2 w2 D2 ι2 U2 hk T2 S2 PD E2 kF (Ay.trans (put_defers _ _ _))
   obtain⟨i',he,hl⟩:=hU _ yL
   exact⟨i',he,getD_set_true hl⟩
end
end Go.Proofs.YtihgaadadaekmaaGreatDoor.V

namespace Go.Proofs.YtihgaadadaekmaaGreatDoor.V
open Go.RowKit
variable {P:Program} {w w':World} {D D' D2:Nat->Prop} {ι ι' ι2:Names}
section
variable {hs:Nat} {X:e6}
def od (X:e6):Prop:=∀f args σ K K',(∀r σ',K r σ'->K' r σ')->X f args σ K->X f args σ K'
theorem ov:od (Sound P):=fun _ _ _ _ _ hK h hs D ι w vs S U A=>
 (h hs D ι w vs S U A).mono fun _ _ ⟨r,g',n',D',ι',u,he,hk,rest⟩=>⟨r,g',n',D',ι',u,he,hK _ _ hk,rest⟩
def step (X:e6) (vo:aV) (N:Env->aw->Prop) (env:Env) (σ:aw):Prop:=
 if aI vo.guard env then fI X false vo env σ fun v σ'=>N (upd env vo.dst v) σ' else N (upd env vo.dst .undef) σ
theorem oA (hK:od X) {draw:Bool} {hid:List Nat} {site f:Nat} {args:List AV} {σ:aw} {n n':AV->aw->Prop} (hn:∀v σ',n v σ'->n' v σ') (hp:cF X draw hid site f args σ n):cF X draw hid site f args σ n':=by
 rcases hp with⟨r,h1,h2⟩|⟨h1,h2⟩|⟨h1,sz,rows,h2,h3⟩
 ·exact .inl ⟨r,h1,hn _ _ h2⟩
 ·exact .inr (.inl ⟨h1,hK _ _ _ _ _ hn h2⟩)
 ·exact .inr (.inr ⟨h1,sz,rows,h2,hn _ _ h3⟩)
theorem zz (hK:od X) {draw:Bool} {o:aV} {env:Env} {σ:aw} {n n':AV->aw->Prop} (hn:∀v σ',n v σ'->n' v σ') (hp:fI X draw o env σ n):fI X draw o env σ n':=by
 unfold fI at hp ⊢
 split at hp
 ·exact oA hK hn hp
 ·split at hp
  ·exact oA hK hn hp
  ·exact oA hK hn hp
  ·exact hp.elim
 ·split at hp
  ·exact hn _ _ hp
  ·exact hp.elim
 ·split at hp
  ·exact hn _ _ hp
  ·exact hp.elim
 ·split at hp
  ·exact hn _ _ hp
  ·exact hp.elim
 ·split at hp
  ·exact hn _ _ hp
  ·exact hp.elim
 ·split at hp
  ·exact hn _ _ hp
  ·exact hp.elim
 ·split at hp
  ·exact hn _ _ hp
  ·exact hn _ _ hp
  ·exact hp.elim
theorem jb (hK:od X) {vo:aV} {N N':Env->aw->Prop} (h:∀e s,N e s->N' e s) {env:Env} {σ:aw} (hp:step X vo N env σ):step X vo N' env σ:=by
 unfold step at hp ⊢
 split at hp
 ·rename_i hw;rw[if_pos hw];exact zz hK (fun v σ'=>h _ _) hp
 ·rename_i hw;rw[if_neg hw];exact h _ _ hp
theorem EC {env gU:Env} {vo:aV} {σ:aw} {n:AV->aw->Prop} (h:∀t∈vo.op.fH,env t=gU t) (hv:fI X false vo env σ n):fI X false vo gU σ n:=by
 unfold fI at hv ⊢
 split at hv
 ·rename_i f args dB
  rw[dB]at h
  simp only[fD.fH]at h
  rw[<-map_congr h];exact hv
 ·rename_i x args dB
  rw[dB]at h
  simp only[fD.fH,List.mem_append]at h
  rw[<-map_congr (l:=args) fun t ht=>h t (.inr ht),<-aP (x:=x) fun t ht=>h t (.inl ht)];exact hv
 ·rw[<-fX h];exact hv
 ·rw[<-fX h];exact hv
 ·rw[<-fX h];exact hv
 ·rw[<-fX h];exact hv
 ·rw[<-fX h];exact hv
 ·rw[<-qD h];exact hv
theorem kH {x:aV} (hq:j0 x=true) {N:Env->aw->Prop} {env:Env} {σ:aw}:step X x N env σ↔∃v g',GS X σ.next x env σ.get v g'/\N (upd env x.dst v) ⟨g',σ.next⟩:=by
 unfold j0 at hq
 simp only[Bool.and_eq_true,Bool.not_eq_true',bne_iff_ne]at hq
 obtain⟨EN,o6⟩:=hq
 unfold step GS
 by_cases hw:aI x.guard env=true
 ·rw[if_pos hw]
  simp only[hw,if_true]
  unfold fI
  split
  ·rename_i dB;simp[dB,fD.kN]at EN
  ·rename_i dB;simp[dB,fD.kN]at EN
  ·rename_i dB;simp[dB,fD.cls]at o6
  ·rename_i dB;simp[dB,fD.cls]at o6
  ·rename_i dB;simp[dB,fD.cls]at o6
  ·rename_i dB;simp[dB,fD.cls]at o6
  ·rename_i dB;simp[dB,fD.cls]at o6
  ·rename_i n1 n2 n3 n4 n5 n6 n7
   have hVS:∀v g',VS X σ.next x env σ.get v g'↔∃mr,eE x.op (cv env) (fV x.hid σ.next σ.get) ⟨x.site,σ.next⟩=some (v,mr)/\g'=il σ.get ⟨x.site,σ.next⟩ mr:=fun v g'=>by
    unfold VS
    split
    ·rename_i hh;exact(n1 _ _ hh).elim
    ·rename_i hh;exact(n2 _ _ hh).elim
    ·rename_i hh;exact(n3 _ _ _ hh).elim
    ·rename_i hh;exact(n4 _ _ _ hh).elim
    ·rename_i hh;exact(n5 _ _ _ hh).elim
    ·rename_i hh;exact(n6 _ _ hh).elim
    ·rename_i hh;exact(n7 _ _ hh).elim
    ·exact Iff.rfl
   simp only[hVS]
   cases hz:eE x.op (cv env) (fV x.hid σ.next σ.get) ⟨x.site,σ.next⟩with
   |none=>
    exact⟨fun h=>h.elim,fun⟨v,g',⟨mr,h,_⟩,_⟩=>by cases h⟩
   |some p=>
    obtain⟨v,mr⟩:=p
    have key:∀(v':AV) (g':Rows),(∃MR,some (v,mr)=some (v',MR)/\g'=il σ.get ⟨x.site,σ.next⟩ MR)↔v'=v/\g'=il σ.get ⟨x.site,σ.next⟩ mr:=fun v' g'=>by
     constructor
     ·rintro⟨MR,h1,h2⟩
      injection h1 with h1;injection h1 with h1 h3
      subst h1;subst h3
      exact⟨rfl,h2⟩
     ·rintro⟨rfl,rfl⟩;exact⟨mr,rfl,rfl⟩
    have fin:(∃v' g',(∃MR,some (v,mr)=some (v',MR)/\g'=il σ.get ⟨x.site,σ.next⟩ MR)/\N (upd env x.dst v') ⟨g',σ.next⟩)↔N (upd env x.dst v) ⟨il σ.get ⟨x.site,σ.next⟩ mr,σ.next⟩:=by
     constructor
     ·rintro⟨v',g',h,hN⟩
      obtain⟨rfl,rfl⟩:=(key v' g').1 h
      exact hN
     ·intro hN;exact⟨v,_,(key _ _).2 ⟨rfl,rfl⟩,hN⟩
    cases mr with
    |none=>exact fin.symm
    |some r=>exact fin.symm
 ·rw[if_neg hw]
  simp only[if_neg hw]
  exact⟨fun h=>⟨_,_,⟨rfl,rfl⟩,h⟩,fun⟨v,g',⟨hv,hg⟩,h⟩=>by rw[hv,hg]at h;exact h⟩
def xv (x:aV) (env:Env) (v:AV):Prop:=if aI x.guard env then eE x.op (cv env) (fun _=>none) ⟨0,0⟩=some (v,none)else v=.undef
theorem tj {x:aV} (hp:x.op.cls=.pure):j0 x=true:=by
 unfold j0
 rw[hp]
 cases hc:x.op<;>simp[hc,fD.cls]at hp<;>rfl
theorem qH {x:aV} (hp:x.op.cls=.pure) {N:Env->aw->Prop} {env:Env} {σ:aw}:step X x N env σ↔∃v,xv x env v/\N (upd env x.dst v) σ:=by
 rw[kH (tj hp)]
 unfold GS xv
 by_cases hw:aI x.guard env=true
 ·simp only[hw,if_true]
  constructor
  ·rintro⟨v,g',h,hN⟩
   obtain⟨rfl,di⟩:=vW hp h
   refine⟨v,?_,hN⟩
   unfold VS at h
   split at h
   ·rename_i dB;rw[dB]at hp;simp[fD.cls]at hp
   ·rename_i dB;rw[dB]at hp;simp[fD.cls]at hp
   ·rename_i dB;rw[dB]at hp;simp[fD.cls]at hp
   ·rename_i dB;rw[dB]at hp;simp[fD.cls]at hp
   ·rename_i dB;rw[dB]at hp;simp[fD.cls]at hp
   ·rename_i dB;rw[dB]at hp;simp[fD.cls]at hp
   ·rename_i dB;rw[dB]at hp;simp[fD.cls]at hp
   ·obtain⟨mr,hq,_⟩:=h
    have QA:mr=none:=by
     cases mr with
     |none=>rfl
     |some r=>have:=tk hq;simp[oN,hp]at this
    subst QA
    rw[<-tn (g:=fV x.hid σ.next σ.get) (id:=⟨x.site,σ.next⟩) hp];exact hq
  ·rintro⟨v,h,hN⟩
   exact⟨v,σ.get,Kn (mr:=none) (by rw[tn (g2:=fun _=>none) (id2:=⟨0,0⟩) hp];exact h),hN⟩
 ·simp only[if_neg hw]
  exact⟨fun⟨v,g',⟨hv,hg⟩,h⟩=>⟨v,hv,by rw[hg]at h;exact h⟩,fun⟨v,hv,h⟩=>⟨v,σ.get,⟨hv,rfl⟩,h⟩⟩
theorem Hp {x:aV} {env gU:Env} {v:AV} (h:∀t∈x.fH,env t=gU t) (hv:xv x env v):xv x gU v:=by
 unfold xv at hv ⊢
 rw[<-lU h,<-qD fun t ht=>h t (pS ht)];exact hv
structure JB (x y:aV):Prop where
 xy:∀k,x.dst=some k->k∉y.fH
 yx:∀k,y.dst=some k->k∉x.fH
 dst:∀k,x.dst=some k->y.dst≠some k
theorem p4 {x y:aV} (h:qK x y=true):JB x y:=by
 unfold qK at h
 simp only[Bool.and_eq_true]at h
 obtain⟨a1,a2⟩:=h
 refine⟨fun k hk=>?_,fun k hk=>?_,fun k hk=>?_⟩
 ·rw[hk]at a1;simp at a1;exact a1.1
 ·rw[hk]at a2;simpa using a2
 ·rw[hk]at a1;simp at a1;exact a1.2
theorem uY {x y:aV} (h:uX x y=true):(JB x y/\x.op.cls=.pure)∨(zL x y/\j0 x=true/\j0 y=true):=by
 unfold uX at h
 simp only[Bool.or_eq_true,Bool.and_eq_true,beq_iff_eq]at h
 rcases h with⟨h1,h2⟩|⟨⟨h1,h2⟩,h3⟩
 ·exact .inl ⟨p4 h1,h2⟩
 ·exact .inr ⟨oF h1,h2,h3⟩
theorem yw {x y:aV} (h:uX x y=true):j0 x=true:=by
 rcases uY h with h|h
 ·exact tj h.2
 ·exact h.2.1
theorem El (hK:od X) {x y:aV} (hf:uX x y=true) {N:Env->aw->Prop} {env:Env} {σ:aw} (h:step X x (fun e s=>step X y N e s) env σ):step X y (fun e s=>step X x N e s) env σ:=by
 rcases uY hf with⟨F,hp⟩|⟨F,hx,hy⟩
 ·rw[qH hp]at h
  obtain⟨v,hx,h⟩:=h
  have ER:=fun(v':AV)=>tO (env:=env) (v:=v) (u:=v') F.dst
  have tW:=lp (env:=env) (v:=v) F.xy
  have back:∀(v':AV),xv x (upd env y.dst v') v:=fun v'=>Hp (fun t ht=>(lp F.yx t ht).symm) hx
  unfold step at h ⊢
  rw[lU tW]at h
  split at h
  ·rename_i hw
   rw[if_pos hw]
   refine zz hK (fun v' σ' hN=>?_) (EC (fun t ht=>tW t (pS ht)) h)
   rw[ER]at hN
   exact(qH hp).2 ⟨v,back v',hN⟩
  ·rename_i hw
   rw[if_neg hw]
   rw[ER]at h
   exact(qH hp).2 ⟨v,back _,h⟩
 ·rw[kH hx]at h
  obtain⟨v,g1,h1,h⟩:=h
  rw[kH hy]at h
  obtain⟨v',g2,h2,h⟩:=h
  obtain⟨Ib,q1,q2,q3⟩:=BO F h1 h2
  rw[q3]at h
  exact(kH hy).2 ⟨v',Ib,q1,(kH hx).2 ⟨v,g2,q2,h⟩⟩
def xn (X:e6) (ops:Array Oper) (vl:List aV) (K:Env->aw->Prop):Nat->Array Bool->Env->aw->Prop
 |0,listed,env,σ=>Region.ready .any ops listed=[]/\K env ⟨σ.get,σ.next+1⟩
 |f+1,listed,env,σ=>(Region.ready .any ops listed=[]->K env ⟨σ.get,σ.next+1⟩)/\∀i∈Region.ready .any ops listed,∃vo,vl[i]? =some vo/\step X vo (fun e s=>xn X ops vl K f (listed.setIfInBounds i true) e s) env σ
theorem Ah {ops:Array Oper} {vl:List aV} {bs:Array Nat} {listed:Array Bool} {i:Nat} (h:oE ops vl bs listed i=true) (j:Nat):oE ops vl bs (listed.setIfInBounds j true) i=true:=by
 unfold oE at h ⊢
 split at h
 ·rename_i x hx
  simp only[List.all_eq_true,Bool.or_eq_true]at h ⊢
  intro k hk
  rcases h k hk with((h|h)|h)|h
  ·exact .inl (.inl (.inl (getD_set_true h)))
  ·exact .inl (.inl (.inr h))
  ·exact .inl (.inr h)
  ·exact .inr h
 ·cases h
theorem qV {ops:Array Oper} {vl:List aV} {listed:Array Bool} {i j:Nat} {vi:aV} (qa:DC ops listed) (h:oE ops vl (iN ops) listed i=true) (hi:vl[i]? =some vi) (hr:i∈Region.ready .any ops listed) (hj:j∈Region.ready .any ops listed) (lq:j≠i):∃vj,vl[j]? =some vj/\uX vi vj=true:=by
 unfold oE at h
 rw[hi]at h
 simp only[List.all_eq_true,Bool.or_eq_true,beq_iff_eq]at h
 obtain⟨_,o,ho,_⟩:=mem_ready.1 hj
 rcases h j (List.mem_range.2 (Array.getElem?_eq_some_iff.1 ho).1)with((h|h)|h)|h
 ·rw[g7 hj]at h;cases h
 ·exact absurd h lq
 ·have:=j3 qa hj i h
  rw[g7 hr]at this;cases this
 ·split at h
  ·rename_i y hy;exact⟨y,hy,h⟩
  ·cases h
theorem BN (hK:od X) {ops:Array Oper} {vl:List aV} {K:Env->aw->Prop} {i:Nat} {vi:aV} (hi:vl[i]? =some vi):∀(fuel:Nat) (listed:Array Bool) (env:Env) (σ:aw),
  DC ops listed->i∈Region.ready .any ops listed->oE ops vl (iN ops) listed i=true->step X vi (fun e s=>xn X ops vl K fuel (listed.setIfInBounds i true) e s) env σ->xn X ops vl K (fuel+1) listed env σ:=by
 intro fuel
 induction fuel with
 |zero=>
  intro listed env σ qa hr mc H
  refine⟨fun h=>(by rw[h]at hr;cases hr),fun j hj=>?_⟩
  by_cases lq:j=i
  ·subst lq;exact⟨vi,hi,H⟩
  ·obtain⟨vj,IE,NK⟩:=qV qa mc hi hr hj lq
   rw[kH (yw NK)]at H
   obtain⟨v,g',_,H⟩:=H
   have:=ready_mono hj lq
   rw[H.1]at this;cases this
 |succ fuel ih=>
  intro listed env σ qa hr mc H
  refine⟨fun h=>(by rw[h]at hr;cases hr),fun j hj=>?_⟩
  by_cases lq:j=i
  ·subst lq;exact⟨vi,hi,H⟩
  ·obtain⟨vj,IE,NK⟩:=qV qa mc hi hr hj lq
   refine⟨vj,IE,?_⟩
   have H2:step X vi (fun e s=>step X vj (fun e s=>xn X ops vl K fuel ((listed.setIfInBounds i true).setIfInBounds j true) e s) e s) env σ:=jb hK (fun e s h=>by
    obtain⟨vj',wL,h'⟩:=h.2 j (ready_mono hj lq)
    rw[IE]at wL;injection wL with wL;subst wL
    exact h') H
   refine jb hK (fun e s h=>?_) (El hK NK H2)
   refine ih _ _ _ (qa.list hj) (ready_mono hr (fun e=>lq e.symm)) (Ah mc j) ?_
   rw[Array.setIfInBounds_comm _ _ lq]
   exact h
theorem qG {x:aV} (hg:x.guard=none) {N:Env->aw->Prop} {env:Env} {σ:aw}:step X x N env σ=fI X false x env σ (fun v σ'=>N (upd env x.dst v) σ'):=by
 unfold step
 rw[hg]
 simp[aI]
theorem By {x y:aV} {t s sz:Nat} {ys:O} (hx:x.op=.append sz (.t t) ys) (hg:x.guard=none) (hf:B9 s x y=true) {N:Env->aw->Prop} {env:Env} {σ:aw} (hl:IU t s ys env σ.next) (h:step X x (fun e s=>step X y N e s) env σ):
  step X y (fun e σ'=>IU t s ys e σ'.next/\step X x N e σ') env σ:=by
 unfold B9 at hf
 simp only[Bool.and_eq_true,bne_iff_ne]at hf
 obtain⟨⟨⟨⟨⟨f1,hq⟩,f3⟩,f4⟩,f5⟩,f6⟩:=hf
 have F:=p4 f1
 obtain⟨⟨len,ht⟩,hsrc⟩:=hl
 have F8:∀k∈x.op.fH,∀v',upd env y.dst v' k=env k:=fun k hk v'=>lp (env:=env) (v:=v') F.yx k (pS hk)
 have dQ:t∈x.op.fH:=by rw[hx];simp[fD.fH,fR]
 have Cl:∀v',cv (upd env y.dst v') ys=cv env ys:=fun v'=>(aP fun k hk=>by rw[F8 k (by rw[hx];simp[fD.fH,hk])]).symm
 rw[qG hg]at h
 unfold fI at h
 simp only[hx,fW]at h
 have ex:cv env (.t t)=.own ⟨s,σ.next⟩ 0 len:=ht
 rw[ex]at h
 cases hr:br σ.get (cv env ys)with
 |none=>rw[hr]at h;exact h.elim
 |some rs=>
  rw[hr]at h
  simp only[Option.bind_some,aZ]at h
  cases Io:σ.get ⟨s,σ.next⟩with
  |none=>rw[Io]at h;exact h.elim
  |some r=>
   rw[Io]at h
   simp only[Option.bind_some]at h
   split at h
   ·rename_i v g1 hv
    split at hv
    ·rename_i hcond
     simp only[Option.some.injEq,Prod.mk.injEq]at hv
     obtain⟨rfl,rfl⟩:=hv
     rw[kH hq]at h
     obtain⟨v',g2,hG,hN⟩:=h
     have Iv:(⟨y.site,σ.next⟩:Id)≠⟨s,σ.next⟩:=fun e=>f5 (by injection e)
     have F0:(⟨y.site,σ.next⟩:Id)≠⟨x.site,σ.next⟩:=fun e=>f6 (by injection e)
     replace hG:GS X σ.next y env (bK (bY σ.get ⟨s,σ.next⟩) ⟨x.site,σ.next⟩ ⟨true,sz,r.rows++rs⟩) v' g2:=sq (lp F.xy) hG
     have QW:fV y.hid σ.next σ.get=fV y.hid σ.next (bK (bY σ.get ⟨s,σ.next⟩) ⟨x.site,σ.next⟩ ⟨true,sz,r.rows++rs⟩):=by
      cases hh:y.hid with
      |nil=>rw[hh]at f3;simp at f3
      |cons a l=>
       rw[hh]at f3 f4
       funext i
       show(if (a::l).contains i.site=true/\i.bV=σ.next then none else σ.get i)=if (a::l).contains i.site=true/\i.bV=σ.next then none else _
       by_cases h1:i=⟨x.site,σ.next⟩
       ·subst h1;rw[if_pos ⟨f4,rfl⟩,if_pos ⟨f4,rfl⟩]
       ·by_cases h2:i=⟨s,σ.next⟩
        ·subst h2;rw[if_pos ⟨f3,rfl⟩,if_pos ⟨f3,rfl⟩]
        ·simp only[bK,bY,if_neg h1,if_neg h2]
     obtain⟨my,NM,hG'⟩:∃my,g2=il (bK (bY σ.get ⟨s,σ.next⟩) ⟨x.site,σ.next⟩ ⟨true,sz,r.rows++rs⟩) ⟨y.site,σ.next⟩ my/\GS X σ.next y env σ.get v' (il σ.get ⟨y.site,σ.next⟩ my):=by
      unfold GS at hG ⊢
      by_cases wy:aI y.guard env=true
      ·rw[if_pos wy]at hG
       have hcw:y.op.cls≠.write:=by
        unfold j0 at hq
        simp only[Bool.and_eq_true,bne_iff_ne]at hq
        exact hq.2
       obtain⟨my,rfl,_,Kq⟩:=sv hcw hG
       exact⟨my,rfl,by rw[if_pos wy];exact Kq _ QW⟩
      ·rw[if_neg wy]at hG
       obtain⟨rfl,rfl⟩:=hG
       exact⟨none,rfl,by rw[if_neg wy];exact⟨rfl,rfl⟩⟩
     subst NM
     refine(kH hq).2 ⟨v',_,hG',⟨⟨len,by rw[F8 t dQ];exact ht⟩,fun id o l he=>hsrc id o l (by rw[<-Cl v'];exact he)⟩,?_⟩
     rw[qG hg]
     unfold fI
     have ex':cv (upd env y.dst v') (.t t)=.own ⟨s,σ.next⟩ 0 len:=by
      show upd env y.dst v' t= _
      rw[F8 t dQ];exact ht
     simp only[hx,fW,ex',Cl v']
     have mD:br (il σ.get ⟨y.site,σ.next⟩ my) (cv env ys)=some rs:=by
      cases my with
      |none=>exact hr
      |some row=>
       revert hr
       cases hev:cv env ys<;>simp only[br,il]<;>try exact fun h=>h
       rename_i id o l
       have:id≠⟨y.site,σ.next⟩:=fun e=>hsrc id o l hev (by rw[e])
       simp only[bK,if_neg this];exact fun h=>h
     have Qu:il σ.get ⟨y.site,σ.next⟩ my ⟨s,σ.next⟩=some r:=by
      cases my with
      |none=>exact Io
      |some row=>simp only[il,bK,if_neg (fun e=>Iv e.symm:(⟨s,σ.next⟩:Id)≠⟨y.site,σ.next⟩)];exact Io
     rw[mD]
     simp only[Option.bind_some,aZ,Qu]
     rw[if_pos hcond]
     have hgg:bK (bY (il σ.get ⟨y.site,σ.next⟩ my) ⟨s,σ.next⟩) ⟨x.site,σ.next⟩ ⟨true,sz,r.rows++rs⟩=il (bK (bY σ.get ⟨s,σ.next⟩) ⟨x.site,σ.next⟩ ⟨true,sz,r.rows++rs⟩) ⟨y.site,σ.next⟩ my:=by
      cases my with
      |none=>rfl
      |some row=>
       funext i
       simp only[il,bK,bY]
       by_cases h1:i=⟨y.site,σ.next⟩
       ·subst h1;rw[if_neg F0,if_neg Iv,if_pos rfl,if_pos rfl]
       ·simp only[if_neg h1]
     have hu:=tO (env:=env) (v:=AV.own ⟨x.site,σ.next⟩ 0 (len+rs.length)) (u:=v') F.dst
     show N (upd (upd env y.dst v') x.dst (.own ⟨x.site,σ.next⟩ 0 (len+rs.length))) ⟨bK (bY (il σ.get ⟨y.site,σ.next⟩ my) ⟨s,σ.next⟩) ⟨x.site,σ.next⟩ ⟨true,sz,r.rows++rs⟩,σ.next⟩
     rw[hgg,<-hu]
     exact hN
    ·cases hv
   ·exact h.elim
theorem Af {ops:Array Oper} {vl:List aV} {bs:Array Nat} {listed:Array Bool} {i s:Nat} (h:m4 ops vl bs listed i s=true) (j:Nat):m4 ops vl bs (listed.setIfInBounds j true) i s=true:=by
 unfold m4 at h ⊢
 split at h
 ·rename_i x hx
  simp only[List.all_eq_true,Bool.or_eq_true]at h ⊢
  intro k hk
  rcases h k hk with((h|h)|h)|h
  ·exact .inl (.inl (.inl (getD_set_true h)))
  ·exact .inl (.inl (.inr h))
  ·exact .inl (.inr h)
  ·exact .inr h
 ·cases h
theorem yp {ops:Array Oper} {vl:List aV} {listed:Array Bool} {i j s:Nat} {vi:aV} (qa:DC ops listed) (h:m4 ops vl (iN ops) listed i s=true) (hi:vl[i]? =some vi) (hr:i∈Region.ready .any ops listed) (hj:j∈Region.ready .any ops listed) (lq:j≠i):∃vj,vl[j]? =some vj/\B9 s vi vj=true:=by
 unfold m4 at h
 rw[hi]at h
 simp only[List.all_eq_true,Bool.or_eq_true,beq_iff_eq]at h
 obtain⟨_,o,ho,_⟩:=mem_ready.1 hj
 rcases h j (List.mem_range.2 (Array.getElem?_eq_some_iff.1 ho).1)with((h|h)|h)|h
 ·rw[g7 hj]at h;cases h
 ·exact absurd h lq
 ·have:=j3 qa hj i h
  rw[g7 hr]at this;cases this
 ·split at h
  ·rename_i y hy;exact⟨y,hy,h⟩
  ·cases h
theorem zA (hK:od X) {ops:Array Oper} {vl:List aV} {K:Env->aw->Prop} {i t s sz:Nat} {ys:O} {vi:aV} (hi:vl[i]? =some vi) (hx:vi.op=.append sz (.t t) ys) (hg:vi.guard=none):∀(fuel:Nat) (listed:Array Bool) (env:Env) (σ:aw),
  DC ops listed->i∈Region.ready .any ops listed->m4 ops vl (iN ops) listed i s=true->IU t s ys env σ.next->step X vi (fun e s=>xn X ops vl K fuel (listed.setIfInBounds i true) e s) env σ->xn X ops vl K (fuel+1) listed env σ:=by
 intro fuel
 induction fuel with
 |zero=>
  intro listed env σ qa hr mc MA H
  refine⟨fun h=>(by rw[h]at hr;cases hr),fun j hj=>?_⟩
  by_cases lq:j=i
  ·subst lq;exact⟨vi,hi,H⟩
  ·exfalso
   have h0:=ready_mono hj lq
   rw[qG hg]at H
   unfold fI at H
   simp only[hx]at H
   split at H
   ·rw[H.1]at h0;cases h0
   ·exact H
 |succ fuel ih=>
  intro listed env σ qa hr mc MA H
  refine⟨fun h=>(by rw[h]at hr;cases hr),fun j hj=>?_⟩
  by_cases lq:j=i
  ·subst lq;exact⟨vi,hi,H⟩
  ·obtain⟨vj,IE,NK⟩:=yp qa mc hi hr hj lq
   refine⟨vj,IE,?_⟩
   have H2:step X vi (fun e s=>step X vj (fun e s=>xn X ops vl K fuel ((listed.setIfInBounds i true).setIfInBounds j true) e s) e s) env σ:=jb hK (fun e s h=>by
    obtain⟨vj',wL,h'⟩:=h.2 j (ready_mono hj lq)
    rw[IE]at wL;injection wL with wL;subst wL
    exact h') H
   refine jb hK (fun e s h=>?_) (By hx hg NK MA H2)
   refine ih _ _ _ (qa.list hj) (ready_mono hr (fun e=>lq e.symm)) (Af mc j) h.1 ?_
   rw[Array.setIfInBounds_comm _ _ lq]
   exact h.2
theorem Gp {ops:Array Oper} {vl:List aV} {bs:Array Nat} {listed:Array Bool} {i i' t s:Nat} {y:O} {vo:aV} (h:Ly ops vl bs listed i=some (i',t,s,y,vo)):i'=i/\vl[i]? =some vo/\(∃sz,vo.op=.append sz (.t t) y)/\vo.guard=none/\m4 ops vl bs listed i s=true:=by
 unfold Ly at h
 split at h
 ·rename_i x hx
  split at h
  ·rename_i t' s' y' jz
   split at h
   ·rename_i hf
    simp only[Option.some.injEq,Prod.mk.injEq]at h
    obtain⟨rfl,rfl,rfl,rfl,rfl⟩:=h
    unfold J9 at jz
    split at jz
    ·rename_i sz t2 y2 ho r9
     split at jz
     ·simp only[Option.some.injEq,Prod.mk.injEq]at jz
      obtain⟨rfl,rfl,rfl⟩:=jz
      exact⟨rfl,hx,⟨sz,ho⟩,r9,hf⟩
     ·cases jz
    ·cases jz
   ·cases h
  ·cases h
 ·cases h
theorem uN {X:e6} {Q:Ex->Env->aw->Prop} {env:Env} {σ:aw}:∀{l:List VC} {t:VC},xX l=some t->dP X t Q env σ->∀c∈l,dP X c Q env σ
 |[],t,h,_,c,hc=>by cases hc
 |[c0],t,h,hw,c,hc=>by
  simp only[xX,Option.some.injEq]at h
  subst h
  rw[List.mem_singleton]at hc
  subst hc;exact hw
 |c0::c1::r,t,h,hw,c,hc=>by
  simp only[xX,Option.map_eq_some_iff]at h
  obtain⟨t',EO,rfl⟩:=h
  rcases List.mem_cons.1 hc with rfl|hc
  ·exact hw.1
  ·exact uN EO hw.2 c hc
theorem mapM_mem {α β:Type} {f:α->Option β}:∀{l:List α} {r:List β},l.mapM f=some r->∀i∈l,∃b∈r,f i=some b
 |[],_,_,i,hi=>by cases hi
 |a::l,r,h,i,hi=>by
  simp only[List.mapM_cons,Option.bind_eq_bind,Option.bind_eq_some_iff,Option.pure_def,Option.some.injEq]at h
  obtain⟨b,hb,r',hr,rfl⟩:=h
  rcases List.mem_cons.1 hi with rfl|hi
  ·exact⟨b,by simp,hb⟩
  ·obtain⟨c,hc,hf⟩:=mapM_mem hr i hi
   exact⟨c,List.mem_cons_of_mem _ hc,hf⟩
theorem Ez (hK:od X) {ops:Array Oper} {vl:List aV} {Q:Ex->Env->aw->Prop}:∀(n:Nat) (listed:Array Bool) (t:VC) (env:Env) (σ:aw),tM ops vl (iN ops) n listed=some t->DC ops listed->dP X t Q env σ->xn X ops vl (Q .normal) n listed env σ:=by
 intro n
 induction n with
 |zero=>
  intro listed t env σ h _ hw
  unfold tM at h
  split at h
  ·rename_i hr
   simp only[Option.some.injEq]at h
   subst h
   exact⟨hr,hw⟩
  ·cases h
 |succ n ih=>
  intro listed t env σ h qa hw
  unfold tM at h
  split at h
  ·rename_i hr
   simp only[Option.some.injEq]at h
   subst h
   exact⟨fun _=>hw,fun i hi=>by rw[hr]at hi;cases hi⟩
  ·rename_i r rs hr
   dsimp only at h
   split at h
   ·rename_i i hfind
    have Iq:=List.mem_of_find?_eq_some hfind
    have u4:=List.find?_some hfind
    rw[<-hr]at Iq
    split at h
    ·rename_i vo n8
     simp only[Option.map_eq_some_iff]at h
     obtain⟨t',EO,rfl⟩:=h
     exact BN hK n8 n listed env σ qa Iq u4 (jb hK (fun e s h=>ih _ _ _ _ EO (qa.list Iq) h) hw)
    ·cases h
   ·split at h
    ·rename_i i t s y vo hfind
     obtain⟨i0,EL,dF⟩:=List.exists_of_findSome?_eq_some hfind
     obtain⟨rfl,n8,⟨sz,dB⟩,r9,Im⟩:=Gp dF
     rw[<-hr]at EL
     simp only[Option.map_eq_some_iff]at h
     obtain⟨t',EO,rfl⟩:=h
     exact zA hK n8 dB r9 n listed env σ qa EL Im hw.1 (jb hK (fun e s h=>ih _ _ _ _ EO (qa.list EL) h) hw.2)
    split at h
    ·rename_i l hl
     have di:=uN h hw
     refine⟨fun h=>(by rw[h]at hr;cases hr),fun i hi=>?_⟩
     rw[hr]at hi
     obtain⟨b,Hw,r8⟩:=mapM_mem hl i hi
     simp only[Option.bind_eq_some_iff,Option.map_eq_some_iff]at r8
     obtain⟨vo,n8,t',EO,rfl⟩:=r8
     exact⟨vo,n8,jb hK (fun e s h=>ih _ _ _ _ EO (qa.list (by rw[hr];exact hi)) h) (di _ Hw)⟩
    ·cases h
theorem BJ {ops:Array Oper} {vl:List aV} {nt site0:Nat} {draw mk:Bool} {bs:Array Nat} {hidden:List (Nat×Bool)} {K:Env->aw->Prop} {Q:Exit->Act->World->Prop} (di:allM (k5 P ops nt site0 draw mk bs hidden) ops.toList 0=some vl):
  ∀(fuel:Nat) (listed:Array Bool) (env:Env) (σ:aw) (a:Act) (w:World) (D:Nat->Prop) (ι:Names) (U:Nat->Prop),xn (Sound P) ops vl K fuel listed env σ->fJ P hs D ι σ.get w->Used ι σ.next U->(∀s,U s->∃i,s=site0+i/\listed.getD i false=true)->bu P w D ι env a->a.tmps.size=nt->
  (∀gJ σ' a' w' D' ι',K gJ σ'->Step hs D ι w D' ι' w'->St P hs nt D' ι' gJ σ' a' w'->a'.defers=a.defers->σ.next<=σ'.next->Q .normal a' w')->wpAny P .any ops Q fuel listed a w:=by
 intro fuel
 induction fuel with
 |zero=>intro listed env σ a w D ι U h S Us hU E eS hQ;exact⟨h.1,hQ env _ a w D ι h.2 (Step.refl _ _ _ _) ⟨S,Us.next,E,eS⟩ rfl (Nat.le_succ _)⟩
 |succ fuel ih=>
  intro listed env σ a w D ι U h S Us hU E eS hQ
  refine⟨fun hr=>hQ env _ a w D ι (h.1 hr) (Step.refl _ _ _ _) ⟨S,Us.next,E,eS⟩ rfl (Nat.le_succ _),fun i hi=>?_⟩
  obtain⟨vo,n8,hG⟩:=h.2 i hi
  obtain⟨_,o,ho,_⟩:=mem_ready.1 hi
  obtain⟨vo',k8,NC⟩:=(mN di).2 i o (by simpa using ho)
  rw[n8]at k8;injection k8 with k8;subst k8
  rw[Nat.zero_add]at NC
  obtain⟨hc,hd,yP,ui,hg⟩:=nF NC
  have hw:=qM (ops:=ops) (vo:=vo) E hg
  have Qd:¬U vo.site:=fun hu=>by
   obtain⟨i',he,hl⟩:=hU _ hu
   have:i'=i:=ab
   subst this
   rw[g7 hi]at hl;cases hl
  have iO:i<listed.size:=by
   have h0:=(mem_ready.1 hi).1
   rcases Nat.lt_or_ge i listed.size with h|h
   ·exact h
   ·simp[Array.getElem?_eq_none h]at h0
  unfold wpOp
  simp only[ho]
  rw[<-hw]
  unfold step at hG
  by_cases Dv:aI vo.guard env=true
  ·rw[if_pos Dv]
   rw[if_pos Dv]at hG
   refine .inl (vP hc hG S Us Qd E fun v σ' u D' ι' w' hn T S' hR U' hle=>?_)
   refine ih _ _ _ _ w' D' ι' _ hn S' U' (fun s yL=>?_) (by rw[hd];exact lG (m3 E T) hR ui eS) (by rw[jZ];exact eS) fun gJ σ2 a2 w2 D2 ι2 hk T2 Lp Ay lJ=>hQ gJ σ2 a2 w2 D2 ι2 hk (T.trans T2) Lp (Ay.trans (put_defers _ _ _)) (Nat.le_trans hle lJ)
   rcases yL with h|h
   ·obtain⟨i',he,hl⟩:=hU _ h
    exact⟨i',he,getD_set_true hl⟩
   ·exact⟨i,by rw[h,yP],by simp[iO]⟩
  ·rw[if_neg Dv]
   rw[if_neg Dv]at hG
   refine ih _ _ _ _ w D ι U hG S Us (fun s yL=>?_) (by rw[hd];exact lG E cw.undef ui eS) (by rw[jZ];exact eS) fun gJ σ2 a2 w2 D2 ι2 hk T2 Lp Ay lJ=>hQ gJ σ2 a2 w2 D2 ι2 hk T2 Lp (Ay.trans (put_defers _ _ _)) lJ
   obtain⟨i',he,hl⟩:=hU _ yL
   exact⟨i',he,getD_set_true hl⟩
end
end Go.Proofs.YtihgaadadaekmaaGreatDoor.V

namespace Go.Proofs.YtihgaadadaekmaaGreatDoor.V
open Go.RowKit
variable {P:Program} {w w':World} {D D' D2:Nat->Prop} {ι ι' ι2:Names}
def zB (P:Program) (c:Code) (Q:Exit->Act->World->Prop) (a:Act) (w:World):Prop:=
 ∀(b:Frame) (k:List Item) (cs:List Frame),b.kind≠.early->∃e a' w',Q e a' w'/\Arrives P (lone (b.at a (.code c::k)) cs w) b k cs e a' w'
section
variable {Q:Exit->Act->World->Prop} {a:Act}
theorem oP {c:Code} (h:c.wp P Q a w):zB P c Q a w:=fun b k cs _=>h b k cs
theorem I5 {x y:Code} (h:zB P x (Exit.then (zB P y Q) Q) a w):zB P (.seq x y) Q a w:=by
 intro b k cs hb
 obtain⟨e,a1,w1,hq,gK⟩:=h b (.code y::k) cs hb
 by_cases he:e=.normal
 ·subst he
  obtain⟨e2,a2,w2,o6,FK⟩:=hq b k cs hb
  exact⟨e2,a2,w2,o6,.of_steps (.head step_seq gK) FK⟩
 ·refine⟨e,a1,w1,?_,.of_steps (.one step_seq) (.pass (x:=.code y) rfl (fun _ _=>.inl he) gK)⟩
  cases e<;>first|exact absurd rfl he|exact hq
theorem GD {c:Operand} {x y:Code} {t:Bool} (hc:a.eval c=.bool t) (h:zB P (if t then x else y) Q a w):zB P (.cond c x y) Q a w:=
 fun b k cs hb=>let ⟨e,a',w',q,r⟩:=h b k cs hb;⟨e,a',w',q,.of_steps (.one (step_cond hc)) r⟩
theorem D8 {id:Nat} {c:Code} (h:zB P c (Exit.inBlock id Q) a w):zB P (.block id c) Q a w:=by
 intro b k cs hb
 obtain⟨e,a1,w1,hq,gK⟩:=h b (.inBlock id::k) cs hb
 cases e with
 |normal=>exact⟨.normal,a1,w1,hq,.head step_block (Steps.trans gK (.one step_inBlock))⟩
 |exit jU=>
  by_cases hid:jU=id
  ·simp only[Exit.inBlock,hid,if_true]at hq
   exact⟨.normal,a1,w1,hq,.head step_block (gK k (by simp[exitTo,hid]))⟩
  ·simp only[Exit.inBlock,hid,if_false]at hq
   exact⟨.exit jU,a1,w1,hq,fun k' hk=>.head step_block (gK k' (by simp[exitTo,Ne.symm hid,hk]))⟩
 |goto l=>exact⟨_,a1,w1,hq,fun k' hk=>.head step_block (gK k' (by simp[gotoIn,hk]))⟩
 |ret=>exact⟨_,a1,w1,hq,.of_steps (.one step_block) gK⟩
 |panic ch=>exact⟨_,a1,w1,hq,.of_steps (.one step_block) gK⟩
 |outgrown=>exact⟨_,a1,w1,hq,.of_steps (b:=b) (k:=k) (cs:=cs) (e:=.outgrown) (.one step_block) gK⟩
theorem D9 {c:Code} (h:zB P c (Exit.noGoto Q) a w):zB P (.scope c) Q a w:=by
 intro b k cs hb
 obtain⟨e,a1,w1,hq,gK⟩:=h b (.inScope c::k) cs hb
 cases e with
 |normal=>exact⟨.normal,a1,w1,hq,.head step_scope (Steps.trans gK (.one step_inScope))⟩
 |exit id=>exact⟨.exit id,a1,w1,hq,fun k' hk=>.head step_scope (gK k' (by simp[exitTo,hk]))⟩
 |goto l=>exact hq.elim
 |ret=>exact⟨_,a1,w1,hq,.of_steps (.one step_scope) gK⟩
 |panic ch=>exact⟨_,a1,w1,hq,.of_steps (.one step_scope) gK⟩
 |outgrown=>exact⟨_,a1,w1,hq,.of_steps (b:=b) (k:=k) (cs:=cs) (e:=.outgrown) (.one step_scope) gK⟩
def sf (P:Program) (c:Code) (Q:Exit->Act->World->Prop):Nat->Act->World->Prop
 |0=>fun _ _=>False
 |n+1=>zB P c (Exit.then (sf P c Q n) Q)
theorem GF {c:Code} (n:Nat) (h:sf P c Q n a w):zB P (.loop c) Q a w:=by
 intro b k cs hb
 have key:∀n a w,sf P c Q n a w->∃e a' w',Q e a' w'/\Arrives P (lone (b.at a (.code c::.inLoop c::k)) cs w) b k cs e a' w':=by
  intro n
  induction n with
  |zero=>intro a w h;exact h.elim
  |succ n ih=>
   intro a w h
   obtain⟨e,a1,w1,hq,gK⟩:=h b (.inLoop c::k) cs hb
   by_cases he:e=.normal
   ·subst he
    obtain⟨e2,a2,w2,o6,FK⟩:=ih a1 w1 hq
    exact⟨e2,a2,w2,o6,.of_steps (Steps.trans gK (.one step_inLoop)) FK⟩
   ·refine⟨e,a1,w1,?_,.pass (x:=.inLoop c) rfl (fun _ _=>.inl he) gK⟩
    cases e<;>first|exact absurd rfl he|exact hq
 obtain⟨e,a',w',hq,gK⟩:=key n a w h
 exact⟨e,a',w',hq,.of_steps (.one step_loop) gK⟩
theorem v9 {f:FuncId} {fn:Func} {c:Code} {args:Array Value} {R:Ending->World->Prop} (hf:P.funcs[f]? =some fn) (hb:fn.body=some c)
  (h:zB P c (bodyPost P fn R) {tmps:=args++Array.replicate (fn.ntmps-args.size) undef,defers:=[]} w):Calls P f args w R:=by
 intro cs
 have K2:Frame.enter P f args .normal=({(default:Frame)with fn:=f,kind:=.normal}:Frame).at {tmps:=args++Array.replicate (fn.ntmps-args.size) undef,defers:=[]} [.code c]:=by simp[Frame.enter,Frame.at,hf,hb]
 obtain⟨e,a',w',hq,gK⟩:=h {(default:Frame)with fn:=f,kind:=.normal} [] cs (by simp)
 rw[<-K2]at gK
 cases e with
 |normal=>obtain⟨hd,v,hr,hR⟩:=hq;exact⟨.returned v,w',_,hR,Steps.trans gK (.one step_end),rfl,rfl,hd,rfl,fn,hf,hr⟩
 |ret=>obtain⟨hd,v,hr,hR⟩:=hq;obtain⟨todo,hs⟩:=gK;exact⟨.returned v,w',_,hR,hs,rfl,rfl,hd,rfl,fn,hf,hr⟩
 |panic chain=>obtain⟨hd,hR⟩:=hq;obtain⟨todo,hs⟩:=gK;exact⟨.panicked chain,w',_,hR,hs,rfl,rfl,hd,fn,hf⟩
 |exit id=>exact hq.elim
 |goto l=>exact hq.elim
 |outgrown=>exact⟨.outgrown,w',{(default:Frame)with fn:=f,kind:=.normal},hq,gK.resolve_left (by simp),rfl,trivial⟩
def tY (P:Program) (ops:Array Oper) (Q:Exit->Act->World->Prop) (l:List Nat) (a:Act) (w:World):Prop:=
 ∀(b:Frame) (k:List Item) (cs:List Frame),b.kind≠.early->∃e a' w',Q e a' w'/\Arrives P (lone (b.at a (.inRegion ops l::k)) cs w) b k cs e a' w'
theorem Bd {id:Nat} {ops:Array Oper} (h:tY P ops Q (List.range ops.size) a w):zB P (.region id ops false) Q a w:=
 fun b k cs hb=>let ⟨e,a',w',q,r⟩:=h b k cs hb;⟨e,a',w',q,.of_steps (.one step_region) r⟩
theorem LI {ops:Array Oper} (h:Q .normal a w):tY P ops Q [] a w:=fun _ _ _ _=>⟨.normal,a,w,h,.one step_region_end⟩
theorem nB {o:Oper} {ys:Nat->Option Bool} (h:o.guard=none):Region.wanted o ys=true:=by simp[Region.wanted,h]
theorem GK {ops:Array Oper} {i:Nat} {rest:List Nat} {o:Oper} {v:Value} (ho:ops[i]? =some o) (hg:o.guard=none) (hr:(execOp a.eval o).run P w=.ok (.value v) w') (h:tY P ops Q rest (a.put o.dst v) w'):tY P ops Q (i::rest) a w:=by
 intro b k cs hb
 obtain⟨e,a',w2,hq,gK⟩:=h b k cs hb
 refine⟨e,a',w2,hq,.of_steps (.one ?_) gK⟩
 have qq:(b.at a (.inRegion ops (i::rest)::k)).finish v=b.at (a.put o.dst v) (.inRegion ops rest::k):=by rw[Frame.finish_at,ho];rfl
 rw[<-qq]
 refine step_lone_go ?_
 have h2:=stepG_op (P:=P) (b:=b) (k:=k) (cs:=cs) (w:=w) (rest:=rest) ho (nB hg (ys:=yielded ops a.tmps))
 rw[h2];simp[stepG.apply,hr]
theorem Ja {ops:Array Oper} {i:Nat} {rest:List Nat} {o:Oper} {v z:Value} {c cap s r:Nat} {buf:Array Value} (ho:ops[i]? =some o) (hg:o.guard=none) (hr:(execOp a.eval o).run P w=.ok (.comm #[Conc.scase c v z] true .send) w)
  (hc:w.heap[c]? =some (.chan cap buf false s r false)) (fb:buf.size<cap) (h:tY P ops Q rest (a.put o.dst undef) (w.setChan c cap (buf.push v) false (s+1) r false)):tY P ops Q (i::rest) a w:=by
 intro b k cs hb
 obtain⟨e,a',w2,hq,gK⟩:=h b k cs hb
 refine⟨e,a',w2,hq,.of_steps (.one ?_) gK⟩
 have qq:(b.at a (.inRegion ops (i::rest)::k)).finish undef=b.at (a.put o.dst undef) (.inRegion ops rest::k):=by rw[Frame.finish_at,ho];rfl
 rw[<-qq,Conc.lone_eq_solo,Conc.lone_eq_solo]
 exact Conc.step_lone_send_room (Conc.stepG_comm ho (nB hg) hb hr) hc fb
theorem I9 {ops:Array Oper} {i:Nat} {rest:List Nat} {o:Oper} {z:Value} {c cap s r:Nat} {buf:Array Value} (ho:ops[i]? =some o) (hg:o.guard=none) (hr:(execOp a.eval o).run P w=.ok (.comm #[Conc.rcase c z] true (.recv false)) w)
  (hc:w.heap[c]? =some (.chan cap buf false s r false)) (F9:0<buf.size) (h:tY P ops Q rest (a.put o.dst (buf.getD 0 undef)) (w.setChan c cap (buf.extract 1 buf.size) false s (r+1) false)):tY P ops Q (i::rest) a w:=by
 intro b k cs hb
 obtain⟨e,a',w2,hq,gK⟩:=h b k cs hb
 refine⟨e,a',w2,hq,.of_steps (.one ?_) gK⟩
 have qq:(b.at a (.inRegion ops (i::rest)::k)).finish (buf.getD 0 undef)=b.at (a.put o.dst (buf.getD 0 undef)) (.inRegion ops rest::k):=by rw[Frame.finish_at,ho];rfl
 rw[<-qq,Conc.lone_eq_solo,Conc.lone_eq_solo]
 exact Conc.step_lone_recv_buf false (Conc.stepG_comm ho (nB hg) hb hr) hc F9
end
section
variable {hs:Nat} {g:Rows} {env:Env} {a:Act} {o:Oper}
theorem IL {x y:O} (hc:oW P o.op=some (.snd x y)):∃x' y',o.op=.send x' y'/\cO P x'=some x/\cO P y'=some y:=by
 unfold oW at hc
 split at hc
 case h_25=>
  rename_i x' y' h
  simp only[Option.bind_eq_bind,Option.bind_eq_some_iff,Option.pure_def,Option.some.injEq,fD.snd.injEq]at hc
  obtain⟨p,h1,q,h2,rfl,rfl⟩:=hc
  exact⟨_,_,h,h1,h2⟩
 all_goals (try unfold l8 at hc)<;>(try unfold sy at hc)<;>(try unfold qg at hc)<;>(repeat' (split at hc))<;>(simp only[Option.bind_eq_bind,Option.bind_eq_some_iff,Option.pure_def,Option.some.injEq,Option.map_eq_some_iff,reduceCtorEq,and_false,exists_false]at hc)
theorem IK {x:O} (hc:oW P o.op=some (.LM x)):∃t dir e i z x',o.op=.recv t x' false/\P.underlying t=some (.chan dir e)/\P.info? e=some i/\i.zero=some z/\cO P x'=some x:=by
 unfold oW at hc
 split at hc
 case h_26=>
  rename_i t x' h
  split at hc
  ·rename_i dir e ht
   split at hc
   ·rename_i z hz
    simp only[Option.bind_eq_some_iff]at hz
    obtain⟨i,hi,hz⟩:=hz
    simp only[Option.map_eq_some_iff,fD.LM.injEq]at hc
    obtain⟨p,h1,rfl⟩:=hc
    exact⟨t,dir,e,i,z,x',h,ht,hi,hz,h1⟩
   ·cases hc
  ·cases hc
 all_goals (try unfold l8 at hc)<;>(try unfold sy at hc)<;>(try unfold qg at hc)<;>(repeat' (split at hc))<;>(simp only[Option.bind_eq_bind,Option.bind_eq_some_iff,Option.pure_def,Option.some.injEq,Option.map_eq_some_iff,reduceCtorEq,and_false,exists_false]at hc)
theorem Nb {x y:O} {g':Rows} (S:fJ P hs D ι g w) (hc:oW P o.op=some (.snd x y)) (E:bu P w D ι env a) (hv:eu g (cv env x) (cv env y)=some g'):
  ∃c cap s r buf u,(execOp a.eval o).run P w=.ok (.comm #[Conc.scase c u (.tuple #[])] true .send) w/\w.heap[c]? =some (.chan cap buf false s r false)/\buf.size<cap/\fJ P hs D ι g' (w.setChan c cap (buf.push u) false (s+1) r false)/\Step hs D ι w D ι (w.setChan c cap (buf.push u) false (s+1) r false):=by
 obtain⟨x',y',ho,hx,hy⟩:=IL hc
 have rx:=cE E hx
 have ry:=cE E hy
 unfold eu at hv
 split at hv
 ·rename_i i he
  simp only[Option.bind_eq_some_iff]at hv
  obtain⟨r,hg,hv⟩:=hv
  split at hv
  ·rename_i hcond
   simp only[Option.some.injEq]at hv
   subst hv
   obtain⟨B,c,hu,hB,hk,eS,buf,s,q,hb,Hx,hR⟩:=wb S rx he hg
   obtain⟨B',dn,RR,_⟩:=S.row i r hg
   rw[hB]at dn;injection dn with dn;subst dn
   have mu:=S.EA (ob:=.chan c (buf.push (a.eval y')) false (s+1) q false) (r':={r with rows:=r.rows++[[cv env y]]}) hg hcond.1 hB fun hr jS=>⟨RR.sz,fun cs dh=>?_,fun h0=>(by rw[hk]at h0;cases h0),fun m hm=>(by rw[hk]at hm;cases hm),fun c' jQ=>?_⟩
   ·exact⟨B.b,c,s,q,buf,a.eval y',by simp[execOp,ho,hu,Conc.scase],hb,by rw[Hx];omega,mu.1,mu.2⟩
   ·rcases List.mem_append.1 dh with h|h
    ·exact RR.flat cs h
    ·rw[List.mem_singleton.1 h]
     intro b qp
     rw[List.mem_singleton.1 qp];exact hcond.2.2
   ·rw[hk]at jQ
    simp only[Option.some.injEq,BK.chan.injEq]at jQ
    subst jQ
    refine⟨eS,_,_,_,jS,by simp[Hx],fun j cs hj=>?_⟩
    rw[List.getElem?_append]at hj
    split at hj
    ·rename_i dF
     obtain⟨b,u,q1,q2,q3⟩:=hR j cs hj
     refine⟨b,u,q1,?_,hr _ _ q3⟩
     rw[Array.getElem?_push,if_neg ab];exact q2
    ·rename_i kK
     have gq:j=r.rows.length:=by
      have:=(List.getElem?_eq_some_iff.1 hj).1
      simp at this;omega
     subst gq
     simp at hj
     subst hj
     exact⟨_,_,rfl,by rw[Array.getElem?_push,if_pos Hx.symm],hr _ _ ry⟩
  ·cases hv
 ·cases hv
theorem M9 {x:O} {g':Rows} {v:AV} (S:fJ P hs D ι g w) (hc:oW P o.op=some (.LM x)) (E:bu P w D ι env a) (hv:er g (cv env x)=some (v,g')):
  ∃c cap s r buf z,(execOp a.eval o).run P w=.ok (.comm #[Conc.rcase c z] true (.recv false)) w/\w.heap[c]? =some (.chan cap buf false s r false)/\0<buf.size/\fJ P hs D ι g' (w.setChan c cap (buf.extract 1 buf.size) false s (r+1) false)/\Step hs D ι w D ι (w.setChan c cap (buf.extract 1 buf.size) false s (r+1) false)/\cw P (w.setChan c cap (buf.extract 1 buf.size) false s (r+1) false) D ι v (buf.getD 0 undef):=by
 obtain⟨t,dir,e,i0,z,x',ho,ht,hi,hz,hx⟩:=IK hc
 have rx:=cE E hx
 unfold er at hv
 split at hv
 ·rename_i i he
  simp only[Option.bind_eq_some_iff]at hv
  obtain⟨r,hg,hv⟩:=hv
  split at hv
  ·rename_i v' rest pv
   split at hv
   ·rename_i hcond
    simp only[Option.some.injEq,Prod.mk.injEq]at hv
    obtain⟨rfl,rfl⟩:=hv
    obtain⟨B,c,hu,hB,hk,eS,buf,s,q,hb,Hx,hR⟩:=wb S rx he hg
    obtain⟨B',dn,RR,_⟩:=S.row i r hg
    rw[hB]at dn;injection dn with dn;subst dn
    obtain⟨b0,u0,q1,q2,q3⟩:=hR 0 [v'] (by rw[pv];rfl)
    simp only[List.cons.injEq,and_true]at q1
    subst q1
    have kM:0<buf.size:=by rw[Hx,pv];simp
    have Pk:buf.getD 0 undef=u0:=by rw[Array.getD_eq_getD_getElem?,q2];rfl
    have mu:=S.EA (ob:=.chan c (buf.extract 1 buf.size) false s (q+1) false) (r':={r with rows:=rest}) hg hcond hB fun hr jS=>⟨RR.sz,fun cs dh=>RR.flat cs (by rw[pv];exact List.mem_cons_of_mem _ dh),fun h0=>(by rw[hk]at h0;cases h0),fun m hm=>(by rw[hk]at hm;cases hm),fun c' jQ=>?_⟩
    ·refine⟨B.b,c,s,q,buf,z,?_,hb,kM,mu.1,mu.2,?_⟩
     ·have sZ:(zeroValue e).run P w=.ok z w:=by simp[zeroValue,typeInfo,hi,hz]
      simp[execOp,ho,hu,Conc.rcase,run_underlying ht,sZ]
     ·rw[Pk];exact mu.2.rep q3
    ·rw[hk]at jQ
     simp only[Option.some.injEq,BK.chan.injEq]at jQ
     subst jQ
     refine⟨eS,_,_,_,jS,by simp[Hx,pv],fun j cs hj=>?_⟩
     obtain⟨b,u,k1,k2,k3⟩:=hR (j+1) cs (by rw[pv];simpa using hj)
     refine⟨b,u,k1,?_,hr _ _ k3⟩
     have dF:=(Array.getElem?_eq_some_iff.1 k2).1
     rw[Array.getElem?_extract,if_pos ab,Nat.add_comm 1 j];exact k2
   ·cases hv
  ·cases hv
 ·cases hv
theorem CZ {ops:Array Oper} {nt site0:Nat} {K:Env->aw->Prop} {Q:Exit->Act->World->Prop}:∀(l:List Oper) (vl:List aV) (j:Nat) (env:Env) (σ:aw) (a:Act) (w:World) (D:Nat->Prop) (ι:Names),
  ops.toList.drop j=l->allM (k5 P ops nt site0 false false #[] []) l j=some vl->cu vl K env σ->fJ P hs D ι σ.get w->Used ι σ.next (fun _=>False)->bu P w D ι env a->a.tmps.size=nt->
  (∀gJ σ' a' w' D' ι',K gJ σ'->Step hs D ι w D' ι' w'->St P hs nt D' ι' gJ σ' a' w'->a'.defers=a.defers->σ.next<=σ'.next->Q .normal a' w')->tY P ops Q (List.range' j l.length) a w:=by
 intro l
 induction l with
 |nil=>
  intro vl j env σ a w D ι _ h hv S Us E eS hQ
  simp[allM]at h;subst h
  exact LI (hQ env ⟨σ.get,σ.next+1⟩ a w D ι hv (Step.refl _ _ _ _) ⟨S,Us.next,E,eS⟩ rfl (Nat.le_succ _))
 |cons o l ih=>
  intro vl j env σ a w D ι hl h hv S Us E eS hQ
  simp only[allM,Option.bind_eq_bind,Option.bind_eq_some_iff,Option.pure_def,Option.some.injEq]at h
  obtain⟨vo,n8,qL,qc,rfl⟩:=h
  obtain⟨hc,hd,yP,ui,hg⟩:=nF n8
  obtain⟨NP,hv⟩:=hv
  have QI:o.guard=none:=by
   split at hg
   ·assumption
   ·obtain⟨t,_,h⟩:=hg
    rw[NP]at h;cases h
  have QJ:ops[j]? =some o:=by
   have h0:=congrArg (fun x=>x[0]?) hl
   rw[<-Array.getElem?_toList]
   simpa[List.getElem?_drop]using h0
  have HF:ops.toList.drop (j+1)=l:=by rw[<-List.drop_drop,hl];rfl
  have go:∀(v:AV) (u:Value) (g2:Rows) (w2:World),cu qL K (upd env vo.dst v) ⟨g2,σ.next⟩->fJ P hs D ι g2 w2->Step hs D ι w D ι w2->cw P w2 D ι v u->tY P ops Q (List.range' (j+1) l.length) (a.put o.dst u) w2:=fun v u g2 w2 hn S2 T hR=>
   ih qL (j+1) (upd env vo.dst v) ⟨g2,σ.next⟩ (a.put o.dst u) w2 D ι HF qc hn S2 Us (by rw[hd];exact lG (m3 E T) hR ui eS) (by rw[jZ];exact eS) fun gJ σ2 a' w3 D3 ι3 hk T2 MZ Ay lJ=>hQ gJ σ2 a' w3 D3 ι3 hk (T.trans T2) MZ (Ay.trans (put_defers _ _ _)) lJ
  rw[show List.range' j (o::l).length=j::List.range' (j+1) l.length from rfl]
  split at hv
  ·rename_i x y dB
   split at hv
   ·rename_i g2 MH
    rw[dB]at hc
    obtain⟨c,cap,s,r,buf,u,gC,hb,fb,S2,T⟩:=Nb S hc E MH
    exact Ja QJ QI gC hb fb (go _ _ _ _ hv S2 T cw.undef)
   ·exact hv.elim
  ·rename_i x dB
   split at hv
   ·rename_i v g2 MH
    rw[dB]at hc
    obtain⟨c,cap,s,r,buf,z,gC,hb,F9,S2,T,hR⟩:=M9 S hc E MH
    exact I9 QJ QI gC hb F9 (go _ _ _ _ hv S2 T hR)
   ·exact hv.elim
  ·split at hv
   ·rename_i v hq
    obtain⟨u,gC,hR⟩:=vI hc hq S E
    exact GK QJ QI gC (go _ _ _ _ hv S (Step.refl _ _ _ _) hR)
   ·exact hv.elim
end
end Go.Proofs.YtihgaadadaekmaaGreatDoor.V

namespace Go.Proofs.YtihgaadadaekmaaGreatDoor.V
open Go.RowKit
variable {P:Program} {w w':World} {D D' D2:Nat->Prop} {ι ι' ι2:Names}
section
variable {hs:Nat} {X:e6}
def exO:Ex->Exit
 | .normal=>.normal
 | .exit id=>.exit id
 | .ret=>.ret
theorem St.drew {nt:Nat} {env:Env} {σ:aw} {a:Act} {D:Nat->Prop} {ι:Names} (h:St P hs nt D ι env σ a w):St P hs nt D ι env σ a w.drew/\Step hs D ι w D ι w.drew:=by
 have T:Step hs D ι w D ι w.drew:=Step.stay h.HL (fun _ _=>rfl) (Nat.le_refl _) rfl rfl rfl (fun _ h=>h) (fun _ h=>.inl h) (fun _ _ h=>h)
 exact⟨⟨h.HL.stay (fun _ _=>rfl) (Nat.le_refl _) (fun _ h=>h) h.HL.dead (fun _ h=>.inl h) (fun _ _ h=>h),h.used,m3 h.env T,h.size⟩,T⟩
def uG (P:Program) (hs nt:Nat) (ds:List Deferred) (Q:Ex->Env->aw->Prop) (n0:Nat) (D:Nat->Prop) (ι:Names) (w:World) (Q':Exit->Act->World->Prop):Prop:=
 ∀ex env σ a w' D' ι',Q ex env σ->Step hs D ι w D' ι' w'->St P hs nt D' ι' env σ a w'->a.defers=ds->n0<=σ.next->Q' (exO ex) a w'
theorem uG.later {nt:Nat} {ds:List Deferred} {Q:Ex->Env->aw->Prop} {n0 n1:Nat} {Q':Exit->Act->World->Prop} (h:uG P hs nt ds Q n0 D ι w Q') (T:Step hs D ι w D' ι' w') (hn:n0<=n1):uG P hs nt ds Q n1 D' ι' w' Q':=
 fun ex env σ a w2 D2 ι2 hq T2 dQ hd hle=>h ex env σ a w2 D2 ι2 hq (T.trans T2) dQ hd (Nat.le_trans hn hle)
theorem z3 (hm:P.follows .mixedOrders=true) {md:List (Nat×Nat)} {nt sI:Nat}:∀(c:Code) (vc:VC),gZ P md nt sI c=some vc->∀(Q:Ex->Env->aw->Prop) (env:Env) (σ:aw) (a:Act) (w:World) (D:Nat->Prop) (ι:Names) (Q':Exit->Act->World->Prop),
  dP (Sound P) vc Q env σ->St P hs nt D ι env σ a w->uG P hs nt a.defers Q σ.next D ι w Q'->zB P c Q' a w:=by
 intro c
 induction c with
 |skip=>
  intro vc h Q env σ a w D ι Q' hv dQ hQ
  simp[gZ]at h;subst h
  exact oP <| wp_skip (hQ .normal env σ a w D ι hv (Step.refl _ _ _ _) dQ rfl (Nat.le_refl _))
 |exit id=>
  intro vc h Q env σ a w D ι Q' hv dQ hQ
  simp[gZ]at h;subst h
  exact oP <| wp_exit (hQ (.exit id) env σ a w D ι hv (Step.refl _ _ _ _) dQ rfl (Nat.le_refl _))
 |ret=>
  intro vc h Q env σ a w D ι Q' hv dQ hQ
  simp[gZ]at h;subst h
  exact oP <| wp_ret (hQ .ret env σ a w D ι hv (Step.refl _ _ _ _) dQ rfl (Nat.le_refl _))
 |seq x y ihx ihy=>
  intro vc h Q env σ a w D ι Q' hv dQ hQ
  simp only[gZ,Option.bind_eq_bind,Option.bind_eq_some_iff,Option.pure_def,Option.some.injEq]at h
  obtain⟨vx,hx,vy,hy,rfl⟩:=h
  refine I5 (ihx vx hx _ env σ a w D ι _ hv dQ fun ex jo σ1 a1 w1 D1 ι1 hq T jJ hd hle=>?_)
  cases ex with
  |normal=>exact ihy vy hy Q jo σ1 a1 w1 D1 ι1 Q' hq jJ (by rw[hd];exact hQ.later T hle)
  |exit id=>exact hQ (.exit id) jo σ1 a1 w1 D1 ι1 hq T jJ hd hle
  |ret=>exact hQ .ret jo σ1 a1 w1 D1 ι1 hq T jJ hd hle
 |cond c x y ihx ihy=>
  intro vc h Q env σ a w D ι Q' hv dQ hQ
  simp only[gZ,Option.bind_eq_bind,Option.bind_eq_some_iff,Option.pure_def,Option.some.injEq]at h
  obtain⟨c',hc,vx,hx,vy,hy,rfl⟩:=h
  unfold dP at hv
  have hr:=cE dQ.env hc
  split at hv
  ·rename_i b hb
   rw[hb]at hr
   refine GD (eG hr) ?_
   cases b with
   |true=>exact ihx vx hx Q env σ a w D ι Q' hv dQ hQ
   |false=>exact ihy vy hy Q env σ a w D ι Q' hv dQ hQ
  ·exact hv.elim
 |block id c ih=>
  intro vc h Q env σ a w D ι Q' hv dQ hQ
  simp only[gZ,Option.map_eq_some_iff]at h
  obtain⟨vx,hx,rfl⟩:=h
  refine D8 (ih vx hx _ env σ a w D ι _ hv dQ fun ex jo σ1 a1 w1 D1 ι1 hq T jJ hd hle=>?_)
  cases ex with
  |normal=>exact hQ .normal jo σ1 a1 w1 D1 ι1 hq T jJ hd hle
  |ret=>exact hQ .ret jo σ1 a1 w1 D1 ι1 hq T jJ hd hle
  |exit jU=>
   simp only[bp]at hq
   simp only[exO,Exit.inBlock]
   by_cases hid:jU=id
   ·rw[if_pos hid]at hq ⊢;exact hQ .normal jo σ1 a1 w1 D1 ι1 hq T jJ hd hle
   ·rw[if_neg hid]at hq ⊢;exact hQ (.exit jU) jo σ1 a1 w1 D1 ι1 hq T jJ hd hle
 |loop c ih=>
  intro vc h Q env σ a w D ι Q' hv dQ hQ
  simp only[gZ,Option.map_eq_some_iff]at h
  obtain⟨vx,hx,rfl⟩:=h
  obtain⟨n,hv⟩:=hv
  refine GF n ?_
  have key:∀n env σ a w D ι,Cq (dP (Sound P) vx) Q n env σ->St P hs nt D ι env σ a w->uG P hs nt a.defers Q σ.next D ι w Q'->sf P c Q' n a w:=by
   intro n
   induction n with
   |zero=>intro env σ a w D ι h;exact h.elim
   |succ n ihn=>
    intro env σ a w D ι h dQ hQ
    refine ih vx hx _ env σ a w D ι _ h dQ fun ex jo σ1 a1 w1 D1 ι1 hq T jJ hd hle=>?_
    cases ex with
    |normal=>exact ihn jo σ1 a1 w1 D1 ι1 hq jJ (by rw[hd];exact hQ.later T hle)
    |exit id=>exact hQ (.exit id) jo σ1 a1 w1 D1 ι1 hq T jJ hd hle
    |ret=>exact hQ .ret jo σ1 a1 w1 D1 ι1 hq T jJ hd hle
  exact key n env σ a w D ι hv dQ hQ
 |region id ops draw=>
  intro vc h Q env σ a w D ι Q' hv dQ hQ
  simp only[gZ,M8]at h
  split at h
  ·rename_i hmode
   have Qm:draw=true:=by
    simp only[Bool.and_eq_true]at hmode;exact hmode.1
   subst Qm
   split at h
   ·rename_i vl di
    obtain⟨pw,T0⟩:=dQ.drew
    have Aq:=Ez (X:=Sound P) ov ops.size _ vc env σ h (fun k i h=>by
     exfalso
     rcases Nat.lt_or_ge k ops.size with hk|hk
     ·simp[hk]at h
     ·simp[Nat.not_lt.2 hk]at h) hv
    refine oP (wp_region_any hm ?_)
    exact BJ di ops.size _ env σ a w.drew D ι (fun _=>False) Aq pw.HL pw.used (fun _ h=>h.elim) pw.env pw.size fun jo σ1 a1 w1 D1 ι1 hk T jJ hd hle=>hQ .normal jo σ1 a1 w1 D1 ι1 hk (T0.trans T) jJ hd hle
   ·cases h
  split at h
  ·rename_i hcom
   have Qm:draw=false:=by
    simp only[Bool.and_eq_true,Bool.not_eq_true']at hcom;exact hcom.1
   subst Qm
   simp only[Option.map_eq_some_iff]at h
   obtain⟨vl,qc,rfl⟩:=h
   have di:allM (k5 P ops nt ((sI*1000+id)*1000) false false #[] []) ops.toList 0=some vl:=by
    unfold pg at qc
    simp only[Bool.false_eq_true,if_false,Bool.not_false,Bool.true_or,if_true]at qc
    split at qc
    ·rename_i qL h;simp at qc;subst qc;exact h
    ·cases qc
   refine Bd ?_
   have:=CZ (Q:=Q') ops.toList vl 0 env σ a w D ι rfl di hv dQ.HL dQ.used dQ.env dQ.size fun jo σ1 a1 w1 D1 ι1 hk T jJ hd hle=>hQ .normal jo σ1 a1 w1 D1 ι1 hk T jJ hd hle
   rwa [<-List.range_eq_range',Array.length_toList]at this
  generalize (td md id==1)=mk at h
  simp only[Option.map_eq_some_iff]at h
  obtain⟨vl,qc,rfl⟩:=h
  cases draw with
  |false=>
   have di:∃qL,allM (k5 P ops nt ((sI*1000+id)*1000) false mk #[] []) ops.toList 0=some qL/\vl=qL:=by
    unfold pg at qc
    simp only[Bool.false_eq_true,if_false,Bool.not_false,Bool.true_or,if_true]at qc
    split at qc
    ·rename_i qL h;simp at qc;exact⟨qL,h,qc.symm⟩
    ·cases qc
   obtain⟨qL,di,rfl⟩:=di
   refine oP (wp_region_list ?_)
   exact Eb ops.toList vl 0 env σ a w D ι (fun _=>False) di hv dQ.HL dQ.used (fun _ h=>h.elim) dQ.env dQ.size fun jo σ1 a1 w1 D1 ι1 hk T jJ hd hle=>hQ .normal jo σ1 a1 w1 D1 ι1 hk T jJ hd hle
  |true=>
   have di:∃hidden qL,allM (k5 P ops nt ((sI*1000+id)*1000) true mk (iN ops) hidden) ops.toList 0=some qL/\vl=qL/\mZ ops qL (iN ops)=true:=by
    unfold pg at qc
    simp only[if_true,Bool.not_true,Bool.false_or]at qc
    split at qc
    ·rename_i qL h
     split at qc
     ·rename_i sV;simp at qc;exact⟨_,qL,h,qc.symm,sV⟩
     ·cases qc
    ·cases qc
   obtain⟨hidden,qL,di,rfl,sV⟩:=di
   obtain⟨pw,T0⟩:=dQ.drew
   obtain⟨hlen,_⟩:=mN di
   have jR:vl.length=ops.size:=by rw[hlen];simp
   have Aq:=tP (X:=Sound P) (K:=Q .normal) (n:=σ.next) sV jR vl 0 (Array.replicate ops.size false) env σ.get (by simp) (by simp) (fun i hi=>by simp[hi]) (by simp[jR]) (fun k i h=>by
    exfalso
    rcases Nat.lt_or_ge k ops.size with hk|hk
    ·simp[hk]at h
    ·simp[Nat.not_lt.2 hk]at h) hv
   refine oP (wp_region_any hm ?_)
   rw[jR]at Aq
   exact uH di ops.size _ env σ.get a w.drew D ι (fun _=>False) Aq pw.HL pw.used (fun _ h=>h.elim) pw.env pw.size fun jo g1 a1 w1 D1 ι1 U1 hk T S1 PA E1 xJ hd=>hQ .normal jo ⟨g1,σ.next+1⟩ a1 w1 D1 ι1 hk (T0.trans T) ⟨S1,PA.next,E1,xJ⟩ hd (Nat.le_succ _)
 |label l=>
  intro vc h Q env σ a w D ι Q' hv dQ hQ
  simp[gZ]at h;subst h
  exact oP <| wp_label (hQ .normal env σ a w D ι hv (Step.refl _ _ _ _) dQ rfl (Nat.le_refl _))
 |scope c ih=>
  intro vc h Q env σ a w D ι Q' hv dQ hQ
  simp only[gZ]at h
  refine D9 (ih vc h Q env σ a w D ι _ hv dQ fun ex jo σ1 a1 w1 D1 ι1 hq T jJ hd hle=>?_)
  have h1:=hQ ex jo σ1 a1 w1 D1 ι1 hq T jJ hd hle
  cases ex with
  |normal=>exact h1
  |exit id=>exact h1
  |ret=>exact h1
 |_=>
  intro vc h
  simp[gZ]at h
def GR (tmps:Array Value):ResultVar->Sem Value
 | .tmp t=>pure (tmps.getD t undef)
 | .cell a t=>do loadVar t (<-asAddr (tmps.getD a undef))
theorem Bm (fn:Func) (tmps:Array Value):results fn tmps=(do
  let vs <-fn.results.mapM (GR tmps)
  pure (if h:vs.size=1 then vs[0]else .tuple vs)):=by
 unfold results
 congr 2
theorem rE {nt:Nat} {env:Env} {σ:aw} {a:Act} {D:Nat->Prop} {ι:Names} (dQ:St P hs nt D ι env σ a w):∀(rs:List ResultVar) (vr:List nU) (vs:List AV),rs.mapM (CW P)=some vr->eQ env σ.get vr=some vs->
  ∃us:List Value,(rs.mapM (GR a.tmps)).run P w=.ok us w/\us.length=vs.length/\∀(j:Nat) (v:AV),vs[j]? =some v->∃u,us[j]? =some u/\cw P w D ι v u
 |[],vr,vs,h,hv=>by
  simp at h;subst h
  simp[eQ]at hv;subst hv
  exact⟨[],by simp,rfl,fun j v h=>by simp at h⟩
 |r::rs,vr,vs,h,hv=>by
  simp only[List.mapM_cons,Option.bind_eq_bind,Option.bind_eq_some_iff]at h
  obtain⟨x,hx,vr',hr,h⟩:=h
  simp at h;subst h
  simp only[eQ,Option.bind_eq_some_iff,Option.map_eq_some_iff]at hv
  obtain⟨v,vd,vs',N9,rfl⟩:=hv
  obtain⟨us,h1,h2,h3⟩:=rE dQ rs vr' vs' hr N9
  have one:∃u,(GR a.tmps r).run P w=.ok u w/\cw P w D ι v u:=by
   cases r with
   |tmp t=>
    simp[CW]at hx;subst hx
    simp[gI]at vd;subst vd
    exact⟨_,rfl,dQ.env t⟩
   |cell b t=>
    simp only[CW,Option.bind_eq_bind,Option.bind_eq_some_iff,Option.pure_def,Option.some.injEq]at hx
    obtain⟨ag,r7,n,hn,rfl⟩:=hx
    simp only[gI]at vd
    have gi:=dQ.env b
    unfold ld at vd
    split at vd
    ·rename_i jU i' oo hb
     rw[hb]at gi
     obtain⟨B,he,hB,hk⟩:=iI gi
     simp only[Option.bind_eq_some_iff]at vd
     obtain⟨cs,dh,hp⟩:=vd
     obtain⟨B',r0,EK,dn,R,hi,fl,f,hf⟩:=GW (S:=dQ.HL) dh (fun B2 h2=>by rw[hB]at h2;injection h2 with h2;subst h2;exact hk)
     rw[hB]at dn;injection dn with dn;subst dn
     obtain⟨u,k1,k2⟩:=jL (w:=w) (b:=B.b) (oo:=i'*B.sz+oo) (f:=fun j=>f (oo+j)) r7 hn hp (fun a ha=>fl a (List.mem_of_mem_drop ha)) (fun j hj=>by
      rw[Nat.add_assoc];exact(hf _ (by simp at hj;omega)).1) (fun j a ha=>by
      simp at ha;exact(hf _ ((List.getElem?_eq_some_iff.1 ha).1)).2 _ ha)
     exact⟨u,by simp only[GR,he,asAddr,Sem.run_bind,Sem.run_pure,Result.andThen_ok,k1],k2⟩
    ·rename_i cs hb
     rw[hb]at gi
     obtain⟨b',oo,vs2,he,q1,q2,q3,q4⟩:=j4 gi
     obtain⟨u,k1,k2⟩:=jL (w:=w) (b:=b') (oo:=oo) (f:=vs2) r7 hn vd q2 q3 (fun j a ha=>.ev _ _ (q4 j a ha))
     exact⟨u,by simp only[GR,he,asAddr,Sem.run_bind,Sem.run_pure,Result.andThen_ok,k1],k2⟩
    ·simp at vd
  obtain⟨u,hu,uu⟩:=one
  refine⟨u::us,?_,by simp[h2],fun j v' hj=>?_⟩
  ·rw[List.mapM_cons]
   simp only[Sem.run_bind,hu,h1,Result.andThen_ok,Sem.run_pure]
  ·cases j with
   |zero=>simp at hj;subst hj;exact⟨u,rfl,uu⟩
   |succ j=>simp at hj ⊢;exact h3 j v' hj
theorem zV {f:Nat} {fn:Func} {c:Code} {args:List AV} {σ:aw} {K:AV->aw->Prop} {vr:List nU} (Mx:P.funcs[f]? =some fn) (hc:fn.body=some c) (hr:fn.results.toList.mapM (CW P)=some vr) (ha:fn.params.size+fn.nfree=args.length) (hle:fn.params.size+fn.nfree<=fn.ntmps)
  (h:∀(hs:Nat) (w:World) (D:Nat->Prop) (ι:Names) (a:Act) (Q':Exit->Act->World->Prop),St P hs fn.ntmps D ι (cq args) σ a w->uG P hs fn.ntmps a.defers (kQ vr K) σ.next D ι w Q'->zB P c Q' a w):Sound P f args σ K:=by
 intro hs D ι w vs S Us A
 have eS:vs.size=args.length:=A.1
 refine v9 Mx hc ?_
 refine h hs w D ι _ _ ⟨S,Us,fun t=>?_,by simp;omega⟩ fun ex jo σ1 a1 w1 D1 ι1 hq T jJ hd hle=>?_
 ·simp only[cq]
  by_cases dF:t<args.length
  ·obtain⟨u,hu,uu⟩:=A.2 t args[t] (List.getElem?_eq_getElem dF)
   have e1:args.getD t .undef=args[t]:=by simp[List.getD_eq_getElem?_getD,dF]
   have e2:(vs++Array.replicate (fn.ntmps-vs.size) undef).getD t undef=u:=by
    simp only[Array.getD_eq_getD_getElem?]
    rw[Array.getElem?_append_left ab,hu];rfl
   rw[e1,e2];exact uu
  ·have e1:args.getD t .undef=.undef:=by simp[List.getD_eq_getElem?_getD,Nat.le_of_not_lt dF]
   have e2:(vs++Array.replicate (fn.ntmps-vs.size) undef).getD t undef=undef:=by
    simp only[Array.getD_eq_getD_getElem?]
    rw[Array.getElem?_append_right ab,Array.getElem?_replicate]
    split<;>rfl
   rw[e1,e2];exact cw.undef
 ·have fin:(∃vs,eQ jo σ1.get vr=some vs/\K (dU vs) σ1)->a1.defers=[]/\∃v,(results fn a1.tmps).run P w1=.ok v w1/\∃r g' n' D' ι' u,Ending.returned v=.returned u/\K r ⟨g',n'⟩/\Step hs D ι w D' ι' w1/\fJ P hs D' ι' g' w1/\Used ι' n' (fun _=>False)/\σ.next<=n'/\cw P w1 D' ι' r u:=by
   rintro⟨avs,N9,hK⟩
   obtain⟨us,h1,h2,h3⟩:=rE jJ fn.results.toList vr avs hr N9
   have Ll:(results fn a1.tmps).run P w1=.ok (if h:us.toArray.size=1 then us.toArray[0]else .tuple us.toArray) w1:=by
    rw[Bm,Array.mapM_eq_mapM_toList]
    simp only[Sem.run_bind,Sem.run_map,h1,Result.andThen_ok,Sem.run_pure]
   refine⟨hd,_,Ll,dU avs,σ1.get,σ1.next,D1,ι1,_,rfl,hK,T,jJ.HL,jJ.used,hle,?_⟩
   unfold dU
   split
   ·rename_i v
    have hl:us.length=1:=h2
    obtain⟨u,hu,uu⟩:=h3 0 v rfl
    rw[dif_pos (by simpa using hl)]
    have:us.toArray[0]'(by simp[hl])=u:=by
     have:=(List.getElem?_eq_some_iff.1 hu).2
     simpa using this
    rw[this];exact uu
   ·rename_i gF
    rw[dif_neg (by
     simp only[List.size_toArray,h2]
     intro h
     obtain⟨v,hv⟩:=List.length_eq_one_iff.1 h
     exact gF v hv)]
    exact .ib _ _ (fun j=>us.getD j undef) (by simp[h2]) (fun j hj=>by
     have:j<us.length:=by rw[h2];exact hj
     simp[this]) (fun j v hj=>by
     obtain⟨u,hu,uu⟩:=h3 j v hj
     simpa[List.getD_eq_getElem?_getD,hu]using uu)
  cases ex with
  |normal=>exact fin hq
  |ret=>exact fin hq
  |exit id=>exact hq.elim
theorem FG (hm:P.follows .mixedOrders=true) {f:Nat} {md:List (Nat×Nat)} {vf:xt} {args:List AV} {σ:aw} {K:AV->aw->Prop} (hf:ud P f md=some vf) (ha:vf.vD=args.length) (h:dP (Sound P) vf.body (kQ vf.res K) (cq args) σ):Sound P f args σ K:=by
 unfold ud at hf
 split at hf
 ·rename_i fn Mx
  split at hf
  ·rename_i c hc
   simp only[Option.bind_eq_bind,Option.bind_eq_some_iff]at hf
   obtain⟨vb,hb,vr,hr,hf⟩:=hf
   split at hf
   ·rename_i hle
    simp only[Option.pure_def,Option.some.injEq]at hf
    subst hf
    simp only at ha h
    exact zV Mx hc hr ha hle fun hs w D ι a Q' dQ hQ=>z3 hm c vb hb (kQ vr K) (cq args) σ a w D ι Q' h dQ hQ
   ·simp at hf
  ·simp at hf
 ·simp at hf
def Kd (P:Program) (X:e6):e6:=fun f args σ K=>(∃md vf,ud P f md=some vf/\vf.vD=args.length/\((∀a∈args,dY a)->dP X vf.body (kQ vf.res K) (cq args) σ))∨Sound P f args σ K
def Call (P:Program):e6:=fun f args σ K=>∀X:e6,od X->(∀f args σ K,Kd P X f args σ K->X f args σ K)->X f args σ K
theorem gu (hm:P.follows .mixedOrders=true) {f:Nat} {args:List AV} {σ:aw} {K:AV->aw->Prop} (h:Call P f args σ K):Sound P f args σ K:=
 h (Sound P) ov fun f args σ K hs=>by
  rcases hs with⟨md,vf,h1,h2,h3⟩|h
  ·intro hs D ι w vs S U A
   exact FG hm h1 h2 (h3 (np fun j a hj=>by obtain⟨u,_,hr⟩:=A.2 j a hj;exact hr.Gk)) hs D ι w vs S U A
  ·exact h
end
end Go.Proofs.YtihgaadadaekmaaGreatDoor.V

namespace Go.Proofs.YtihgaadadaekmaaGreatDoor.V
open Go.RowKit
variable {P:Program} {X Y:e6}
theorem E7 (h:∀f args σ K,X f args σ K->Y f args σ K) {f:Nat} {args:List AV} {σ:aw} {K:AV->Prop} (hp:gN X f args σ K):gN Y f args σ K:=by
 rcases hp with hp|⟨a,h1,h2⟩
 ·exact .inl (h _ _ _ _ hp)
 ·exact .inr ⟨a,h1,h _ _ _ _ h2⟩
theorem HN (h:∀f args σ K,X f args σ K->Y f args σ K) {f:Nat} {args:List AV} {σ:aw} {sz:Nat} {rows:List (List AV)} (hp:CM X f args σ sz rows):CM Y f args σ sz rows:=by
 obtain⟨h1,a,h2,h3⟩:=hp
 exact⟨h1,a,h2,h _ _ _ _ h3⟩
theorem oz (h:∀f args σ K,X f args σ K->Y f args σ K) (hK:∀f args σ K K',(∀r σ',K r σ'->K' r σ')->Y f args σ K->Y f args σ K') {draw:Bool} {hid:List Nat} {site:Nat} {f:Nat} {args:List AV} {σ:aw} {n n':AV->aw->Prop} (hn:∀v σ',n v σ'->n' v σ') (hp:cF X draw hid site f args σ n):cF Y draw hid site f args σ n':=by
 rcases hp with⟨r,h1,h2⟩|⟨h1,h2⟩|⟨h1,sz,rows,h2,h3⟩
 ·exact .inl ⟨r,E7 h h1,hn _ _ h2⟩
 ·exact .inr (.inl ⟨h1,hK _ _ _ _ _ hn (h _ _ _ _ h2)⟩)
 ·exact .inr (.inr ⟨h1,sz,rows,HN h h2,hn _ _ h3⟩)
theorem p9 (h:∀f args σ K,X f args σ K->Y f args σ K) (hK:∀f args σ K K',(∀r σ',K r σ'->K' r σ')->Y f args σ K->Y f args σ K') {draw:Bool} {o:aV} {env:Env} {σ:aw} {n n':AV->aw->Prop} (hn:∀v σ',n v σ'->n' v σ') (hp:fI X draw o env σ n):fI Y draw o env σ n':=by
 unfold fI at hp ⊢
 split at hp
 ·exact oz h hK hn hp
 ·split at hp
  ·exact oz h hK hn hp
  ·exact oz h hK hn hp
  ·exact hp.elim
 ·split at hp
  ·exact hn _ _ hp
  ·exact hp.elim
 ·split at hp
  ·exact hn _ _ hp
  ·exact hp.elim
 ·split at hp
  ·exact hn _ _ hp
  ·exact hp.elim
 ·split at hp
  ·exact hn _ _ hp
  ·exact hp.elim
 ·split at hp
  ·exact hn _ _ hp
  ·exact hp.elim
 ·split at hp
  ·exact hn _ _ hp
  ·exact hn _ _ hp
  ·exact hp.elim
theorem lW (h:∀f args σ K,X f args σ K->Y f args σ K) (hK:∀f args σ K K',(∀r σ',K r σ'->K' r σ')->Y f args σ K->Y f args σ K') {draw:Bool} {Q Q':Env->aw->Prop} (hQ:∀e s,Q e s->Q' e s):∀(l:List aV) (env:Env) (σ:aw),wpOps X draw l Q env σ->wpOps Y draw l Q' env σ
 |[],env,σ,hp=>hQ _ _ hp
 |o::r,env,σ,hp=>by
  unfold wpOps at hp ⊢
  split at hp
  ·rename_i hw;rw[if_pos hw];exact p9 h hK (fun v σ'=>lW h hK hQ r _ _) hp
  ·rename_i hw;rw[if_neg hw];exact lW h hK hQ r _ _ hp
theorem lV {Q Q':Env->aw->Prop} (hQ:∀e s,Q e s->Q' e s):∀(l:List aV) (env:Env) (σ:aw),cu l Q env σ->cu l Q' env σ
 |[],env,σ,hp=>hQ _ _ hp
 |o::r,env,σ,hp=>by
  unfold cu at hp ⊢
  refine⟨hp.1,?_⟩
  replace hp:=hp.2
  split at hp
  ·split at hp
   ·exact lV hQ r _ _ hp
   ·exact hp.elim
  ·split at hp
   ·exact lV hQ r _ _ hp
   ·exact hp.elim
  ·split at hp
   ·exact lV hQ r _ _ hp
   ·exact hp.elim
theorem kg (h:∀f args σ K,X f args σ K->Y f args σ K) (hK:∀f args σ K K',(∀r σ',K r σ'->K' r σ')->Y f args σ K->Y f args σ K'):∀(c:VC) (Q Q':Ex->Env->aw->Prop) (env:Env) (σ:aw),(∀x e s,Q x e s->Q' x e s)->dP X c Q env σ->dP Y c Q' env σ:=by
 intro c
 induction c with
 |skip=>intro Q Q' env σ hQ hp;exact hQ _ _ _ hp
 |exit id=>intro Q Q' env σ hQ hp;exact hQ _ _ _ hp
 |ret=>intro Q Q' env σ hQ hp;exact hQ _ _ _ hp
 |one o c ih=>
  intro Q Q' env σ hQ hp
  unfold dP at hp ⊢
  split at hp
  ·rename_i hw;rw[if_pos hw];exact p9 h hK (fun v σ'=>ih Q Q' _ _ hQ) hp
  ·rename_i hw;rw[if_neg hw];exact ih Q Q' _ _ hQ hp
 |both a b iha ihb=>intro Q Q' env σ hQ hp;exact⟨iha Q Q' env σ hQ hp.1,ihb Q Q' env σ hQ hp.2⟩
 |loc t s y c ih=>intro Q Q' env σ hQ hp;exact⟨hp.1,ih Q Q' env σ hQ hp.2⟩
 |Kz ops=>intro Q Q' env σ hQ hp;exact lV (hQ .normal) ops env σ hp
 |eb draw ops=>intro Q Q' env σ hQ hp;exact lW h hK (hQ .normal) ops env σ hp
 |seq a b iha ihb=>
  intro Q Q' env σ hQ hp
  refine iha _ _ env σ (fun x e s hx=>?_) hp
  cases x with
  |normal=>exact ihb Q Q' e s hQ hx
  |exit id=>exact hQ _ _ _ hx
  |ret=>exact hQ _ _ _ hx
 |cond c a b iha ihb=>
  intro Q Q' env σ hQ hp
  unfold dP at hp ⊢
  split at hp
  ·rename_i t ht
   cases t with
   |true=>exact iha Q Q' env σ hQ hp
   |false=>exact ihb Q Q' env σ hQ hp
  ·exact hp.elim
 |block id a iha=>
  intro Q Q' env σ hQ hp
  refine iha _ _ env σ (fun x e s hx=>?_) hp
  cases x with
  |normal=>exact hQ _ _ _ hx
  |ret=>exact hQ _ _ _ hx
  |exit jU=>
   unfold bp at hx ⊢
   dsimp only at hx ⊢
   split at hx
   ·rename_i hid;rw[if_pos hid];exact hQ _ _ _ hx
   ·rename_i hid;rw[if_neg hid];exact hQ _ _ _ hx
 |loop a iha=>
  intro Q Q' env σ hQ hp
  obtain⟨n,hp⟩:=hp
  refine⟨n,?_⟩
  induction n generalizing env σ with
  |zero=>exact hp
  |succ n ihn=>
   refine iha _ _ env σ (fun x e s hx=>?_) hp
   cases x with
   |normal=>exact ihn e s hx
   |exit id=>exact hQ _ _ _ hx
   |ret=>exact hQ _ _ _ hx
theorem aO:od (Call P):=fun _ _ _ _ _ hK h X hX hc=>hX _ _ _ _ _ hK (h X hX hc)
theorem uE {f:Nat} {args:List AV} {σ:aw} {K:AV->aw->Prop} (h:Kd P (Call P) f args σ K):Call P f args σ K:=by
 intro X hX hc
 refine hc _ _ _ _ ?_
 rcases h with⟨md,vf,h1,h2,h3⟩|h
 ·exact .inl ⟨md,vf,h1,h2,fun hl=>kg (fun f args σ K h=>h X hX hc) hX _ _ _ _ _ (fun _ _ _ h=>h) (h3 hl)⟩
 ·exact .inr h
theorem so {f:Nat} {md:List (Nat×Nat)} {args:List AV} {σ:aw} {K:AV->aw->Prop} {vf:xt} (hf:ud P f md=some vf) (ha:vf.vD=args.length) (h:(∀a∈args,dY a)->dP (Call P) vf.body (kQ vf.res K) (cq args) σ):Call P f args σ K:=
 uE (.inl ⟨md,vf,hf,ha,h⟩)
theorem kW {f:Nat} {args:List AV} {σ:aw} {K:AV->aw->Prop} {vf:xt} (hf:lE P f=some vf) (ha:vf.vD=args.length) (h:(∀a∈args,dY a)->dP (Call P) vf.body (kQ vf.res K) (cq args) σ):Call P f args σ K:=
 so hf ha h
theorem gT {f:Nat} {args:List AV} {σ:aw} {K:AV->aw->Prop} (h:Sound P f args σ K):Call P f args σ K:=uE (.inr h)
def jC (P:Program) (f:Nat) (args:List AV) (r:AV):Prop:=∀σ,PC (Call P) f args σ (fun r'=>r'=r)
theorem jC.body {f:Nat} {args:List AV} {r:AV} {nt na:Nat} {body:VC} {res:List nU} (hf:lE P f=some ⟨nt,na,body,res⟩) (ha:na=args.length) (h:(∀a∈args,dY a)->∀σ:aw,dP (Call P) body (kQ res fun r0 σ'=>∃r',fz σ'.get 6 r0=some r'/\r'=r) (cq args) ⟨V.ro σ.get,σ.next⟩):jC P f args r:=fun σ=>kW hf ha fun hl=>h hl σ
variable {Q:Ex->Env->aw->Prop} {K:Env->aw->Prop} {env:Env} {σ:aw}
theorem CI {a b:VC} (h:∀N:Env->aw->Prop,(∀e s,dP X b Q e s->N e s)->dP X a (dD N Q) env σ):dP X (.seq a b) Q env σ:=h _ fun _ _ h=>h
theorem xq (h:Q .normal env σ):dP X .skip Q env σ:=h
theorem xo {id:Nat} (h:Q (.exit id) env σ):dP X (.exit id) Q env σ:=h
theorem CH (h:Q .ret env σ):dP X .ret Q env σ:=h
theorem si {id:Nat} {c:VC} (h:dP X c (bp id Q) env σ):dP X (.block id c) Q env σ:=h
theorem CF {o:aV} {c:VC} (h:∀N:AV->aw->Prop,(∀v s,dP X c Q (upd env o.dst v) s->N v s)->if aI o.guard env then fI X false o env σ N else N .undef σ):dP X (.one o c) Q env σ:=by
 have:=h (fun v s=>dP X c Q (upd env o.dst v) s) fun _ _ h=>h
 unfold dP
 split
 ·rename_i hw;rw[if_pos hw]at this;exact this
 ·rename_i hw;rw[if_neg hw]at this;exact this
def ez (s n:Nat):AV->Prop
 | .own id 0 _=>id=⟨s,n⟩
 |_=>False
def eC (n:Nat):AV->Prop
 | .own id _ _=>¬id.bV=n
 |_=>True
theorem xp {t s:Nat} {y:O} {c:VC} (h1:ez s σ.next (env t)) (h2:eC σ.next (cv env y)) (h:dP X c Q env σ):dP X (.loc t s y c) Q env σ:=by
 refine⟨⟨?_,fun id o l he=>?_⟩,h⟩
 ·revert h1
  unfold ez
  split
  ·rename_i id l he;rintro rfl;exact⟨l,he⟩
  ·exact fun h=>h.elim
 ·rw[he]at h2;exact h2
theorem eH {a b:VC} (ha:dP X a Q env σ) (hb:dP X b Q env σ):dP X (.both a b) Q env σ:=⟨ha,hb⟩
theorem CG {draw:Bool} {ops:List aV} (h:∀N:Env->aw->Prop,(∀e s,Q .normal e s->N e s)->wpOps X draw ops N env σ):dP X (.eb draw ops) Q env σ:=h _ fun _ _ h=>h
theorem Hk {ops:List aV} (h:cu ops (Q .normal) env σ):dP X (.Kz ops) Q env σ:=h
theorem CE {draw:Bool} (h:K env ⟨σ.get,σ.next+1⟩):wpOps X draw [] K env σ:=h
theorem L5 {draw:Bool} {o:aV} {r:List aV} (h:∀N:AV->aw->Prop,(∀v s,wpOps X draw r K (upd env o.dst v) s->N v s)->if aI o.guard env then fI X draw o env σ N else N .undef σ):wpOps X draw (o::r) K env σ:=by
 have:=h (fun v s=>wpOps X draw r K (upd env o.dst v) s) fun _ _ h=>h
 unfold wpOps
 split
 ·rename_i hw;rw[if_pos hw]at this;exact this
 ·rename_i hw;rw[if_neg hw]at this;exact this
theorem Hl {c:O} {x y:VC} {b:Bool} (hc:cv env c=.bool b) (ht:b=true->dP X x Q env σ) (hf:b=false->dP X y Q env σ):dP X (.cond c x y) Q env σ:=by
 unfold dP
 simp only[hc]
 cases b with
 |true=>exact ht rfl
 |false=>exact hf rfl
inductive mE:AV->Prop->Prop->Prop
 |t {A B:Prop}:A->mE (.bool true) A B
 |f {A B:Prop}:B->mE (.bool false) A B
theorem sj {c:O} {x y:VC} {v:AV} (hv:cv env c=v) (h:mE v (dP X x Q env σ) (dP X y Q env σ)):dP X (.cond c x y) Q env σ:=by
 cases h with
 |t h=>exact Hl hv (fun _=>h) (fun e=>by cases e)
 |f h=>exact Hl hv (fun e=>by cases e) (fun _=>h)
theorem L4 {c:VC} (I:Nat->Env->aw->Prop) (n:Nat) (h0:I n env σ) (step:∀n env σ,I n env σ->dP X c (fun x e s=>match x with| .normal=>∃m,m<n/\I m e s|x=>Q x e s) env σ)
  (hX:∀(c:VC) (Q Q':Ex->Env->aw->Prop) env σ,(∀x e s,Q x e s->Q' x e s)->dP X c Q env σ->dP X c Q' env σ):dP X (.loop c) Q env σ:=by
 have key:∀N n env σ,n<N->I n env σ->Cq (dP X c) Q N env σ:=by
  intro N
  induction N with
  |zero=>intro n env σ h;exact absurd h (Nat.not_lt_zero _)
  |succ N ih=>
   intro n env σ hn hI
   refine hX c _ _ env σ (fun x e s hx=>?_) (step n env σ hI)
   cases x with
   |normal=>obtain⟨m,hm,hI'⟩:=hx;exact ih m e s ab hI'
   |exit id=>exact hx
   |ret=>exact hx
 exact⟨n+1,key _ n env σ (Nat.lt_succ_self _) h0⟩
theorem Js {c:VC} (I:Nat->Env->aw->Prop) (n:Nat) (h0:I n env σ) (step:∀n env σ,I n env σ->dP (Call P) c (fun x e s=>match x with| .normal=>∃m,m<n/\I m e s|x=>Q x e s) env σ):dP (Call P) (.loop c) Q env σ:=
 L4 I n h0 step fun c Q Q' env σ hQ h=>kg (fun _ _ _ _ h=>h) aO c Q Q' env σ hQ h
def BS:VC->List Nat
 | .eb _ ops=>ops.filterMap (·.dst)
 | .seq a b=>BS a++BS b
 | .cond _ a b=>BS a++BS b
 | .block _ a=>BS a
 | .loop a=>BS a
 | .one o c=>o.dst.toList++BS c
 | .both a b=>BS a++BS b
 | .loc _ _ _ c=>BS c
 | .Kz ops=>ops.filterMap (·.dst)
 |_=>[]
def ku (l:List Nat) (env gJ:Env):Prop:=∀t,l.contains t=false->gJ t=env t
theorem ku.refl (l:List Nat) (env:Env):ku l env env:=fun _ _=>rfl
theorem ku.upd {l:List Nat} {e e':Env} {d:Option Nat} {v:AV} (h:ku l e e') (hd:∀t,d=some t->t∈l):ku l e (upd e' d v):=fun t ht=>by
 cases d with
 |none=>exact h t ht
 |some d=>
  have:t≠d:=fun hc=>by subst hc;rw[<-Bool.not_eq_true,List.contains_iff_mem]at ht;exact ht (hd _ rfl)
  show(if t=d then v else e' t)=e t
  rw[if_neg this];exact h t ht
theorem nC {draw:Bool} {Q:Env->aw->Prop} {l:List Nat} {e0:Env}:∀(ops:List aV) (env:Env) (σ:aw),(∀t,t∈ops.filterMap (·.dst)->t∈l)->ku l e0 env->wpOps (Call P) draw ops Q env σ->wpOps (Call P) draw ops (fun e s=>Q e s/\ku l e0 e) env σ
 |[],env,σ,_,hk,hp=>⟨hp,hk⟩
 |o::r,env,σ,hl,hk,hp=>by
  have hd:∀t,o.dst=some t->t∈l:=fun t ht=>hl t (List.mem_filterMap.2 ⟨o,by simp,ht⟩)
  have hr:∀t,t∈r.filterMap (·.dst)->t∈l:=fun t ht=>hl t (by
   obtain⟨x,hx,h⟩:=List.mem_filterMap.1 ht
   exact List.mem_filterMap.2 ⟨x,List.mem_cons_of_mem _ hx,h⟩)
  unfold wpOps at hp ⊢
  split at hp
  ·rename_i hw;rw[if_pos hw]
   exact p9 (fun _ _ _ _ h=>h) aO (fun v σ' h=>nC r _ _ hr (hk.upd hd) h) hp
  ·rename_i hw;rw[if_neg hw];exact nC r _ _ hr (hk.upd hd) hp
theorem kI {Q:Env->aw->Prop} {l:List Nat} {e0:Env}:∀(ops:List aV) (env:Env) (σ:aw),(∀t,t∈ops.filterMap (·.dst)->t∈l)->ku l e0 env->cu ops Q env σ->cu ops (fun e s=>Q e s/\ku l e0 e) env σ
 |[],env,σ,_,hk,hp=>⟨hp,hk⟩
 |o::r,env,σ,hl,hk,hp=>by
  have hd:∀t,o.dst=some t->t∈l:=fun t ht=>hl t (List.mem_filterMap.2 ⟨o,by simp,ht⟩)
  have hr:∀t,t∈r.filterMap (·.dst)->t∈l:=fun t ht=>hl t (by
   obtain⟨x,hx,h⟩:=List.mem_filterMap.1 ht
   exact List.mem_filterMap.2 ⟨x,List.mem_cons_of_mem _ hx,h⟩)
  unfold cu at hp ⊢
  refine⟨hp.1,?_⟩
  replace hp:=hp.2
  split at hp
  ·split at hp
   ·exact kI r _ _ hr (hk.upd hd) hp
   ·exact hp.elim
  ·split at hp
   ·exact kI r _ _ hr (hk.upd hd) hp
   ·exact hp.elim
  ·split at hp
   ·exact kI r _ _ hr (hk.upd hd) hp
   ·exact hp.elim
theorem EE {l:List Nat} {e0:Env}:∀(c:VC) (Q:Ex->Env->aw->Prop) (env:Env) (σ:aw),(∀t,t∈BS c->t∈l)->ku l e0 env->dP (Call P) c Q env σ->dP (Call P) c (fun x e s=>Q x e s/\ku l e0 e) env σ:=by
 intro c
 induction c with
 |skip=>intro Q env σ _ hk hp;exact⟨hp,hk⟩
 |exit id=>intro Q env σ _ hk hp;exact⟨hp,hk⟩
 |ret=>intro Q env σ _ hk hp;exact⟨hp,hk⟩
 |one o c ih=>
  intro Q env σ hl hk hp
  have hd:∀t,o.dst=some t->t∈l:=fun t ht=>hl t (List.mem_append_left _ (by rw[ht];simp))
  have hr:∀t,t∈BS c->t∈l:=fun t ht=>hl t (List.mem_append_right _ ht)
  unfold dP at hp ⊢
  split at hp
  ·rename_i hw;rw[if_pos hw]
   exact p9 (fun _ _ _ _ h=>h) aO (fun v σ' h=>ih Q _ _ hr (hk.upd hd) h) hp
  ·rename_i hw;rw[if_neg hw];exact ih Q _ _ hr (hk.upd hd) hp
 |both a b iha ihb=>
  intro Q env σ hl hk hp
  exact⟨iha Q env σ (fun t ht=>hl t (List.mem_append_left _ ht)) hk hp.1,ihb Q env σ (fun t ht=>hl t (List.mem_append_right _ ht)) hk hp.2⟩
 |loc t s y c ih=>intro Q env σ hl hk hp;exact⟨hp.1,ih Q env σ hl hk hp.2⟩
 |Kz ops=>intro Q env σ hl hk hp;exact kI ops env σ hl hk hp
 |eb draw ops=>intro Q env σ hl hk hp;exact nC ops env σ hl hk hp
 |seq a b iha ihb=>
  intro Q env σ hl hk hp
  refine kg (fun _ _ _ _ h=>h) aO a _ _ env σ (fun x e s hx=>?_) (iha _ env σ (fun t ht=>hl t (List.mem_append_left _ ht)) hk hp)
  cases x with
  |normal=>exact ihb Q e s (fun t ht=>hl t (List.mem_append_right _ ht)) hx.2 hx.1
  |exit id=>exact hx
  |ret=>exact hx
 |cond c a b iha ihb=>
  intro Q env σ hl hk hp
  unfold dP at hp ⊢
  split at hp
  ·rename_i t ht
   cases t with
   |true=>exact iha Q env σ (fun t ht=>hl t (List.mem_append_left _ ht)) hk hp
   |false=>exact ihb Q env σ (fun t ht=>hl t (List.mem_append_right _ ht)) hk hp
  ·exact hp.elim
 |block id a iha=>
  intro Q env σ hl hk hp
  refine kg (fun _ _ _ _ h=>h) aO a _ _ env σ (fun x e s hx=>?_) (iha _ env σ hl hk hp)
  obtain⟨hx,Is⟩:=hx
  cases x with
  |normal=>exact⟨hx,Is⟩
  |ret=>exact⟨hx,Is⟩
  |exit jU=>
   unfold bp at hx ⊢
   dsimp only at hx ⊢
   split at hx
   ·rename_i hid;rw[if_pos hid];exact⟨hx,Is⟩
   ·rename_i hid;rw[if_neg hid];exact⟨hx,Is⟩
 |loop a iha=>
  intro Q env σ hl hk hp
  obtain⟨n,hp⟩:=hp
  refine⟨n,?_⟩
  induction n generalizing env σ with
  |zero=>exact hp
  |succ n ihn=>
   refine kg (fun _ _ _ _ h=>h) aO _ _ _ _ _ (fun x e s hx=>?_) (iha _ env σ hl hk hp)
   obtain⟨hx,Is⟩:=hx
   cases x with
   |normal=>exact ihn e s Is hx
   |exit id=>exact⟨hx,Is⟩
   |ret=>exact⟨hx,Is⟩
theorem aL {c:VC} (I:Nat->Env->aw->Prop) (n:Nat) (h0:I n env σ) (step:∀n e s,I n e s->ku (BS c) env e->dP (Call P) c (fun x e s=>match x with| .normal=>∃m,m<n/\I m e s|x=>Q x e s) e s):dP (Call P) (.loop c) Q env σ:=by
 refine Js (fun n e s=>I n e s/\ku (BS c) env e) n ⟨h0,ku.refl _ _⟩ fun n e s hI=>?_
 refine kg (fun _ _ _ _ h=>h) aO _ _ _ _ _ (fun x e' s' hx=>?_) (EE c _ e s (fun _ h=>h) hI.2 (step n e s hI.1 hI.2))
 obtain⟨hx,hk⟩:=hx
 cases x with
 |normal=>obtain⟨m,hm,h⟩:=hx;exact⟨m,hm,h,hk⟩
 |exit id=>exact hx
 |ret=>exact hx
theorem Ho {k:Nat} (h:k<=9223372036854775807):IntKind.i64.wrap (k:Int)=k:=by rw[IntKind.wrap_i64];omega
theorem aY {z:Int} (h: -9223372036854775808<=z/\z<=9223372036854775807):IntKind.i64.wrap z=z:=by rw[IntKind.wrap_i64];omega
theorem ax {k:Nat} (h:(k:Int)+1<=9223372036854775807):IntKind.i64.wrap ((k:Int)+1)=((k+1:Nat):Int):=by rw[IntKind.wrap_i64];omega
theorem all_succ {k:Nat} {p:Nat->Prop} (h:∀j,j<k->p j) (hk:p k):∀j,j<k+1->p j:=fun j hj=>by
 by_cases u6:j=k
 ·subst u6;exact hk
 ·exact h j ab
theorem aH (g:Rows) (n:Nat) (k:IntKind) (m:Int):fz g (n+1) (.int k m)=some (.int k m):=by rw[fz]<;>intros<;>simp_all
theorem bx (g:Rows) (n:Nat) (b:ByteArray):fz g (n+1) (.str b)=some (.str b):=by rw[fz]<;>intros<;>simp_all
theorem cl (g:Rows) (n:Nat) (l:List (List AV)):fz g (n+1) (.sl l)=some (.sl l):=by rw[fz]<;>intros<;>simp_all
theorem aQ (g:Rows) (n:Nat):fz g (n+1) .bC=some .bC:=by rw[fz]<;>intros<;>simp_all
theorem Oy {t:Nat} {r r0:AV} {x:Ex} (hx:x=.ret∨x=.normal) (he:env t=r0) (hz:fz σ.get 6 r0=some r):kQ [.tmp t] (fun r0 σ'=>∃r',fz σ'.get 6 r0=some r'/\r'=r) x env σ:=by
 have:∃vs,eQ env σ.get [.tmp t]=some vs/\∃r',fz σ.get 6 (dU vs)=some r'/\r'=r:=⟨[env t],rfl,r,by subst he;exact hz,rfl⟩
 rcases hx with rfl|rfl
 ·exact this
 ·exact this
def ai (P:Program) (f:Nat) (args:List AV) (r:AV):Prop:=∀n:Nat,Call P f args ⟨fun _=>none,n⟩ fun r0 σ'=>∃r',fa σ'.get 6 r0=some r'/\r'=r
theorem ai.body {f:Nat} {args:List AV} {r:AV} {nt na:Nat} {body:VC} {res:List nU} (hf:lE P f=some ⟨nt,na,body,res⟩) (ha:na=args.length) (h:(∀a∈args,dY a)->∀n:Nat,dP (Call P) body (kQ res fun r0 σ'=>∃r',fa σ'.get 6 r0=some r'/\r'=r) (cq args) ⟨fun _=>none,n⟩):ai P f args r:=fun n=>kW hf ha fun hl=>h hl n
theorem ai.x {f:Nat} {args eI:List AV} {r:AV} (h:ai P f eI r) {σ:aw} (hv:bW (dz σ.get) 6 args=some eI):gN (Call P) f args σ (fun r'=>r'=r):=.inr ⟨eI,hv,h _⟩
theorem jC.x {f:Nat} {args:List AV} {r:AV} (h:jC P f args r) (σ:aw):gN (Call P) f args σ (fun r'=>r'=r):=.inl (h σ)
theorem dV (g:Rows) (n:Nat) (k:IntKind) (m:Int):fa g (n+1) (.int k m)=some (.int k m):=by rw[fa]<;>intros<;>simp_all
theorem eO (g:Rows) (n:Nat) (b:Bool):fa g (n+1) (.bool b)=some (.bool b):=by rw[fa]<;>intros<;>simp_all
theorem kB (g:Rows) (n:Nat) (b:ByteArray):fa g (n+1) (.str b)=some (.str b):=by rw[fa]<;>intros<;>simp_all
theorem jO (g:Rows) (n:Nat):fa g (n+1) .bC=some .bC:=by rw[fa]<;>intros<;>simp_all
theorem eJ (g:Rows) (n:Nat) (l:List AV):fa g (n+1) (.ib l)=(dv g n l).map AV.ib:=by rw[fa]
theorem Cb (g:Rows) (n:Nat) (l:List AV):fa g (n+1) (.agg l)=(dv g n l).map AV.agg:=by rw[fa]
theorem pk {g:Rows} {n:Nat} {id:Id} {off len sz:Nat} {rows rows':List (List AV)} (h:g id=some ⟨true,sz,rows⟩) (hl:off+len<=rows.length) (hr:fq g n ((rows.drop off).take len)=some rows'):fa g (n+1) (.own id off len)=some (.sl rows'):=by
 rw[fa];simp only[h,if_true,if_pos hl,hr,Option.map_some]
theorem bE (g:Rows) (n:Nat):dv g n []=some []:=by rw[dv]
theorem bd (g:Rows) (n:Nat) (a:AV) (l:List AV):dv g n (a::l)=match fa g n a with
  |some b=>(dv g n l).map (b::·)
  |none=>none:=by rw[dv];cases fa g n a<;>rfl
theorem qY {g:Rows} {n:Nat}:∀{l:List (List AV)},(∀c∈l,dv g n c=some c)->fq g n l=some l
 |[],_=>by rw[fq]
 |c::r,h=>by rw[fq,h c (by simp),qY fun d hd=>h d (List.mem_cons_of_mem _ hd)];rfl
theorem bj (g:Rows) (n:Nat) (l:List AV):fz g (n+1) (.agg l)=(bW g n l).map AV.agg:=by rw[fz]
theorem aW (g:Rows) (n:Nat) (l:List AV):fz g (n+1) (.cK l)=some (.cK l):=by rw[fz]<;>intros<;>simp_all
theorem wv {g:Rows} {n:Nat} {id:Id} {i off sz:Nat} {rows:List (List AV)} {cs og:List AV} (h:g id=some ⟨true,sz,rows⟩) (hi:rows[i]? =some cs) (hr:bW g n (cs.drop off)=some og):fz g (n+1) (.ptr id i off)=some (.cK og):=by
 rw[fz];simp only[h,if_true,hi,hr,Option.map_some]
theorem aj (g:Rows) (n:Nat):bW g n []=some []:=by rw[bW]
theorem ad (g:Rows) (n:Nat) (a:AV) (l:List AV):bW g n (a::l)=match fz g n a with
  |some b=>(bW g n l).map (b::·)
  |none=>none:=by rw[bW];cases fz g n a<;>rfl
theorem tv {t:Nat} {r r0:AV} {x:Ex} (hx:x=.ret∨x=.normal) (he:env t=r0) (hz:fa σ.get 6 r0=some r):kQ [.tmp t] (fun r0 σ'=>∃r',fa σ'.get 6 r0=some r'/\r'=r) x env σ:=by
 have:∃vs,eQ env σ.get [.tmp t]=some vs/\∃r',fa σ.get 6 (dU vs)=some r'/\r'=r:=⟨[env t],rfl,r,by subst he;exact hz,rfl⟩
 rcases hx with rfl|rfl
 ·exact this
 ·exact this
theorem aJ {t:Nat} {b c:Bool} {x:Ex} (hx:x=.ret∨x=.normal) (he:env t=.bool b) (hb:b=c):kQ [.tmp t] (fun r0 σ'=>∃r',fa σ'.get 6 r0=some r'/\r'=.bool c) x env σ:=tv hx he (by rw[eO,hb])
theorem bq {t:Nat} {k:IntKind} {b c:Int} {x:Ex} (hx:x=.ret∨x=.normal) (he:env t=.int k b) (hb:b=c):kQ [.tmp t] (fun r0 σ'=>∃r',fa σ'.get 6 r0=some r'/\r'=.int k c) x env σ:=tv hx he (by rw[dV,hb])
theorem iJ {t u:Nat} {r r1 r2:AV} {x:Ex} (hx:x=.ret∨x=.normal) (h1:env t=r1) (h2:env u=r2) (hz:fa σ.get 6 (.ib [r1,r2])=some r):kQ [.tmp t,.tmp u] (fun r0 σ'=>∃r',fa σ'.get 6 r0=some r'/\r'=r) x env σ:=by
 have:∃vs,eQ env σ.get [.tmp t,.tmp u]=some vs/\∃r',fa σ.get 6 (dU vs)=some r'/\r'=r:=⟨[env t,env u],rfl,r,by subst h1;subst h2;exact hz,rfl⟩
 rcases hx with rfl|rfl
 ·exact this
 ·exact this
structure Pn (p:Prop):Prop where
 out:p
theorem tw {A B:Prop} (a:A) (b:B):A/\B:=⟨a,b⟩
theorem wk {A R G:Prop} (a:A) (r:R) (h:A->R->G:=by
  intro fL kk
  (repeat(refine Pn.mk ?_;intro N hN))
  (first|((first|apply CI|apply CG);intro N hN)|((first|(apply L5;intro N hN)|(apply CF;intro N hN));simp only[go_sem, ↓reduceIte,Nat.reduceEqDiff,Nat.reduceAdd,Nat.reduceSub,Nat.reduceMul,Nat.reduceLeDiff,Nat.reduceBEq,reduceCtorEq,Nat.reduceLT,Int.reduceLE,Int.reduceLT,Int.reduceToNat,Int.reduceNeg,Int.reduceAdd,Int.reduceEq,fL];first|(refine hN _ _ ?_;clear hN N)|skip)|(apply sj;(simp only[go_sem, ↓reduceIte,Nat.reduceEqDiff,Nat.reduceAdd,Nat.reduceSub,Nat.reduceMul,Nat.reduceLeDiff,Nat.reduceBEq,reduceCtorEq,Nat.reduceLT,Int.reduceLE,Int.reduceLT,Int.reduceToNat,Int.reduceNeg,Int.reduceAdd,Int.reduceEq,fL];rfl);first|with_reducible apply mE.t|with_reducible apply mE.f)|(apply CE;refine hN _ _ ?_;clear hN N;try(simp only[dD,bp, ↓reduceIte,Nat.reduceEqDiff]);try(refine hN _ _ ?_;clear hN N))|apply si|(refine xp ?_ ?_ ?_;(focus(simp only[go_sem, ↓reduceIte,Nat.reduceEqDiff,Nat.reduceAdd,Nat.reduceSub,Nat.reduceMul,Nat.reduceLeDiff,Nat.reduceBEq,reduceCtorEq,Nat.reduceLT,Int.reduceLE,Int.reduceLT,Int.reduceToNat,Int.reduceNeg,Int.reduceAdd,Int.reduceEq,fL];done));(focus(simp only[go_sem, ↓reduceIte,Nat.reduceEqDiff,Nat.reduceAdd,Nat.reduceSub,Nat.reduceMul,Nat.reduceLeDiff,Nat.reduceBEq,reduceCtorEq,Nat.reduceLT,Int.reduceLE,Int.reduceLT,Int.reduceToNat,Int.reduceNeg,Int.reduceAdd,Int.reduceEq,fL];done)))|((first|apply xq|apply xo|apply CH);try(simp only[dD,bp, ↓reduceIte,Nat.reduceEqDiff]);try(refine hN _ _ ?_;clear hN N))|((first|refine hN _ _ ?_|(clear hN N;first|refine hN _ _ ?_|(clear hN N;first|refine hN _ _ ?_|(clear hN N;first|refine hN _ _ ?_|(clear hN N;refine hN _ _ ?_)))));clear hN N))
  (repeat(first|((first|apply CI|apply CG);intro N hN)|((first|(apply L5;intro N hN)|(apply CF;intro N hN));simp only[go_sem, ↓reduceIte,Nat.reduceEqDiff,Nat.reduceAdd,Nat.reduceSub,Nat.reduceMul,Nat.reduceLeDiff,Nat.reduceBEq,reduceCtorEq,Nat.reduceLT,Int.reduceLE,Int.reduceLT,Int.reduceToNat,Int.reduceNeg,Int.reduceAdd,Int.reduceEq,fL];first|(refine hN _ _ ?_;clear hN N)|skip)|(apply sj;(simp only[go_sem, ↓reduceIte,Nat.reduceEqDiff,Nat.reduceAdd,Nat.reduceSub,Nat.reduceMul,Nat.reduceLeDiff,Nat.reduceBEq,reduceCtorEq,Nat.reduceLT,Int.reduceLE,Int.reduceLT,Int.reduceToNat,Int.reduceNeg,Int.reduceAdd,Int.reduceEq,fL];rfl);first|with_reducible apply mE.t|with_reducible apply mE.f)|(apply CE;refine hN _ _ ?_;clear hN N;try(simp only[dD,bp, ↓reduceIte,Nat.reduceEqDiff]);try(refine hN _ _ ?_;clear hN N))|apply si|(refine xp ?_ ?_ ?_;(focus(simp only[go_sem, ↓reduceIte,Nat.reduceEqDiff,Nat.reduceAdd,Nat.reduceSub,Nat.reduceMul,Nat.reduceLeDiff,Nat.reduceBEq,reduceCtorEq,Nat.reduceLT,Int.reduceLE,Int.reduceLT,Int.reduceToNat,Int.reduceNeg,Int.reduceAdd,Int.reduceEq,fL];done));(focus(simp only[go_sem, ↓reduceIte,Nat.reduceEqDiff,Nat.reduceAdd,Nat.reduceSub,Nat.reduceMul,Nat.reduceLeDiff,Nat.reduceBEq,reduceCtorEq,Nat.reduceLT,Int.reduceLE,Int.reduceLT,Int.reduceToNat,Int.reduceNeg,Int.reduceAdd,Int.reduceEq,fL];done)))|((first|apply xq|apply xo|apply CH);try(simp only[dD,bp, ↓reduceIte,Nat.reduceEqDiff]);try(refine hN _ _ ?_;clear hN N))|((first|refine hN _ _ ?_|(clear hN N;first|refine hN _ _ ?_|(clear hN N;first|refine hN _ _ ?_|(clear hN N;first|refine hN _ _ ?_|(clear hN N;refine hN _ _ ?_)))));clear hN N)))
  (repeat(revert hN;revert N;apply Pn.out))
  exact kk):G:=h a r
theorem wa {A R G:Prop} (a:A) (r:R) (h:A->R->G:=by
  intro fL kk
  (repeat(refine Pn.mk ?_;intro N hN))
  (first|((first|apply CI|apply CG);intro N hN)|((first|(refine Kh rfl fun N hN=>?_)|(apply CF;intro N hN));simp only[go_sem, ↓reduceIte,Nat.reduceEqDiff,Nat.reduceAdd,Nat.reduceSub,Nat.reduceMul,Nat.reduceLeDiff,Nat.reduceBEq,reduceCtorEq,Nat.reduceLT,Int.reduceLE,Int.reduceLT,Int.reduceToNat,Int.reduceNeg,Int.reduceAdd,Int.reduceEq,fL];first|(refine hN _ _ ?_;clear hN N)|skip)|(apply sj;(simp only[go_sem, ↓reduceIte,Nat.reduceEqDiff,Nat.reduceAdd,Nat.reduceSub,Nat.reduceMul,Nat.reduceLeDiff,Nat.reduceBEq,reduceCtorEq,Nat.reduceLT,Int.reduceLE,Int.reduceLT,Int.reduceToNat,Int.reduceNeg,Int.reduceAdd,Int.reduceEq,fL];rfl);first|with_reducible apply mE.t|with_reducible apply mE.f)|(apply CE;refine hN _ _ ?_;clear hN N;try(simp only[dD,bp, ↓reduceIte,Nat.reduceEqDiff]);try(refine hN _ _ ?_;clear hN N))|apply si|(refine xp ?_ ?_ ?_;(focus(simp only[go_sem, ↓reduceIte,Nat.reduceEqDiff,Nat.reduceAdd,Nat.reduceSub,Nat.reduceMul,Nat.reduceLeDiff,Nat.reduceBEq,reduceCtorEq,Nat.reduceLT,Int.reduceLE,Int.reduceLT,Int.reduceToNat,Int.reduceNeg,Int.reduceAdd,Int.reduceEq,fL];done));(focus(simp only[go_sem, ↓reduceIte,Nat.reduceEqDiff,Nat.reduceAdd,Nat.reduceSub,Nat.reduceMul,Nat.reduceLeDiff,Nat.reduceBEq,reduceCtorEq,Nat.reduceLT,Int.reduceLE,Int.reduceLT,Int.reduceToNat,Int.reduceNeg,Int.reduceAdd,Int.reduceEq,fL];done)))|((first|apply xq|apply xo|apply CH);try(simp only[dD,bp, ↓reduceIte,Nat.reduceEqDiff]);try(refine hN _ _ ?_;clear hN N))|((first|refine hN _ _ ?_|(clear hN N;first|refine hN _ _ ?_|(clear hN N;first|refine hN _ _ ?_|(clear hN N;first|refine hN _ _ ?_|(clear hN N;refine hN _ _ ?_)))));clear hN N))
  (repeat(first|((first|apply CI|apply CG);intro N hN)|((first|(refine Kh rfl fun N hN=>?_)|(apply CF;intro N hN));simp only[go_sem, ↓reduceIte,Nat.reduceEqDiff,Nat.reduceAdd,Nat.reduceSub,Nat.reduceMul,Nat.reduceLeDiff,Nat.reduceBEq,reduceCtorEq,Nat.reduceLT,Int.reduceLE,Int.reduceLT,Int.reduceToNat,Int.reduceNeg,Int.reduceAdd,Int.reduceEq,fL];first|(refine hN _ _ ?_;clear hN N)|skip)|(apply sj;(simp only[go_sem, ↓reduceIte,Nat.reduceEqDiff,Nat.reduceAdd,Nat.reduceSub,Nat.reduceMul,Nat.reduceLeDiff,Nat.reduceBEq,reduceCtorEq,Nat.reduceLT,Int.reduceLE,Int.reduceLT,Int.reduceToNat,Int.reduceNeg,Int.reduceAdd,Int.reduceEq,fL];rfl);first|with_reducible apply mE.t|with_reducible apply mE.f)|(apply CE;refine hN _ _ ?_;clear hN N;try(simp only[dD,bp, ↓reduceIte,Nat.reduceEqDiff]);try(refine hN _ _ ?_;clear hN N))|apply si|(refine xp ?_ ?_ ?_;(focus(simp only[go_sem, ↓reduceIte,Nat.reduceEqDiff,Nat.reduceAdd,Nat.reduceSub,Nat.reduceMul,Nat.reduceLeDiff,Nat.reduceBEq,reduceCtorEq,Nat.reduceLT,Int.reduceLE,Int.reduceLT,Int.reduceToNat,Int.reduceNeg,Int.reduceAdd,Int.reduceEq,fL];done));(focus(simp only[go_sem, ↓reduceIte,Nat.reduceEqDiff,Nat.reduceAdd,Nat.reduceSub,Nat.reduceMul,Nat.reduceLeDiff,Nat.reduceBEq,reduceCtorEq,Nat.reduceLT,Int.reduceLE,Int.reduceLT,Int.reduceToNat,Int.reduceNeg,Int.reduceAdd,Int.reduceEq,fL];done)))|((first|apply xq|apply xo|apply CH);try(simp only[dD,bp, ↓reduceIte,Nat.reduceEqDiff]);try(refine hN _ _ ?_;clear hN N))|((first|refine hN _ _ ?_|(clear hN N;first|refine hN _ _ ?_|(clear hN N;first|refine hN _ _ ?_|(clear hN N;first|refine hN _ _ ?_|(clear hN N;refine hN _ _ ?_)))));clear hN N)))
  (repeat(revert hN;revert N;apply Pn.out))
  exact kk):G:=h a r
theorem sd {A G:Prop} (a:A) (h:A->G:=by
  intro fL
  first|(simp only[go_sem, ↓reduceIte,Nat.reduceEqDiff,Nat.reduceAdd,Nat.reduceSub,Nat.reduceMul,Nat.reduceLeDiff,Nat.reduceBEq,reduceCtorEq,Nat.reduceLT,Int.reduceLE,Int.reduceLT,Int.reduceToNat,Int.reduceNeg,Int.reduceAdd,Int.reduceEq,fL,eQ,gI];done)|fail):G:=h a
theorem sl {A G:Prop} (a:A) (h:A->G:=by
  intro fL
  (try simp only[go_sem, ↓reduceIte,Nat.reduceEqDiff,Nat.reduceAdd,Nat.reduceSub,Nat.reduceMul,Nat.reduceLeDiff,Nat.reduceBEq,reduceCtorEq,Nat.reduceLT,Int.reduceLE,Int.reduceLT,Int.reduceToNat,Int.reduceNeg,Int.reduceAdd,Int.reduceEq,fL])
  try rfl):G:=h a
end Go.Proofs.YtihgaadadaekmaaGreatDoor.V

namespace Go.Proofs.YtihgaadadaekmaaGreatDoor.V
open Go.RowKit
variable {P:Program} {X:e6} {env:Env} {σ:aw}
theorem bz (g:Rows) (n:Nat) (l:List AV):fz g (n+1) (.ib l)=(bW g n l).map AV.ib:=by rw[fz]
theorem cN (g:Rows) (n:Nat) (f:Nat) (l:List AV):fz g (n+1) (.fn f l)=if l.all AV.cell then(bW g n l).map (AV.fn f)else none:=by rw[fz]
theorem bh (g:Rows) (n:Nat) (id:Id) (i off:Nat):fz g (n+1) (.ptr id i off)=match g id with
  |some r=>if r.w then(match r.rows[i]? with
   |some cs=>(bW g n (cs.drop off)).map AV.cK
   |none=>none)else none
  |none=>none:=by rw[fz];rfl
theorem fP (g:Rows) (n:Nat) (id:Id) (off len:Nat):fz g (n+1) (.own id off len)=match g id with
  |some r=>if r.w then(if off+len<=r.rows.length then(dq g n ((r.rows.drop off).take len)).map AV.sl else none)else none
  |none=>none:=by rw[fz];rfl
theorem m8 (g:Rows) (n:Nat):dq g n []=some []:=by rw[dq]
theorem wu (g:Rows) (n:Nat) (c:List AV) (l:List (List AV)):dq g n (c::l)=match bW g n c with
  |some b=>(dq g n l).map (b::·)
  |none=>none:=by rw[dq];cases bW g n c<;>rfl
theorem sN {g:Rows} {n:Nat}:∀{l:List (List AV)},(∀c∈l,bW g n c=some c)->dq g n l=some l
 |[],_=>by rw[dq]
 |c::r,h=>by rw[dq,h c (by simp),sN fun d hd=>h d (List.mem_cons_of_mem _ hd)];rfl
theorem lH {α:Type} {g:Rows} {n:Nat} {e:α->List AV} {l:List α} (h:∀x,bW g n (e x)=some (e x)):dq g n (l.map e)=some (l.map e):=sN fun c hc=>by
 obtain⟨x,_,rfl⟩:=List.mem_map.1 hc
 exact h x
theorem q9 {α:Type} {g:Rows} {n:Nat} {e:α->List AV} {l:List α} (h:∀x,dv g n (e x)=some (e x)):fq g n (l.map e)=some (l.map e):=qY fun c hc=>by
 obtain⟨x,_,rfl⟩:=List.mem_map.1 hc
 exact h x
theorem fA {α:Type} {g:Rows} {n:Nat} {e:α->List AV} {l:List α} {id:Id} {sz len:Nat} (hg:g id=some ⟨true,sz,l.map e⟩) (hl:len=l.length) (h:∀x,bW g n (e x)=some (e x)):fz g (n+1) (.own id 0 len)=some (.sl (l.map e)):=by
 subst hl
 rw[fP];simp only[hg,if_true]
 rw[if_pos (by simp),List.drop_zero,List.take_of_length_le (by simp),lH h];rfl
theorem ft {α:Type} {g:Rows} {n:Nat} {e:α->List AV} {l:List α} {id:Id} {sz len:Nat} (hg:g id=some ⟨true,sz,l.map e⟩) (hl:len=l.length) (h:∀x,dv g n (e x)=some (e x)):fa g (n+1) (.own id 0 len)=some (.sl (l.map e)):=by
 subst hl
 exact pk hg (by simp) (by rw[List.drop_zero,List.take_of_length_le (by simp),q9 h])
theorem all_map {α:Type} {e:α->List AV} {sz:Nat} {l:List α} (h:∀x,(e x).length=sz/\(e x).all AV.cell=true):(l.map e).all (fun c=>c.length==sz&&c.all AV.cell)=true:=by
 rw[List.all_eq_true]
 intro c hc
 obtain⟨x,_,rfl⟩:=List.mem_map.1 hc
 simp[(h x).1,(h x).2]
def RowM (P:Program) (f:Nat) (args:List AV) (sz:Nat) (rows:List (List AV)):Prop:=(∀c∈rows,∀a∈c,a.plain=true)/\∀n:Nat,Call P f args ⟨fun _=>none,n⟩ fun r σ'=>∃id,r=.own id 0 rows.length/\σ'.get id=some ⟨true,sz,rows⟩
theorem qE {res:List nU} {r:AV} {vs:List AV} {x:Ex} (hx:x=.ret∨x=.normal) (hv:eQ env σ.get res=some vs) (hz:fz σ.get 6 (dU vs)=some r):kQ res (fun r0 σ'=>∃r',fz σ'.get 6 r0=some r'/\r'=r) x env σ:=by
 rcases hx with rfl|rfl
 ·exact⟨vs,hv,r,hz,rfl⟩
 ·exact⟨vs,hv,r,hz,rfl⟩
theorem j5 {res:List nU} {r:AV} {vs:List AV} {x:Ex} (hx:x=.ret∨x=.normal) (hv:eQ env σ.get res=some vs) (hz:fa σ.get 6 (dU vs)=some r):kQ res (fun r0 σ'=>∃r',fa σ'.get 6 r0=some r'/\r'=r) x env σ:=by
 rcases hx with rfl|rfl
 ·exact⟨vs,hv,r,hz,rfl⟩
 ·exact⟨vs,hv,r,hz,rfl⟩
theorem gn {res:List nU} {K:AV->aw->Prop} {vs:List AV} {x:Ex} (hx:x=.ret∨x=.normal) (hv:eQ env σ.get res=some vs) (hK:K (dU vs) σ):kQ res K x env σ:=by
 rcases hx with rfl|rfl
 ·exact⟨vs,hv,hK⟩
 ·exact⟨vs,hv,hK⟩
theorem eZ {f:Nat} {args:List AV} {σ:aw} {K:AV->aw->Prop} {nt na:Nat} {body:VC} {res:List nU} (hf:lE P f=some ⟨nt,na,body,res⟩) (ha:na=args.length) (h:(∀a∈args,dY a)->dP (Call P) body (kQ res K) (cq args) σ):Call P f args σ K:=kW hf ha h
theorem EZ {f:Nat} {md:List (Nat×Nat)} {args:List AV} {σ:aw} {K:AV->aw->Prop} {nt na:Nat} {body:VC} {res:List nU} (hf:ud P f md=some ⟨nt,na,body,res⟩) (ha:na=args.length) (h:(∀a∈args,dY a)->dP (Call P) body (kQ res K) (cq args) σ):Call P f args σ K:=so hf ha h
theorem eD {i:Id} {n:Nat} (h:i.bV<n):(∀s,(i=⟨s,n⟩)=False/\(i=⟨s,n+1⟩)=False/\(i=⟨s,n+1+1⟩)=False/\(i=⟨s,n+1+1+1⟩)=False/\(i=⟨s,n+1+1+1+1⟩)=False/\(i=⟨s,n+1+1+1+1+1⟩)=False/\(i=⟨s,n+1+1+1+1+1+1⟩)=False/\(i=⟨s,n+1+1+1+1+1+1+1⟩)=False/\(i=⟨s,n+1+1+1+1+1+1+1+1⟩)=False/\(i=⟨s,n+1+1+1+1+1+1+1+1+1⟩)=False/\(⟨s,n⟩=i)=False/\(⟨s,n+1⟩=i)=False/\(⟨s,n+1+1⟩=i)=False/\(⟨s,n+1+1+1⟩=i)=False/\(⟨s,n+1+1+1+1⟩=i)=False/\(⟨s,n+1+1+1+1+1⟩=i)=False/\(⟨s,n+1+1+1+1+1+1⟩=i)=False/\(⟨s,n+1+1+1+1+1+1+1⟩=i)=False/\(⟨s,n+1+1+1+1+1+1+1+1⟩=i)=False/\(⟨s,n+1+1+1+1+1+1+1+1+1⟩=i)=False)/\(i.bV=n)=False/\(i.bV=n+1)=False/\(i.bV=n+1+1)=False/\(i.bV=n+1+1+1)=False/\(i.bV=n+1+1+1+1)=False/\(i.bV=n+1+1+1+1+1)=False/\(i.bV=n+1+1+1+1+1+1)=False/\(i.bV=n+1+1+1+1+1+1+1)=False/\(i.bV=n+1+1+1+1+1+1+1+1)=False/\(i.bV=n+1+1+1+1+1+1+1+1+1)=False:=by
 refine⟨fun s=>?_,?_⟩
 ·obtain⟨a,b⟩:=i
  simp only[Id.mk.injEq,eq_iff_iff,iff_false,not_and]
  simp only at h
  refine⟨?_,?_,?_,?_,?_,?_,?_,?_,?_,?_,?_,?_,?_,?_,?_,?_,?_,?_,?_,?_⟩<;>(intros;omega)
 ·simp only[eq_iff_iff,iff_false]
  refine⟨?_,?_,?_,?_,?_,?_,?_,?_,?_,?_⟩<;>omega
def dZ (a b:Nat) (ids:List Id):Prop:=ids.Nodup/\∀i∈ids,a<=i.bV/\i.bV<b
def Kept (σ σ':aw):Prop:=σ.next<=σ'.next/\∀j:Id,j.bV<σ.next->σ'.get j=σ.get j
theorem dZ.wide {a b a' b':Nat} {ids:List Id} (h:dZ a b ids) (h1:a'<=a) (h2:b<=b'):dZ a' b' ids:=⟨h.1,fun i hi=>⟨Nat.le_trans h1 (h.2 i hi).1,Nat.lt_of_lt_of_le (h.2 i hi).2 h2⟩⟩
theorem dZ.app {a b c d:Nat} {i j:List Id} (h:dZ a b i) (k:dZ c d j) (hbc:b<=c) (rh:a<=b) (NB:c<=d):dZ a d (i++j):=
 ⟨List.nodup_append.2 ⟨h.1,k.1,fun x hx y hy e=>by subst e;have:=(h.2 x hx).2;have:=(k.2 x hy).1;omega⟩,fun x hx=>by
  rcases List.mem_append.1 hx with hx|hx
  ·have:=h.2 x hx;omega
  ·have:=k.2 x hx;omega⟩
end Go.Proofs.YtihgaadadaekmaaGreatDoor.V

namespace Go.Proofs.YtihgaadadaekmaaGreatDoor.V
open Go.RowKit
attribute [local irreducible] dP wpOps gN Call
attribute [local go_sem] aI fI eE fW fV cv upd cq K.av cL AV.cells AV.cell rowOf rowsOf part ld rowAt bK bY dH eh ij bL da eA fZ eX dr eo cY cX dR dS bR bf cQ bQ cT cR ej ep ek cP bU cZ ei bP aM cV cz ig br cI bS aZ dD bp dJ AV.undef bB bH dX ef dO ea cF ez eC cu eu er cU cW List.getD_cons_zero List.getD_cons_succ List.getD_nil List.all_cons List.all_nil Bool.and_true Bool.true_and Bool.and_self Bool.not_true Bool.not_false Option.map_some Option.map_none Option.bind_some Option.bind_none List.length_cons List.length_nil List.take_succ_cons List.take_zero List.take_nil List.drop_succ_cons List.drop_zero List.drop_nil List.head?_cons List.map_cons List.map_nil List.getElem?_cons_zero List.getElem?_cons_succ List.cons_append List.nil_append List.append_nil List.length_map List.set_cons_zero List.set_cons_succ Nat.reduceMul eq_self Int.toNat_natCast Int.natCast_nonneg and_self true_and and_true decide_true decide_false Bool.false_eq_true Nat.zero_add Nat.add_zero List.contains_cons List.contains_nil Bool.or_false Bool.false_or beq_self_eq_true Nat.reduceBEq ne_eq not_true_eq_false not_false_eq_true Id.mk.injEq false_and and_false Nat.reduceLT Int.reduceLE Int.reduceLT Int.reduceToNat Int.reduceNeg Int.reduceAdd Nat.le_refl List.length_append beq_true beq_false Bool.not_eq_eq_eq_not or_false false_or dz ad aj aH bx cl aQ bj aW bh cN bz
variable {P:Program}
def G5 (f g z:Nat):xt:=let s:=f*1000000
 ⟨27,2,(.seq (.eb false [q 4 (.cG (.k (.int .i64 0))) s]) (.seq (.eb false [q 6 (.cG (.t 1)) (s+1000),q 7 (.cG (.t 0)) (s+1001),q 8 (.len (.t 7)) (s+1002),q 9 (.bin .sub .i64 (.t 6) (.t 8)) (s+1003),q 1 (.cG (.t 9)) (s+1004)]) (.seq (.seq (.eb false [q 10 (.cG (.t 1)) (s+2000),q 11 (.bin .lss .i64 (.t 10) (.k (.int .i64 0))) (s+2001)]) (.cond (.t 11) (.seq (.eb false [q 4 (.cG (.k (.int .i64 (-1)))) (s+3000)]) .ret) .skip)) (.seq (.seq (.eb false [q 5 (.cG (.k (.int .i64 0))) (s+4000)]) (.block 0 (.loop (.seq (.seq (.eb false [q 12 (.cG (.t 5)) (s+5000),q 13 (.cG (.t 0)) (s+5001),q 14 (.len (.t 13)) (s+5002),q 15 (.bin .lss .i64 (.t 12) (.t 14)) (s+5003)]) (.cond (.t 15) .skip (.exit 0))) (.seq (.block 1 (.seq (.eb false [q 18 (.cG (.t 0)) (s+7000),q 19 (.cG (.t 5)) (s+7001),q 20 (.dp z (.t 18) (.t 19)) (s+7002),q 21 (.load true z (.t 20)) (s+7003),q 22 (.cG (.t 1)) (s+7004),q 23 (.call g [(.t 21),(.t 22)]) (s+7005),q 1 (.cG (.t 23)) (s+7006)]) (.seq (.eb false [q 24 (.cG (.t 1)) (s+8000),q 25 (.bin .lss .i64 (.t 24) (.k (.int .i64 0))) (s+8001)]) (.cond (.t 25) (.seq (.eb false [q 4 (.cG (.k (.int .i64 (-1)))) (s+9000)]) .ret) .skip)))) (.eb false [q 16 (.cG (.t 5)) (s+6000),q 17 (.bin .add .i64 (.t 16) (.k (.int .i64 1))) (s+6001),q 5 (.cG (.t 17)) (s+6002)])))))) (.seq (.eb false [q 26 (.cG (.t 1)) (s+10000),q 4 (.cG (.t 26)) (s+10001)]) .ret))))),[(.tmp 4)]⟩
def G3 (f:Nat):xt:=let s:=f*1000000
 ⟨12,2,(.seq (.eb false [q 4 (.cG (.k (.int .i64 0))) s]) (.seq (.eb false [q 5 (.cG (.t 1)) (s+1000),q 6 (.cG (.t 0)) (s+1001),q 7 (.len (.t 6)) (s+1002),q 8 (.bin .sub .i64 (.t 5) (.t 7)) (s+1003),q 1 (.cG (.t 8)) (s+1004)]) (.seq (.seq (.eb false [q 9 (.cG (.t 1)) (s+2000),q 10 (.bin .lss .i64 (.t 9) (.k (.int .i64 0))) (s+2001)]) (.cond (.t 10) (.seq (.eb false [q 4 (.cG (.k (.int .i64 (-1)))) (s+3000)]) .ret) .skip)) (.seq (.eb false [q 11 (.cG (.t 1)) (s+4000),q 4 (.cG (.t 11)) (s+4001)]) .ret)))),[(.tmp 4)]⟩
def B7 (f g z:Nat):xt:=let s:=f*1000000
 ⟨27,2,(.seq (.eb false [q 4 (.cG (.k (.bool false))) s]) (.seq (.seq (.eb false [q 6 (.cG (.t 0)) (s+1000),q 7 (.len (.t 6)) (s+1001),q 8 (.cG (.t 1)) (s+1002),q 9 (.len (.t 8)) (s+1003),q 10 (.KF true .tI (.t 7) (.t 9)) (s+1004)]) (.cond (.t 10) (.seq (.eb false [q 4 (.cG (.k (.bool false))) (s+2000)]) .ret) .skip)) (.seq (.seq (.eb false [q 5 (.cG (.k (.int .i64 0))) (s+3000)]) (.block 0 (.loop (.seq (.seq (.eb false [q 11 (.cG (.t 5)) (s+4000),q 12 (.cG (.t 0)) (s+4001),q 13 (.len (.t 12)) (s+4002),q 14 (.bin .lss .i64 (.t 11) (.t 13)) (s+4003)]) (.cond (.t 14) .skip (.exit 0))) (.seq (.block 1 (.seq (.eb true [q 17 (.cG (.t 0)) (s+6000),q 18 (.cG (.t 5)) (s+6001),q 19 (.dp z (.t 17) (.t 18)) (s+6002),q 20 (.load true z (.t 19)) (s+6003),q 21 (.cG (.t 1)) (s+6004),q 22 (.cG (.t 5)) (s+6005),q 23 (.dp z (.t 21) (.t 22)) (s+6006),q 24 (.load true z (.t 23)) (s+6007),q 25 (.call g [(.t 20),(.t 24)]) (s+6008),q 26 (.not (.t 25)) (s+6009)]) (.cond (.t 26) (.seq (.eb false [q 4 (.cG (.k (.bool false))) (s+7000)]) .ret) .skip))) (.eb false [q 15 (.cG (.t 5)) (s+5000),q 16 (.bin .add .i64 (.t 15) (.k (.int .i64 1))) (s+5001),q 5 (.cG (.t 16)) (s+5002)])))))) (.seq (.eb false [q 4 (.cG (.k (.bool true))) (s+8000)]) .ret)))),[(.tmp 4)]⟩
def JF (f:Nat) (t:TS):xt:=let s:=f*1000000
 ⟨26,2,(.seq (.eb false [q 4 (.cG (.k (.bool false))) s]) (.seq (.seq (.eb false [q 6 (.cG (.t 0)) (s+1000),q 7 (.len (.t 6)) (s+1001),q 8 (.cG (.t 1)) (s+1002),q 9 (.len (.t 8)) (s+1003),q 10 (.KF true .tI (.t 7) (.t 9)) (s+1004)]) (.cond (.t 10) (.seq (.eb false [q 4 (.cG (.k (.bool false))) (s+2000)]) .ret) .skip)) (.seq (.seq (.eb false [q 5 (.cG (.k (.int .i64 0))) (s+3000)]) (.block 0 (.loop (.seq (.seq (.eb false [q 11 (.cG (.t 5)) (s+4000),q 12 (.cG (.t 0)) (s+4001),q 13 (.len (.t 12)) (s+4002),q 14 (.bin .lss .i64 (.t 11) (.t 13)) (s+4003)]) (.cond (.t 14) .skip (.exit 0))) (.seq (.block 1 (.seq (.eb true [q 17 (.cG (.t 0)) (s+6000),q 18 (.cG (.t 5)) (s+6001),q 19 (.dp 1 (.t 17) (.t 18)) (s+6002),q 20 (.load false 1 (.t 19)) (s+6003),q 21 (.cG (.t 1)) (s+6004),q 22 (.cG (.t 5)) (s+6005),q 23 (.dp 1 (.t 21) (.t 22)) (s+6006),q 24 (.load false 1 (.t 23)) (s+6007),q 25 (.KF true t (.t 20) (.t 24)) (s+6008)]) (.cond (.t 25) (.seq (.eb false [q 4 (.cG (.k (.bool false))) (s+7000)]) .ret) .skip))) (.eb false [q 15 (.cG (.t 5)) (s+5000),q 16 (.bin .add .i64 (.t 15) (.k (.int .i64 1))) (s+5001),q 5 (.cG (.t 16)) (s+5002)])))))) (.seq (.eb false [q 4 (.cG (.k (.bool true))) (s+8000)]) .ret)))),[(.tmp 4)]⟩
def rH (f g z:Nat) (zero:List K):xt:=let s:=f*1000000
 ⟨23,1,(.seq (.eb false [q 2 (.cG (.k .bC)) s]) (.seq (.eb false [q 5 (.cG (.t 0)) (s+1000),q 6 (.len (.t 5)) (s+1001),q 7 (.jg zero (.t 6) (.t 6)) (s+1002),q 3 (.cG (.t 7)) (s+1003)]) (.seq (.seq (.eb false [q 4 (.cG (.k (.int .i64 0))) (s+2000)]) (.block 0 (.loop (.seq (.seq (.eb false [q 8 (.cG (.t 4)) (s+3000),q 9 (.cG (.t 0)) (s+3001),q 10 (.len (.t 9)) (s+3002),q 11 (.bin .lss .i64 (.t 8) (.t 10)) (s+3003)]) (.cond (.t 11) .skip (.exit 0))) (.seq (.block 1 (.eb false [q 14 (.cG (.t 3)) (s+5000),q 15 (.cG (.t 4)) (s+5001),q 16 (.cG (.t 0)) (s+5002),q 17 (.cG (.t 4)) (s+5003),q 18 (.dp z (.t 16) (.t 17)) (s+5004),q 19 (.load true z (.t 18)) (s+5005),q 20 (.call g [(.t 19)]) (s+5006),q 21 (.dp z (.t 14) (.t 15)) (s+5007),⟨none,(.store z (.t 21) (.t 20)),none,(s+5008),[]⟩])) (.eb false [q 12 (.cG (.t 4)) (s+4000),q 13 (.bin .add .i64 (.t 12) (.k (.int .i64 1))) (s+4001),q 4 (.cG (.t 13)) (s+4002)])))))) (.seq (.eb false [q 22 (.cG (.t 3)) (s+6000),q 2 (.cG (.t 22)) (s+6001)]) .ret)))),[(.tmp 2)]⟩
def Hf (f:Nat) (zero:K):xt:=let s:=f*1000000
 ⟨22,1,(.seq (.eb false [q 2 (.cG (.k .bC)) s]) (.seq (.eb false [q 5 (.cG (.t 0)) (s+1000),q 6 (.len (.t 5)) (s+1001),q 7 (.jg [zero] (.t 6) (.t 6)) (s+1002),q 3 (.cG (.t 7)) (s+1003)]) (.seq (.seq (.eb false [q 4 (.cG (.k (.int .i64 0))) (s+2000)]) (.block 0 (.loop (.seq (.seq (.eb false [q 8 (.cG (.t 4)) (s+3000),q 9 (.cG (.t 0)) (s+3001),q 10 (.len (.t 9)) (s+3002),q 11 (.bin .lss .i64 (.t 8) (.t 10)) (s+3003)]) (.cond (.t 11) .skip (.exit 0))) (.seq (.block 1 (.eb false [q 14 (.cG (.t 3)) (s+5000),q 15 (.cG (.t 4)) (s+5001),q 16 (.cG (.t 0)) (s+5002),q 17 (.cG (.t 4)) (s+5003),q 18 (.dp 1 (.t 16) (.t 17)) (s+5004),q 19 (.load false 1 (.t 18)) (s+5005),q 20 (.dp 1 (.t 14) (.t 15)) (s+5006),⟨none,(.store 1 (.t 20) (.t 19)),none,(s+5007),[]⟩])) (.eb false [q 12 (.cG (.t 4)) (s+4000),q 13 (.bin .add .i64 (.t 12) (.k (.int .i64 1))) (s+4001),q 4 (.cG (.t 13)) (s+4002)])))))) (.seq (.eb false [q 21 (.cG (.t 3)) (s+6000),q 2 (.cG (.t 21)) (s+6001)]) .ret)))),[(.tmp 2)]⟩
def uC (n:Nat) (l:Int):Int:=if (n:Int)<=l then l-n else -1
theorem G4 {fk:Nat} (hc:lE P fk=some (G3 fk)) (rows:List (List AV)) (left:Int) (h0:0<=left) (h1:left<=1048576):ai P fk [.sl rows,.int .i64 left] (.int .i64 (uC rows.length left)):=by
 refine ai.body hc rfl fun hl n0=>?_
 try simp only[q]
 have hn:rows.length<=9223372036854775807:=(hl (.sl rows) (by simp)).len
 clear hl
 have hw:IntKind.i64.wrap (left-(rows.length:Int))=left-rows.length:=aY ab
 by_cases hf:(rows.length:Int)<=left
 ·have kU:¬left-(rows.length:Int)<0:=ab
  (try((repeat(revert hN;revert N;apply Pn.out));refine wk (tw @hw @kU) ?_;(repeat(refine Pn.mk ?_;intro N hN))))
  exact bq (b:=left-(rows.length:Int)) (.inl rfl) (sd @Nat.zero_add) (by rw[uC,if_pos hf])
 ·have kU:left-(rows.length:Int)<0:=ab
  (try((repeat(revert hN;revert N;apply Pn.out));refine wk (tw @hw @kU) ?_;(repeat(refine Pn.mk ?_;intro N hN))))
  exact bq (b:=-1) (.inl rfl) (sd @Nat.zero_add) (by rw[uC,if_neg hf])
def eV {α:Type} (f:α->Nat) (xs:List α) (k:Nat):Nat:=((xs.take k).map f).sum
theorem jc {α:Type} (f:α->Nat) (xs:List α):eV f xs 0=0:=by simp[eV]
theorem pT {α:Type} (f:α->Nat) (xs:List α):eV f xs xs.length=(xs.map f).sum:=by simp[eV]
theorem lS {α:Type} (f:α->Nat) {xs:List α} {k:Nat} (hk:k<xs.length):eV f xs (k+1)=eV f xs k+f xs[k]:=by
 unfold eV
 rw[List.take_succ_eq_append_getElem hk,List.map_append,List.sum_append];simp
theorem ji {α:Type} (f:α->Nat) (xs:List α) (k:Nat):eV f xs k<=(xs.map f).sum:=by
 unfold eV
 conv=>rhs;rw[<-List.take_append_drop k xs]
 rw[List.map_append,List.sum_append];omega
theorem G6 {α:Type} {e:α->List AV} {z fk gk:Nat} (wt:α->Nat) (hc:lE P fk=some (G5 fk gk z)) (hz:∀x,(e x).length=z) (Cf:∀x g,bW g 6 [.agg (e x)]=some [.agg (e x)]) (xs:List α) (left:Int) (h0:0<=left) (h1:left<=1048576)
  (hg:∀x∈xs,∀l:Int,0<=l->l<=1048576->ai P gk [.agg (e x),.int .i64 l] (.int .i64 (uC (wt x) l))):ai P fk [.sl (xs.map e),.int .i64 left] (.int .i64 (uC (xs.length+(xs.map wt).sum) left)):=by
 refine ai.body hc rfl fun hl n0=>?_
 try simp only[q]
 have hn:xs.length<=9223372036854775807:=by simpa using(hl (.sl (xs.map e)) (by simp)).len
 clear hl
 have hw:IntKind.i64.wrap (left-(xs.length:Int))=left-xs.length:=aY ab
 by_cases hf:(xs.length:Int)<=left
 ·have kU:¬left-(xs.length:Int)<0:=ab
  (try((repeat(revert hN;revert N;apply Pn.out));refine wk (tw @hw @kU) ?_;(repeat(refine Pn.mk ?_;intro N hN))))
  refine aL (fun n env st=>∃k:Nat,n=(xs.length)-k/\k<=(xs.length)/\env 5=.int .i64 (k:Int)/\env 1=(.int .i64 (left-xs.length-(eV wt xs k:Nat)))/\(0<=left-xs.length-(eV wt xs k:Nat))) (xs.length) ⟨0,ab,ab,sl (tw @jc (tw @Int.natCast_zero @Int.sub_zero)),sl (tw @jc (tw @Int.natCast_zero @Int.sub_zero)),(by rw[jc];omega)⟩ ?_
  rintro n_a env_a st_a ⟨k,rfl,ale,a5,a1,lx⟩ dC
  have a0:=dC 0 (by kernel_rfl)
  simp only[go_sem, ↓reduceIte,Nat.reduceEqDiff,Nat.reduceAdd,Nat.reduceSub,Nat.reduceLeDiff,reduceCtorEq,jc,Int.natCast_zero,Int.sub_zero]at a0
  clear dC
  by_cases hk:(k:Int)<(xs.length:Int)
  ·have bZ:∀{e:Env},(e 5=.int .i64 (IntKind.i64.wrap ((k:Int)+1)))->(e 1=(.int .i64 (left-xs.length-(eV wt xs (k+1):Nat))))->(0<=left-xs.length-(eV wt xs (k+1):Nat))->∃m0,m0<(xs.length)-k/\∃k:Nat,m0=(xs.length)-k/\k<=(xs.length)/\e 5=.int .i64 (k:Int)/\e 1=(.int .i64 (left-xs.length-(eV wt xs k:Nat)))/\(0<=left-xs.length-(eV wt xs k:Nat)):=fun x1 x2 x3=>⟨_,ab,k+1,rfl,ab,(by rw[x1,ax ab]),x2,x3⟩
   have eY:k<xs.length:=ab
   have eB:(xs.map e)[k]? =some (e xs[k]):=by simp[eY]
   have rm:=hz xs[k]
   have ht:(e xs[k]).take z=e xs[k]:=by rw[<-rm,List.take_length]
   have hs:=lS wt eY
   have tW:=ji wt xs (k+1)
   have gw:=hg _ (List.getElem_mem eY) (left-xs.length-(eV wt xs k:Nat)) lx ab
   have kF:bW (dz st_a.get) 6 [.agg (e xs[k]),.int .i64 (left-xs.length-(eV wt xs k:Nat))]=some [.agg (e xs[k]),.int .i64 (left-xs.length-(eV wt xs k:Nat))]:=by
    have q1:=Cf xs[k] (dz st_a.get)
    rw[ad,aj]at q1
    rw[ad,ad,aj,aH]
    revert q1
    cases V.fz (dz st_a.get) 6 (.agg (e xs[k]))<;>simp
   by_cases Az:(wt xs[k]:Int)<=left-xs.length-(eV wt xs k:Nat)
   ·rw[uC,if_pos Az]at gw
    have QF:¬left-xs.length-(eV wt xs k:Nat)-(wt xs[k]:Int)<0:=ab
    have sa:left-xs.length-(eV wt xs k:Nat)-(wt xs[k]:Int)=left-xs.length-(eV wt xs (k+1):Nat):=by rw[hs];omega
    generalize hex:e xs[k]=c at gw kF eB rm ht
    (try((repeat(revert hN;revert N;apply Pn.out));refine wk (tw @a5 (tw @a1 (tw @a0 (tw @hk (tw @eB (tw @rm (tw @ht @Nat.le_refl))))))) ?_;(repeat(refine Pn.mk ?_;intro N hN))))
    refine .inl ⟨_,ai.x gw kF,?_⟩
    refine hN _ _ ?_
    clear hN N
    (try((repeat(revert hN;revert N;apply Pn.out));refine wk (tw @a5 (tw @a1 (tw @a0 @QF))) ?_;(repeat(refine Pn.mk ?_;intro N hN))))
    refine bZ ?_ ?_ ((by rw[hs];omega))
    all_goals simp only[go_sem, ↓reduceIte,Nat.reduceEqDiff,Nat.reduceAdd,Nat.reduceSub,Nat.reduceLeDiff,reduceCtorEq,a5,a1,a0,sa]
   ·rw[uC,if_neg Az]at gw
    generalize hex:e xs[k]=c at gw kF eB rm ht
    (try((repeat(revert hN;revert N;apply Pn.out));refine wk (tw @a5 (tw @a1 (tw @a0 (tw @hk (tw @eB (tw @rm (tw @ht @Nat.le_refl))))))) ?_;(repeat(refine Pn.mk ?_;intro N hN))))
    refine .inl ⟨_,ai.x gw kF,?_⟩
    refine hN _ _ ?_
    clear hN N
    (try((repeat(revert hN;revert N;apply Pn.out));refine wk (tw @a5 (tw @a1 @a0)) ?_;(repeat(refine Pn.mk ?_;intro N hN))))
    exact bq (b:=-1) (.inl rfl) (sd @Nat.zero_add) (by rw[uC,if_neg ab])
  ·(try((repeat(revert hN;revert N;apply Pn.out));refine wk (tw @a5 (tw @a1 (tw @a0 @hk))) ?_;(repeat(refine Pn.mk ?_;intro N hN))))
   have eY:k=xs.length:=ab
   subst eY
   have O0:=pT wt xs
   exact bq (b:=left-xs.length-(eV wt xs xs.length:Nat)) (.inl rfl) (sd (tw @a5 (tw @a1 @a0))) (by rw[uC,if_pos ab];omega)
 ·have kU:left-(xs.length:Int)<0:=ab
  (try((repeat(revert hN;revert N;apply Pn.out));refine wk (tw @hw @kU) ?_;(repeat(refine Pn.mk ?_;intro N hN))))
  exact bq (b:=-1) (.inl rfl) (sd @Nat.zero_add) (by rw[uC,if_neg ab])
theorem FB {α:Type} {xs ys:List α} (hl:xs.length=ys.length) (h:∀j:Nat,j<xs.length->∀(h1:j<xs.length) (h2:j<ys.length),xs[j]=ys[j]):xs=ys:=List.ext_getElem hl fun j h1 h2=>h j h1 h1 h2
theorem z7 {α:Type} [DecidableEq α] {e:α->List AV} {z fk gk:Nat} (hc:lE P fk=some (B7 fk gk z)) (hz:∀x,(e x).length=z) (Cf:∀x g,bW g 6 [.agg (e x)]=some [.agg (e x)]) (xs ys:List α)
  (hg:∀x y,ai P gk [.agg (e x),.agg (e y)] (.bool (decide (x=y)))):ai P fk [.sl (xs.map e),.sl (ys.map e)] (.bool (decide (xs=ys))):=by
 refine ai.body hc rfl fun hl n0=>?_
 try simp only[q]
 have hn:xs.length<=9223372036854775807:=by simpa using(hl (.sl (xs.map e)) (by simp)).len
 clear hl
 by_cases hlen:xs.length=ys.length
 ·have jR:decide ((xs.length:Int)=(ys.length:Int))=true:=by simp[hlen]
  (try((repeat(revert hN;revert N;apply Pn.out));refine wk @jR ?_;(repeat(refine Pn.mk ?_;intro N hN))))
  refine aL (fun n env st=>∃k:Nat,n=(xs.length)-k/\k<=(xs.length)/\env 5=.int .i64 (k:Int)/\(∀j:Nat,j<k->∀(h1:j<xs.length) (h2:j<ys.length),xs[j]=ys[j])) (xs.length) ⟨0,ab,ab,sl @Nat.zero_add,fun _ h=>absurd h (Nat.not_lt_zero _)⟩ ?_
  rintro n_a env_a st_a ⟨k,rfl,ale,a5,kj⟩ dC
  have a0:=dC 0 (by kernel_rfl);have a1:=dC 1 (by kernel_rfl)
  simp only[go_sem, ↓reduceIte,Nat.reduceEqDiff,Nat.reduceAdd,Nat.reduceSub,Nat.reduceLeDiff,reduceCtorEq]at a0 a1
  clear dC
  by_cases hk:(k:Int)<(xs.length:Int)
  ·have bZ:∀{e:Env},(e 5=.int .i64 (IntKind.i64.wrap ((k:Int)+1)))->(∀(h1:k<xs.length) (h2:k<ys.length),xs[k]=ys[k])->∃m0,m0<(xs.length)-k/\∃k:Nat,m0=(xs.length)-k/\k<=(xs.length)/\e 5=.int .i64 (k:Int)/\(∀j:Nat,j<k->∀(h1:j<xs.length) (h2:j<ys.length),xs[j]=ys[j]):=fun x1 x2=>⟨_,ab,k+1,rfl,ab,(by rw[x1,ax ab]),(all_succ kj x2)⟩
   have eY:k<xs.length:=ab
   have FX:k<ys.length:=ab
   have eB:(xs.map e)[k]? =some (e xs[k]):=by simp[eY]
   have AE:(ys.map e)[k]? =some (e ys[k]):=by simp[FX]
   have rm:=hz xs[k]
   have AP:=hz ys[k]
   have ht:(e xs[k]).take z=e xs[k]:=by rw[<-rm,List.take_length]
   have EO:(e ys[k]).take z=e ys[k]:=by rw[<-AP,List.take_length]
   have gw:=hg xs[k] ys[k]
   have kF:∀g,bW g 6 [.agg (e xs[k]),.agg (e ys[k])]=some [.agg (e xs[k]),.agg (e ys[k])]:=fun g=>by
    have q1:=Cf xs[k] g
    have q2:=Cf ys[k] g
    rw[ad,aj]at q1
    rw[ad,q2]
    revert q1
    cases V.fz g 6 (.agg (e xs[k]))<;>simp
   by_cases heq:xs[k]=ys[k]
   ·rw[decide_eq_true heq]at gw
    generalize hex:e xs[k]=c at gw kF eB rm ht
    generalize hey:e ys[k]=d at gw kF AE AP EO
    (try((repeat(revert hN;revert N;apply Pn.out));refine wk (tw @a5 (tw @a0 (tw @a1 (tw @hk (tw @eB (tw @AE (tw @rm (tw @AP (tw @ht (tw @EO @Nat.le_refl)))))))))) ?_;(repeat(refine Pn.mk ?_;intro N hN))))
    refine⟨_,ai.x gw (kF _),?_⟩
    refine hN _ _ ?_
    clear hN N
    (try((repeat(revert hN;revert N;apply Pn.out));refine wk (tw @a5 (tw @a0 @a1)) ?_;(repeat(refine Pn.mk ?_;intro N hN))))
    exact bZ (sd (tw @a5 (tw @a0 @a1))) (fun _ _=>heq)
   ·rw[decide_eq_false heq]at gw
    generalize hex:e xs[k]=c at gw kF eB rm ht
    generalize hey:e ys[k]=d at gw kF AE AP EO
    (try((repeat(revert hN;revert N;apply Pn.out));refine wk (tw @a5 (tw @a0 (tw @a1 (tw @hk (tw @eB (tw @AE (tw @rm (tw @AP (tw @ht (tw @EO @Nat.le_refl)))))))))) ?_;(repeat(refine Pn.mk ?_;intro N hN))))
    refine⟨_,ai.x gw (kF _),?_⟩
    refine hN _ _ ?_
    clear hN N
    (try((repeat(revert hN;revert N;apply Pn.out));refine wk (tw @a5 (tw @a0 @a1)) ?_;(repeat(refine Pn.mk ?_;intro N hN))))
    exact aJ (b:=false) (.inl rfl) (sd @Nat.zero_add) (decide_eq_false fun h=>heq (List.getElem_of_eq h _)).symm
  ·(try((repeat(revert hN;revert N;apply Pn.out));refine wk (tw @a5 (tw @a0 (tw @a1 @hk))) ?_;(repeat(refine Pn.mk ?_;intro N hN))))
   exact aJ (b:=true) (.inl rfl) (sd @Nat.zero_add) (decide_eq_true (FB hlen fun j hj h1 h2=>kj j ab h1 h2)).symm
 ·have jR:decide ((xs.length:Int)=(ys.length:Int))=false:=decide_eq_false fun h=>hlen ab
  (try((repeat(revert hN;revert N;apply Pn.out));refine wk @jR ?_;(repeat(refine Pn.mk ?_;intro N hN))))
  exact aJ (b:=false) (.inl rfl) (sd @Nat.zero_add) (decide_eq_false fun h=>hlen (by subst h;rfl)).symm
theorem Nf {fk:Nat} (hc:lE P fk=some (JF fk .tI)) (xs ys:List Int):
  ai P fk [.sl (xs.map fun x=>[AV.int .i64 x]),.sl (ys.map fun x=>[AV.int .i64 x])] (.bool (decide (xs=ys))):=by
 refine ai.body hc rfl fun hl n0=>?_
 try simp only[q]
 have hn:xs.length<=9223372036854775807:=by simpa using(hl (.sl (xs.map fun x=>[AV.int .i64 x])) (by simp)).len
 clear hl
 by_cases hlen:xs.length=ys.length
 ·have jR:decide ((xs.length:Int)=(ys.length:Int))=true:=by simp[hlen]
  (try((repeat(revert hN;revert N;apply Pn.out));refine wk @jR ?_;(repeat(refine Pn.mk ?_;intro N hN))))
  refine aL (fun n env st=>∃k:Nat,n=(xs.length)-k/\k<=(xs.length)/\env 5=.int .i64 (k:Int)/\(∀j:Nat,j<k->∀(h1:j<xs.length) (h2:j<ys.length),xs[j]=ys[j])) (xs.length) ⟨0,ab,ab,sl @Nat.zero_add,fun _ h=>absurd h (Nat.not_lt_zero _)⟩ ?_
  rintro n_a env_a st_a ⟨k,rfl,ale,a5,kj⟩ dC
  have a0:=dC 0 (by kernel_rfl);have a1:=dC 1 (by kernel_rfl)
  simp only[go_sem, ↓reduceIte,Nat.reduceEqDiff,Nat.reduceAdd,Nat.reduceSub,Nat.reduceLeDiff,reduceCtorEq]at a0 a1
  clear dC
  by_cases hk:(k:Int)<(xs.length:Int)
  ·have bZ:∀{e:Env},(e 5=.int .i64 (IntKind.i64.wrap ((k:Int)+1)))->(∀(h1:k<xs.length) (h2:k<ys.length),xs[k]=ys[k])->∃m0,m0<(xs.length)-k/\∃k:Nat,m0=(xs.length)-k/\k<=(xs.length)/\e 5=.int .i64 (k:Int)/\(∀j:Nat,j<k->∀(h1:j<xs.length) (h2:j<ys.length),xs[j]=ys[j]):=fun x1 x2=>⟨_,ab,k+1,rfl,ab,(by rw[x1,ax ab]),(all_succ kj x2)⟩
   have eY:k<xs.length:=ab
   have FX:k<ys.length:=ab
   have eB:(xs.map fun x=>[AV.int .i64 x])[k]? =some [.int .i64 xs[k]]:=by simp[eY]
   have AE:(ys.map fun x=>[AV.int .i64 x])[k]? =some [.int .i64 ys[k]]:=by simp[FX]
   by_cases heq:xs[k]=ys[k]
   ·have hq:=decide_eq_true heq
    (try((repeat(revert hN;revert N;apply Pn.out));refine wk (tw @a5 (tw @a0 (tw @a1 (tw @hk (tw @eB (tw @AE @hq)))))) ?_;(repeat(refine Pn.mk ?_;intro N hN))))
    exact bZ (sd (tw @a5 (tw @a0 @a1))) (fun _ _=>heq)
   ·have hq:=decide_eq_false heq
    (try((repeat(revert hN;revert N;apply Pn.out));refine wk (tw @a5 (tw @a0 (tw @a1 (tw @hk (tw @eB (tw @AE @hq)))))) ?_;(repeat(refine Pn.mk ?_;intro N hN))))
    exact aJ (b:=false) (.inl rfl) (sd @Nat.zero_add) (decide_eq_false fun h=>heq (List.getElem_of_eq h _)).symm
  ·(try((repeat(revert hN;revert N;apply Pn.out));refine wk (tw @a5 (tw @a0 (tw @a1 @hk))) ?_;(repeat(refine Pn.mk ?_;intro N hN))))
   exact aJ (b:=true) (.inl rfl) (sd @Nat.zero_add) (decide_eq_true (FB hlen fun j hj h1 h2=>kj j ab h1 h2)).symm
 ·have jR:decide ((xs.length:Int)=(ys.length:Int))=false:=decide_eq_false fun h=>hlen ab
  (try((repeat(revert hN;revert N;apply Pn.out));refine wk @jR ?_;(repeat(refine Pn.mk ?_;intro N hN))))
  exact aJ (b:=false) (.inl rfl) (sd @Nat.zero_add) (decide_eq_false fun h=>hlen (by subst h;rfl)).symm
theorem sw (l:List AV):l++[]=l:=List.append_nil l
def fN {α:Type} (e:α->List AV) (zc:List AV) (xs:List α) (k:Nat):List (List AV):=(xs.take k).map e++List.replicate (xs.length-k) zc
theorem mW {α:Type} (e:α->List AV) (zc:List AV) (xs:List α):List.replicate xs.length zc=fN e zc xs 0:=by simp[fN]
theorem oB {α:Type} (e:α->List AV) (zc:List AV) (xs:List α):fN e zc xs xs.length=xs.map e:=by simp[fN]
theorem oC {α:Type} (e:α->List AV) (zc:List AV) (xs:List α) {k:Nat} (hk:k<xs.length):(fN e zc xs k)[k]? =some zc:=by
 have h1:((xs.take k).map e).length=k:=by simp;omega
 rw[fN,List.getElem?_append_right ab,h1,Nat.sub_self,List.getElem?_replicate,if_pos ab]
theorem oD {α:Type} (e:α->List AV) (zc:List AV) (xs:List α) {k:Nat} (hk:k<xs.length):(fN e zc xs k).set k (e xs[k])=fN e zc xs (k+1):=by
 have h1:((xs.take k).map e).length=k:=by simp;omega
 rw[fN,List.set_append_right _ _ ab,h1,Nat.sub_self,fN,List.take_succ_eq_append_getElem hk,List.map_append,List.append_assoc]
 congr 1
 obtain⟨m,hm⟩:∃m,xs.length-k=m+1:=⟨xs.length-k-1,ab⟩
 rw[hm,show xs.length-(k+1)=m by omega,List.replicate_succ]
 rfl
theorem BG {α:Type} {en:α->List AV} {z fk gk:Nat} {zero:List K} (hc:lE P fk=some (rH fk gk z zero)) (EV:zero.length=z) (hz:∀x,(en x).length=z) (jD:∀x,(en x).all AV.cell=true) (Cf:∀x g,bW g 5 (en x)=some (en x)) (xs:List α) (hlen:xs.length<=1048576)
  (hg:∀x∈xs,jC P gk [.agg (en x)] (.agg (en x))):jC P fk [.sl (xs.map en)] (.sl (xs.map en)):=by
 refine jC.body hc rfl fun hl σ=>?_
 try simp only[q]
 clear hl
 have hm:(xs.length:Int)<=((16777216:Nat):Int):=ab
 have h0:(0:Int)<=(xs.length:Int):=ab
 (try((repeat(revert hN;revert N;apply Pn.out));refine wk (tw @hm (tw @h0 (tw @Int.le_refl (tw (mW en (zero.map K.av) xs) @EV)))) ?_;(repeat(refine Pn.mk ?_;intro N hN))))
 refine aL (fun n env st=>∃k:Nat,n=(xs.length)-k/\k<=(xs.length)/\env 4=.int .i64 (k:Int)/\st.get ⟨fk*1000000+1002,σ.next+1⟩=some ⟨true,z,fN en (zero.map K.av) xs k⟩) (xs.length) ⟨0,ab,ab,sl @Nat.zero_add,sl @Nat.zero_add⟩ ?_
 rintro n_a env_a st_a ⟨k,rfl,ale,a4,ag0⟩ dC
 have a0:=dC 0 (by kernel_rfl);have a3:=dC 3 (by kernel_rfl)
 simp only[go_sem, ↓reduceIte,Nat.reduceEqDiff,Nat.reduceAdd,Nat.reduceSub,Nat.reduceLeDiff,reduceCtorEq]at a0 a3
 clear dC
 by_cases hk:(k:Int)<(xs.length:Int)
 ·have bZ:∀{e:Env} {gg:Rows},(e 4=.int .i64 (IntKind.i64.wrap ((k:Int)+1)))->(gg ⟨fk*1000000+1002,σ.next+1⟩=some ⟨true,z,fN en (zero.map K.av) xs (k+1)⟩)->∃m0,m0<(xs.length)-k/\∃k:Nat,m0=(xs.length)-k/\k<=(xs.length)/\e 4=.int .i64 (k:Int)/\gg ⟨fk*1000000+1002,σ.next+1⟩=some ⟨true,z,fN en (zero.map K.av) xs k⟩:=fun x1 x2=>⟨_,ab,k+1,rfl,ab,(by rw[x1,ax ab]),x2⟩
  have eY:k<xs.length:=ab
  have eB:(xs.map en)[k]? =some (en xs[k]):=by simp[eY]
  have rm:=hz xs[k]
  have Hy:=jD xs[k]
  have ht:(en xs[k]).take z=en xs[k]:=by rw[<-rm,List.take_length]
  have gw:=hg _ (List.getElem_mem eY)
  have fu:=oC en (zero.map K.av) xs eY
  have dK:=oD en (zero.map K.av) xs eY
  have FO:(zero.map K.av).drop z=[]:=List.drop_of_length_le (by simp[EV])
  generalize hex:en xs[k]=c at gw eB rm ht Hy dK
  (repeat(first|((repeat(revert hN;revert N;apply Pn.out));refine wk (tw @a4 (tw @ag0 (tw @a0 (tw @a3 (tw @hk (tw @eB (tw @rm (tw @ht (tw @Nat.le_refl (tw @fu (tw @dK (tw @FO (tw @sw (tw @Hy @EV)))))))))))))) ?_;(repeat(refine Pn.mk ?_;intro N hN)))|((try apply Or.inl);refine⟨_,jC.x (gw) _,?_⟩;refine hN _ _ ?_;clear hN N)))
  refine bZ ?_ ?_
  all_goals simp only[go_sem, ↓reduceIte,Nat.reduceEqDiff,Nat.reduceAdd,Nat.reduceSub,Nat.reduceLeDiff,reduceCtorEq,a4,ag0,a0,a3]
 ·(try((repeat(revert hN;revert N;apply Pn.out));refine wk (tw @a4 (tw @ag0 (tw @a0 (tw @a3 @hk)))) ?_;(repeat(refine Pn.mk ?_;intro N hN))))
  have eY:k=xs.length:=ab
  subst eY
  refine Oy (.inl rfl) (r0:=.own ⟨fk*1000000+1002,σ.next+1⟩ 0 xs.length) (sd (tw @a4 (tw @ag0 (tw @a0 @a3)))) ?_
  rw[oB]at ag0
  exact fA ag0 (by simp) fun x=>Cf x _
theorem OA {fk:Nat} (hc:lE P fk=some (Hf fk (.int .i64 0))) (xs:List Int) (hlen:xs.length<=1048576):jC P fk [.sl (xs.map fun x=>[AV.int .i64 x])] (.sl (xs.map fun x=>[AV.int .i64 x])):=by
 refine jC.body hc rfl fun hl σ=>?_
 try simp only[q]
 clear hl
 obtain⟨en,Hz⟩:∃en:Int->List AV,en=fun x=>[AV.int .i64 x]:=⟨_,rfl⟩
 rw[<-Hz]
 have hm:(xs.length:Int)<=((16777216:Nat):Int):=ab
 have h0:(0:Int)<=(xs.length:Int):=ab
 (try((repeat(revert hN;revert N;apply Pn.out));refine wk (tw @hm (tw @h0 (tw @Int.le_refl (mW en [AV.int .i64 0] xs)))) ?_;(repeat(refine Pn.mk ?_;intro N hN))))
 refine aL (fun n env st=>∃k:Nat,n=(xs.length)-k/\k<=(xs.length)/\env 4=.int .i64 (k:Int)/\st.get ⟨fk*1000000+1002,σ.next+1⟩=some ⟨true,1,fN en [AV.int .i64 0] xs k⟩) (xs.length) ⟨0,ab,ab,sl @Nat.zero_add,sl @Nat.zero_add⟩ ?_
 rintro n_a env_a st_a ⟨k,rfl,ale,a4,ag0⟩ dC
 have a0:=dC 0 (by kernel_rfl);have a3:=dC 3 (by kernel_rfl)
 simp only[go_sem, ↓reduceIte,Nat.reduceEqDiff,Nat.reduceAdd,Nat.reduceSub,Nat.reduceLeDiff,reduceCtorEq]at a0 a3
 clear dC
 by_cases hk:(k:Int)<(xs.length:Int)
 ·have bZ:∀{e:Env} {gg:Rows},(e 4=.int .i64 (IntKind.i64.wrap ((k:Int)+1)))->(gg ⟨fk*1000000+1002,σ.next+1⟩=some ⟨true,1,fN en [AV.int .i64 0] xs (k+1)⟩)->∃m0,m0<(xs.length)-k/\∃k:Nat,m0=(xs.length)-k/\k<=(xs.length)/\e 4=.int .i64 (k:Int)/\gg ⟨fk*1000000+1002,σ.next+1⟩=some ⟨true,1,fN en [AV.int .i64 0] xs k⟩:=fun x1 x2=>⟨_,ab,k+1,rfl,ab,(by rw[x1,ax ab]),x2⟩
  have eY:k<xs.length:=ab
  have eB:(xs.map en)[k]? =some [AV.int .i64 xs[k]]:=by simp[eY,Hz]
  have fu:=oC en [AV.int .i64 0] xs eY
  have dK:=oD en [AV.int .i64 0] xs eY
  rw[show en xs[k]=[AV.int .i64 xs[k]] by rw[Hz]]at dK
  (try((repeat(revert hN;revert N;apply Pn.out));refine wk (tw @a4 (tw @ag0 (tw @a0 (tw @a3 (tw @hk (tw @eB (tw @fu @dK))))))) ?_;(repeat(refine Pn.mk ?_;intro N hN))))
  refine bZ ?_ ?_
  all_goals simp only[go_sem, ↓reduceIte,Nat.reduceEqDiff,Nat.reduceAdd,Nat.reduceSub,Nat.reduceLeDiff,reduceCtorEq,a4,ag0,a0,a3]
 ·(try((repeat(revert hN;revert N;apply Pn.out));refine wk (tw @a4 (tw @ag0 (tw @a0 (tw @a3 @hk)))) ?_;(repeat(refine Pn.mk ?_;intro N hN))))
  have eY:k=xs.length:=ab
  subst eY
  refine Oy (.inl rfl) (r0:=.own ⟨fk*1000000+1002,σ.next+1⟩ 0 xs.length) (sd (tw @a4 (tw @ag0 (tw @a0 @a3)))) ?_
  rw[oB]at ag0
  exact fA ag0 (by simp) fun x=>by simp[Hz,ad,aj,aH]
end Go.Proofs.YtihgaadadaekmaaGreatDoor.V

namespace Go.Proofs.YtihgaadadaekmaaGreatDoor
open Go.RowKit
def Sl (w:World) (fp:List Nat) (v:Value) (n:Nat) (xs:List Value):Prop:=
 ∃A c,v=.slice A n c/\n<=c/\c<=maxLen/\
  ((fp=[]/\n=0)∨∃b o,fp=[b]/\A=some ⟨b,o,none⟩/\∀j u,xs[j]? =some u->w.cell? ⟨b,o+j,none⟩=some u)
def e7 (fp:List Nat) (lo hi:Nat):Prop:=∀b∈fp,lo<=b/\b<hi
theorem e7.nil (lo hi:Nat):e7 [] lo hi:=fun _ h=>by cases h
theorem Sl.nil (w:World):Sl w [] (.slice none 0 0) 0 []:=⟨none,0,rfl,Nat.le_refl _,by simp[maxLen],.inl ⟨rfl,rfl⟩⟩
def Kl {α:Type} (rep:World->List Nat->List Value->α->Prop) (sz:Nat) (w:World) (mY:List (List Value)) (B8:List (List Nat)) (ds:List α):Prop:=
 mY.length=ds.length/\B8.length=ds.length/\∀(i:Nat) (cs:List Value) (f:List Nat) (d:α),mY[i]? =some cs->B8[i]? =some f->ds[i]? =some d->rep w f cs d/\cs.length=sz
def lv {α:Type} (rep:World->List Nat->List Value->α->Prop) (sz:Nat) (w:World) (fp:List Nat) (v:Value) (ds:List α):Prop:=
 ∃mY B8 PN,fp=PN++B8.flatten/\Sl w PN v ds.length mY.flatten/\Kl rep sz w mY B8 ds
theorem oO {α:Type} {B8:List (List α)} {i:Nat} {f:List α} (h:B8[i]? =some f):∀b∈f,b∈B8.flatten:=fun b hb=>
 List.mem_flatten.2 ⟨f,List.mem_of_getElem? h,hb⟩
theorem qW {α:Type} {mY:List (List α)} {sz:Nat} (h:∀cs∈mY,cs.length=sz) {i j:Nat} {cs:List α} (hi:mY[i]? =some cs) (hj:j<sz):mY.flatten[i*sz+j]? =cs[j]? :=by
 induction mY generalizing i with
 |nil=>simp at hi
 |cons c r ih=>
  have hc:c.length=sz:=h c (by simp)
  cases i with
  |zero=>
   simp at hi;subst hi
   rw[List.flatten_cons,List.getElem?_append_left (by omega)];simp
  |succ i=>
   rw[List.flatten_cons,List.getElem?_append_right (by rw[hc,Nat.succ_mul];omega)]
   have:(i+1)*sz+j-c.length=i*sz+j:=by rw[hc,Nat.succ_mul];omega
   rw[this]
   exact ih (fun cs dh=>h cs (List.mem_cons_of_mem _ dh)) (by simpa using hi)
theorem Kl.lens {α:Type} {rep:World->List Nat->List Value->α->Prop} {sz:Nat} {w:World} {mY:List (List Value)} {B8:List (List Nat)} {ds:List α}
  (h:Kl rep sz w mY B8 ds):∀cs∈mY,cs.length=sz:=fun cs dh=>by
 obtain⟨i,hi,rfl⟩:=List.getElem_of_mem dh
 have h1:i<B8.length:=by rw[h.2.1,<-h.1];exact hi
 have h2:i<ds.length:=by rw[<-h.1];exact hi
 exact(h.2.2 i _ _ _ (List.getElem?_eq_getElem hi) (List.getElem?_eq_getElem h1) (List.getElem?_eq_getElem h2)).2
theorem lv.at_ {α:Type} {rep:World->List Nat->List Value->α->Prop} {sz:Nat} {w:World} {fp:List Nat} {A:Option Addr} {n c:Nat} {ds:List α}
  (h:lv rep sz w fp (.slice A n c) ds) (k:Nat) (hk:k<ds.length):
  ∃b o cs f,A=some ⟨b,o,none⟩/\b∈fp/\(∀x∈f,x∈fp)/\rep w f cs ds[k]/\cs.length=sz/\∀j u,cs[j]? =some u->w.cell? ⟨b,o+(k*sz+j),none⟩=some u:=by
 obtain⟨mY,B8,PN,rfl,⟨A',c',hv,_,_,hc⟩,hr⟩:=h
 simp only[Value.slice.injEq]at hv
 obtain⟨rfl,hn,rfl⟩:=hv
 rcases hc with⟨_,h0⟩|⟨b,o,rfl,rfl,hc⟩
 ·omega
 have h1:k<mY.length:=by rw[hr.1];exact hk
 have h2:k<B8.length:=by rw[hr.2.1];exact hk
 obtain⟨gi,hl⟩:=hr.2.2 k _ _ _ (List.getElem?_eq_getElem h1) (List.getElem?_eq_getElem h2) (List.getElem?_eq_getElem hk)
 refine⟨b,o,mY[k],B8[k],rfl,by simp,fun x hx=>List.mem_append_right _ (oO (List.getElem?_eq_getElem h2) x hx),gi,hl,fun j u hj=>?_⟩
 have gq:j<sz:=by rw[<-hl];exact(List.getElem?_eq_some_iff.1 hj).1
 exact hc _ u (by rw[qW hr.lens (List.getElem?_eq_getElem h1) gq];exact hj)
theorem lv.len {α:Type} {rep:World->List Nat->List Value->α->Prop} {sz:Nat} {w:World} {fp:List Nat} {v:Value} {ds:List α}
  (h:lv rep sz w fp v ds):∃A c,v=.slice A ds.length c/\ds.length<=c/\c<=maxLen:=by
 obtain⟨_,_,_,_,⟨A,c,hv,h1,h2,_⟩,_⟩:=h
 exact⟨A,c,hv,h1,h2⟩
theorem lv.nil {α:Type} (rep:World->List Nat->List Value->α->Prop) (sz:Nat) (w:World):lv rep sz w [] (.slice none 0 0) ([]:List α):=
 ⟨[],[],[],rfl,Sl.nil w,rfl,rfl,fun i cs f d hc=>by simp at hc⟩
def Flat {α:Type} (enc:α->List Value):World->List Nat->List Value->α->Prop:=fun _ f cs d=>f=[]/\cs=enc d
def Q (w w':World):Prop:=∃q,w'=w.drewN q
theorem M5 {B:Nat} {a w:World} (h:Below B a w) (n:Nat):Below B a (w.drewN n):=⟨h.os,h.tape,h.output,h.size,h.block⟩
theorem gH {a b:Bool} (h:a=b):Ending.returned (.bool a)=.returned (.bool b):=by rw[h]
def Unf (w:World) (b:Nat):Prop:=∃cs e,w.heap[b]? =some (.cells cs e (0,0))
structure Only (fp:List Nat) (w w':World):Prop where
 os:w'.os=w.os
 tape:w'.tape=w.tape
 output:w'.output=w.output
 size:w.heap.size<=w'.heap.size
 block:∀x,x<w.heap.size->x∉fp->w'.heap[x]? =w.heap[x]?
 unf:∀x,Unf w x->Unf w' x
structure bI where
 ga:Int
 fB:Int
deriving DecidableEq
structure ak where
 cC:bI
 bw:Int
deriving DecidableEq
structure dd where
 ae:List ak
deriving DecidableEq
structure eR where
 aB:ByteArray
 dG:Int
deriving DecidableEq
structure ee where
 aB:ByteArray
 aX:List Int
deriving DecidableEq
structure aq where
 ar:List eR
 ae:List ee
deriving DecidableEq
structure ck where
 aA:aq
 bJ:dd
 aE:Int
deriving DecidableEq
def C9 (d:Int):List Value:=[.int .i64 d]
def BR:=Flat C9
def z5 (d:ak):List Value:=[.int .i64 d.cC.ga,.int .i64 d.cC.fB,.int .i64 d.bw]
def xL:=Flat z5
def gY:=lv xL 3
def Fy (d:eR):List Value:=[.string d.aB,.int .i64 d.dG]
def E8:=Flat Fy
def pa:=lv E8 2
def su:=lv BR 1
def E9 (w:World) (f:List Nat) (cs:List Value) (d:ee):Prop:=
 ∃v1 f1,f=f1/\cs=[.string d.aB,v1]/\su w f1 v1 d.aX
def pb:=lv E9 2
end Go.Proofs.YtihgaadadaekmaaGreatDoor

namespace Go.Proofs.YtihgaadadaekmaaGreatDoor.V
open Go.RowKit
variable {P:Program} {w:World} {D:Nat->Prop}
def E3 (P:Program) (w:World) (D:Nat->Prop) (al:List AV) (cs:List Value):Prop:=∀(j:Nat) (a:AV),al[j]? =some a->∃u:Value,cs[j]? =some u/\jl P w D a u
theorem pR {α:Type} {rep:World->List Nat->List Value->α->Prop} {e:α->List AV} {sz:Nat} {f:List Nat} {v:Value} {xs:List α} (h:lv rep sz w f v xs) (hD:∀b∈f,D b)
  (hl:∀x∈xs,(e x).length=sz) (hc:∀x∈xs,∀a∈e x,a.cell=true) (hr:∀x∈xs,∀f' cs,rep w f' cs x->(∀b∈f',D b)->E3 P w D (e x) cs):jl P w D (.sl (xs.map e)) v:=by
 obtain⟨A,c,rfl,h1,h2⟩:=lv.len h
 by_cases h0:xs=[]
 ·subst h0;exact .zI _ _ h2
 have kM:0<xs.length:=List.length_pos_iff.2 h0
 obtain⟨b,o,Mq,f0,rfl,hb,O8,QO,Ax,iS⟩:=lv.at_ h 0 kM
 have key:∀(i:Nat) (hi:i<xs.length),∃cs f',(∀x∈f',x∈f)/\rep w f' cs xs[i]/\cs.length=sz/\∀j u,cs[j]? =some u->w.cell? ⟨b,o+(i*sz+j),none⟩=some u:=by
  intro i hi
  obtain⟨b',o',cs,f',O2,_,kU,mD,dh,jQ⟩:=lv.at_ h i hi
  simp only[Option.some.injEq,Addr.mk.injEq,and_true]at O2
  obtain⟨rfl,rfl⟩:=O2
  exact⟨cs,f',kU,mD,dh,jQ⟩
 refine .sl _ b o _ c sz (fun i j=>(w.cell? ⟨b,o+(i*sz+j),none⟩).getD Go.undef) (by simp) h1 h2 (hD b hb) ?_ ?_ ?_ ?_
 ·intro cs dh
  obtain⟨x,hx,rfl⟩:=List.mem_map.1 dh
  exact hl x hx
 ·intro cs dh
  obtain⟨x,hx,rfl⟩:=List.mem_map.1 dh
  exact hc x hx
 ·intro i j hi hj
  obtain⟨cs,f',_,_,dh,jQ⟩:=key i hi
  rw[jQ j cs[j] (List.getElem?_eq_getElem ab)]
  rfl
 ·intro i j cs a dh ha
  have hi:i<xs.length:=by
   have:=(List.getElem?_eq_some_iff.1 dh).1
   simpa using this
  obtain⟨og,f',kU,mD,hcs',jQ⟩:=key i hi
  simp[hi]at dh
  subst dh
  obtain⟨u,hu,him⟩:=hr _ (List.getElem_mem hi) f' og mD (fun b hb=>hD b (kU b hb)) j a ha
  rw[jQ j u hu]
  exact him
end Go.Proofs.YtihgaadadaekmaaGreatDoor.V

namespace Go.Proofs.YtihgaadadaekmaaGreatDoor.V
open Go.RowKit
variable {P:Program} {w:World} {D:Nat->Prop}
def az (d:Int):List AV:=[.int .i64 d]
def ao (d:bI):List AV:=[.int .i64 d.ga,.int .i64 d.fB]
def ah (d:ak):List AV:=[.int .i64 d.cC.ga,.int .i64 d.cC.fB,.int .i64 d.bw]
def aC (d:dd):List AV:=[.sl (d.ae.map ah)]
def aT (d:eR):List AV:=[.str d.aB,.int .i64 d.dG]
def aU (d:ee):List AV:=[.str d.aB,.sl (d.aX.map az)]
def aa (d:aq):List AV:=[.sl (d.ar.map aT),.sl (d.ae.map aU)]
def ay (d:ck):List AV:=[.sl (d.aA.ar.map aT),.sl (d.aA.ae.map aU),.sl (d.bJ.ae.map ah),.int .i64 d.aE]
theorem qQ {f:List Nat} {v:Value} {xs:List ak} (h:gY w f v xs) (hD:∀b∈f,D b):jl P w D (.sl (xs.map ah)) v:=
 pR h hD (fun _ _=>rfl) (fun x _ a ha=>by simp[ah]at ha;rcases ha with rfl|rfl|rfl<;>rfl) fun x _ f' cs hr hf=>by
  obtain⟨_,rfl⟩:=hr
  intro j a ha
  match j,ha with
  |0,ha=>simp[ah]at ha;subst ha;exact⟨_,rfl,.int _ _⟩
  |1,ha=>simp[ah]at ha;subst ha;exact⟨_,rfl,.int _ _⟩
  |2,ha=>simp[ah]at ha;subst ha;exact⟨_,rfl,.int _ _⟩
  |j+3,ha=>simp[ah]at ha
theorem vR {d:dd} {f0:List Nat} {v0:Value} (h0:gY w f0 v0 d.ae) (d0:∀b∈f0,D b):jl P w D (.agg (aC d)) (.agg #[v0]):=by
 refine .agg _ _ (fun j=>(#[v0]:Array Value).getD j Go.undef) rfl (fun a ha=>by simp[aC]at ha;rcases ha with rfl<;>rfl) (fun j hj=>?_) (fun j a ha=>?_)
 ·match j,hj with
  |0,_=>rfl
  |j+1,hj=>simp[aC]at hj<;>omega
 ·match j,ha with
  |0,ha=>simp[aC]at ha;subst ha;exact qQ h0 d0
  |j+1,ha=>simp[aC]at ha
theorem CN {f:List Nat} {v:Value} {xs:List eR} (h:pa w f v xs) (hD:∀b∈f,D b):jl P w D (.sl (xs.map aT)) v:=
 pR h hD (fun _ _=>rfl) (fun x _ a ha=>by simp[aT]at ha;rcases ha with rfl|rfl<;>rfl) fun x _ f' cs hr hf=>by
  obtain⟨_,rfl⟩:=hr
  intro j a ha
  match j,ha with
  |0,ha=>simp[aT]at ha;subst ha;exact⟨_,rfl,.str _⟩
  |1,ha=>simp[aT]at ha;subst ha;exact⟨_,rfl,.int _ _⟩
  |j+2,ha=>simp[aT]at ha
theorem zN {f:List Nat} {v:Value} {xs:List Int} (h:su w f v xs) (hD:∀b∈f,D b):jl P w D (.sl (xs.map az)) v:=
 pR h hD (fun _ _=>rfl) (fun x _ a ha=>by simp[az]at ha;rcases ha with rfl<;>rfl) fun x _ f' cs hr hf=>by
  obtain⟨_,rfl⟩:=hr
  intro j a ha
  match j,ha with
  |0,ha=>simp[az]at ha;subst ha;exact⟨_,rfl,.int _ _⟩
  |j+1,ha=>simp[az]at ha
theorem CR {f:List Nat} {v:Value} {xs:List ee} (h:pb w f v xs) (hD:∀b∈f,D b):jl P w D (.sl (xs.map aU)) v:=
 pR h hD (fun _ _=>rfl) (fun x _ a ha=>by simp[aU]at ha;rcases ha with rfl|rfl<;>rfl) fun x _ f' cs hr hf=>by
  obtain⟨v1,f1,rfl,rfl,h1⟩:=hr
  intro j a ha
  match j,ha with
  |0,ha=>simp[aU]at ha;subst ha;exact⟨_,rfl,.str _⟩
  |1,ha=>simp[aU]at ha;subst ha;exact⟨_,rfl,zN h1 hf⟩
  |j+2,ha=>simp[aU]at ha
theorem zP {d:ck} {f0:List Nat} {v0:Value} (h0:pa w f0 v0 d.aA.ar) (d0:∀b∈f0,D b) {f1:List Nat} {v1:Value} (h1:pb w f1 v1 d.aA.ae) (d1:∀b∈f1,D b) {f2:List Nat} {v2:Value} (h2:gY w f2 v2 d.bJ.ae) (d2:∀b∈f2,D b):jl P w D (.agg (ay d)) (.agg #[v0,v1,v2,.int .i64 d.aE]):=by
 refine .agg _ _ (fun j=>(#[v0,v1,v2,.int .i64 d.aE]:Array Value).getD j Go.undef) rfl (fun a ha=>by simp[ay]at ha;rcases ha with rfl|rfl|rfl|rfl<;>rfl) (fun j hj=>?_) (fun j a ha=>?_)
 ·match j,hj with
  |0,_=>rfl
  |1,_=>rfl
  |2,_=>rfl
  |3,_=>rfl
  |j+4,hj=>simp[ay]at hj<;>omega
 ·match j,ha with
  |0,ha=>simp[ay]at ha;subst ha;exact CN h0 d0
  |1,ha=>simp[ay]at ha;subst ha;exact CR h1 d1
  |2,ha=>simp[ay]at ha;subst ha;exact qQ h2 d2
  |3,ha=>simp[ay]at ha;subst ha;exact .int _ _
  |j+4,ha=>simp[ay]at ha
end Go.Proofs.YtihgaadadaekmaaGreatDoor.V

namespace Go.Proofs.YtihgaadadaekmaaGreatDoor.V
open Go.RowKit
attribute [local irreducible] dP wpOps gN Call
attribute [local go_sem] aI fI eE fW fV cv upd cq K.av cL AV.cells AV.cell rowOf rowsOf part ld rowAt bK bY dH eh ij bL da eA fZ eX dr eo cY cX dR dS bR bf cQ bQ cT cR ej ep ek cP bU cZ ei bP aM cV cz ig br cI bS aZ dD bp dJ AV.undef bB bH dX ef dO ea cF ez eC cu eu er cU cW List.getD_cons_zero List.getD_cons_succ List.getD_nil List.all_cons List.all_nil Bool.and_true Bool.true_and Bool.and_self Bool.not_true Bool.not_false Option.map_some Option.map_none Option.bind_some Option.bind_none List.length_cons List.length_nil List.take_succ_cons List.take_zero List.take_nil List.drop_succ_cons List.drop_zero List.drop_nil List.head?_cons List.map_cons List.map_nil List.getElem?_cons_zero List.getElem?_cons_succ List.cons_append List.nil_append List.append_nil List.length_map List.set_cons_zero List.set_cons_succ Nat.reduceMul eq_self Int.toNat_natCast Int.natCast_nonneg and_self true_and and_true decide_true decide_false Bool.false_eq_true Nat.zero_add Nat.add_zero List.contains_cons List.contains_nil Bool.or_false Bool.false_or beq_self_eq_true Nat.reduceBEq ne_eq not_true_eq_false not_false_eq_true Id.mk.injEq false_and and_false Nat.reduceLT Int.reduceLE Int.reduceLT Int.reduceToNat Int.reduceNeg Int.reduceAdd Nat.le_refl List.length_append beq_true beq_false Bool.not_eq_eq_eq_not or_false false_or dz ad aj aH bx cl aQ bj aW bh cN bz
variable {P:Program}
theorem Hm {X:e6} {Q:Ex->Env->aw->Prop} {N:Env->aw->Prop} {c:VC} {env:Env} {σ:aw} (I:Env->aw->Prop) (h2:∀e s,I e s->N e s) (h1:∀N':Env->aw->Prop,(∀e s,I e s->N' e s)->dP X c (dD N' Q) env σ):dP X c (dD N Q) env σ:=h1 N h2
def s4 (f z:Nat) (a:Bool):xt:=let s:=f*1000000
 ⟨19,2,(.seq (.eb false [q 4 (.cG (.k (.int .i64 0))) s]) (.seq (.seq (.eb false [q 6 (.cG (.t 0)) (s+1000),q 7 (.len (.t 6)) (s+1001),q 8 (.cG (.k (.int .i64 0))) (s+1002)]) (.block 0 (.loop (.seq (.eb false [q 9 (.bin .lss .i64 (.t 8) (.t 7)) (s+2000)]) (.seq (.cond (.t 9) .skip (.exit 0)) (.seq (.block 1 (.seq (.eb false [q 10 (.cG (.t 8)) (s+3000),q 5 (.cG (.t 10)) (s+3001)]) (.seq (.eb false [q 11 (.cG (.t 1)) (s+4000),q 12 (.cG (.t 0)) (s+4001),q 13 (.cG (.t 5)) (s+4002),q 14 (.dp z (.t 12) (.t 13)) (s+4003),q 15 (.load a z (.t 14)) (s+4004),q 16 (.qT (.t 11) [(.t 15)]) (s+4005)]) (.cond (.t 16) (.seq (.eb false [q 17 (.cG (.t 5)) (s+5000),q 4 (.cG (.t 17)) (s+5001)]) .ret) .skip)))) (.eb false [q 18 (.bin .add .i64 (.t 8) (.k (.int .i64 1))) (s+6000),q 8 (.cG (.t 18)) (s+6001)]))))))) (.seq (.eb false [q 4 (.cG (.k (.int .i64 (-1)))) (s+7000)]) .ret))),[(.tmp 4)]⟩
def Av (f g:Nat):xt:=let s:=f*1000000
 ⟨9,2,(.seq (.eb false [q 4 (.cG (.k (.bool false))) s]) (.seq (.eb false [q 5 (.cG (.t 0)) (s+1000),q 6 (.cG (.t 1)) (s+1001),q 7 (.call g [(.t 5),(.t 6)]) (s+1002),q 8 (.bin .geq .i64 (.t 7) (.k (.int .i64 0))) (s+1003),q 4 (.cG (.t 8)) (s+1004)]) .ret)),[(.tmp 4)]⟩
def jy {α:Type} (p:α->Bool) (xs:List α):Int:=if xs.findIdx p<xs.length then(xs.findIdx p:Int)else -1
theorem FC {α:Type} (p:α->Bool) (xs:List α):decide (0<=jy p xs)=xs.any p:=by
 unfold jy
 by_cases h:xs.findIdx p<xs.length
 ·rw[if_pos h]
  have:xs.any p=true:=List.any_eq_true.2 (List.findIdx_lt_length.1 h)
  rw[this];simp
 ·rw[if_neg h]
  have:xs.any p=false:=by
   rw[Bool.eq_false_iff]
   intro hc
   exact h (List.findIdx_lt_length.2 (List.any_eq_true.1 hc))
  rw[this];rfl
theorem rW (a:AV) (l m:List AV):a::l++m=a::(l++m):=rfl
theorem vZ (l:List AV):[]++l=l:=rfl
structure MV {α:Type} (e:α->List AV) (v:α->AV) (z:Nat) (a:Bool):Prop where
 len:∀x,(e x).length=z
 val:∀x,if a=true then v x=.agg (e x)else e x=[v x]
 fz:∀x g,bW g 6 [v x]=some [v x]
theorem rn {α:Type} {e:α->List AV} {v:α->AV} {z fk:Nat} {a:Bool} (hE:MV e v z a) (hc:lE P fk=some (s4 fk z a)) (xs:List α) (hlen:xs.length<=1048576) (f:Nat) (cr:List AV) (p:α->Bool)
  (hf:∀x∈xs,ai P f (v x::cr) (.bool (p x))) (FQ:∀g,bW g 6 cr=some cr):
  ai P fk [.sl (xs.map e),.fn f cr] (.int .i64 (jy p xs)):=by
 refine ai.body hc rfl fun hl n0=>?_
 try simp only[q]
 clear hl
 (try((repeat(revert hN;revert N;apply Pn.out));refine wk @Nat.zero_add ?_;(repeat(refine Pn.mk ?_;intro N hN))))
 refine aL (fun n env st=>∃k:Nat,n=(xs.length)-k/\k<=(xs.length)/\env 8=.int .i64 (k:Int)/\(∀j:Nat,j<k->∀h:j<xs.length,p xs[j]=false)) (xs.length) ⟨0,ab,ab,sl @Nat.zero_add,fun _ h=>absurd h (Nat.not_lt_zero _)⟩ ?_
 rintro n_a env_a st_a ⟨k,rfl,ale,a8,kj⟩ dC
 have a0:=dC 0 (by kernel_rfl);have a1:=dC 1 (by kernel_rfl);have a7:=dC 7 (by kernel_rfl)
 simp only[go_sem, ↓reduceIte,Nat.reduceEqDiff,Nat.reduceAdd,Nat.reduceSub,Nat.reduceLeDiff,reduceCtorEq]at a0 a1 a7
 clear dC
 by_cases hk:(k:Int)<(xs.length:Int)
 ·have bZ:∀{e:Env},(e 8=.int .i64 (IntKind.i64.wrap ((k:Int)+1)))->(∀h:k<xs.length,p xs[k]=false)->∃m0,m0<(xs.length)-k/\∃k:Nat,m0=(xs.length)-k/\k<=(xs.length)/\e 8=.int .i64 (k:Int)/\(∀j:Nat,j<k->∀h:j<xs.length,p xs[j]=false):=fun x1 x2=>⟨_,ab,k+1,rfl,ab,(by rw[x1,ax ab]),(all_succ kj x2)⟩
  have eY:k<xs.length:=ab
  have hg:(xs.map e)[k]? =some (e xs[k]):=by simp[eY]
  have Ch:=hf _ (List.getElem_mem eY)
  have hz:=hE.len xs[k]
  have hv:=hE.val xs[k]
  have kF:bW (dz st_a.get) 6 (v xs[k]::cr)=some (v xs[k]::cr):=by
   have h1:=hE.fz xs[k] (dz st_a.get)
   rw[ad,aj]at h1
   rw[ad,FQ]
   revert h1
   cases V.fz (dz st_a.get) 6 (v xs[k])<;>simp
  have fin:∀hN:True,(p xs[k]=true->xs.findIdx p=k):=fun _ hp=>by
   rw[List.findIdx_eq eY];exact⟨hp,fun j hj=>kj j hj ab⟩
  cases hp:p xs[k]
  ·have Pg:=hp
   cases a
   ·rw[if_neg (by simp)]at hv
    have xJ:z=1:=by rw[<-hz,hv];rfl
    subst xJ
    rw[hv]at hg hz
    rw[hp]at Ch
    generalize v xs[k]=c at Ch kF hg hz
    (try((repeat(revert hN;revert N;apply Pn.out));refine wk (tw @a8 (tw @a0 (tw @a1 (tw @a7 (tw @hk (tw @hg (tw @hz (tw @rW @vZ)))))))) ?_;(repeat(refine Pn.mk ?_;intro N hN))))
    refine .inl ⟨_,ai.x Ch kF,?_⟩
    refine hN _ _ ?_
    clear hN N
    (try((repeat(revert hN;revert N;apply Pn.out));refine wk (tw @a8 (tw @a0 (tw @a1 @a7))) ?_;(repeat(refine Pn.mk ?_;intro N hN))))
    exact bZ (sd (tw @a8 (tw @a0 (tw @a1 @a7)))) (fun _=>Pg)
   ·rw[if_pos rfl]at hv
    have ht:(e xs[k]).take z=e xs[k]:=by rw[<-hz,List.take_length]
    rw[hv]at Ch kF
    rw[hp]at Ch
    generalize e xs[k]=c at Ch kF hg hz ht
    (try((repeat(revert hN;revert N;apply Pn.out));refine wk (tw @a8 (tw @a0 (tw @a1 (tw @a7 (tw @hk (tw @hg (tw @hz (tw @ht (tw @rW (tw @vZ @Nat.le_refl)))))))))) ?_;(repeat(refine Pn.mk ?_;intro N hN))))
    refine .inl ⟨_,ai.x Ch kF,?_⟩
    refine hN _ _ ?_
    clear hN N
    (try((repeat(revert hN;revert N;apply Pn.out));refine wk (tw @a8 (tw @a0 (tw @a1 @a7))) ?_;(repeat(refine Pn.mk ?_;intro N hN))))
    exact bZ (sd (tw @a8 (tw @a0 (tw @a1 @a7)))) (fun _=>Pg)
  ·have hi:=fin trivial hp
   cases a
   ·rw[if_neg (by simp)]at hv
    have xJ:z=1:=by rw[<-hz,hv];rfl
    subst xJ
    rw[hv]at hg hz
    rw[hp]at Ch
    generalize v xs[k]=c at Ch kF hg hz
    (try((repeat(revert hN;revert N;apply Pn.out));refine wk (tw @a8 (tw @a0 (tw @a1 (tw @a7 (tw @hk (tw @hg (tw @hz (tw @rW @vZ)))))))) ?_;(repeat(refine Pn.mk ?_;intro N hN))))
    refine .inl ⟨_,ai.x Ch kF,?_⟩
    refine hN _ _ ?_
    clear hN N
    (try((repeat(revert hN;revert N;apply Pn.out));refine wk (tw @a8 (tw @a0 (tw @a1 @a7))) ?_;(repeat(refine Pn.mk ?_;intro N hN))))
    exact bq (b:=(k:Int)) (.inl rfl) (sd @Nat.zero_add) (by rw[jy,hi,if_pos eY])
   ·rw[if_pos rfl]at hv
    have ht:(e xs[k]).take z=e xs[k]:=by rw[<-hz,List.take_length]
    rw[hv]at Ch kF
    rw[hp]at Ch
    generalize e xs[k]=c at Ch kF hg hz ht
    (try((repeat(revert hN;revert N;apply Pn.out));refine wk (tw @a8 (tw @a0 (tw @a1 (tw @a7 (tw @hk (tw @hg (tw @hz (tw @ht (tw @rW (tw @vZ @Nat.le_refl)))))))))) ?_;(repeat(refine Pn.mk ?_;intro N hN))))
    refine .inl ⟨_,ai.x Ch kF,?_⟩
    refine hN _ _ ?_
    clear hN N
    (try((repeat(revert hN;revert N;apply Pn.out));refine wk (tw @a8 (tw @a0 (tw @a1 @a7))) ?_;(repeat(refine Pn.mk ?_;intro N hN))))
    exact bq (b:=(k:Int)) (.inl rfl) (sd @Nat.zero_add) (by rw[jy,hi,if_pos eY])
 ·(try((repeat(revert hN;revert N;apply Pn.out));refine wk (tw @a8 (tw @a0 (tw @a1 (tw @a7 @hk)))) ?_;(repeat(refine Pn.mk ?_;intro N hN))))
  have hi:¬xs.findIdx p<xs.length:=by
   rw[List.findIdx_lt_length]
   rintro⟨x,hx,Lj⟩
   obtain⟨j,hj,rfl⟩:=List.getElem_of_mem hx
   rw[kj j ab hj]at Lj;cases Lj
  exact bq (b:=-1) (.inl rfl) (sd @Nat.zero_add) (by rw[jy,if_neg hi])
theorem mV {α:Type} {e:α->List AV} {v:α->AV} {z fk gk:Nat} {a:Bool} (hE:MV e v z a) (hc:lE P fk=some (Av fk gk)) (Dm:lE P gk=some (s4 gk z a)) (xs:List α) (hlen:xs.length<=1048576) (f:Nat) (cr:List AV) (p:α->Bool) (Ij:cr.all AV.cell=true) (Cf:∀g,bW g 5 cr=some cr)
  (hf:∀x∈xs,ai P f (v x::cr) (.bool (p x))) (FQ:∀g,bW g 6 cr=some cr):
  ai P fk [.sl (xs.map e),.fn f cr] (.bool (xs.any p)):=by
 refine ai.body hc rfl fun hl n0=>?_
 try simp only[q]
 clear hl
 have hi:=rn hE Dm xs hlen f cr p hf FQ
 (repeat(first|((repeat(revert hN;revert N;apply Pn.out));refine wk (tw @Ij @Cf) ?_;(repeat(refine Pn.mk ?_;intro N hN)))|((try apply Or.inl);refine⟨_,ai.x (hi) (sd (tw @Ij @Cf)),?_⟩;refine hN _ _ ?_;clear hN N)))
 exact aJ (b:=decide (0<=jy p xs)) (.inl rfl) (sd @Nat.zero_add) (FC p xs)
end Go.Proofs.YtihgaadadaekmaaGreatDoor.V

namespace Go.Proofs.YtihgaadadaekmaaGreatDoor.V
open Go.RowKit
def pD (P:Program) (mk:Bool):List Oper->Nat->List Nat
 |[],_=>[]
 |o::r,i=>match oW P o.op with
  |some v=>if oN v||mk&&v.kN then i::pD P mk r (i+1)else pD P mk r (i+1)
  |none=>pD P mk r (i+1)
def v8 (P:Program) (ops:Array Oper) (site0:Nat) (mk:Bool) (bs:Array Nat) (hidden:List Nat):List Oper->Nat->Option (List aV)
 |[],_=>some []
 |o::r,j=>do
  let v <-oW P o.op
  let g <-zY ops o
  pure ({dst:=o.dst,op:=v,guard:=g,site:=site0+j,hid:=(hidden.filter fun i=> !(bs.getD j 0).testBit i&&(i !=j||mk&&v.kN)).map fun i=>site0+i}::(<-v8 P ops site0 mk bs hidden r (j+1)))
def mQ (P:Program) (md:List (Nat×Nat)) (sI:Nat):Code->Option VC
 | .skip=>some .skip
 | .region id ops draw=>if draw then(v8 P ops ((sI*1000+id)*1000) (td md id==1) (iN ops) (pD P (td md id==1) ops.toList 0) ops.toList 0).map (VC.eb true)else(v8 P ops ((sI*1000+id)*1000) false #[] [] ops.toList 0).map (if ops.toList.any fun o=>J7 o.op then VC.Kz else VC.eb false)
 | .seq a b=>do pure (.seq (<-mQ P md sI a) (<-mQ P md sI b))
 | .cond c x y=>do pure (.cond (<-cO P c) (<-mQ P md sI x) (<-mQ P md sI y))
 | .block id c=>(mQ P md sI c).map (VC.block id)
 | .loop c=>(mQ P md sI c).map VC.loop
 | .exit id=>some (.exit id)
 | .ret=>some .ret
 | .label _=>some .skip
 | .scope c=>mQ P md sI c
 |_=>none
def M6 (P:Program) (md:List (Nat×Nat)) (f:Nat):Option xt:=
 match P.funcs[f]? with
 |some fn=>match fn.body with
  |some c=>do
   let b <-mQ P md f c
   let r <-fn.results.toList.mapM (CW P)
   pure {ntmps:=fn.ntmps,vD:=fn.params.size+fn.nfree,body:=b,res:=r}
  |none=>none
 |none=>none
theorem cfM {P:Program} (md:List (Nat×Nat)) {f:Nat} {v:xt} (_:M6 P md f=some v:=by(conv=>lhs;cbv)<;>exact rfl) (h:ud P f md=some v:=by kernel_rfl):ud P f md=some v:=h
theorem dN {P:Program} {f:Nat} {v:xt} (_:M6 P [] f=some v:=by(conv=>lhs;cbv)<;>exact rfl) (h:lE P f=some v:=by kernel_rfl):lE P f=some v:=h
def LZ:xt:=⟨77,2,(.seq (.eb false [q 4 (.cG (.k .gj)) 165000000]) (.seq (.eb false [q 7 (.cG (.t 0)) 165001000,q 8 (.cG (.t 1)) 165001001,q 9 (.build [(.int .i64 0),.bC,.bC,.bC] [(0,(1,(.t 7))),(1,(1,(.t 8)))]) 165001002,q 10 (.box (.t 9)) 165001003,q 5 (.cG (.t 10)) 165001004]) (.seq (.eb false [q 11 (.cG (.t 5)) 165002000,q 12 (.cG (.t 0)) 165002001,q 13 (.jg [.bC] (.t 12) (.t 12)) 165002002,q 14 (.x9 (.t 11)) 165002003,q 15 (.fm 2 (.t 14)) 165002004,⟨none,(.store 1 (.t 15) (.t 13)),none,165002005,[]⟩]) (.seq (.eb false [q 16 (.cG (.t 5)) 165003000,q 17 (.cG (.t 1)) 165003001,q 18 (.len (.t 17)) 165003002,q 19 (.jg [(.int .i64 0)] (.t 18) (.t 18)) 165003003,q 20 (.x9 (.t 16)) 165003004,q 21 (.fm 3 (.t 20)) 165003005,⟨none,(.store 1 (.t 21) (.t 19)),none,165003006,[]⟩]) (.seq (.seq (.eb false [q 6 (.cG (.k (.int .i64 0))) 165004000]) (.block 0 (.loop (.seq (.seq (.eb false [q 22 (.cG (.t 6)) 165005000,q 23 (.cG (.t 1)) 165005001,q 24 (.len (.t 23)) 165005002,q 25 (.bin .lss .i64 (.t 22) (.t 24)) 165005003]) (.cond (.t 25) .skip (.exit 0))) (.seq (.block 1 (.seq (.one ⟨(some 28),(.cG (.t 5)),none,165007000,[165007021,165007022,165007024]⟩ (.one ⟨(some 29),(.x9 (.t 28)),none,165007001,[165007021,165007022,165007024]⟩ (.one ⟨(some 30),(.fm 2 (.t 29)),none,165007002,[165007021,165007022,165007024]⟩ (.one ⟨(some 32),(.cG (.t 1)),none,165007004,[165007021,165007022,165007024]⟩ (.one ⟨(some 33),(.cG (.t 6)),none,165007005,[165007021,165007022,165007024]⟩ (.one ⟨(some 37),(.cG (.t 5)),none,165007009,[165007021,165007022,165007024]⟩ (.one ⟨(some 38),(.x9 (.t 37)),none,165007010,[165007021,165007022,165007024]⟩ (.one ⟨(some 39),(.fm 2 (.t 38)),none,165007011,[165007021,165007022,165007024]⟩ (.one ⟨(some 40),(.load false 1 (.t 39)),none,165007012,[165007021,165007022,165007024]⟩ (.one ⟨(some 41),(.cG (.t 1)),none,165007013,[165007021,165007022,165007024]⟩ (.one ⟨(some 42),(.cG (.t 6)),none,165007014,[165007021,165007022,165007024]⟩ (.one ⟨(some 43),(.dp 3 (.t 41) (.t 42)),none,165007015,[165007021,165007022,165007024]⟩ (.one ⟨(some 44),(.fm 0 (.t 43)),none,165007016,[165007021,165007022,165007024]⟩ (.one ⟨(some 45),(.load false 1 (.t 44)),none,165007017,[165007021,165007022,165007024]⟩ (.one ⟨(some 46),(.dp 1 (.t 40) (.t 45)),none,165007018,[165007021,165007022,165007024]⟩ (.one ⟨(some 47),(.load false 1 (.t 46)),none,165007019,[165007021,165007022,165007024]⟩ (.one ⟨(some 48),(.cG (.t 6)),none,165007020,[165007021,165007022,165007024]⟩ (.one ⟨(some 49),(.lD 1 1 [(.t 48)]),none,165007021,[165007022,165007024]⟩ (.both (.one ⟨(some 31),(.load false 1 (.t 30)),none,165007003,[165007021,165007022,165007024]⟩ (.both (.one ⟨(some 34),(.dp 3 (.t 32) (.t 33)),none,165007006,[165007021,165007022,165007024]⟩ (.one ⟨(some 35),(.fm 0 (.t 34)),none,165007007,[165007021,165007022,165007024]⟩ (.both (.one ⟨(some 36),(.load false 1 (.t 35)),none,165007008,[165007021,165007022,165007024]⟩ (.one ⟨(some 50),(.append 1 (.t 47) (.t 49)),none,165007022,[165007024]⟩ (.one ⟨(some 51),(.dp 1 (.t 31) (.t 36)),none,165007023,[165007024]⟩ (.one ⟨none,(.store 1 (.t 51) (.t 50)),none,165007024,[]⟩ (.eb false []))))) (.one ⟨(some 50),(.append 1 (.t 47) (.t 49)),none,165007022,[165007024]⟩ (.one ⟨(some 36),(.load false 1 (.t 35)),none,165007008,[165007021,165007022,165007024]⟩ (.one ⟨(some 51),(.dp 1 (.t 31) (.t 36)),none,165007023,[165007024]⟩ (.one ⟨none,(.store 1 (.t 51) (.t 50)),none,165007024,[]⟩ (.eb false [])))))))) (.one ⟨(some 50),(.append 1 (.t 47) (.t 49)),none,165007022,[165007024]⟩ (.one ⟨(some 34),(.dp 3 (.t 32) (.t 33)),none,165007006,[165007021,165007022,165007024]⟩ (.one ⟨(some 35),(.fm 0 (.t 34)),none,165007007,[165007021,165007022,165007024]⟩ (.one ⟨(some 36),(.load false 1 (.t 35)),none,165007008,[165007021,165007022,165007024]⟩ (.one ⟨(some 51),(.dp 1 (.t 31) (.t 36)),none,165007023,[165007024]⟩ (.one ⟨none,(.store 1 (.t 51) (.t 50)),none,165007024,[]⟩ (.eb false []))))))))) (.both (.one ⟨(some 34),(.dp 3 (.t 32) (.t 33)),none,165007006,[165007021,165007022,165007024]⟩ (.one ⟨(some 35),(.fm 0 (.t 34)),none,165007007,[165007021,165007022,165007024]⟩ (.both (.one ⟨(some 31),(.load false 1 (.t 30)),none,165007003,[165007021,165007022,165007024]⟩ (.both (.one ⟨(some 36),(.load false 1 (.t 35)),none,165007008,[165007021,165007022,165007024]⟩ (.one ⟨(some 50),(.append 1 (.t 47) (.t 49)),none,165007022,[165007024]⟩ (.one ⟨(some 51),(.dp 1 (.t 31) (.t 36)),none,165007023,[165007024]⟩ (.one ⟨none,(.store 1 (.t 51) (.t 50)),none,165007024,[]⟩ (.eb false []))))) (.one ⟨(some 50),(.append 1 (.t 47) (.t 49)),none,165007022,[165007024]⟩ (.one ⟨(some 36),(.load false 1 (.t 35)),none,165007008,[165007021,165007022,165007024]⟩ (.one ⟨(some 51),(.dp 1 (.t 31) (.t 36)),none,165007023,[165007024]⟩ (.one ⟨none,(.store 1 (.t 51) (.t 50)),none,165007024,[]⟩ (.eb false []))))))) (.both (.one ⟨(some 36),(.load false 1 (.t 35)),none,165007008,[165007021,165007022,165007024]⟩ (.both (.one ⟨(some 31),(.load false 1 (.t 30)),none,165007003,[165007021,165007022,165007024]⟩ (.one ⟨(some 50),(.append 1 (.t 47) (.t 49)),none,165007022,[165007024]⟩ (.one ⟨(some 51),(.dp 1 (.t 31) (.t 36)),none,165007023,[165007024]⟩ (.one ⟨none,(.store 1 (.t 51) (.t 50)),none,165007024,[]⟩ (.eb false []))))) (.one ⟨(some 50),(.append 1 (.t 47) (.t 49)),none,165007022,[165007024]⟩ (.one ⟨(some 31),(.load false 1 (.t 30)),none,165007003,[165007021,165007022,165007024]⟩ (.one ⟨(some 51),(.dp 1 (.t 31) (.t 36)),none,165007023,[165007024]⟩ (.one ⟨none,(.store 1 (.t 51) (.t 50)),none,165007024,[]⟩ (.eb false []))))))) (.one ⟨(some 50),(.append 1 (.t 47) (.t 49)),none,165007022,[165007024]⟩ (.one ⟨(some 31),(.load false 1 (.t 30)),none,165007003,[165007021,165007022,165007024]⟩ (.one ⟨(some 36),(.load false 1 (.t 35)),none,165007008,[165007021,165007022,165007024]⟩ (.one ⟨(some 51),(.dp 1 (.t 31) (.t 36)),none,165007023,[165007024]⟩ (.one ⟨none,(.store 1 (.t 51) (.t 50)),none,165007024,[]⟩ (.eb false [])))))))))) (.one ⟨(some 50),(.append 1 (.t 47) (.t 49)),none,165007022,[165007024]⟩ (.one ⟨(some 31),(.load false 1 (.t 30)),none,165007003,[165007021,165007022,165007024]⟩ (.one ⟨(some 34),(.dp 3 (.t 32) (.t 33)),none,165007006,[165007021,165007022,165007024]⟩ (.one ⟨(some 35),(.fm 0 (.t 34)),none,165007007,[165007021,165007022,165007024]⟩ (.one ⟨(some 36),(.load false 1 (.t 35)),none,165007008,[165007021,165007022,165007024]⟩ (.one ⟨(some 51),(.dp 1 (.t 31) (.t 36)),none,165007023,[165007024]⟩ (.one ⟨none,(.store 1 (.t 51) (.t 50)),none,165007024,[]⟩ (.eb false [])))))))))))))))))))))))))))) (.one ⟨(some 52),(.cG (.t 5)),none,165008000,[165008021,165008022,165008024]⟩ (.one ⟨(some 53),(.x9 (.t 52)),none,165008001,[165008021,165008022,165008024]⟩ (.one ⟨(some 54),(.fm 2 (.t 53)),none,165008002,[165008021,165008022,165008024]⟩ (.one ⟨(some 56),(.cG (.t 1)),none,165008004,[165008021,165008022,165008024]⟩ (.one ⟨(some 57),(.cG (.t 6)),none,165008005,[165008021,165008022,165008024]⟩ (.one ⟨(some 61),(.cG (.t 5)),none,165008009,[165008021,165008022,165008024]⟩ (.one ⟨(some 62),(.x9 (.t 61)),none,165008010,[165008021,165008022,165008024]⟩ (.one ⟨(some 63),(.fm 2 (.t 62)),none,165008011,[165008021,165008022,165008024]⟩ (.one ⟨(some 64),(.load false 1 (.t 63)),none,165008012,[165008021,165008022,165008024]⟩ (.one ⟨(some 65),(.cG (.t 1)),none,165008013,[165008021,165008022,165008024]⟩ (.one ⟨(some 66),(.cG (.t 6)),none,165008014,[165008021,165008022,165008024]⟩ (.one ⟨(some 67),(.dp 3 (.t 65) (.t 66)),none,165008015,[165008021,165008022,165008024]⟩ (.one ⟨(some 68),(.fm 1 (.t 67)),none,165008016,[165008021,165008022,165008024]⟩ (.one ⟨(some 69),(.load false 1 (.t 68)),none,165008017,[165008021,165008022,165008024]⟩ (.one ⟨(some 70),(.dp 1 (.t 64) (.t 69)),none,165008018,[165008021,165008022,165008024]⟩ (.one ⟨(some 71),(.load false 1 (.t 70)),none,165008019,[165008021,165008022,165008024]⟩ (.one ⟨(some 72),(.cG (.t 6)),none,165008020,[165008021,165008022,165008024]⟩ (.one ⟨(some 73),(.lD 1 1 [(.t 72)]),none,165008021,[165008022,165008024]⟩ (.both (.one ⟨(some 55),(.load false 1 (.t 54)),none,165008003,[165008021,165008022,165008024]⟩ (.both (.one ⟨(some 58),(.dp 3 (.t 56) (.t 57)),none,165008006,[165008021,165008022,165008024]⟩ (.one ⟨(some 59),(.fm 1 (.t 58)),none,165008007,[165008021,165008022,165008024]⟩ (.both (.one ⟨(some 60),(.load false 1 (.t 59)),none,165008008,[165008021,165008022,165008024]⟩ (.one ⟨(some 74),(.append 1 (.t 71) (.t 73)),none,165008022,[165008024]⟩ (.one ⟨(some 75),(.dp 1 (.t 55) (.t 60)),none,165008023,[165008024]⟩ (.one ⟨none,(.store 1 (.t 75) (.t 74)),none,165008024,[]⟩ (.eb false []))))) (.one ⟨(some 74),(.append 1 (.t 71) (.t 73)),none,165008022,[165008024]⟩ (.one ⟨(some 60),(.load false 1 (.t 59)),none,165008008,[165008021,165008022,165008024]⟩ (.one ⟨(some 75),(.dp 1 (.t 55) (.t 60)),none,165008023,[165008024]⟩ (.one ⟨none,(.store 1 (.t 75) (.t 74)),none,165008024,[]⟩ (.eb false [])))))))) (.one ⟨(some 74),(.append 1 (.t 71) (.t 73)),none,165008022,[165008024]⟩ (.one ⟨(some 58),(.dp 3 (.t 56) (.t 57)),none,165008006,[165008021,165008022,165008024]⟩ (.one ⟨(some 59),(.fm 1 (.t 58)),none,165008007,[165008021,165008022,165008024]⟩ (.one ⟨(some 60),(.load false 1 (.t 59)),none,165008008,[165008021,165008022,165008024]⟩ (.one ⟨(some 75),(.dp 1 (.t 55) (.t 60)),none,165008023,[165008024]⟩ (.one ⟨none,(.store 1 (.t 75) (.t 74)),none,165008024,[]⟩ (.eb false []))))))))) (.both (.one ⟨(some 58),(.dp 3 (.t 56) (.t 57)),none,165008006,[165008021,165008022,165008024]⟩ (.one ⟨(some 59),(.fm 1 (.t 58)),none,165008007,[165008021,165008022,165008024]⟩ (.both (.one ⟨(some 55),(.load false 1 (.t 54)),none,165008003,[165008021,165008022,165008024]⟩ (.both (.one ⟨(some 60),(.load false 1 (.t 59)),none,165008008,[165008021,165008022,165008024]⟩ (.one ⟨(some 74),(.append 1 (.t 71) (.t 73)),none,165008022,[165008024]⟩ (.one ⟨(some 75),(.dp 1 (.t 55) (.t 60)),none,165008023,[165008024]⟩ (.one ⟨none,(.store 1 (.t 75) (.t 74)),none,165008024,[]⟩ (.eb false []))))) (.one ⟨(some 74),(.append 1 (.t 71) (.t 73)),none,165008022,[165008024]⟩ (.one ⟨(some 60),(.load false 1 (.t 59)),none,165008008,[165008021,165008022,165008024]⟩ (.one ⟨(some 75),(.dp 1 (.t 55) (.t 60)),none,165008023,[165008024]⟩ (.one ⟨none,(.store 1 (.t 75) (.t 74)),none,165008024,[]⟩ (.eb false []))))))) (.both (.one ⟨(some 60),(.load false 1 (.t 59)),none,165008008,[165008021,165008022,165008024]⟩ (.both (.one ⟨(some 55),(.load false 1 (.t 54)),none,165008003,[165008021,165008022,165008024]⟩ (.one ⟨(some 74),(.append 1 (.t 71) (.t 73)),none,165008022,[165008024]⟩ (.one ⟨(some 75),(.dp 1 (.t 55) (.t 60)),none,165008023,[165008024]⟩ (.one ⟨none,(.store 1 (.t 75) (.t 74)),none,165008024,[]⟩ (.eb false []))))) (.one ⟨(some 74),(.append 1 (.t 71) (.t 73)),none,165008022,[165008024]⟩ (.one ⟨(some 55),(.load false 1 (.t 54)),none,165008003,[165008021,165008022,165008024]⟩ (.one ⟨(some 75),(.dp 1 (.t 55) (.t 60)),none,165008023,[165008024]⟩ (.one ⟨none,(.store 1 (.t 75) (.t 74)),none,165008024,[]⟩ (.eb false []))))))) (.one ⟨(some 74),(.append 1 (.t 71) (.t 73)),none,165008022,[165008024]⟩ (.one ⟨(some 55),(.load false 1 (.t 54)),none,165008003,[165008021,165008022,165008024]⟩ (.one ⟨(some 60),(.load false 1 (.t 59)),none,165008008,[165008021,165008022,165008024]⟩ (.one ⟨(some 75),(.dp 1 (.t 55) (.t 60)),none,165008023,[165008024]⟩ (.one ⟨none,(.store 1 (.t 75) (.t 74)),none,165008024,[]⟩ (.eb false [])))))))))) (.one ⟨(some 74),(.append 1 (.t 71) (.t 73)),none,165008022,[165008024]⟩ (.one ⟨(some 55),(.load false 1 (.t 54)),none,165008003,[165008021,165008022,165008024]⟩ (.one ⟨(some 58),(.dp 3 (.t 56) (.t 57)),none,165008006,[165008021,165008022,165008024]⟩ (.one ⟨(some 59),(.fm 1 (.t 58)),none,165008007,[165008021,165008022,165008024]⟩ (.one ⟨(some 60),(.load false 1 (.t 59)),none,165008008,[165008021,165008022,165008024]⟩ (.one ⟨(some 75),(.dp 1 (.t 55) (.t 60)),none,165008023,[165008024]⟩ (.one ⟨none,(.store 1 (.t 75) (.t 74)),none,165008024,[]⟩ (.eb false [])))))))))))))))))))))))))))))) (.eb false [q 26 (.cG (.t 6)) 165006000,q 27 (.bin .add .i64 (.t 26) (.k (.int .i64 1))) 165006001,q 6 (.cG (.t 27)) 165006002])))))) (.seq (.eb false [q 76 (.cG (.t 5)) 165009000,q 4 (.cG (.t 76)) 165009001]) .ret)))))),[(.tmp 4)]⟩
theorem Kx:ud Tryz.prog 165 [(7,2),(8,2)]=some LZ:=by kernel_rfl
def L1:xt:=⟨118,2,(.seq (.eb false [q 4 (.cG (.k .bC)) 168000000]) (.seq (.eb false [q 17 (.cG (.t 0)) 168001000,q 18 (.jg [.gj] (.t 17) (.t 17)) 168001001,q 5 (.cG (.t 18)) 168001002]) (.seq (.seq (.eb false [q 19 (.cG (.t 5)) 168002000,q 20 (.len (.t 19)) 168002001,q 21 (.cG (.k (.int .i64 0))) 168002002]) (.block 0 (.loop (.seq (.eb false [q 22 (.bin .lss .i64 (.t 21) (.t 20)) 168003000]) (.seq (.cond (.t 22) .skip (.exit 0)) (.seq (.block 1 (.seq (.eb false [q 23 (.cG (.t 21)) 168004000,q 6 (.cG (.t 23)) 168004001]) (.eb false [q 24 (.cG (.t 5)) 168005000,q 25 (.cG (.t 6)) 168005001,q 26 (.cG (.t 6)) 168005002,q 27 (.build [.gj,(.int .i64 0)] [(1,(1,(.t 26)))]) 168005003,q 28 (.box (.t 27)) 168005004,q 29 (.dp 1 (.t 24) (.t 25)) 168005005,⟨none,(.store 1 (.t 29) (.t 28)),none,168005006,[]⟩]))) (.eb false [q 30 (.bin .add .i64 (.t 21) (.k (.int .i64 1))) 168006000,q 21 (.cG (.t 30)) 168006001]))))))) (.seq (.seq (.eb false [q 31 (.cG (.t 1)) 168007000,q 32 (.len (.t 31)) 168007001,q 33 (.cG (.k (.int .i64 0))) 168007002]) (.block 2 (.loop (.seq (.eb false [q 34 (.bin .lss .i64 (.t 33) (.t 32)) 168008000]) (.seq (.cond (.t 34) .skip (.exit 2)) (.seq (.block 3 (.seq (.eb false [q 35 (.dp 3 (.t 31) (.t 33)) 168009000,q 36 (.load true 3 (.t 35)) 168009001,q 8 (.new [(.int .i64 0),(.int .i64 0),(.int .i64 0)]) 168009002,⟨none,(.store 3 (.t 8) (.t 36)),none,168009003,[]⟩]) (.seq (.one (q 37 (.cG (.t 5)) 168010000) (.one (q 38 (.fm 0 (.t 8)) 168010001) (.one (q 39 (.load false 1 (.t 38)) 168010002) (.one (q 40 (.dp 1 (.t 37) (.t 39)) 168010003) (.one (q 41 (.load false 1 (.t 40)) 168010004) (.one (q 43 (.cG (.t 5)) 168010006) (.one (q 44 (.fm 1 (.t 8)) 168010007) (.both (.one (q 42 (.call 184 [(.t 41)]) 168010005) (.one (q 45 (.load false 1 (.t 44)) 168010008) (.one (q 46 (.dp 1 (.t 43) (.t 45)) 168010009) (.one (q 47 (.load false 1 (.t 46)) 168010010) (.one (q 48 (.call 184 [(.t 47)]) 168010011) (.one (q 9 (.cG (.t 42)) 168010012) (.one (q 10 (.cG (.t 48)) 168010013) (.eb false [])))))))) (.one (q 45 (.load false 1 (.t 44)) 168010008) (.both (.one (q 42 (.call 184 [(.t 41)]) 168010005) (.one (q 46 (.dp 1 (.t 43) (.t 45)) 168010009) (.one (q 47 (.load false 1 (.t 46)) 168010010) (.one (q 48 (.call 184 [(.t 47)]) 168010011) (.one (q 9 (.cG (.t 42)) 168010012) (.one (q 10 (.cG (.t 48)) 168010013) (.eb false []))))))) (.one (q 46 (.dp 1 (.t 43) (.t 45)) 168010009) (.both (.one (q 42 (.call 184 [(.t 41)]) 168010005) (.one (q 47 (.load false 1 (.t 46)) 168010010) (.one (q 48 (.call 184 [(.t 47)]) 168010011) (.one (q 9 (.cG (.t 42)) 168010012) (.one (q 10 (.cG (.t 48)) 168010013) (.eb false [])))))) (.one (q 47 (.load false 1 (.t 46)) 168010010) (.one (q 42 (.call 184 [(.t 41)]) 168010005) (.one (q 48 (.call 184 [(.t 47)]) 168010011) (.one (q 9 (.cG (.t 42)) 168010012) (.one (q 10 (.cG (.t 48)) 168010013) (.eb false [])))))))))))))))))) (.block 4 (.seq (.eb true [q 50 (.cG (.t 9)) 168011000,q 51 (.x9 (.t 50)) 168011001,q 52 (.fm 1 (.t 51)) 168011002,q 53 (.load false 1 (.t 52)) 168011003,q 54 (.cG (.t 10)) 168011004,q 55 (.x9 (.t 54)) 168011005,q 56 (.fm 1 (.t 55)) 168011006,q 57 (.load false 1 (.t 56)) 168011007,q 58 (.bin .lss .i64 (.t 53) (.t 57)) 168011008,q 49 (.cG (.t 58)) 168011009]) (.cond (.t 49) (.eb false [q 59 (.cG (.t 10)) 168012000,q 60 (.cG (.t 9)) 168012001,q 61 (.x9 (.t 59)) 168012002,q 62 (.fm 0 (.t 61)) 168012003,⟨none,(.store 1 (.t 62) (.t 60)),none,168012004,[]⟩]) (.seq (.eb true [q 64 (.cG (.t 10)) 168013000,q 65 (.x9 (.t 64)) 168013001,q 66 (.fm 1 (.t 65)) 168013002,q 67 (.load false 1 (.t 66)) 168013003,q 68 (.cG (.t 9)) 168013004,q 69 (.x9 (.t 68)) 168013005,q 70 (.fm 1 (.t 69)) 168013006,q 71 (.load false 1 (.t 70)) 168013007,q 72 (.bin .lss .i64 (.t 67) (.t 71)) 168013008,q 63 (.cG (.t 72)) 168013009]) (.cond (.t 63) (.eb false [q 73 (.cG (.t 9)) 168014000,q 74 (.cG (.t 10)) 168014001,q 75 (.x9 (.t 73)) 168014002,q 76 (.fm 0 (.t 75)) 168014003,⟨none,(.store 1 (.t 76) (.t 74)),none,168014004,[]⟩]) .skip)))))))) (.eb false [q 77 (.bin .add .i64 (.t 33) (.k (.int .i64 1))) 168015000,q 33 (.cG (.t 77)) 168015001]))))))) (.seq (.eb false [q 11 (.cG (.k .bC)) 168016000]) (.seq (.eb false [⟨(some 78),(.mq (.new ⟨false,[.tI]⟩) []),none,168017000,[]⟩,q 12 (.cG (.t 78)) 168017001]) (.seq (.seq (.eb false [q 79 (.cG (.t 5)) 168018000,q 80 (.len (.t 79)) 168018001,q 81 (.cG (.k (.int .i64 0))) 168018002]) (.block 5 (.loop (.seq (.eb false [q 82 (.bin .lss .i64 (.t 81) (.t 80)) 168019000]) (.seq (.cond (.t 82) .skip (.exit 5)) (.seq (.block 6 (.seq (.eb false [q 83 (.cG (.t 81)) 168020000,q 84 (.dp 1 (.t 79) (.t 81)) 168020001,q 85 (.load false 1 (.t 84)) 168020002,q 13 (.cG (.t 83)) 168020003,q 14 (.cG (.t 85)) 168020004]) (.seq (.eb false [q 87 (.cG (.t 12)) 168021000,q 88 (.cG (.t 14)) 168021001,q 89 (.call 184 [(.t 88)]) 168021002,q 90 (.x9 (.t 89)) 168021003,q 91 (.fm 1 (.t 90)) 168021004,q 92 (.load false 1 (.t 91)) 168021005,⟨(some 93),(.mq (.look ⟨false,[.tI]⟩ true (.int .i64 0)) [(.t 87),(.t 92)]),none,168021006,[]⟩,q 86 (.cG (.t 93)) 168021007,q 94 (.extract 0 (.t 86)) 168021008,q 95 (.extract 1 (.t 86)) 168021009,q 15 (.cG (.t 94)) 168021010,q 16 (.cG (.t 95)) 168021011]) (.seq (.seq (.eb false [q 96 (.cG (.t 16)) 168022000,q 97 (.not (.t 96)) 168022001]) (.cond (.t 97) (.seq (.eb false [q 98 (.cG (.t 11)) 168023000,q 99 (.len (.t 98)) 168023001,q 15 (.cG (.t 99)) 168023002]) (.seq (.eb false [q 100 (.cG (.t 12)) 168024000,q 101 (.cG (.t 13)) 168024001,q 102 (.cG (.t 15)) 168024002,⟨none,(.mw (.set ⟨false,[.tI]⟩) [(.t 100),(.t 101),(.t 102)]),none,168024003,[]⟩]) (.eb false [q 103 (.cG (.t 11)) 168025000,q 104 (.lD 1 1 [(.k .bC)]) 168025001,q 105 (.append 1 (.t 103) (.t 104)) 168025002,q 11 (.cG (.t 105)) 168025003]))) .skip)) (.eb false [q 106 (.cG (.t 11)) 168026000,q 107 (.cG (.t 15)) 168026001,q 108 (.cG (.t 11)) 168026002,q 109 (.cG (.t 15)) 168026003,q 110 (.dp 1 (.t 108) (.t 109)) 168026004,q 111 (.load false 1 (.t 110)) 168026005,q 112 (.cG (.t 13)) 168026006,q 113 (.lD 1 1 [(.t 112)]) 168026007,q 114 (.append 1 (.t 111) (.t 113)) 168026008,q 115 (.dp 1 (.t 106) (.t 107)) 168026009,⟨none,(.store 1 (.t 115) (.t 114)),none,168026010,[]⟩]))))) (.eb false [q 116 (.bin .add .i64 (.t 81) (.k (.int .i64 1))) 168027000,q 81 (.cG (.t 116)) 168027001]))))))) (.seq (.eb false [q 117 (.cG (.t 11)) 168028000,q 4 (.cG (.t 117)) 168028001]) .ret)))))))),[(.tmp 4)]⟩
theorem Ky:ud Tryz.prog 168 [(10,2)]=some L1:=by kernel_rfl
end Go.Proofs.YtihgaadadaekmaaGreatDoor.V

namespace Go.Proofs.YtihgaadadaekmaaGreatDoor.V
open Go.RowKit
attribute [local irreducible] dP wpOps gN Call
attribute [local go_sem] aI fI eE fW fV cv upd cq K.av cL AV.cells AV.cell rowOf rowsOf part ld rowAt bK bY dH eh ij bL da eA fZ eX dr eo cY cX dR dS bR bf cQ bQ cT cR ej ep ek cP bU cZ ei bP aM cV cz ig br cI bS aZ dD bp dJ AV.undef bB bH dX ef dO ea cF ez eC cu eu er cU cW List.getD_cons_zero List.getD_cons_succ List.getD_nil List.all_cons List.all_nil Bool.and_true Bool.true_and Bool.and_self Bool.not_true Bool.not_false Option.map_some Option.map_none Option.bind_some Option.bind_none List.length_cons List.length_nil List.take_succ_cons List.take_zero List.take_nil List.drop_succ_cons List.drop_zero List.drop_nil List.head?_cons List.map_cons List.map_nil List.getElem?_cons_zero List.getElem?_cons_succ List.cons_append List.nil_append List.append_nil List.length_map List.set_cons_zero List.set_cons_succ Nat.reduceMul eq_self Int.toNat_natCast Int.natCast_nonneg and_self true_and and_true decide_true decide_false Bool.false_eq_true Nat.zero_add Nat.add_zero List.contains_cons List.contains_nil Bool.or_false Bool.false_or beq_self_eq_true Nat.reduceBEq ne_eq not_true_eq_false not_false_eq_true Id.mk.injEq false_and and_false Nat.reduceLT Int.reduceLE Int.reduceLT Int.reduceToNat Int.reduceNeg Int.reduceAdd Nat.le_refl List.length_append beq_true beq_false Bool.not_eq_eq_eq_not or_false false_or dz ad aj aH bx cl aQ bj aW bh cN bz
theorem yy (x:eR) (g:Rows):bW g 6 [.agg (aT x)]=some [.agg (aT x)]:=by simp[aT,ad,aj,bj,bx,aH]
theorem yz (x:ee) (g:Rows):bW g 6 [.agg (aU x)]=some [.agg (aU x)]:=by simp[aU,ad,aj,bj,bx,cl]
theorem Am (x:ak) (g:Rows):bW g 6 [.agg (ah x)]=some [.agg (ah x)]:=by simp[ah,ad,aj,bj,aH]
theorem gE {n:Nat} {l:Int} (h:(n:Int)<=l):uC n l=l-n:=if_pos h
theorem gL {n:Nat} {l:Int} (h:¬(n:Int)<=l):uC n l= -1:=if_neg h
def jG (t:ee):Nat:=t.aB.size+t.aX.length
def rV (s:aq):Nat:=(s.ar.length+(s.ar.map fun g=>g.aB.size).sum)+(s.ae.length+(s.ae.map jG).sum)
def tQ (s:ck):Nat:=rV s.aA+s.bJ.ae.length
def fC (s:aq):Prop:=(∀g∈s.ar,g.aB.size<=9223372036854775807)/\∀t∈s.ae,t.aB.size<=9223372036854775807
theorem G1 (g:eR) (l:Int) (h0:0<=l) (h1:l<=1048576) (hs:g.aB.size<=9223372036854775807):ai Tryz.prog 90 [.agg (aT g),.int .i64 l] (.int .i64 (uC g.aB.size l)):=by
 refine ai.body dN rfl fun hl n0=>?_
 clear hl
 have hw:IntKind.i64.wrap (l-(g.aB.size:Int))=l-g.aB.size:=aY ab
 by_cases hf:(g.aB.size:Int)<=l
 ·have kU:¬l-(g.aB.size:Int)<0:=ab
  (try((repeat(revert hN;revert N;apply Pn.out));refine wk (tw @aT.eq_1 (tw @hw @kU)) ?_;(repeat(refine Pn.mk ?_;intro N hN))))
  exact bq (b:=l-(g.aB.size:Int)) (.inl rfl) (sd @Nat.zero_add) (gE hf).symm
 ·have kU:l-(g.aB.size:Int)<0:=ab
  (try((repeat(revert hN;revert N;apply Pn.out));refine wk (tw @aT.eq_1 (tw @hw @kU)) ?_;(repeat(refine Pn.mk ?_;intro N hN))))
  exact bq (b:=-1) (.inl rfl) (sd @Nat.zero_add) (gL hf).symm
theorem G2 (xs:List Int) (l:Int) (h0:0<=l) (h1:l<=1048576):ai Tryz.prog 82 [.sl (xs.map az),.int .i64 l] (.int .i64 (uC xs.length l)):=by
 have h:=G4 (show lE Tryz.prog 82=some (G3 82) by kernel_rfl) (xs.map az) l h0 h1
 rwa [List.length_map]at h
theorem G7 (t:ee) (l:Int) (h0:0<=l) (h1:l<=1048576) (hs:t.aB.size<=9223372036854775807):ai Tryz.prog 91 [.agg (aU t),.int .i64 l] (.int .i64 (uC (jG t) l)):=by
 refine ai.body dN rfl fun hl n0=>?_
 clear hl
 have hw:IntKind.i64.wrap (l-(t.aB.size:Int))=l-t.aB.size:=aY ab
 by_cases hf:(t.aB.size:Int)<=l
 ·have kU:¬l-(t.aB.size:Int)<0:=ab
  have hc:=G2 t.aX (l-t.aB.size) ab ab
  by_cases hg:(t.aX.length:Int)<=l-t.aB.size
  ·rw[gE hg]at hc
   have HA:¬l-(t.aB.size:Int)-(t.aX.length:Int)<0:=ab
   (repeat(first|((repeat(revert hN;revert N;apply Pn.out));refine wk (tw @aU.eq_1 (tw @hw (tw @kU @HA))) ?_;(repeat(refine Pn.mk ?_;intro N hN)))|((try apply Or.inl);refine⟨_,ai.x (hc) (sd (tw @aU.eq_1 (tw @hw (tw @kU @HA)))),?_⟩;refine hN _ _ ?_;clear hN N)))
   exact bq (b:=l-(t.aB.size:Int)-(t.aX.length:Int)) (.inl rfl) (sd @Nat.zero_add) (by rw[gE (by unfold jG;omega)];unfold jG;omega)
  ·rw[gL hg]at hc
   (repeat(first|((repeat(revert hN;revert N;apply Pn.out));refine wk (tw @aU.eq_1 (tw @hw @kU)) ?_;(repeat(refine Pn.mk ?_;intro N hN)))|((try apply Or.inl);refine⟨_,ai.x (hc) (sd (tw @aU.eq_1 (tw @hw @kU))),?_⟩;refine hN _ _ ?_;clear hN N)))
   exact bq (b:=-1) (.inl rfl) (sd @Nat.zero_add) (gL (by unfold jG;omega)).symm
 ·have kU:l-(t.aB.size:Int)<0:=ab
  (try((repeat(revert hN;revert N;apply Pn.out));refine wk (tw @aU.eq_1 (tw @hw @kU)) ?_;(repeat(refine Pn.mk ?_;intro N hN))))
  exact bq (b:=-1) (.inl rfl) (sd @Nat.zero_add) (gL (by unfold jG;omega)).symm
theorem Eo (xs:List eR) (l:Int) (h0:0<=l) (h1:l<=1048576) (hs:∀g∈xs,g.aB.size<=9223372036854775807):ai Tryz.prog 63 [.sl (xs.map aT),.int .i64 l] (.int .i64 (uC (xs.length+(xs.map fun g=>g.aB.size).sum) l)):=
 G6 (fun g:eR=>g.aB.size) (show lE Tryz.prog 63=some (G5 63 90 2) by kernel_rfl) (fun _=>rfl) yy xs l h0 h1 fun x hx l a b=>G1 x l a b (hs x hx)
theorem Ep (xs:List ee) (l:Int) (h0:0<=l) (h1:l<=1048576) (hs:∀t∈xs,t.aB.size<=9223372036854775807):ai Tryz.prog 64 [.sl (xs.map aU),.int .i64 l] (.int .i64 (uC (xs.length+(xs.map jG).sum) l)):=
 G6 jG (show lE Tryz.prog 64=some (G5 64 91 2) by kernel_rfl) (fun _=>rfl) yz xs l h0 h1 fun x hx l a b=>G7 x l a b (hs x hx)
theorem BC (xs:List ak) (l:Int) (h0:0<=l) (h1:l<=1048576):ai Tryz.prog 34 [.sl (xs.map ah),.int .i64 l] (.int .i64 (uC xs.length l)):=by
 have h:=G4 (show lE Tryz.prog 34=some (G3 34) by kernel_rfl) (xs.map ah) l h0 h1
 rwa [List.length_map]at h
theorem zq (s:aq) (l:Int) (h0:0<=l) (h1:l<=1048576) (hs:fC s):ai Tryz.prog 33 [.agg (aa s),.int .i64 l] (.int .i64 (uC (rV s) l)):=by
 refine ai.body dN rfl fun hl n0=>?_
 clear hl
 have ha:=Eo s.ar l h0 h1 hs.1
 have he:rV s=(s.ar.length+(s.ar.map fun g=>g.aB.size).sum)+(s.ae.length+(s.ae.map jG).sum):=rfl
 by_cases hf:((s.ar.length+(s.ar.map fun g=>g.aB.size).sum:Nat):Int)<=l
 ·rw[gE hf]at ha
  obtain⟨A,hA⟩:∃A:Int,A=l-((s.ar.length+(s.ar.map fun g=>g.aB.size).sum:Nat):Int):=⟨_,rfl⟩
  rw[<-hA]at ha
  have kU:¬A<0:=ab
  have hb:=Ep s.ae A ab ab hs.2
  by_cases hg:((s.ae.length+(s.ae.map jG).sum:Nat):Int)<=A
  ·rw[gE hg]at hb
   obtain⟨B,hB⟩:∃B:Int,B=A-((s.ae.length+(s.ae.map jG).sum:Nat):Int):=⟨_,rfl⟩
   rw[<-hB]at hb
   have HA:¬B<0:=ab
   (repeat(first|((repeat(revert hN;revert N;apply Pn.out));refine wk (tw @aa.eq_1 (tw @kU @HA)) ?_;(repeat(refine Pn.mk ?_;intro N hN)))|((try apply Or.inl);refine⟨_,ai.x (ha) (sd (tw @aa.eq_1 (tw @kU @HA))),?_⟩;refine hN _ _ ?_;clear hN N)|((try apply Or.inl);refine⟨_,ai.x (hb) (sd (tw @aa.eq_1 (tw @kU @HA))),?_⟩;refine hN _ _ ?_;clear hN N)))
   exact bq (b:=B) (.inl rfl) (sd @Nat.zero_add) (by rw[gE ab];omega)
  ·rw[gL hg]at hb
   (repeat(first|((repeat(revert hN;revert N;apply Pn.out));refine wk (tw @aa.eq_1 @kU) ?_;(repeat(refine Pn.mk ?_;intro N hN)))|((try apply Or.inl);refine⟨_,ai.x (ha) (sd (tw @aa.eq_1 @kU)),?_⟩;refine hN _ _ ?_;clear hN N)|((try apply Or.inl);refine⟨_,ai.x (hb) (sd (tw @aa.eq_1 @kU)),?_⟩;refine hN _ _ ?_;clear hN N)))
   exact bq (b:=-1) (.inl rfl) (sd @Nat.zero_add) (gL ab).symm
 ·rw[gL hf]at ha
  (repeat(first|((repeat(revert hN;revert N;apply Pn.out));refine wk @aa.eq_1 ?_;(repeat(refine Pn.mk ?_;intro N hN)))|((try apply Or.inl);refine⟨_,ai.x (ha) (sd @aa.eq_1),?_⟩;refine hN _ _ ?_;clear hN N)))
  exact bq (b:=-1) (.inl rfl) (sd @Nat.zero_add) (gL ab).symm
theorem pV (a:dd) (l:Int) (h0:0<=l) (h1:l<=1048576):ai Tryz.prog 8 [.agg (aC a),.int .i64 l] (.int .i64 (uC a.ae.length l)):=by
 refine ai.body dN rfl fun hl n0=>?_
 clear hl
 have ha:=BC a.ae l h0 h1
 by_cases hf:(a.ae.length:Int)<=l
 ·rw[gE hf]at ha
  have kU:¬l-(a.ae.length:Int)<0:=ab
  (repeat(first|((repeat(revert hN;revert N;apply Pn.out));refine wk (tw @aC.eq_1 @kU) ?_;(repeat(refine Pn.mk ?_;intro N hN)))|((try apply Or.inl);refine⟨_,ai.x (ha) (sd (tw @aC.eq_1 @kU)),?_⟩;refine hN _ _ ?_;clear hN N)))
  exact bq (b:=l-(a.ae.length:Int)) (.inl rfl) (sd @Nat.zero_add) (gE hf).symm
 ·rw[gL hf]at ha
  (repeat(first|((repeat(revert hN;revert N;apply Pn.out));refine wk @aC.eq_1 ?_;(repeat(refine Pn.mk ?_;intro N hN)))|((try apply Or.inl);refine⟨_,ai.x (ha) (sd @aC.eq_1),?_⟩;refine hN _ _ ?_;clear hN N)))
  exact bq (b:=-1) (.inl rfl) (sd @Nat.zero_add) (gL hf).symm
theorem BD (s:ck) (l:Int) (h0:0<=l) (h1:l<=1048576) (hs:fC s.aA):ai Tryz.prog 7 [.agg (ay s),.int .i64 l] (.int .i64 (uC (tQ s) l)):=by
 refine ai.body dN rfl fun hl n0=>?_
 clear hl
 have ha:=zq s.aA l h0 h1 hs
 rw[aa]at ha
 have he:tQ s=rV s.aA+s.bJ.ae.length:=rfl
 by_cases hf:(rV s.aA:Int)<=l
 ·rw[gE hf]at ha
  have kU:¬l-(rV s.aA:Int)<0:=ab
  have hb:=pV s.bJ (l-rV s.aA) ab ab
  rw[aC]at hb
  by_cases hg:(s.bJ.ae.length:Int)<=l-rV s.aA
  ·rw[gE hg]at hb
   have HA:¬l-(rV s.aA:Int)-(s.bJ.ae.length:Int)<0:=ab
   (repeat(first|((repeat(revert hN;revert N;apply Pn.out));refine wk (tw @ay.eq_1 (tw @kU @HA)) ?_;(repeat(refine Pn.mk ?_;intro N hN)))|((try apply Or.inl);refine⟨_,ai.x (ha) (sd (tw @ay.eq_1 (tw @kU @HA))),?_⟩;refine hN _ _ ?_;clear hN N)|((try apply Or.inl);refine⟨_,ai.x (hb) (sd (tw @ay.eq_1 (tw @kU @HA))),?_⟩;refine hN _ _ ?_;clear hN N)))
   exact bq (b:=l-(rV s.aA:Int)-(s.bJ.ae.length:Int)) (.inl rfl) (sd @Nat.zero_add) (by rw[gE ab];omega)
  ·rw[gL hg]at hb
   (repeat(first|((repeat(revert hN;revert N;apply Pn.out));refine wk (tw @ay.eq_1 @kU) ?_;(repeat(refine Pn.mk ?_;intro N hN)))|((try apply Or.inl);refine⟨_,ai.x (ha) (sd (tw @ay.eq_1 @kU)),?_⟩;refine hN _ _ ?_;clear hN N)|((try apply Or.inl);refine⟨_,ai.x (hb) (sd (tw @ay.eq_1 @kU)),?_⟩;refine hN _ _ ?_;clear hN N)))
   exact bq (b:=-1) (.inl rfl) (sd @Nat.zero_add) (gL ab).symm
 ·rw[gL hf]at ha
  (repeat(first|((repeat(revert hN;revert N;apply Pn.out));refine wk @ay.eq_1 ?_;(repeat(refine Pn.mk ?_;intro N hN)))|((try apply Or.inl);refine⟨_,ai.x (ha) (sd @ay.eq_1),?_⟩;refine hN _ _ ?_;clear hN N)))
  exact bq (b:=-1) (.inl rfl) (sd @Nat.zero_add) (gL ab).symm
theorem Jc (x:eR) (g:Rows):bW g 5 (aT x)=some (aT x):=by simp[aT,ad,aj,bx,aH]
theorem Jd (x:ee) (g:Rows):bW g 5 (aU x)=some (aU x):=by simp[aU,ad,aj,bx,cl]
theorem Ee (x:ak) (g:Rows):bW g 5 (ah x)=some (ah x):=by simp[ah,ad,aj,aH]
theorem vO (p:bI):jC Tryz.prog 100 [.agg (ao p)] (.agg (ao p)):=by
 refine jC.body dN rfl fun hl σ=>?_
 clear hl
 (try((repeat(revert hN;revert N;apply Pn.out));refine wk @ao.eq_1 ?_;(repeat(refine Pn.mk ?_;intro N hN))))
 exact qE (.inl rfl) (vs:=[.agg (ao p)]) (by simp only[go_sem, ↓reduceIte,Nat.reduceEqDiff,Nat.reduceAdd,Nat.reduceSub,Nat.reduceLeDiff,reduceCtorEq,eQ,gI,ao]) (by simp[dU,ao,bj,ad,aj,aH])
theorem BF (p:ak):jC Tryz.prog 71 [.agg (ah p)] (.agg (ah p)):=by
 refine jC.body dN rfl fun hl σ=>?_
 clear hl
 have h:=vO p.cC
 rw[ao]at h
 (repeat(first|((repeat(revert hN;revert N;apply Pn.out));refine wk @ah.eq_1 ?_;(repeat(refine Pn.mk ?_;intro N hN)))|((try apply Or.inl);refine⟨_,jC.x (h) _,?_⟩;refine hN _ _ ?_;clear hN N)))
 exact qE (.inl rfl) (vs:=[.agg (ah p)]) (by simp only[go_sem, ↓reduceIte,Nat.reduceEqDiff,Nat.reduceAdd,Nat.reduceSub,Nat.reduceLeDiff,reduceCtorEq,eQ,gI,ah]) (by simp[dU,ah,bj,ad,aj,aH])
theorem Hc (p:eR):jC Tryz.prog 98 [.agg (aT p)] (.agg (aT p)):=by
 refine jC.body dN rfl fun hl σ=>?_
 clear hl
 (try((repeat(revert hN;revert N;apply Pn.out));refine wk @aT.eq_1 ?_;(repeat(refine Pn.mk ?_;intro N hN))))
 exact qE (.inl rfl) (vs:=[.agg (aT p)]) (by simp only[go_sem, ↓reduceIte,Nat.reduceEqDiff,Nat.reduceAdd,Nat.reduceSub,Nat.reduceLeDiff,reduceCtorEq,eQ,gI,aT]) (by simp[dU,aT,bj,ad,aj,aH,bx])
theorem He (xs:List Int) (h:xs.length<=1048576):jC Tryz.prog 86 [.sl (xs.map az)] (.sl (xs.map az)):=
 OA (show lE Tryz.prog 86=some (Hf 86 (.int .i64 0)) by kernel_rfl) xs h
def qd (t:ee):Prop:=t.aX.length<=1048576
theorem Hh (p:ee) (hs:qd p):jC Tryz.prog 99 [.agg (aU p)] (.agg (aU p)):=by
 refine jC.body dN rfl fun hl σ=>?_
 clear hl
 have h:=He p.aX hs
 (repeat(first|((repeat(revert hN;revert N;apply Pn.out));refine wk @aU.eq_1 ?_;(repeat(refine Pn.mk ?_;intro N hN)))|((try apply Or.inl);refine⟨_,jC.x (h) _,?_⟩;refine hN _ _ ?_;clear hN N)))
 exact qE (.inl rfl) (vs:=[.agg (aU p)]) (by simp only[go_sem, ↓reduceIte,Nat.reduceEqDiff,Nat.reduceAdd,Nat.reduceSub,Nat.reduceLeDiff,reduceCtorEq,eQ,gI,aU]) (by simp[dU,aU,bj,ad,aj,cl,bx])
theorem yj (xs ys:List Int):ai Tryz.prog 22 [.sl (xs.map az),.sl (ys.map az)] (.bool (decide (xs=ys))):=
 Nf (show lE Tryz.prog 22=some (JF 22 .tI) by kernel_rfl) xs ys
theorem FA (a b:ee):ai Tryz.prog 110 [.agg (aU a),.agg (aU b)] (.bool (decide (a=b))):=by
 refine ai.body dN rfl fun hl n0=>?_
 clear hl
 have h:=yj a.aX b.aX
 by_cases h1:a.aB=b.aB
 ·have e1:decide (a.aB=b.aB)=true:=decide_eq_true h1
  by_cases h2:a.aX=b.aX
  ·rw[decide_eq_true h2]at h
   (repeat(first|((repeat(revert hN;revert N;apply Pn.out));refine wk (tw @aU.eq_1 @e1) ?_;(repeat(refine Pn.mk ?_;intro N hN)))|((try apply Or.inl);refine⟨_,ai.x (h) (sd (tw @aU.eq_1 @e1)),?_⟩;refine hN _ _ ?_;clear hN N)))
   exact aJ (b:=true) (.inl rfl) (sd @Nat.zero_add) (decide_eq_true (by cases a;cases b;simp_all)).symm
  ·rw[decide_eq_false h2]at h
   (repeat(first|((repeat(revert hN;revert N;apply Pn.out));refine wk (tw @aU.eq_1 @e1) ?_;(repeat(refine Pn.mk ?_;intro N hN)))|((try apply Or.inl);refine⟨_,ai.x (h) (sd (tw @aU.eq_1 @e1)),?_⟩;refine hN _ _ ?_;clear hN N)))
   exact aJ (b:=false) (.inl rfl) (sd @Nat.zero_add) (decide_eq_false (by rintro rfl;exact h2 rfl)).symm
 ·have e1:decide (a.aB=b.aB)=false:=decide_eq_false h1
  (try((repeat(revert hN;revert N;apply Pn.out));refine wk (tw @aU.eq_1 @e1) ?_;(repeat(refine Pn.mk ?_;intro N hN))))
  exact aJ (b:=false) (.inl rfl) (sd @Nat.zero_add) (decide_eq_false (by rintro rfl;exact h1 rfl)).symm
theorem Ev (xs:List eR) (h:xs.length<=1048576):jC Tryz.prog 69 [.sl (xs.map aT)] (.sl (xs.map aT)):=
 BG (show lE Tryz.prog 69=some (rH 69 98 2 [.str [],.int .i64 0]) by kernel_rfl) rfl (fun _=>rfl) (fun _=>rfl) Jc xs h fun x _=>Hc x
theorem Ey (xs:List ee) (h:xs.length<=1048576) (hs:∀t∈xs,qd t):jC Tryz.prog 70 [.sl (xs.map aU)] (.sl (xs.map aU)):=
 BG (show lE Tryz.prog 70=some (rH 70 99 2 [.str [],.bC]) by kernel_rfl) rfl (fun _=>rfl) (fun _=>rfl) Jd xs h fun x hx=>Hh x (hs x hx)
theorem zu (xs:List ak) (h:xs.length<=1048576):jC Tryz.prog 40 [.sl (xs.map ah)] (.sl (xs.map ah)):=
 BG (show lE Tryz.prog 40=some (rH 40 71 3 [.int .i64 0,.int .i64 0,.int .i64 0]) by kernel_rfl) rfl (fun _=>rfl) (fun _=>rfl) Ee xs h fun x _=>BF x
structure Fa (s:aq):Prop where
 g:s.ar.length<=1048576
 t:s.ae.length<=1048576
 s:∀t∈s.ae,qd t
structure qR (y:ck):Prop where
 s:Fa y.aA
 a:y.bJ.ae.length<=1048576
theorem zx (p:aq) (hs:Fa p):jC Tryz.prog 39 [.agg (aa p)] (.agg (aa p)):=by
 refine jC.body dN rfl fun hl σ=>?_
 clear hl
 have h1:=Ev p.ar hs.g
 have h2:=Ey p.ae hs.t hs.s
 (repeat(first|((repeat(revert hN;revert N;apply Pn.out));refine wk @aa.eq_1 ?_;(repeat(refine Pn.mk ?_;intro N hN)))|((try apply Or.inl);refine⟨_,jC.x (h1) _,?_⟩;refine hN _ _ ?_;clear hN N)|((try apply Or.inl);refine⟨_,jC.x (h2) _,?_⟩;refine hN _ _ ?_;clear hN N)))
 exact qE (.inl rfl) (vs:=[.agg (aa p)]) (by simp only[go_sem, ↓reduceIte,Nat.reduceEqDiff,Nat.reduceAdd,Nat.reduceSub,Nat.reduceLeDiff,reduceCtorEq,eQ,gI,aa]) (by simp[dU,aa,bj,ad,aj,cl])
theorem pZ (p:dd) (hs:p.ae.length<=1048576):jC Tryz.prog 11 [.agg (aC p)] (.agg (aC p)):=by
 refine jC.body dN rfl fun hl σ=>?_
 clear hl
 have h1:=zu p.ae hs
 (repeat(first|((repeat(revert hN;revert N;apply Pn.out));refine wk @aC.eq_1 ?_;(repeat(refine Pn.mk ?_;intro N hN)))|((try apply Or.inl);refine⟨_,jC.x (h1) _,?_⟩;refine hN _ _ ?_;clear hN N)))
 exact qE (.inl rfl) (vs:=[.agg (aC p)]) (by simp only[go_sem, ↓reduceIte,Nat.reduceEqDiff,Nat.reduceAdd,Nat.reduceSub,Nat.reduceLeDiff,reduceCtorEq,eQ,gI,aC]) (by simp[dU,aC,bj,ad,aj,cl])
theorem BI (p:ck) (hs:qR p):jC Tryz.prog 10 [.agg (ay p)] (.agg (ay p)):=by
 refine jC.body dN rfl fun hl σ=>?_
 clear hl
 have h1:=zx p.aA hs.s
 have h2:=pZ p.bJ hs.a
 rw[aa]at h1
 rw[aC]at h2
 (repeat(first|((repeat(revert hN;revert N;apply Pn.out));refine wk @ay.eq_1 ?_;(repeat(refine Pn.mk ?_;intro N hN)))|((try apply Or.inl);refine⟨_,jC.x (h1) _,?_⟩;refine hN _ _ ?_;clear hN N)|((try apply Or.inl);refine⟨_,jC.x (h2) _,?_⟩;refine hN _ _ ?_;clear hN N)))
 exact qE (.inl rfl) (vs:=[.agg (ay p)]) (by simp only[go_sem, ↓reduceIte,Nat.reduceEqDiff,Nat.reduceAdd,Nat.reduceSub,Nat.reduceLeDiff,reduceCtorEq,eQ,gI,ay]) (by simp[dU,ay,bj,ad,aj,cl,aH])
theorem Fz (a b:eR):ai Tryz.prog 109 [.agg (aT a),.agg (aT b)] (.bool (decide (a=b))):=by
 refine ai.body dN rfl fun hl n0=>?_
 clear hl
 by_cases h1:a.aB=b.aB
 ·have e1:decide (a.aB=b.aB)=true:=decide_eq_true h1
  by_cases h2:a.dG=b.dG
  ·have e2:decide (a.dG=b.dG)=true:=decide_eq_true h2
   (try((repeat(revert hN;revert N;apply Pn.out));refine wk (tw @aT.eq_1 (tw @e1 @e2)) ?_;(repeat(refine Pn.mk ?_;intro N hN))))
   exact aJ (b:=true) (.inl rfl) (sd @Nat.zero_add) (decide_eq_true (by cases a;cases b;simp_all)).symm
  ·have e2:decide (a.dG=b.dG)=false:=decide_eq_false h2
   (try((repeat(revert hN;revert N;apply Pn.out));refine wk (tw @aT.eq_1 (tw @e1 @e2)) ?_;(repeat(refine Pn.mk ?_;intro N hN))))
   exact aJ (b:=false) (.inl rfl) (sd @Nat.zero_add) (decide_eq_false (by rintro rfl;exact h2 rfl)).symm
 ·have e1:decide (a.aB=b.aB)=false:=decide_eq_false h1
  (try((repeat(revert hN;revert N;apply Pn.out));refine wk (tw @aT.eq_1 @e1) ?_;(repeat(refine Pn.mk ?_;intro N hN))))
  exact aJ (b:=false) (.inl rfl) (sd @Nat.zero_add) (decide_eq_false (by rintro rfl;exact h1 rfl)).symm
theorem De (a b:bI):ai Tryz.prog 111 [.agg (ao a),.agg (ao b)] (.bool (decide (a=b))):=by
 refine ai.body dN rfl fun hl n0=>?_
 clear hl
 by_cases h1:a.ga=b.ga
 ·have e1:decide (a.ga=b.ga)=true:=decide_eq_true h1
  by_cases h2:a.fB=b.fB
  ·have e2:decide (a.fB=b.fB)=true:=decide_eq_true h2
   (try((repeat(revert hN;revert N;apply Pn.out));refine wk (tw @ao.eq_1 (tw @e1 @e2)) ?_;(repeat(refine Pn.mk ?_;intro N hN))))
   exact aJ (b:=true) (.inl rfl) (sd @Nat.zero_add) (decide_eq_true (by cases a;cases b;simp_all)).symm
  ·have e2:decide (a.fB=b.fB)=false:=decide_eq_false h2
   (try((repeat(revert hN;revert N;apply Pn.out));refine wk (tw @ao.eq_1 (tw @e1 @e2)) ?_;(repeat(refine Pn.mk ?_;intro N hN))))
   exact aJ (b:=false) (.inl rfl) (sd @Nat.zero_add) (decide_eq_false (by rintro rfl;exact h2 rfl)).symm
 ·have e1:decide (a.ga=b.ga)=false:=decide_eq_false h1
  (try((repeat(revert hN;revert N;apply Pn.out));refine wk (tw @ao.eq_1 @e1) ?_;(repeat(refine Pn.mk ?_;intro N hN))))
  exact aJ (b:=false) (.inl rfl) (sd @Nat.zero_add) (decide_eq_false (by rintro rfl;exact h1 rfl)).symm
theorem z6 (a b:ak):ai Tryz.prog 78 [.agg (ah a),.agg (ah b)] (.bool (decide (a=b))):=by
 refine ai.body dN rfl fun hl n0=>?_
 clear hl
 have h:=De a.cC b.cC
 rw[ao,ao]at h
 by_cases h1:a.cC=b.cC
 ·rw[decide_eq_true h1]at h
  by_cases h2:a.bw=b.bw
  ·have e2:decide (a.bw=b.bw)=true:=decide_eq_true h2
   (repeat(first|((repeat(revert hN;revert N;apply Pn.out));refine wk (tw @ah.eq_1 @e2) ?_;(repeat(refine Pn.mk ?_;intro N hN)))|((try apply Or.inl);refine⟨_,ai.x (h) (sd (tw @ah.eq_1 @e2)),?_⟩;refine hN _ _ ?_;clear hN N)))
   exact aJ (b:=true) (.inl rfl) (sd @Nat.zero_add) (decide_eq_true (by cases a;cases b;simp_all)).symm
  ·have e2:decide (a.bw=b.bw)=false:=decide_eq_false h2
   (repeat(first|((repeat(revert hN;revert N;apply Pn.out));refine wk (tw @ah.eq_1 @e2) ?_;(repeat(refine Pn.mk ?_;intro N hN)))|((try apply Or.inl);refine⟨_,ai.x (h) (sd (tw @ah.eq_1 @e2)),?_⟩;refine hN _ _ ?_;clear hN N)))
   exact aJ (b:=false) (.inl rfl) (sd @Nat.zero_add) (decide_eq_false (by rintro rfl;exact h2 rfl)).symm
 ·rw[decide_eq_false h1]at h
  (repeat(first|((repeat(revert hN;revert N;apply Pn.out));refine wk @ah.eq_1 ?_;(repeat(refine Pn.mk ?_;intro N hN)))|((try apply Or.inl);refine⟨_,ai.x (h) (sd @ah.eq_1),?_⟩;refine hN _ _ ?_;clear hN N)))
  exact aJ (b:=false) (.inl rfl) (sd @Nat.zero_add) (decide_eq_false (by rintro rfl;exact h1 rfl)).symm
theorem Dd (xs ys:List eR):ai Tryz.prog 76 [.sl (xs.map aT),.sl (ys.map aT)] (.bool (decide (xs=ys))):=
 z7 (show lE Tryz.prog 76=some (B7 76 109 2) by kernel_rfl) (fun _=>rfl) yy xs ys Fz
theorem Df (xs ys:List ee):ai Tryz.prog 77 [.sl (xs.map aU),.sl (ys.map aU)] (.bool (decide (xs=ys))):=
 z7 (show lE Tryz.prog 77=some (B7 77 110 2) by kernel_rfl) (fun _=>rfl) yz xs ys FA
theorem qU (xs ys:List ak):ai Tryz.prog 46 [.sl (xs.map ah),.sl (ys.map ah)] (.bool (decide (xs=ys))):=
 z7 (show lE Tryz.prog 46=some (B7 46 78 3) by kernel_rfl) (fun _=>rfl) Am xs ys z6
theorem z8 (a:ck):ai Tryz.prog 14 [.agg (ay a),.agg (ay a)] (.bool true):=by
 have q1:ai Tryz.prog 45 [.agg (aa a.aA),.agg (aa a.aA)] (.bool true):=by
  refine ai.body dN rfl fun hl n0=>?_
  clear hl
  have h1:=Dd a.aA.ar a.aA.ar
  have h2:=Df a.aA.ae a.aA.ae
  rw[decide_eq_true rfl]at h1 h2
  (repeat(first|((repeat(revert hN;revert N;apply Pn.out));refine wk @aa.eq_1 ?_;(repeat(refine Pn.mk ?_;intro N hN)))|((try apply Or.inl);refine⟨_,ai.x (h1) (sd @aa.eq_1),?_⟩;refine hN _ _ ?_;clear hN N)|((try apply Or.inl);refine⟨_,ai.x (h2) (sd @aa.eq_1),?_⟩;refine hN _ _ ?_;clear hN N)))
  exact aJ (b:=true) (.inl rfl) (sd @Nat.zero_add) rfl
 have q2:ai Tryz.prog 15 [.agg (aC a.bJ),.agg (aC a.bJ)] (.bool true):=by
  refine ai.body dN rfl fun hl n0=>?_
  clear hl
  have h1:=qU a.bJ.ae a.bJ.ae
  rw[decide_eq_true rfl]at h1
  (repeat(first|((repeat(revert hN;revert N;apply Pn.out));refine wk @aC.eq_1 ?_;(repeat(refine Pn.mk ?_;intro N hN)))|((try apply Or.inl);refine⟨_,ai.x (h1) (sd @aC.eq_1),?_⟩;refine hN _ _ ?_;clear hN N)))
  exact aJ (b:=true) (.inl rfl) (sd @Nat.zero_add) rfl
 rw[aa]at q1
 rw[aC]at q2
 refine ai.body dN rfl fun hl n0=>?_
 clear hl
 have e:decide (a.aE=a.aE)=true:=decide_eq_true rfl
 (repeat(first|((repeat(revert hN;revert N;apply Pn.out));refine wk (tw @ay.eq_1 @e) ?_;(repeat(refine Pn.mk ?_;intro N hN)))|((try apply Or.inl);refine⟨_,ai.x (q1) (sd (tw @ay.eq_1 @e)),?_⟩;refine hN _ _ ?_;clear hN N)|((try apply Or.inl);refine⟨_,ai.x (q2) (sd (tw @ay.eq_1 @e)),?_⟩;refine hN _ _ ?_;clear hN N)))
 exact aJ (b:=true) (.inl rfl) (sd @Nat.zero_add) rfl
end Go.Proofs.YtihgaadadaekmaaGreatDoor.V

namespace Go.Proofs.YtihgaadadaekmaaGreatDoor.V
open Go.RowKit
def isApp:fD->Bool
 | .append .. =>true
 |_=>false
variable {P:Program} {X:e6} {K:Env->aw->Prop} {env:Env} {σ:aw}
theorem Kh {draw:Bool} {o:aV} {r:List aV} (_:isApp o.op=false) (h:∀N:AV->aw->Prop,(∀v s,wpOps X draw r K (upd env o.dst v) s->N v s)->if aI o.guard env then fI X draw o env σ N else N .undef σ):wpOps X draw (o::r) K env σ:=L5 h
end Go.Proofs.YtihgaadadaekmaaGreatDoor.V

namespace Go.Proofs.YtihgaadadaekmaaGreatDoor.V
open Go.RowKit
section
variable {α:Type} {enc:α->List AV} {sz:Nat} {g g':Rows} {a:AV} {xs:List α} {ids:List Id}
end
abbrev tT (α:Type):=Rows->List AV->α->List Id->Prop
structure ou {α:Type} (R:tT α) (sz:Nat):Prop where
 frame:∀{g g':Rows} {cs x ids},R g cs x ids->(∀i∈ids,g' i=g i)->R g' cs x ids
 len:∀{g cs x ids},R g cs x ids->cs.length=sz
 cell:∀{g cs x ids},R g cs x ids->cs.all AV.cell=true
 live:∀{g cs x ids},R g cs x ids->∀i∈ids,∃r,g i=some r/\r.w=true/\r.sz<n9
 small:sz<n9
inductive cD {α:Type} (R:tT α) (g:Rows):List (List AV)->List α->List Id->Prop
 |nil:cD R g [] [] []
 |cons {cs x i1 rs xs i2}:R g cs x i1->cD R g rs xs i2->cD R g (cs::rs) (x::xs) (i1++i2)
section
variable {α:Type} {R:tT α} {sz:Nat} {g g':Rows} {rows r1 r2:List (List AV)} {xs x1 x2:List α} {ids i1 i2:List Id}
theorem cD.len (h:cD R g rows xs ids):rows.length=xs.length:=by
 induction h with
 |nil=>rfl
 |cons _ _ ih=>simp[ih]
theorem cD.frame (ok:ou R sz) (h:cD R g rows xs ids) (hf:∀i∈ids,g' i=g i):cD R g' rows xs ids:=by
 induction h with
 |nil=>exact .nil
 |cons h1 _ ih=>exact .cons (ok.frame h1 fun i hi=>hf i (List.mem_append_left _ hi)) (ih fun i hi=>hf i (List.mem_append_right _ hi))
theorem cD.app (h1:cD R g r1 x1 i1) (h2:cD R g r2 x2 i2):cD R g (r1++r2) (x1++x2) (i1++i2):=by
 induction h1 with
 |nil=>exact h2
 |cons h _ ih=>rw[List.append_assoc];exact .cons h ih
theorem cD.one {cs:List AV} {x:α} (h:R g cs x ids):cD R g [cs] [x] ids:=by
 have:=cD.cons h cD.nil
 rwa [List.append_nil]at this
theorem cD.split (h:cD R g rows xs ids):∀k (hk:k<xs.length),∃r1 cs r2 i1 ic i2,rows=r1++cs::r2/\r1.length=k/\ids=i1++(ic++i2)/\cD R g r1 (xs.take k) i1/\R g cs xs[k] ic/\cD R g r2 (xs.drop (k+1)) i2:=by
 induction h with
 |nil=>intro k hk;simp at hk
 |cons h1 h2 ih=>
  rename_i cs x j1 rs xs j2
  intro k hk
  cases k with
  |zero=>exact⟨[],cs,rs,[],j1,j2,rfl,rfl,rfl,.nil,h1,h2⟩
  |succ k=>
   obtain⟨r1,og,r2,i1,ic,i2,rfl,hl,rfl,h3,h4,h5⟩:=ih k (by simpa using hk)
   exact⟨cs::r1,og,r2,j1++i1,ic,i2,rfl,by simp[hl],by rw[List.append_assoc],.cons h1 h3,h4,h5⟩
theorem cD.at_ (h:cD R g rows xs ids) (k:Nat) (hk:k<xs.length):∃cs ic,rows[k]? =some cs/\R g cs xs[k] ic/\∀i∈ic,i∈ids:=by
 obtain⟨r1,cs,r2,i1,ic,i2,rfl,hl,rfl,h3,h4,h5⟩:=h.split k hk
 refine⟨cs,ic,by rw[List.getElem?_append_right ab];simp[hl],h4,fun i hi=>by simp[hi]⟩
theorem cD.put (ok:ou R sz) (h:cD R g rows xs ids) (km:ids.Nodup) (k:Nat) (hk:k<xs.length):∃cs ic,rows[k]? =some cs/\R g cs xs[k] ic/\ic.Nodup/\(∀i∈ic,i∈ids)/\∀(g':Rows) x',R g' cs x' ic->(∀i∈ids,i∉ic->g' i=g i)->cD R g' rows (xs.set k x') ids:=by
 obtain⟨r1,cs,r2,i1,ic,i2,rfl,rfl,rfl,h3,h4,h5⟩:=h.split k hk
 obtain⟨_,n2,n3⟩:=List.nodup_append.1 km
 obtain⟨nc,_,n4⟩:=List.nodup_append.1 n2
 refine⟨cs,ic,by simp,h4,nc,fun i hi=>by simp[hi],fun g' x' hR hf=>?_⟩
 have e:xs.set r1.length x'=xs.take r1.length++x'::xs.drop (r1.length+1):=by
  rw[List.set_eq_take_append_cons_drop,if_pos hk]
 rw[e]
 refine(h3.frame ok fun i hi=>hf i (by simp[hi]) fun hc=>n3 i hi i (by simp[hc]) rfl).app (.cons hR (h5.frame ok fun i hi=>hf i (by simp[hi]) fun hc=>n4 i hc i hi rfl))
theorem cD.fz {n:Nat} {e:α->List AV} (h:cD R g rows xs ids) (hz:∀{cs x ids},R g cs x ids->bW (dz g) n cs=some (e x)):dq (dz g) n rows=some (xs.map e):=by
 induction h with
 |nil=>rw[dq];rfl
 |cons h1 _ ih=>rw[dq,hz h1,ih];rfl
end
section
variable {α:Type} {R:tT α} {sz:Nat} {g g':Rows} {a:AV} {xs:List α} {ids:List Id}
end
end Go.Proofs.YtihgaadadaekmaaGreatDoor.V
