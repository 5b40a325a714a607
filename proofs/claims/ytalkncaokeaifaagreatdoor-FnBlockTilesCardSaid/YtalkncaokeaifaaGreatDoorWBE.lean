/- A wound: points of an assembly that are not of the seed; both sides. -/
import Derived.Test.YtalkncaokeaifaaGreatDoorWBB
import Derived.Test.YtalkncaokeaifaaGreatDoorWBD
import Derived.Test.YtalkncaokeaifaaGreatDoorWBC
import Derived.Maps.OwnIn
import Derived.Maps.AppendAt
import Derived.Lib.ItoaWalk
import Derived.Lib.ItoaNum
import Derived.Lib.Strings
import Derived.Stop.LaidErr
import Derived.Test.YtalkncaokeaifaaGreatDoorChecked
import Derived.Test.YtalkncaokeaifaaGreatDoorRows
import Derived.ProofKit
import Derived.ChangeOld
import Derived.Below
set_option linter.unusedVariables false
set_option linter.unusedSimpArgs false
set_option maxRecDepth 100000
set_option maxHeartbeats 16000000
namespace Go.Proofs.YtalkncaokeaifaaGreatDoor.V
open Go.RowKit
attribute [local irreducible] dH wpOps eB Call
attribute [local go_sem] ax eo dS ez ev cZ upd bD K.av bR AV.cells AV.cell rowOf rowsOf part ld rowAt eL bz bx cW dj eO bf cC dw er ea cR dq cw cu da db bp aI bZ bj ck cj dn dr dp bW br cz dm bh ar cq bH eM aT bL bq aH cU aQ cX AV.undef aW bd de di cY c6 bJ dv dy bE du dt cm cr List.getD_cons_zero List.getD_cons_succ List.getD_nil List.all_cons List.all_nil Bool.and_true Bool.true_and Bool.and_self Bool.not_true Bool.not_false Option.map_some Option.map_none Option.bind_some Option.bind_none List.length_cons List.length_nil List.take_succ_cons List.take_zero List.take_nil List.drop_succ_cons List.drop_zero List.drop_nil List.head?_cons List.map_cons List.map_nil List.getElem?_cons_zero List.getElem?_cons_succ List.cons_append List.nil_append List.append_nil List.length_map List.set_cons_zero List.set_cons_succ Nat.reduceMul eq_self Int.toNat_natCast Int.natCast_nonneg and_self true_and and_true decide_true decide_false Bool.false_eq_true Nat.zero_add Nat.add_zero List.contains_cons List.contains_nil Bool.or_false Bool.false_or beq_self_eq_true Nat.reduceBEq ne_eq not_true_eq_false not_false_eq_true Id.mk.injEq false_and and_false Nat.reduceLT Int.reduceLE Int.reduceLT Int.reduceToNat Int.reduceNeg Int.reduceAdd Nat.le_refl List.length_append beq_true beq_false Bool.not_eq_eq_eq_not or_false false_or dX ad ae aP aJ bt bI aD aS aA aL bU aZ
end Go.Proofs.YtalkncaokeaifaaGreatDoor.V

namespace Go.Proofs.YtalkncaokeaifaaGreatDoor.V
open Go.RowKit
theorem Ru {a:List aa} (h:mE a) {i:Nat} (hi:i<a.length):ew a a[i].bQ=i:=by
 have h0:0<=ew a a[i].bQ:=by
  rcases Int.lt_or_le (ew a a[i].bQ) 0 with h0|h0
  ·exact absurd rfl (wz.1 h0 a[i] (List.getElem_mem hi))
  ·exact h0
 obtain⟨h1,h2⟩:=jM h0
 have h3:(ew a a[i].bQ).toNat=i:=by
  rcases Nat.lt_trichotomy (ew a a[i].bQ).toNat i with h4|h4|h4
  ·have:=h _ _ h4 hi
   rw[h2,fx hi,gz]at this;cases this
  ·exact h4
  ·have:=h _ _ h4 h1
   rw[h2,fx hi,gz]at this;cases this
 omega
theorem at_mem {l:List aa} (hR:mE l) {x:aa} (hx:x∈l):gh l x.bQ=x.cK:=by
 obtain⟨j,hj,rfl⟩:=List.getElem_of_mem hx
 have:=Ru hR hj
 unfold gh
 rw[this,if_pos ab,Int.toNat_natCast,fx hj]
theorem wF {l:List aa} {p:af} (h:0<=gh l p):∃x∈l,x.bQ=p/\x.cK=gh l p:=by
 unfold gh at h ⊢
 split at h
 ·rename_i h0
  obtain⟨h1,h2⟩:=jM h0
  exact⟨_,gR h1,h2,by rw[if_pos h0]⟩
 ·omega
theorem Lv {l l':List aa} (h:mE l) (h':mE l') (hm:∀x,x∈l↔x∈l'):l=l':=by
 rw[ml]at h h'
 induction l generalizing l' with
 |nil=>
  cases l' with
  |nil=>rfl
  |cons y r=>exact absurd ((hm y).2 (by simp)) (by simp)
 |cons x l ih=>
  cases l' with
  |nil=>exact absurd ((hm x).1 (by simp)) (by simp)
  |cons y r=>
   have h1:=List.pairwise_cons.1 h
   have h2:=List.pairwise_cons.1 h'
   have SX:x=y:=by
    rcases List.mem_cons.1 ((hm x).1 (by simp))with e|e
    ·exact e
    ·rcases List.mem_cons.1 ((hm y).2 (by simp))with e2|e2
     ·exact e2.symm
     ·have a1:=h1.1 y e2
      have a2:=h2.1 x e
      have:=iw a1 a2
      rw[gz]at this;cases this
   subst SX
   rw[ih h1.2 h2.2 fun z=>?_]
   constructor
   ·intro hz
    rcases List.mem_cons.1 ((hm z).1 (by simp[hz]))with e|e
    ·subst e;have:=h1.1 z hz;rw[gz]at this;cases this
    ·exact e
   ·intro hz
    rcases List.mem_cons.1 ((hm z).2 (by simp[hz]))with e|e
    ·subst e;have:=h2.1 z hz;rw[gz]at this;cases this
    ·exact e
theorem CG {x:aa}:∀(es l:List aa),x∈es.foldl (fun n x=>mh n x) l↔x∈l∨x∈es
 |[],l=>by simp
 |e::es,l=>by
  rw[List.foldl_cons,CG es,jS,List.mem_cons]
  constructor
  ·rintro((h|h)|h)<;>simp[h]
  ·rintro(h|h|h)<;>simp[h]
theorem KP {s:aw} {es:List aa} {i:Nat} {x:aa}:x∈ei s es i↔x∈s.dJ.ay∨x∈es.take i:=CG _ _
end Go.Proofs.YtalkncaokeaifaaGreatDoor.V

namespace Go.Proofs.YtalkncaokeaifaaGreatDoor.V
open Go.RowKit
attribute [local irreducible] dH wpOps eB Call
attribute [local go_sem] ax eo dS ez ev cZ upd bD K.av bR AV.cells AV.cell rowOf rowsOf part ld rowAt eL bz bx cW dj eO bf cC dw er ea cR dq cw cu da db bp aI bZ bj ck cj dn dr dp bW br cz dm bh ar cq bH eM aT bL bq aH cU aQ cX AV.undef aW bd de di cY c6 bJ dv dy bE du dt cm cr List.getD_cons_zero List.getD_cons_succ List.getD_nil List.all_cons List.all_nil Bool.and_true Bool.true_and Bool.and_self Bool.not_true Bool.not_false Option.map_some Option.map_none Option.bind_some Option.bind_none List.length_cons List.length_nil List.take_succ_cons List.take_zero List.take_nil List.drop_succ_cons List.drop_zero List.drop_nil List.head?_cons List.map_cons List.map_nil List.getElem?_cons_zero List.getElem?_cons_succ List.cons_append List.nil_append List.append_nil List.length_map List.set_cons_zero List.set_cons_succ Nat.reduceMul eq_self Int.toNat_natCast Int.natCast_nonneg and_self true_and and_true decide_true decide_false Bool.false_eq_true Nat.zero_add Nat.add_zero List.contains_cons List.contains_nil Bool.or_false Bool.false_or beq_self_eq_true Nat.reduceBEq ne_eq not_true_eq_false not_false_eq_true Id.mk.injEq false_and and_false Nat.reduceLT Int.reduceLE Int.reduceLT Int.reduceToNat Int.reduceNeg Int.reduceAdd Nat.le_refl List.length_append beq_true beq_false Bool.not_eq_eq_eq_not or_false false_or dX ad ae aP aJ bt bI aD aS aA aL bU aZ
def DP (B:af->Int->Bool) (p:af):Nat->List aa
 |0=>[]
 |t+1=>if B p (t:Nat)=true then DP B p t++[⟨p,(t:Nat)⟩]else DP B p t
def Bn (B:af->Int->Bool) (m:Nat) (ps:List af):List aa:=ps.flatMap fun p=>DP B p m
theorem FI (B:af->Int->Bool) (p:af):∀t,(DP B p t).length<=t
 |0=>by simp[DP]
 |t+1=>by
  have:=FI B p t
  rw[DP]
  split
  ·rw[List.length_append,List.length_singleton];omega
  ·omega
theorem Ab (B:af->Int->Bool) (m:Nat):∀ps:List af,(Bn B m ps).length<=ps.length*m
 |[]=>by simp[Bn]
 |p::ps=>by
  have h:=Ab B m ps
  have h2:=FI B p m
  unfold Bn at *
  rw[List.flatMap_cons,List.length_append,List.length_cons,Nat.add_mul,Nat.one_mul]
  omega
theorem Jl {B:af->Int->Bool} {m:Nat} {ps:List af} {k:Nat} (hk:k<ps.length):Bn B m (ps.take (k+1))=Bn B m (ps.take k)++DP B (nU ps k) m:=by
 unfold Bn
 rw[List.take_succ_eq_append_getElem hk,List.flatMap_append,j3 hk]
 simp
end Go.Proofs.YtalkncaokeaifaaGreatDoor.V

namespace Go.Proofs.YtalkncaokeaifaaGreatDoor.V
open Go.RowKit
def oE (B:af->Int->Bool) (p:af):Nat->List Int
 |0=>[]
 |t+1=>if B p (t:Nat)=true then oE B p t++[(t:Int)]else oE B p t
theorem Au (B:af->Int->Bool) (p:af):∀t,(oE B p t).length<=t
 |0=>by simp[oE]
 |t+1=>by
  have:=Au B p t
  rw[oE]
  split
  ·rw[List.length_append,List.length_singleton];omega
  ·omega
theorem DQ (B:af->Int->Bool) (p:af):∀t,DP B p t=(oE B p t).map fun k=>(⟨p,k⟩:aa)
 |0=>rfl
 |t+1=>by
  rw[DP,oE,DQ B p t]
  split<;>simp
theorem Av {B:af->Int->Bool} {p:af} (h:∀t:Nat,B p t=false):∀t,oE B p t=[]
 |0=>rfl
 |t+1=>by rw[oE,if_neg (by rw[h t];simp),Av h t]
theorem Cc {B:af->Int->Bool} {p:af}:∀{t:Nat},oE B p t≠[]->∃k:Nat,k<t/\B p k=true
 |0,h=>absurd rfl h
 |t+1,h=>by
  rw[oE]at h
  split at h
  ·rename_i hb;exact⟨t,Nat.lt_succ_self t,hb⟩
  ·obtain⟨k,hk,hb⟩:=Cc h
   exact⟨k,Nat.lt_succ_of_lt hk,hb⟩
theorem sF {B C:af->Int->Bool} {p:af} (h:∀t:Nat,B p t=C p t):∀t,oE B p t=oE C p t
 |0=>rfl
 |t+1=>by rw[oE,oE,h t,sF h t]
abbrev En:=af×AV
def nJ (e:En):List AV:=[.int .i64 e.1.fu,.int .i64 e.1.eW,e.2]
def mU:List En->af->AV->List En
 |[],q,v=>[(q,v)]
 |e::es,q,v=>if e.1=q then(q,v)::es else e::mU es q v
def nI:List En->af->List En
 |[],_=>[]
 |e::es,q=>if e.1=q then es else e::nI es q
theorem wL {q:af} {v:AV} {x:En}:∀{es:List En},x.1≠q->(x∈mU es q v↔x∈es)
 |[],h=>by
  rw[mU,List.mem_singleton]
  exact⟨fun e=>absurd (by rw[e]) h,fun e=>by cases e⟩
 |e::es,h=>by
  have ih:=@wL q v x es h
  rw[mU]
  split
  ·rename_i he
   rw[List.mem_cons,List.mem_cons]
   exact⟨fun h1=>h1.elim (fun e=>absurd (by rw[e]) h) .inr,fun h1=>h1.elim (fun e'=>absurd (by rw[e'];exact he) h) .inr⟩
  ·rw[List.mem_cons,List.mem_cons,ih]
theorem zH (q:af) (v:AV):∀es:List En,(q,v)∈mU es q v
 |[]=>by simp[mU]
 |e::es=>by
  have ih:=zH q v es
  rw[mU]
  split
  ·simp
  ·exact List.mem_cons_of_mem _ ih
theorem CD {q:af} {v:AV} {p:af}:∀{es:List En},p∈(mU es q v).map (·.1)->p=q∨p∈es.map (·.1)
 |[],h=>by simp[mU]at h;exact .inl h
 |e::es,h=>by
  rw[mU]at h
  split at h
  ·simp only[List.map_cons,List.mem_cons]at h ⊢
   exact h.imp_right .inr
  ·simp only[List.map_cons,List.mem_cons]at h ⊢
   rcases h with h|h
   ·exact .inr (.inl h)
   ·exact(CD h).imp_right .inr
theorem xd (q:af) (v:AV):∀{es:List En},(es.map (·.1)).Nodup->((mU es q v).map (·.1)).Nodup
 |[],_=>by simp[mU]
 |e::es,h=>by
  obtain⟨h1,h2⟩:=List.nodup_cons.1 (show(e.1::es.map (·.1)).Nodup from h)
  rw[mU]
  split
  ·rename_i he
   refine List.nodup_cons.2 ⟨?_,h2⟩
   show q∉_
   rw[<-he];exact h1
  ·rename_i he
   refine List.nodup_cons.2 ⟨fun hc=>?_,xd q v h2⟩
   rcases CD hc with h3|h3
   ·exact he h3
   ·exact h1 h3
theorem wH {q:af} {x:En}:∀{es:List En},x.1≠q->(x∈nI es q↔x∈es)
 |[],_=>Iff.rfl
 |e::es,h=>by
  have ih:=@wH q x es h
  rw[nI]
  split
  ·rename_i he
   rw[List.mem_cons]
   exact⟨.inr,fun h1=>h1.elim (fun e'=>absurd (by rw[e'];exact he) h) id⟩
  ·rw[List.mem_cons,List.mem_cons,ih]
theorem qV {q:af}:∀{es:List En},(nI es q).Sublist es
 |[]=>List.Sublist.slnil
 |e::es=>by
  rw[nI]
  split
  ·exact List.sublist_cons_self _ _
  ·exact(qV (es:=es)).cons_cons _
theorem vK (q:af) {es:List En} (h:(es.map (·.1)).Nodup):((nI es q).map (·.1)).Nodup:=((qV (q:=q) (es:=es)).map _).nodup h
theorem Ao {q:af}:∀{es:List En},(es.map (·.1)).Nodup->∀e∈nI es q,e.1≠q
 |[],_,e,h=>by cases h
 |x::es,hn,e,h=>by
  obtain⟨h1,h2⟩:=List.nodup_cons.1 (show(x.1::es.map (·.1)).Nodup from hn)
  rw[nI]at h
  split at h
  ·rename_i hx
   intro he
   exact h1 (by rw[hx,<-he];exact List.mem_map_of_mem h)
  ·rename_i hx
   rcases List.mem_cons.1 h with rfl|h
   ·exact hx
   ·exact Ao h2 e h
theorem NY {es:List En} (hn:(es.map (·.1)).Nodup) {q:af} {u v:AV} (h1:(q,u)∈es) (h2:(q,v)∈es):u=v:=by
 induction es with
 |nil=>cases h1
 |cons e es ih=>
  obtain⟨n1,n2⟩:=List.nodup_cons.1 (show(e.1::es.map (·.1)).Nodup from hn)
  rcases List.mem_cons.1 h1 with a|a<;>rcases List.mem_cons.1 h2 with b|b
  ·rw[<-a]at b;injection b with _ b;exact b.symm
  ·exact absurd (by rw[<-a];exact List.mem_map_of_mem (f:=(·.1)) b) n1
  ·exact absurd (by rw[<-b];exact List.mem_map_of_mem (f:=(·.1)) a) n1
  ·exact ih n2 a b
structure u7 (g:Rows) (n:Nat) (es:List En) (fs:af->List Int) (A:af->Prop):Prop where
 nodup:(es.map (·.1)).Nodup
 at_:∀q,A q->(fs q=[]/\∀e∈es,e.1≠q)∨(fs q≠[]/\∃o:Id,(q,AV.own o 0 (fs q).length)∈es/\o.cV<n/\g o=some ⟨true,1,(fs q).map ah⟩)
theorem u7.mono {g:Rows} {n:Nat} {es:List En} {fs:af->List Int} {A A':af->Prop} (h:u7 g n es fs A) (hA:∀q,A' q->A q):u7 g n es fs A':=⟨h.nodup,fun q hq=>h.at_ q (hA q hq)⟩
theorem u7.frame {g g':Rows} {n n':Nat} {es:List En} {fs:af->List Int} {A:af->Prop} (h:u7 g n es fs A) (hn:n<=n') (hf:∀x:Id,x.cV<n->(∃k r,g x=some ⟨k,1,r⟩)->g' x=g x):u7 g' n' es fs A:=⟨h.nodup,fun q hq=>by
 rcases h.at_ q hq with h1|⟨h1,o,h2,h3,h4⟩
 ·exact .inl h1
 ·exact .inr ⟨h1,o,h2,ab,(hf o h3 ⟨_,_,h4⟩).trans h4⟩⟩
theorem u7.put {g:Rows} {n:Nat} {es:List En} {fs:af->List Int} {A:af->Prop} (h:u7 g n es fs A) {q:af} {o:Id} (h0:fs q≠[]) (ho:o.cV<n) (hg:g o=some ⟨true,1,(fs q).map ah⟩):u7 g n (mU es q (.own o 0 (fs q).length)) fs (fun p=>A p∨p=q):=⟨xd _ _ h.nodup,fun p hp=>by
 by_cases e:p=q
 ·subst e
  exact .inr ⟨h0,o,zH _ _ _,ho,hg⟩
 ·rcases hp with hp|hp
  ·rcases h.at_ p hp with⟨h1,h2⟩|⟨h1,o',h2,h3⟩
   ·refine .inl ⟨h1,fun x hx WR=>?_⟩
    have hxq:x.1≠q:=fun e'=>e (WR.symm.trans e')
    exact h2 x ((wL hxq).1 hx) WR
   ·exact .inr ⟨h1,o',(wL e).2 h2,h3⟩
  ·exact absurd hp e⟩
theorem u7.cut {g:Rows} {n:Nat} {es:List En} {fs:af->List Int} {A:af->Prop} (h:u7 g n es fs A) {q:af} (h0:fs q=[]):u7 g n (nI es q) fs (fun p=>A p∨p=q):=⟨vK _ h.nodup,fun p hp=>by
 by_cases e:p=q
 ·subst e
  exact .inl ⟨h0,Ao h.nodup⟩
 ·rcases hp with hp|hp
  ·rcases h.at_ p hp with⟨h1,h2⟩|⟨h1,o',h2,h3⟩
   ·exact .inl ⟨h1,fun x hx=>h2 x (qV.subset hx)⟩
   ·exact .inr ⟨h1,o',(wH e).2 h2,h3⟩
  ·exact absurd hp e⟩
theorem CI (p:af):∀(es:List En) (i:Nat),∃fi,fK ⟨true,[.tI,.tI]⟩ (ao p) (es.map nJ) i=some fi/\
  (∀v,(match fi with|some j=>(es.map nJ).set (j-i) [.int .i64 p.fu,.int .i64 p.eW,v]|none=>es.map nJ++[[.int .i64 p.fu,.int .i64 p.eW,v]])=(mU es p v).map nJ)/\
  ((match fi with|some j=>(es.map nJ).eraseIdx (j-i)|none=>es.map nJ)=(nI es p).map nJ)/\
  (∀j,fi=some j->i<=j/\j-i<es.length/\∃v,es[j-i]? =some (p,v))/\(fi=none->∀e∈es,e.1≠p)
 |[],i=>⟨none,by simp[fK],fun v=>rfl,rfl,fun _ h=>(by cases h),fun _ _ he=>(by cases he)⟩
 |e::es,i=>by
  have hq:ea [TS.tI,TS.tI] (ao p) ((nJ e).take 2)=some (decide (p=e.1)):=by
   have h:(p=e.1)↔(p.fu=e.1.fu/\p.eW=e.1.eW):=⟨fun h=>by rw[h];exact⟨rfl,rfl⟩,fun h=>E0 h.1 h.2⟩
   simp[ao,nJ,ea,er,h]
  by_cases h:p=e.1
  ·refine⟨some i,?_,fun v=>?_,?_,fun j hj=>?_,fun hc=>by cases hc⟩
   ·rw[List.map_cons]
    unfold fK
    rw[show(⟨true,[.tI,.tI]⟩:MK).ts=[.tI,.tI]from rfl,show(⟨true,[.tI,.tI]⟩:MK).ks=2 from rfl,hq,decide_eq_true h]
   ·simp[mU,h,nJ]
   ·simp[nI,h]
   ·cases hj
    exact⟨Nat.le_refl _,by simp,e.2,by simp[h]⟩
  ·obtain⟨fi,h1,h2,h3,h4,h5⟩:=CI p es (i+1)
   have he:¬e.1=p:=fun hc=>h hc.symm
   refine⟨fi,?_,fun v=>?_,?_,fun j hj=>?_,fun hc x hx=>?_⟩
   ·rw[List.map_cons]
    unfold fK
    rw[show(⟨true,[.tI,.tI]⟩:MK).ts=[.tI,.tI]from rfl,show(⟨true,[.tI,.tI]⟩:MK).ks=2 from rfl,hq,decide_eq_false h]
    exact h1
   ·have Wi:=h2 v
    rw[mU,if_neg he]
    cases fi with
    |none=>
     simp only[List.map_cons,List.cons_append]at Wi ⊢
     rw[Wi]
    |some j=>
     obtain⟨h6,_⟩:=h4 j rfl
     obtain⟨k,hk⟩:∃k,j=i+1+k:=⟨j-(i+1),ab⟩
     subst hk
     simp only[show i+1+k-i=k+1 by omega,show i+1+k-(i+1)=k by omega,List.map_cons,List.set_cons_succ]at Wi ⊢
     rw[Wi]
   ·rw[nI,if_neg he]
    cases fi with
    |none=>
     simp only[List.map_cons]at h3 ⊢
     rw[h3]
    |some j=>
     obtain⟨h6,_⟩:=h4 j rfl
     obtain⟨k,hk⟩:∃k,j=i+1+k:=⟨j-(i+1),ab⟩
     subst hk
     simp only[show i+1+k-i=k+1 by omega,show i+1+k-(i+1)=k by omega,List.map_cons,List.eraseIdx_cons_succ]at h3 ⊢
     rw[h3]
   ·obtain⟨h6,h7,v,h8⟩:=h4 j hj
    refine⟨ab,by simp only[List.length_cons];omega,v,?_⟩
    rw[show j-i=(j-(i+1))+1 by omega,List.getElem?_cons_succ];exact h8
   ·rcases List.mem_cons.1 hx with rfl|hx
    ·exact he
    ·exact h5 hc x hx
theorem sS (p:af) (es:List En):∃fi,fq ⟨true,[.tI,.tI]⟩ (.agg [.int .i64 p.fu,.int .i64 p.eW]) (es.map nJ)=some fi/\(∀v,cY (es.map nJ) [.int .i64 p.fu,.int .i64 p.eW,v] fi=(mU es p v).map nJ)/\c6 (es.map nJ) fi=(nI es p).map nJ/\
  (∀j,fi=some j->∃v,es[j]? =some (p,v))/\(fi=none->∀e∈es,e.1≠p):=by
 obtain⟨fi,h1,h2,h3,h4,h5⟩:=CI p es 0
 refine⟨fi,?_,fun v=>?_,?_,fun j hj=>?_,h5⟩
 ·unfold fq
  rw[if_pos ⟨rfl,rfl,rfl⟩]
  exact h1
 ·rw[<-h2 v];cases fi<;>rfl
 ·rw[<-h3];cases fi<;>rfl
 ·obtain⟨_,_,v,h6⟩:=h4 j hj
  exact⟨v,by simpa using h6⟩
theorem td (p:af) (k:Nat) (hk:k<4):cN (cN p k) (jT k)=p:=by
 have:k=0∨k=1∨k=2∨k=3:=ab
 rcases this with rfl|rfl|rfl|rfl<;>(cases p;simp[cN,jT,ir];try omega)
theorem bind_some {s:aO} {F:af->Int} {p:af} {t:Int}:∀d:Nat,0<eC s F p t d->∃k:Nat,k<d/\0<=F (cN p k)
 |0,h=>by simp[eC]at h
 |d+1,h=>by
  by_cases h0:0<=F (cN p d)
  ·exact⟨d,Nat.lt_succ_self d,h0⟩
  ·rw[eC,if_neg h0,Int.add_zero]at h
   obtain⟨k,hk,h1⟩:=bind_some d h
   exact⟨k,Nat.lt_succ_of_lt hk,h1⟩
theorem B8 {s:aw} (hT:1<=s.bu) {l:List aa} (hA:gV s.aq l) {p:af} {t:Int} (h:eH s l p t=true):I7 l p:=by
 simp[eH]at h
 obtain⟨⟨h1,h2⟩,h3⟩:=h
 obtain⟨k,hk,h4⟩:=bind_some (s:=s.aq) (F:=gh l) (p:=p) (t:=t) 4 (by have:nn s.aq (gh l) p t=eC s.aq (gh l) p t 4:=rfl;omega)
 have h5:0<=ew l (cN p k):=by
  unfold gh at h4
  split at h4
  ·assumption
  ·omega
 obtain⟨h6,h7⟩:=jM h5
 refine⟨h1,(DM hA p).1 h2,(ew l (cN p k)).toNat,(jT k).toNat,h6,?_,?_⟩
 ·have:k=0∨k=1∨k=2∨k=3:=ab
  rcases this with rfl|rfl|rfl|rfl<;>decide
 ·rw[h7]
  have:((jT k).toNat:Int)=jT k:=by
   have:k=0∨k=1∨k=2∨k=3:=ab
   rcases this with rfl|rfl|rfl|rfl<;>decide
  rw[this,td p k hk]
noncomputable def lI (s:aw) (l:List aa):List af:=(mb l).filter fun p=>decide (oE (eH s l) p s.aq.ay.length≠[])
theorem wI {s:aw} (hT:1<=s.bu) {l:List aa} (hA:gV s.aq l) (p:af):p∈lI s l↔oE (eH s l) p s.aq.ay.length≠[]:=by
 unfold lI
 rw[List.mem_filter,zm,decide_eq_true_eq]
 refine⟨fun h=>h.2,fun h=>⟨?_,h⟩⟩
 obtain⟨k,_,hk⟩:=Cc h
 exact B8 hT hA hk
theorem Ea (s:aw) (l:List aa):nF (lI s l):=List.Pairwise.sublist List.filter_sublist (wS l _)
theorem DR (s:aw) (l:List aa):Bn (eH s l) s.aq.ay.length (mb l)=Bn (eH s l) s.aq.ay.length (lI s l):=by
 unfold lI
 generalize mb l=ps
 induction ps with
 |nil=>rfl
 |cons p ps ih=>
  unfold Bn at *
  rw[List.flatMap_cons,List.filter_cons,ih]
  split
  ·rw[List.flatMap_cons]
  ·rename_i h
   simp only[decide_eq_true_eq,ne_eq,Classical.not_not]at h
   rw[DQ,h];rfl
end Go.Proofs.YtalkncaokeaifaaGreatDoor.V

namespace Go.Proofs.YtalkncaokeaifaaGreatDoor.V
open Go.RowKit
attribute [local irreducible] dH wpOps eB Call
attribute [local go_sem] ax eo dS ez ev cZ upd bD K.av bR AV.cells AV.cell rowOf rowsOf part ld rowAt eL bz bx cW dj eO bf cC dw er ea cR dq cw cu da db bp aI bZ bj ck cj dn dr dp bW br cz dm bh ar cq bH eM aT bL bq aH cU aQ cX AV.undef aW bd de di cY c6 bJ dv dy bE du dt cm cr List.getD_cons_zero List.getD_cons_succ List.getD_nil List.all_cons List.all_nil Bool.and_true Bool.true_and Bool.and_self Bool.not_true Bool.not_false Option.map_some Option.map_none Option.bind_some Option.bind_none List.length_cons List.length_nil List.take_succ_cons List.take_zero List.take_nil List.drop_succ_cons List.drop_zero List.drop_nil List.head?_cons List.map_cons List.map_nil List.getElem?_cons_zero List.getElem?_cons_succ List.cons_append List.nil_append List.append_nil List.length_map List.set_cons_zero List.set_cons_succ Nat.reduceMul eq_self Int.toNat_natCast Int.natCast_nonneg and_self true_and and_true decide_true decide_false Bool.false_eq_true Nat.zero_add Nat.add_zero List.contains_cons List.contains_nil Bool.or_false Bool.false_or beq_self_eq_true Nat.reduceBEq ne_eq not_true_eq_false not_false_eq_true Id.mk.injEq false_and and_false Nat.reduceLT Int.reduceLE Int.reduceLT Int.reduceToNat Int.reduceNeg Int.reduceAdd Nat.le_refl List.length_append beq_true beq_false Bool.not_eq_eq_eq_not or_false false_or dX ad ae aP aJ bt bI aD aS aA aL bU aZ
noncomputable def gP (s:aw) (ts:List aa) (q:af):List Int:=oE (eH s ts) q s.aq.ay.length
def iA (σ:au) (O:Id) (s:aw) (ts:List aa) (A:af->Prop) (g:Rows) (n:Nat):Prop:=σ.next<=n/\(∀x:Id,x.cV<σ.next->x≠O->g x=σ.get x)/\∃es:List En,g O=some ⟨true,mP.j4,es.map nJ⟩/\u7 g n es (gP s ts) A
theorem iA.Tn {σ:au} {g:Rows} {n:Nat} {c T O:Id} {s s':aw} {ts MB:List aa} {A:af->Prop} (h:Dm σ.get σ.next c T O s ts) (hc:c≠O) (hT:T≠O) (k:iA σ O s' MB A g n):Dm g n c T O s ts:=
 h.frame k.1 (k.2.1 _ h.cv hc) (k.2.1 _ h.tv hT)
theorem iA.frame {a:au} {O:Id} {s:aw} {ts:List aa} {A:af->Prop} {g g':Rows} {n n' m:Nat} (h:iA a O s ts A g n) (ha:n<=m) (ho:O.cV<m) (hn:n<=n') (hf:∀x:Id,x.cV<m->g' x=g x):iA a O s ts A g' n':=by
 refine⟨Nat.le_trans h.1 hn,fun x hx hO=>(hf x (Nat.lt_of_lt_of_le hx (Nat.le_trans h.1 ha))).trans (h.2.1 x hx hO),?_⟩
 obtain⟨es,h1,h2⟩:=h.2.2
 exact⟨es,(hf O ho).trans h1,h2.frame hn fun x hx _=>hf x (Nat.lt_of_lt_of_le hx ha)⟩
theorem xn:¬mP.j4=1:=by decide
theorem iA.put {a:au} {O:Id} {s:aw} {ts:List aa} {A A':af->Prop} {g g':Rows} {n n':Nat} {es:List En} (h:iA a O s ts A g n) (hg:g O=some ⟨true,mP.j4,es.map nJ⟩) (hw:u7 g n es (gP s ts) A) (hn:n<=n') (hf:∀x:Id,x.cV<n->x≠O->g' x=g x) {q:af} {o:Id} (h0:gP s ts q≠[]) (ho:o.cV<n') (Br:g' o=some ⟨true,1,(gP s ts q).map ah⟩) (hO:g' O=some ⟨true,mP.j4,(mU es q (.own o 0 (gP s ts q).length)).map nJ⟩) (hA:∀p,A' p->A p∨p=q):iA a O s ts A' g' n':=
 ⟨Nat.le_trans h.1 hn,fun x hx Gc=>(hf x (Nat.lt_of_lt_of_le hx h.1) Gc).trans (h.2.1 x hx Gc),_,hO,((hw.frame hn fun x hx hr=>hf x hx (by
  rintro rfl
  obtain⟨k,r,hr⟩:=hr
  rw[hg]at hr
  injection hr with hr
  injection hr with _ hr _
  exact xn hr)).put h0 ho Br).mono hA⟩
theorem iA.cut {a:au} {O:Id} {s:aw} {ts:List aa} {A A':af->Prop} {g g':Rows} {n n':Nat} {es:List En} (h:iA a O s ts A g n) (hg:g O=some ⟨true,mP.j4,es.map nJ⟩) (hw:u7 g n es (gP s ts) A) (hn:n<=n') (hf:∀x:Id,x.cV<n->x≠O->g' x=g x) {q:af} (h0:gP s ts q=[]) (hO:g' O=some ⟨true,mP.j4,(nI es q).map nJ⟩) (hA:∀p,A' p->A p∨p=q):iA a O s ts A' g' n':=
 ⟨Nat.le_trans h.1 hn,fun x hx Gc=>(hf x (Nat.lt_of_lt_of_le hx h.1) Gc).trans (h.2.1 x hx Gc),_,hO,((hw.frame hn fun x hx hr=>hf x hx (by
  rintro rfl
  obtain⟨k,r,hr⟩:=hr
  rw[hg]at hr
  injection hr with hr
  injection hr with _ hr _
  exact xn hr)).cut h0).mono hA⟩
theorem iA.ow {a:au} {O:Id} {s:aw} {ts:List aa} {A:af->Prop} {g:Rows} {n:Nat} (h:iA a O s ts A g n):O3 a O g n:=by
 obtain⟨h1,h2,es,h3,_⟩:=h
 refine⟨h1,h2,_,h3,fun r hr=>?_⟩
 obtain⟨e,_,rfl⟩:=List.mem_map.1 hr
 exact⟨_,_,_,rfl⟩
theorem rH {σ:au} {c T O:Id} {s:aw} {ts:List aa} (h:Dm σ.get σ.next c T O s ts) (hc:c≠O) (hT:T≠O) (A:af->Prop) (hO:∃es:List En,σ.get O=some ⟨true,mP.j4,es.map nJ⟩/\u7 σ.get σ.next es (gP s ts) A) (hS:gO s.aq) (hF:∀q,0<=gh ts q->eA s.aq (gh ts q)=true) (p:af) (hx:iB p.fu) (hy:iB p.eW):
  Call Tryz.prog 87 [.ptr c 0 0,.agg (ao p)] σ (fun r σ'=>r=.fN []/\iA σ O s ts (fun q=>A q∨∃k:Nat,k<4/\q=cN p k) σ'.get σ'.next):=by
 refine eX fC rfl fun fb=>?_
 clear fb
 have Dv:=hS.xI
 have h0:iA σ O s ts (fun q=>A q∨∃k:Nat,k<0/\q=cN p k) σ.get σ.next:=⟨Nat.le_refl _,fun _ _ _=>rfl,by
  obtain⟨es,h1,h2⟩:=hO
  exact⟨es,h1,h2.mono fun q hq=>hq.elim id fun⟨k,hk,_⟩=>absurd hk (Nat.not_lt_zero k)⟩⟩
 (try((repeat(revert hN;revert N;apply Pn.out));refine wk @ao.eq_1 ?_;(repeat(refine Pn.mk ?_;intro N hN))))
 refine dc (fun n env st=>∃k:Nat,n=(4)-k/\k<=(4)/\env 8=.int .i64 (k:Int)/\st.get ⟨87000000,σ.next⟩=some ⟨true,2,[ao p]⟩/\(σ.next<st.next/\iA σ O s ts (fun q=>A q∨∃j:Nat,j<k/\q=cN p j) st.get st.next)) (4) ⟨0,ab,ab,sl @ao.eq_1,sl @ao.eq_1,⟨cD,h0.frame (Nat.le_refl _) h.ov cD (fun x hx=>by
  have:=dF hx
  simp only[go_sem, ↓reduceIte,Nat.reduceEqDiff,Nat.reduceAdd,Nat.reduceSub,Nat.reduceLeDiff,reduceCtorEq,this])⟩⟩ ?_
 rintro n_a env_a st_a ⟨k,rfl,ale,a8,ag0,qM⟩ eR
 have a0:=eR 0 (by kernel_rfl);have a3:=eR 3 (by kernel_rfl)
 simp only[go_sem, ↓reduceIte,Nat.reduceEqDiff,Nat.reduceAdd,Nat.reduceSub,Nat.reduceLeDiff,reduceCtorEq,ao]at a0 a3
 clear eR
 obtain⟨an,ak⟩:=qM
 have ha:=ak.Tn h hc hT
 by_cases hk:(k:Int)<4
 ·have eF:∀{e:Env} {gg:Rows} {nx:Nat},(e 8=.int .i64 (IntKind.i64.wrap ((k:Int)+1)))->(gg ⟨87000000,σ.next⟩=some ⟨true,2,[ao p]⟩)->(σ.next<nx/\iA σ O s ts (fun q=>A q∨∃j:Nat,j<(k+1)/\q=cN p j) gg nx)->∃m0,m0<(4)-k/\∃k:Nat,m0=(4)-k/\k<=(4)/\e 8=.int .i64 (k:Int)/\gg ⟨87000000,σ.next⟩=some ⟨true,2,[ao p]⟩/\(σ.next<nx/\iA σ O s ts (fun q=>A q∨∃j:Nat,j<k/\q=cN p j) gg nx):=fun x1 x2 x3=>⟨_,ab,k+1,rfl,ab,(by rw[x1,cE ab]),x2,x3⟩
  have ed:=Fo p k (jE ab) hx hy
  obtain⟨b,h1⟩:=ha.row
  have v1:=dF ha.cv
  (repeat(first|((repeat(revert hN;revert N;apply Pn.out));refine wk (tw @a8 (tw @ag0 (tw @a0 (tw @a3 (tw @hk (tw @h1 (tw @v1 @ao.eq_1))))))) ?_;(repeat(refine Pn.mk ?_;intro N hN)))|((try apply Or.inl);refine⟨_,az.x (ed) (sd (tw @a8 (tw @ag0 (tw @a0 (tw @a3 (tw @hk (tw @h1 (tw @v1 @ao.eq_1)))))))),?_⟩;refine hN _ _ ?_;clear hN N)))
  refine dc (fun n env st=>∃t:Nat,n=(s.aq.ay.length)-t/\t<=(s.aq.ay.length)/\env 21=.int .i64 (t:Int)/\st.get ⟨87000000,σ.next⟩=some ⟨true,2,[ao p]⟩/\st.get ⟨87004003,st_a.next+1+1⟩=some ⟨true,2,[ao (cN p k)]⟩/\(st_a.next+3<=st.next/\iA σ O s ts (fun q=>A q∨∃j:Nat,j<k/\q=cN p j) st.get st_a.next/\((oE (eH s ts) (cN p k) t=[]/\env 6=.bP)∨∃o:Id,env 6=.own o 0 (oE (eH s ts) (cN p k) t).length/\st.get o=some ⟨true,1,(oE (eH s ts) (cN p k) t).map ah⟩/\0<(oE (eH s ts) (cN p k) t).length/\st_a.next+3<=o.cV/\o.cV<st.next))) (s.aq.ay.length) ⟨0,ab,ab,sl (tw @a8 (tw @ag0 (tw @a0 (tw @a3 @ao.eq_1)))),sl (tw @a8 (tw @ag0 (tw @a0 (tw @a3 @ao.eq_1)))),sl (tw @a8 (tw @ag0 (tw @a0 (tw @a3 @ao.eq_1)))),⟨cD,ak.frame (Nat.le_refl _) ha.ov (Nat.le_refl _) (fun x hx=>(by
   have:=dF hx
   simp only[go_sem, ↓reduceIte,Nat.reduceEqDiff,Nat.reduceAdd,Nat.reduceSub,Nat.reduceLeDiff,reduceCtorEq,this])),.inl ⟨rfl,sd @Nat.zero_add⟩⟩⟩ ?_
  rintro n_b env_b st_b ⟨t,rfl,ble,b21,bg0,bg1,bI0⟩ fG
  have b0:=fG 0 (by kernel_rfl);have b3:=fG 3 (by kernel_rfl);have b5:=fG 5 (by kernel_rfl);have b8:=fG 8 (by kernel_rfl);have Iy:=fG 20 (by kernel_rfl)
  simp only[go_sem, ↓reduceIte,Nat.reduceEqDiff,Nat.reduceAdd,Nat.reduceSub,Nat.reduceLeDiff,reduceCtorEq,a8,ag0,a0,a3,ao]at b0 b3 b5 b8 Iy
  clear fG
  obtain⟨bn,bk,b6⟩:=bI0
  have T6:Dm st_b.get st_b.next c T O s ts:=(bk.Tn h hc hT).frame ab rfl rfl
  obtain⟨b2,h2⟩:=T6.row
  have v2:=dF T6.cv
  have vt:=dF (i:=⟨87000000,σ.next⟩) (n:=st_b.next) cD
  have vq:=dF (i:=⟨87004003,st_a.next+1+1⟩) (n:=st_b.next) cD
  by_cases ht:(t:Int)<(s.aq.ay.length:Int)
  ·have gi:∀{e:Env} {gg:Rows} {nx:Nat},(e 21=.int .i64 (IntKind.i64.wrap ((t:Int)+1)))->(gg ⟨87000000,σ.next⟩=some ⟨true,2,[ao p]⟩)->(gg ⟨87004003,st_a.next+1+1⟩=some ⟨true,2,[ao (cN p k)]⟩)->(st_a.next+3<=nx/\iA σ O s ts (fun q=>A q∨∃j:Nat,j<k/\q=cN p j) gg st_a.next/\((oE (eH s ts) (cN p k) (t+1)=[]/\e 6=.bP)∨∃o:Id,e 6=.own o 0 (oE (eH s ts) (cN p k) (t+1)).length/\gg o=some ⟨true,1,(oE (eH s ts) (cN p k) (t+1)).map ah⟩/\0<(oE (eH s ts) (cN p k) (t+1)).length/\st_a.next+3<=o.cV/\o.cV<nx))->∃m0,m0<(s.aq.ay.length)-t/\∃t:Nat,m0=(s.aq.ay.length)-t/\t<=(s.aq.ay.length)/\e 21=.int .i64 (t:Int)/\gg ⟨87000000,σ.next⟩=some ⟨true,2,[ao p]⟩/\gg ⟨87004003,st_a.next+1+1⟩=some ⟨true,2,[ao (cN p k)]⟩/\(st_a.next+3<=nx/\iA σ O s ts (fun q=>A q∨∃j:Nat,j<k/\q=cN p j) gg st_a.next/\((oE (eH s ts) (cN p k) t=[]/\e 6=.bP)∨∃o:Id,e 6=.own o 0 (oE (eH s ts) (cN p k) t).length/\gg o=some ⟨true,1,(oE (eH s ts) (cN p k) t).map ah⟩/\0<(oE (eH s ts) (cN p k) t).length/\st_a.next+3<=o.cV/\o.cV<nx)):=fun x1 x2 x3 x4=>⟨_,ab,t+1,rfl,ab,(by rw[x1,cE ab]),x2,x3,x4⟩
   have YE:t<s.aq.ay.length:=ab
   have J9:=Au (eH s ts) (cN p k) t
   have ym:oE (eH s ts) (cN p k) (t+1)=if eH s ts (cN p k) t=true then oE (eH s ts) (cN p k) t++[(t:Int)]else oE (eH s ts) (cN p k) t:=rfl
   generalize oE (eH s ts) (cN p k) t=L at b6 J9 ym
   (try((repeat(revert hN;revert N;apply Pn.out));refine wk (tw @b21 (tw @bg0 (tw @bg1 (tw @b0 (tw @b3 (tw @b5 (tw @b8 (tw @Iy (tw @ht (tw @h2 (tw @v2 (tw @vt (tw @vq @ao.eq_1))))))))))))) ?_;(repeat(refine Pn.mk ?_;intro N hN))))
   refine .inl ⟨_,QC (T6.frame cD (sd @v2) (by(have:=dF T6.tv;simp only[go_sem, ↓reduceIte,Nat.reduceEqDiff,Nat.reduceAdd,Nat.reduceSub,Nat.reduceLeDiff,reduceCtorEq,this]))) hS hF (cN p k) t (LX YE),?_⟩
   refine hN _ _ ?_
   clear hN N
   cases hb:eH s ts (cN p k) t
   ·rw[hb,if_neg (by simp)]at ym
    (try((repeat(revert hN;revert N;apply Pn.out));refine wk (tw @b21 (tw @bg0 (tw @bg1 (tw @b0 (tw @b3 (tw @b5 (tw @b8 (tw @Iy @hb)))))))) ?_;(repeat(refine Pn.mk ?_;intro N hN))))
    refine gi ?_ ?_ ?_ (by(try dsimp only);exact⟨ab,bk.frame (Nat.le_refl _) ha.ov (Nat.le_refl _) (fun x hx=>by
      have h1:=dF (i:=x) (n:=st_b.next) ab
      simp only[go_sem, ↓reduceIte,Nat.reduceEqDiff,Nat.reduceAdd,Nat.reduceSub,Nat.reduceLeDiff,reduceCtorEq,h1]),by
     rw[ym]
     rcases b6 with⟨hL,h⟩|⟨o,h1,h2,h3,h4,h5⟩
     ·exact .inl ⟨hL,sd @h⟩
     ·have h8:=dF h5
      exact .inr ⟨o,sd @h1,sd (tw @h2 @h8),h3,h4,ab⟩⟩)
    all_goals simp only[go_sem, ↓reduceIte,Nat.reduceEqDiff,Nat.reduceAdd,Nat.reduceSub,Nat.reduceLeDiff,reduceCtorEq,b21,bg0,bg1,b0,b3,b5,b8,Iy,ao,vt,vq]
   ·rw[hb,if_pos rfl]at ym
    have Du:(L++[(t:Int)]).length=L.length+1:=by simp
    have Cq:(L++[(t:Int)]).map ah=L.map ah++[[.int .i64 t]]:=by rw[List.map_append];rfl
    rcases b6 with⟨hL,b6⟩|⟨o,b6,bo,o4,o6,o7⟩
    ·subst hL
     (try((repeat(revert hN;revert N;apply Pn.out));refine wk (tw @b21 (tw @bg0 (tw @bg1 (tw @b0 (tw @b3 (tw @b5 (tw @b8 (tw @Iy (tw @b6 @hb))))))))) ?_;(repeat(refine Pn.mk ?_;intro N hN))))
     refine gi ?_ ?_ ?_ (by(try dsimp only);exact⟨ab,bk.frame (Nat.le_refl _) ha.ov (Nat.le_refl _) (fun x hx=>by
      have h1:=dF (i:=x) (n:=st_b.next) ab
      simp only[go_sem, ↓reduceIte,Nat.reduceEqDiff,Nat.reduceAdd,Nat.reduceSub,Nat.reduceLeDiff,reduceCtorEq,h1]),.inr ⟨⟨87010003,st_b.next+1+1+1⟩,by rw[ym,Du];simp only[go_sem, ↓reduceIte,Nat.reduceEqDiff,Nat.reduceAdd,Nat.reduceSub,Nat.reduceLeDiff,reduceCtorEq]<;>rfl,by rw[ym,Cq];simp only[go_sem, ↓reduceIte,Nat.reduceEqDiff,Nat.reduceAdd,Nat.reduceSub,Nat.reduceLeDiff,reduceCtorEq]<;>rfl,by rw[ym,Du];omega,cD,cD⟩⟩)
     all_goals simp only[go_sem, ↓reduceIte,Nat.reduceEqDiff,Nat.reduceAdd,Nat.reduceSub,Nat.reduceLeDiff,reduceCtorEq,b21,bg0,bg1,b0,b3,b5,b8,Iy,ao,vt,vq]
    ·have e1:L.length<=16777215:=ab
     have Yh:(L.map ah).length=L.length:=by simp
     have vo:=dF o7
     have vto:=dU (a:=⟨87000000,σ.next⟩) (b:=o) cD
     have vqo:=dU (a:=⟨87004003,st_a.next+1+1⟩) (b:=o) cD
     (try((repeat(revert hN;revert N;apply Pn.out));refine wk (tw @b21 (tw @bg0 (tw @bg1 (tw @b0 (tw @b3 (tw @b5 (tw @b8 (tw @Iy (tw @b6 (tw @bo (tw @hb (tw @e1 (tw @Yh @vo))))))))))))) ?_;(repeat(refine Pn.mk ?_;intro N hN))))
     refine gi ?_ ?_ ?_ (by(try dsimp only);exact⟨ab,bk.frame (Nat.le_refl _) ha.ov (Nat.le_refl _) (fun x hx=>by
      have h1:=dF (i:=x) (n:=st_b.next) ab
      have h2:=dU (a:=x) (b:=o) ab
      simp only[go_sem, ↓reduceIte,Nat.reduceEqDiff,Nat.reduceAdd,Nat.reduceSub,Nat.reduceLeDiff,reduceCtorEq,h1,h2]),.inr ⟨⟨87010003,st_b.next+1+1+1⟩,by rw[ym,Du];simp only[go_sem, ↓reduceIte,Nat.reduceEqDiff,Nat.reduceAdd,Nat.reduceSub,Nat.reduceLeDiff,reduceCtorEq]<;>rfl,by rw[ym,Cq];simp only[go_sem, ↓reduceIte,Nat.reduceEqDiff,Nat.reduceAdd,Nat.reduceSub,Nat.reduceLeDiff,reduceCtorEq]<;>rfl,by rw[ym,Du];omega,cD,cD⟩⟩)
     all_goals simp only[go_sem, ↓reduceIte,Nat.reduceEqDiff,Nat.reduceAdd,Nat.reduceSub,Nat.reduceLeDiff,reduceCtorEq,b21,bg0,bg1,b0,b3,b5,b8,Iy,ao,vt,vq,vto,vqo]
  ·obtain⟨es,hg,how⟩:=bk.2.2
   have vo:=dF T6.ov
   obtain⟨fi,yg,rq,Hp,_,_⟩:=sS (cN p k) es
   unfold cY at rq
   unfold c6 at Hp
   have hq:((⟨87000000,σ.next⟩:Id)=O)=False:=(dU (a:=O) (b:=⟨87000000,σ.next⟩) (by have:=h.ov;(try dsimp only);omega)).2
   have htt:t=s.aq.ay.length:=ab
   subst htt
   have sJ:oE (eH s ts) (cN p k) s.aq.ay.length=gP s ts (cN p k):=rfl
   rw[sJ]at b6
   have hAk:∀q,(A q∨∃j:Nat,j<k+1/\q=cN p j)->(A q∨∃j:Nat,j<k/\q=cN p j)∨q=cN p k:=fun q hq=>by
    rcases hq with hq|⟨j,hj,hq⟩
    ·exact .inl (.inl hq)
    ·rcases Nat.lt_or_ge j k with h|h
     ·exact .inl (.inr ⟨j,h,hq⟩)
     ·exact .inr (by rw[hq,show j=k by omega])
   rcases b6 with⟨hL,b6⟩|⟨o,b6,bo,o4,o6,o7⟩
   ·have d0:decide ((0:Int)<((0:Nat):Int))=false:=rfl
    (try((repeat(revert hN;revert N;apply Pn.out));refine wk (tw @b21 (tw @bg0 (tw @bg1 (tw @b0 (tw @b3 (tw @b5 (tw @b8 (tw @Iy (tw @b6 (tw @ht (tw @h2 (tw @v2 (tw @vt (tw @vq (tw @vo (tw @hg (tw @yg (tw @Hp (tw @ao.eq_1 @d0))))))))))))))))))) ?_;(repeat(refine Pn.mk ?_;intro N hN))))
    refine eF ?_ ?_ (by(try dsimp only);exact⟨ab,bk.cut hg how ab (fun x hx Gc=>by
     have h1:=dF (i:=x) (n:=st_b.next) ab
     have h2:(x=O)=False:=eq_false Gc
     simp only[go_sem, ↓reduceIte,Nat.reduceEqDiff,Nat.reduceAdd,Nat.reduceSub,Nat.reduceLeDiff,reduceCtorEq,h1,h2]) hL (sl @Hp) hAk⟩)
    all_goals simp only[go_sem, ↓reduceIte,Nat.reduceEqDiff,Nat.reduceAdd,Nat.reduceSub,Nat.reduceLeDiff,reduceCtorEq,a8,ag0,a0,a3,b21,bg0,bg1,b0,b3,b5,b8,Iy,ao,vt,vo,hq]
   ·have gZ:gP s ts (cN p k)≠[]:=fun e=>by rw[e]at o4;cases o4
    have d1:decide ((0:Int)<((gP s ts (cN p k)).length:Int))=true:=decide_eq_true ab
    have Pv:=rq (.own o 0 (gP s ts (cN p k)).length)
    have v8:=dF o7
    have oO:(o=O)=False:=eq_false (by
     rintro rfl
     rw[hg]at bo
     injection bo with bo
     injection bo with _ bo _
     exact xn bo)
    (try((repeat(revert hN;revert N;apply Pn.out));refine wk (tw @b21 (tw @bg0 (tw @bg1 (tw @b0 (tw @b3 (tw @b5 (tw @b8 (tw @Iy (tw @b6 (tw @ht (tw @h2 (tw @v2 (tw @vt (tw @vq (tw @vo (tw @hg (tw @yg (tw @Pv (tw @ao.eq_1 @d1))))))))))))))))))) ?_;(repeat(refine Pn.mk ?_;intro N hN))))
    refine eF ?_ ?_ (by(try dsimp only);exact⟨ab,bk.put hg how ab (fun x hx Gc=>by
     have h1:=dF (i:=x) (n:=st_b.next) ab
     have h2:(x=O)=False:=eq_false Gc
     simp only[go_sem, ↓reduceIte,Nat.reduceEqDiff,Nat.reduceAdd,Nat.reduceSub,Nat.reduceLeDiff,reduceCtorEq,h1,h2]) (o:=o) gZ ab (sd (tw @oO (tw @v8 @bo))) (sl @Pv) hAk⟩)
    all_goals simp only[go_sem, ↓reduceIte,Nat.reduceEqDiff,Nat.reduceAdd,Nat.reduceSub,Nat.reduceLeDiff,reduceCtorEq,a8,ag0,a0,a3,b21,bg0,bg1,b0,b3,b5,b8,Iy,ao,vt,vo,hq]
 ·have Yc:k=4:=ab
  subst Yc
  (try((repeat(revert hN;revert N;apply Pn.out));refine wk (tw @a8 (tw @ag0 (tw @a0 (tw @a3 @hk)))) ?_;(repeat(refine Pn.mk ?_;intro N hN))))
  exact eK (.inr rfl) (vs:=[]) rfl ⟨rfl,ak.frame (Nat.le_refl _) ha.ov cD (fun x hx=>rfl)⟩
structure nD (g:Rows) (n:Nat) (c T O:Id) (s:aw) (ts:List aa):Prop where
 o:lz g n c T O s ts
 op:∃es:List En,g O=some ⟨true,mP.j4,es.map nJ⟩/\u7 g n es (gP s ts) (fun _=>True)
theorem nD.frame {g g':Rows} {n n':Nat} {c T O:Id} {s:aw} {ts:List aa} (h:nD g n c T O s ts) (hn:n<=n') (hf:∀x:Id,x.cV<n->g' x=g x):nD g' n' c T O s ts:=
 ⟨h.o.frame hn hf,by
  obtain⟨es,h1,h2⟩:=h.op
  exact⟨es,(hf _ h.o.ov).trans h1,h2.frame hn fun x hx _=>hf x hx⟩⟩
theorem lz.PL {σ:au} {g:Rows} {n:Nat} {c T O:Id} {s:aw} {ts:List aa} {A:af->Prop} (h:lz σ.get σ.next c T O s ts) (k:iA σ O s ts A g n):lz g n c T O s ts:=h.look k.ow
theorem JP {s:aw} (hT:1<=s.bu) {ts:List aa} {q:af} (h:∀t∈ts,∀k:Nat,k<4->q≠cN t.bQ k):gP s ts q=[]:=by
 unfold gP
 refine Av (fun t=>?_) _
 cases hb:eH s ts q t
 ·rfl
 ·exfalso
  simp[eH]at hb
  obtain⟨⟨h1,h2⟩,h3⟩:=hb
  obtain⟨k,hk,h4⟩:=bind_some (s:=s.aq) (F:=gh ts) (p:=q) (t:=t) 4 (by have:nn s.aq (gh ts) q t=eC s.aq (gh ts) q t 4:=rfl;omega)
  have h5:0<=ew ts (cN q k):=by
   unfold gh at h4
   split at h4
   ·assumption
   ·omega
  obtain⟨h6,h7⟩:=jM h5
  have Hs:(jT k).toNat<4/\((jT k).toNat:Int)=jT k:=by
   have:k=0∨k=1∨k=2∨k=3:=ab
   rcases this with rfl|rfl|rfl|rfl<;>decide
  refine h _ (gR h6) (jT k).toNat Hs.1 ?_
  rw[h7,Hs.2,td q k hk]
theorem CZ {l:List aa} {t:aa} (h:t∈l):∃j,j<l.length/\t=cP l j:=by
 obtain⟨j,hj,rfl⟩:=List.getElem_of_mem h
 exact⟨j,hj,(fx hj).symm⟩
def DJ (s:aw) (l:List aa) (j:Nat) (q:af):Prop:=gP s l q=[]/\(∀i:Nat,i<l.length->∀k:Nat,k<4->q≠cN (cP l i).bQ k)∨∃i:Nat,i<j/\∃k:Nat,k<4/\q=cN (cP l i).bQ k
theorem L0 {s:aw} (hT:1<=s.bu) (l:List aa) (q:af):DJ s l l.length q:=by
 by_cases h:∃i:Nat,i<l.length/\∃k:Nat,k<4/\q=cN (cP l i).bQ k
 ·exact .inr h
 ·have h2:∀i:Nat,i<l.length->∀k:Nat,k<4->q≠cN (cP l i).bQ k:=fun i hi k hk e=>h ⟨i,hi,k,hk,e⟩
  exact .inl ⟨JP hT fun t ht k hk=>by
   obtain⟨j,hj,rfl⟩:=CZ ht
   exact h2 j hj k hk,h2⟩
def Xe (σ:au) (s:aw) (ts:List aa) (r:AV) (σ':au):Prop:=
 ∃c T O:Id,r=.ptr c 0 0/\nD σ'.get σ'.next c T O s ts/\σ.next<=c.cV/\σ.next<=T.cV/\σ.next<=O.cV/\σ.next<=σ'.next/\∀x:Id,x.cV<σ.next->σ'.get x=σ.get x
theorem AX (s:aw) (hS:gO s.aq) (XR:1<=s.bu) (l:List aa) (hA:gV s.aq l) (σ:au):Call Tryz.prog 69 [.agg (eb s),.agg [.sl (l.map ai)]] σ (Xe σ s l):=by
 refine eX fC rfl fun fb=>?_
 clear fb
 have J8:=hA.1.Dq
 (try((repeat(revert hN;revert N;apply Pn.out));refine wk @eb.eq_1 ?_;(repeat(refine Pn.mk ?_;intro N hN))))
 refine dc (fun n env st=>∃k:Nat,n=(l.length)-k/\k<=(l.length)/\env 18=.int .i64 (k:Int)/\st.get ⟨69001004,σ.next+1⟩=some ⟨true,6,[[.sl (s.aq.dx.map eP),.sl (s.aq.ay.map eS),.sl (s.dJ.ay.map ai),.int .i64 s.bu,.map ⟨69001001,σ.next+1⟩ mP,.map ⟨69001002,σ.next+1⟩ mP]]⟩/\st.get ⟨69001001,σ.next+1⟩=some ⟨true,mP.j4,(l.take k).map ai⟩/\st.get ⟨69001002,σ.next+1⟩=some ⟨true,mP.j4,[]⟩/\st.get ⟨69000001,σ.next⟩=some ⟨true,1,[[.sl (l.map ai)]]⟩/\(σ.next+3<=st.next/\∀x:Id,x.cV<σ.next->st.get x=σ.get x)) (l.length) ⟨0,ab,ab,sl @Nat.zero_add,sl @Nat.zero_add,sl @Nat.zero_add,sl @Nat.zero_add,sl @Nat.zero_add,⟨cD,fun x hx=>by
  have:=dF hx
  simp only[go_sem, ↓reduceIte,Nat.reduceEqDiff,Nat.reduceAdd,Nat.reduceSub,Nat.reduceLeDiff,reduceCtorEq,this]⟩⟩ ?_
 rintro n_a env_a st_a ⟨k,rfl,ale,a18,ag0,ag1,ag2,ag3,qM⟩ eR
 have a3:=eR 3 (by kernel_rfl);have a5:=eR 5 (by kernel_rfl);have Mm:=eR 16 (by kernel_rfl);have a17:=eR 17 (by kernel_rfl)
 simp only[go_sem, ↓reduceIte,Nat.reduceEqDiff,Nat.reduceAdd,Nat.reduceSub,Nat.reduceLeDiff,reduceCtorEq]at a3 a5 Mm a17
 clear eR
 obtain⟨an,eR⟩:=qM
 have v1:=dF (i:=⟨69001004,σ.next+1⟩) (n:=st_a.next) cD
 have v2:=dF (i:=⟨69001001,σ.next+1⟩) (n:=st_a.next) cD
 have v3:=dF (i:=⟨69001002,σ.next+1⟩) (n:=st_a.next) cD
 have v4:=dF (i:=⟨69000001,σ.next⟩) (n:=st_a.next) cD
 by_cases hk:(k:Int)<(l.length:Int)
 ·have eF:∀{e:Env} {gg:Rows} {nx:Nat},(e 18=.int .i64 (IntKind.i64.wrap ((k:Int)+1)))->(gg ⟨69001004,σ.next+1⟩=some ⟨true,6,[[.sl (s.aq.dx.map eP),.sl (s.aq.ay.map eS),.sl (s.dJ.ay.map ai),.int .i64 s.bu,.map ⟨69001001,σ.next+1⟩ mP,.map ⟨69001002,σ.next+1⟩ mP]]⟩)->(gg ⟨69001001,σ.next+1⟩=some ⟨true,mP.j4,(l.take (k+1)).map ai⟩)->(gg ⟨69001002,σ.next+1⟩=some ⟨true,mP.j4,[]⟩)->(gg ⟨69000001,σ.next⟩=some ⟨true,1,[[.sl (l.map ai)]]⟩)->(σ.next+3<=nx/\∀x:Id,x.cV<σ.next->gg x=σ.get x)->∃m0,m0<(l.length)-k/\∃k:Nat,m0=(l.length)-k/\k<=(l.length)/\e 18=.int .i64 (k:Int)/\gg ⟨69001004,σ.next+1⟩=some ⟨true,6,[[.sl (s.aq.dx.map eP),.sl (s.aq.ay.map eS),.sl (s.dJ.ay.map ai),.int .i64 s.bu,.map ⟨69001001,σ.next+1⟩ mP,.map ⟨69001002,σ.next+1⟩ mP]]⟩/\gg ⟨69001001,σ.next+1⟩=some ⟨true,mP.j4,(l.take k).map ai⟩/\gg ⟨69001002,σ.next+1⟩=some ⟨true,mP.j4,[]⟩/\gg ⟨69000001,σ.next⟩=some ⟨true,1,[[.sl (l.map ai)]]⟩/\(σ.next+3<=nx/\∀x:Id,x.cV<σ.next->gg x=σ.get x):=fun x1 x2 x3 x4 x5 x6=>⟨_,ab,k+1,rfl,ab,(by rw[x1,cE ab]),x2,x3,x4,x5,x6⟩
  have jv:k<l.length:=ab
  have hg:=jH jv
  have hm:=qt (LV hA.1.MA jv)
  have wi:=ON jv
  (try((repeat(revert hN;revert N;apply Pn.out));refine wk (tw @a18 (tw @ag0 (tw @ag1 (tw @ag2 (tw @ag3 (tw @a3 (tw @a5 (tw @Mm (tw @a17 (tw @hk (tw @hg (tw @hm (tw @v1 (tw @v2 (tw @v3 (tw @v4 @ai.eq_1)))))))))))))))) ?_;(repeat(refine Pn.mk ?_;intro N hN))))
  refine eF ?_ ?_ ?_ ?_ ?_ (by(try dsimp only);exact⟨ab,fun x hx=>by
   have h1:=dF (i:=x) (n:=st_a.next) ab
   have h2:=dU (a:=x) (b:=⟨69001001,σ.next+1⟩) cD
   have h3:=eR x hx
   simp only[go_sem, ↓reduceIte,Nat.reduceEqDiff,Nat.reduceAdd,Nat.reduceSub,Nat.reduceLeDiff,reduceCtorEq,h1,h2,h3]⟩)
  all_goals simp only[go_sem, ↓reduceIte,Nat.reduceEqDiff,Nat.reduceAdd,Nat.reduceSub,Nat.reduceLeDiff,reduceCtorEq,a18,ag0,ag1,ag2,ag3,a3,a5,Mm,a17,ai,v1,v2,v3,v4,wi]
 ·have mN:k=l.length:=ab
  subst mN
  have tR:l.take l.length=l:=List.take_length
  (try((repeat(revert hN;revert N;apply Pn.out));refine wk (tw @a18 (tw @ag0 (tw @ag1 (tw @ag2 (tw @ag3 (tw @a3 (tw @a5 (tw @Mm (tw @a17 (tw @hk (tw @v1 (tw @v2 (tw @v3 @v4))))))))))))) ?_;(repeat(refine Pn.mk ?_;intro N hN))))
  refine dc (fun n env st=>∃j:Nat,n=(l.length)-j/\j<=(l.length)/\env 34=.int .i64 (j:Int)/\(σ.next+3<=st.next/\lz st.get st.next ⟨69001004,σ.next+1⟩ ⟨69001001,σ.next+1⟩ ⟨69001002,σ.next+1⟩ s l/\(∀x:Id,x.cV<σ.next->st.get x=σ.get x)/\∃es:List En,st.get ⟨69001002,σ.next+1⟩=some ⟨true,mP.j4,es.map nJ⟩/\u7 st.get st.next es (gP s l) (DJ s l j))) (l.length) ⟨0,ab,ab,sl (tw @a18 (tw @ag0 (tw @ag1 (tw @ag2 (tw @ag3 (tw @a3 (tw @a5 (tw @Mm @a17)))))))),by(try dsimp only);exact⟨ab,⟨sd @ag0,sd (tw @ag1 @tR),⟨[],sd @ag2,by intro r hr;cases hr⟩,cD,cD,cD,(by intro e;injection e with e1 e2;revert e1;decide),(by intro e;injection e with e1 e2;revert e1;decide),(by intro e;injection e with e1 e2;revert e1;decide)⟩,fun x hx=>by
   have h3:=eR x hx
   simp only[go_sem, ↓reduceIte,Nat.reduceEqDiff,Nat.reduceAdd,Nat.reduceSub,Nat.reduceLeDiff,reduceCtorEq,h3],[],sl @ag2,List.nodup_nil,fun q hq=>.inl ⟨by
    rcases hq with hq|⟨i,hi,_⟩
    ·exact hq.1
    ·exact absurd hi (Nat.not_lt_zero i),fun e he=>by cases he⟩⟩⟩ ?_
  rintro n_b env_b st_b ⟨j,rfl,ble,b34,bI0⟩ fG
  have b5:=fG 5 (by kernel_rfl);have tx:=fG 32 (by kernel_rfl);have lP:=fG 33 (by kernel_rfl)
  simp only[go_sem, ↓reduceIte,Nat.reduceEqDiff,Nat.reduceAdd,Nat.reduceSub,Nat.reduceLeDiff,reduceCtorEq,a18,ag0,ag1,ag2,ag3,a3,a5,Mm,a17]at b5 tx lP
  clear fG
  obtain⟨bn,bC,fG,es,bO,bS⟩:=bI0
  by_cases hj:(j:Int)<(l.length:Int)
  ·have gi:∀{e:Env} {gg:Rows} {nx:Nat},(e 34=.int .i64 (IntKind.i64.wrap ((j:Int)+1)))->(σ.next+3<=nx/\lz gg nx ⟨69001004,σ.next+1⟩ ⟨69001001,σ.next+1⟩ ⟨69001002,σ.next+1⟩ s l/\(∀x:Id,x.cV<σ.next->gg x=σ.get x)/\∃es:List En,gg ⟨69001002,σ.next+1⟩=some ⟨true,mP.j4,es.map nJ⟩/\u7 gg nx es (gP s l) (DJ s l (j+1)))->∃m0,m0<(l.length)-j/\∃j:Nat,m0=(l.length)-j/\j<=(l.length)/\e 34=.int .i64 (j:Int)/\(σ.next+3<=nx/\lz gg nx ⟨69001004,σ.next+1⟩ ⟨69001001,σ.next+1⟩ ⟨69001002,σ.next+1⟩ s l/\(∀x:Id,x.cV<σ.next->gg x=σ.get x)/\∃es:List En,gg ⟨69001002,σ.next+1⟩=some ⟨true,mP.j4,es.map nJ⟩/\u7 gg nx es (gP s l) (DJ s l j)):=fun x1 x2=>⟨_,ab,j+1,rfl,ab,(by rw[x1,cE ab]),x2⟩
   have pO:j<l.length:=ab
   have hg:=jH pO
   have UM:=A4 (hA.1.pt pO)
   (try((repeat(revert hN;revert N;apply Pn.out));refine wk (tw @b34 (tw @b5 (tw @tx (tw @lP (tw @hj (tw @hg @ai.eq_1)))))) ?_;(repeat(refine Pn.mk ?_;intro N hN))))
   have hG:∀x:Id,x.cV<st_b.next->(bz (bz st_b.get ⟨69009002,st_b.next+1⟩ ⟨true,3,[[.int .i64 0,.int .i64 0,.int .i64 0]]⟩) ⟨69009002,st_b.next+1⟩ ⟨true,3,[[.int .i64 (cP l j).bQ.fu,.int .i64 (cP l j).bQ.eW,.int .i64 (cP l j).cK]]⟩) x=st_b.get x:=fun x hx=>by
    have h1:=dF hx
    simp only[go_sem, ↓reduceIte,Nat.reduceEqDiff,Nat.reduceAdd,Nat.reduceSub,Nat.reduceLeDiff,reduceCtorEq,h1]
   have IE:lz (bz (bz st_b.get ⟨69009002,st_b.next+1⟩ ⟨true,3,[[.int .i64 0,.int .i64 0,.int .i64 0]]⟩) ⟨69009002,st_b.next+1⟩ ⟨true,3,[[.int .i64 (cP l j).bQ.fu,.int .i64 (cP l j).bQ.eW,.int .i64 (cP l j).cK]]⟩) (st_b.next+1+1+1) ⟨69001004,σ.next+1⟩ ⟨69001001,σ.next+1⟩ ⟨69001002,σ.next+1⟩ s l:=bC.frame ab hG
   refine .inr (bc _ _ _ _ _ (fun r σ1 hq=>?_) (rH (σ:=⟨bz (bz st_b.get ⟨69009002,st_b.next+1⟩ ⟨true,3,[[.int .i64 0,.int .i64 0,.int .i64 0]]⟩) ⟨69009002,st_b.next+1⟩ ⟨true,3,[[.int .i64 (cP l j).bQ.fu,.int .i64 (cP l j).bQ.eW,.int .i64 (cP l j).cK]]⟩,st_b.next+1+1+1⟩) IE.Tn IE.cO IE.TO (DJ s l j) ⟨es,(hG _ cD).trans bO,bS.frame cD fun x hx _=>hG x hx⟩ hS (gO.O8 hA) (cP l j).bQ UM.1 UM.2))
   obtain⟨g1,x1⟩:=σ1
   obtain⟨rfl,hL⟩:=hq
   (try dsimp only at hL)
   have v7:=IE.PL hL
   have hLn:=hL.1
   have hLf:=hL.2.1
   obtain⟨Xt,TU,J0⟩:=hL.2.2
   (try dsimp only at hLn hLf)
   have hAj:∀q,DJ s l (j+1) q->DJ s l j q∨∃k:Nat,k<4/\q=cN (cP l j).bQ k:=fun q hq=>by
    rcases hq with hq|⟨i,hi,hq⟩
    ·exact .inl (.inl hq)
    ·rcases Nat.lt_or_ge i j with h|h
     ·exact .inl (.inr ⟨i,h,hq⟩)
     ·exact .inr (by rw[show i=j by omega]at hq;exact hq)
   refine hN _ _ ?_
   clear hN N
   (try((repeat(revert hN;revert N;apply Pn.out));refine wk (tw @b34 (tw @b5 (tw @tx @lP))) ?_;(repeat(refine Pn.mk ?_;intro N hN))))
   exact gi (sd (tw @b34 (tw @b5 (tw @tx @lP)))) (by(try dsimp only);exact⟨ab,v7.frame ab (fun x hx=>rfl),fun x hx=>by
    have h1:=dF (i:=x) (n:=st_b.next) ab
    have h2:=hLf x ab (fun e=>by rw[e]at hx;(try dsimp only at hx);omega)
    have h3:=fG x hx
    simp only[h2]
    simp only[go_sem, ↓reduceIte,Nat.reduceEqDiff,Nat.reduceAdd,Nat.reduceSub,Nat.reduceLeDiff,reduceCtorEq,h1,h3],Xt,TU,(J0.frame ab fun x hx _=>rfl).mono hAj⟩)
  ·have ja:j=l.length:=ab
   subst ja
   (try((repeat(revert hN;revert N;apply Pn.out));refine wk (tw @b34 (tw @b5 (tw @tx (tw @lP @hj)))) ?_;(repeat(refine Pn.mk ?_;intro N hN))))
   exact eK (.inl rfl) (vs:=[.ptr ⟨69001004,σ.next+1⟩ 0 0]) (sd @Nat.zero_add) ⟨_,_,_,rfl,⟨bC.frame cD (fun x hx=>rfl),es,bO,(bS.frame cD fun x hx _=>rfl).mono fun q _=>L0 XR l q⟩,cD,cD,cD,cD,fG⟩
theorem Hf {s:aw} {ts:List aa} {p q:af} {t:Int} (h0:ew ts p<0) (hqp:q≠p) (hn:∀k:Nat,k<4->q≠cN p k):gP s (ts++[⟨p,t⟩]) q=gP s ts q:=by
 unfold gP
 have qn:=lr.1 h0
 have y5:∀x,x≠p->gh (ts++[⟨p,t⟩]) x=gh ts x:=fun x hx=>by
  rw[qN (q:=⟨p,t⟩) x qn]
  exact if_neg fun e=>hx e.symm
 have ed:∀k:Nat,k<4->cN q k≠p:=fun k hk e=>by
  have Hs:(jT k).toNat<4/\((jT k).toNat:Int)=jT k:=by
   have:k=0∨k=1∨k=2∨k=3:=ab
   rcases this with rfl|rfl|rfl|rfl<;>decide
  refine hn _ Hs.1 ?_
  rw[Hs.2,<-e,td q k hk]
 have hb:∀(u:Int) (d:Nat),d<=4->eC s.aq (gh (ts++[⟨p,t⟩])) q u d=eC s.aq (gh ts) q u d:=fun u d=>by
  induction d with
  |zero=>intro _;rfl
  |succ d ih=>
   intro hd
   rw[eC,eC,ih ab,y5 _ (ed d ab)]
 refine sF (fun k=>?_) _
 unfold eH
 rw[y5 q hqp,show nn s.aq (gh (ts++[⟨p,t⟩])) q k=nn s.aq (gh ts) q k from hb k 4 (Nat.le_refl _)]
theorem Hg {s:aw} {ts:List aa} {p:af} {t:Int} (h0:ew ts p<0) (ht:0<=t):gP s (ts++[⟨p,t⟩]) p=[]:=by
 unfold gP
 refine Av (fun k=>?_) _
 have:¬gh (ts++[⟨p,t⟩]) p<0:=by
  rw[qN (q:=⟨p,t⟩) p (lr.1 h0),if_pos rfl]
  show ¬t<0
  omega
 simp[eH,this]
theorem Vn {σ:au} {c T O:Id} {s:aw} {ts:List aa} (h:nD σ.get σ.next c T O s ts) (hS:gO s.aq) (hF:∀q,0<=gh ts q->eA s.aq (gh ts q)=true) (p:af) (hp:zF p=true) (t:Int) (ht:eA s.aq t=true) (h0:ew ts p<0):
  Call Tryz.prog 109 [.ptr c 0 0,.agg (ao p),.int .i64 t] σ (fun r σ'=>r=.fN []/\nD σ'.get σ'.next c T O s (ts++[⟨p,t⟩])/\σ.next<=σ'.next/\∀x:Id,x.cV<σ.next->x≠T->x≠O->σ'.get x=σ.get x):=by
 refine eX fC rfl fun fb=>?_
 clear fb
 obtain⟨hx,hy⟩:=A4 hp
 have qn:=lr.1 h0
 have US:0<=t:=(dZ ht).1
 have TH:∀q,0<=gh (ts++[⟨p,t⟩]) q->eA s.aq (gh (ts++[⟨p,t⟩]) q)=true:=fun q hq=>by
  rw[qN q qn]at hq ⊢
  split at hq
  ·rename_i he;rw[if_pos he];exact ht
  ·rename_i he;rw[if_neg he];exact hF q hq
 obtain⟨es,ho,hw⟩:=h.op
 obtain⟨fi,yg,_,Hp,_,_⟩:=sS p es
 unfold c6 at Hp
 have h1:=h.o.row
 have h2:=h.o.tl
 have v1:=dF h.o.cv
 have v2:=dF h.o.tv
 have v3:=dF h.o.ov
 have hm:=qt h0
 have cT:=eq_false h.o.cT
 have cO:=eq_false h.o.cO
 have TO:=eq_false h.o.TO
 have Tc:=eq_false (fun e:T=c=>h.o.cT e.symm)
 have Oc:=eq_false (fun e:O=c=>h.o.cO e.symm)
 have OT:=eq_false (fun e:O=T=>h.o.TO e.symm)
 (try((repeat(revert hN;revert N;apply Pn.out));refine wk (tw @h1 (tw @h2 (tw @ho (tw @v1 (tw @v2 (tw @v3 (tw @hm (tw @yg (tw @Hp (tw @cT (tw @cO (tw @TO (tw @Tc (tw @Oc (tw @OT @ao.eq_1))))))))))))))) ?_;(repeat(refine Pn.mk ?_;intro N hN))))
 have hG:∀x:Id,x.cV<σ.next->x≠T->x≠O->(bz (bz (bz σ.get ⟨109000000,σ.next⟩ ⟨true,2,[[.int .i64 p.fu,.int .i64 p.eW]]⟩) T ⟨true,mP.j4,ts.map ai++[[.int .i64 p.fu,.int .i64 p.eW,.int .i64 t]]⟩) O ⟨true,mP.j4,(nI es p).map nJ⟩) x=σ.get x:=fun x Rs YN Gc=>by
  have a1:=eq_false YN
  have a2:=eq_false Gc
  have a3:=dF Rs
  simp only[go_sem, ↓reduceIte,Nat.reduceEqDiff,Nat.reduceAdd,Nat.reduceSub,Nat.reduceLeDiff,reduceCtorEq,a1,a2,a3]
 have fc:∀x:Id,(∃k r,σ.get x=some ⟨k,1,r⟩)->x≠T/\x≠O:=fun x hr=>by
  obtain⟨k,r,hr⟩:=hr
  constructor
  ·rintro rfl
   rw[h2]at hr
   injection hr with hr
   injection hr with _ hr _
   exact xn hr
  ·rintro rfl
   rw[ho]at hr
   injection hr with hr
   injection hr with _ hr _
   exact xn hr
 obtain⟨G,Wm⟩:∃G,G=bz (bz (bz σ.get ⟨109000000,σ.next⟩ ⟨true,2,[[.int .i64 p.fu,.int .i64 p.eW]]⟩) T ⟨true,mP.j4,ts.map ai++[[.int .i64 p.fu,.int .i64 p.eW,.int .i64 t]]⟩) O ⟨true,mP.j4,(nI es p).map nJ⟩:=⟨_,rfl⟩
 have hGT:G T=some ⟨true,mP.j4,ts.map ai++[[.int .i64 p.fu,.int .i64 p.eW,.int .i64 t]]⟩:=by rw[Wm];simp only[go_sem, ↓reduceIte,Nat.reduceEqDiff,Nat.reduceAdd,Nat.reduceSub,Nat.reduceLeDiff,reduceCtorEq,TO]
 have hGO:G O=some ⟨true,mP.j4,(nI es p).map nJ⟩:=by rw[Wm];simp only[go_sem, ↓reduceIte,Nat.reduceEqDiff,Nat.reduceAdd,Nat.reduceSub,Nat.reduceLeDiff,reduceCtorEq]
 rw[<-Wm]at hG ⊢
 clear Wm
 have hC:lz G (σ.next+1+1+1+1) c T O s (ts++[⟨p,t⟩]):=
  ⟨(hG c h.o.cv h.o.cT h.o.cO).trans h1,by rw[hGT,List.map_append];rfl,⟨_,hGO,fun r hr=>by
   obtain⟨e,_,rfl⟩:=List.mem_map.1 hr
   exact⟨_,_,_,rfl⟩⟩,by have:=h.o.cv;omega,by have:=h.o.tv;omega,by have:=h.o.ov;omega,h.o.cT,h.o.cO,h.o.TO⟩
 have hE:u7 G (σ.next+1+1+1+1) (nI es p) (gP s (ts++[⟨p,t⟩])) (fun q=>¬∃k:Nat,k<4/\q=cN p k):=by
  have e1:u7 G (σ.next+1+1+1+1) es (gP s ts) (fun _=>True):=hw.frame ab fun x hx hr=>hG x hx (fc x hr).1 (fc x hr).2
  refine⟨vK _ e1.nodup,fun q hq=>?_⟩
  have hqk:∀k:Nat,k<4->q≠cN p k:=fun k hk e=>hq ⟨k,hk,e⟩
  by_cases e:q=p
  ·subst e
   exact .inl ⟨Hg h0 US,Ao e1.nodup⟩
  ·rw[Hf h0 e hqk]
   rcases e1.at_ q trivial with⟨a1,a2⟩|⟨a1,o',a2,a3⟩
   ·exact .inl ⟨a1,fun x hx=>a2 x (qV.subset hx)⟩
   ·exact .inr ⟨a1,o',(wH e).2 a2,a3⟩
 refine .inr (bc _ _ _ _ _ (fun r σ1 hq=>?_) (rH (σ:=⟨G,σ.next+1+1+1+1⟩) hC.Tn hC.cO hC.TO _ ⟨_,hGO,hE⟩ hS TH p hx hy))
 obtain⟨g1,x1⟩:=σ1
 obtain⟨rfl,hL⟩:=hq
 (try dsimp only at hL)
 have v7:=hC.PL (σ:=⟨G,σ.next+1+1+1+1⟩) hL
 have hn:=hL.1
 have hf:=hL.2.1
 obtain⟨Xt,TU,J0⟩:=hL.2.2
 (try dsimp only at hn hf)
 refine hN _ _ ?_
 clear hN N
 (try((repeat(revert hN;revert N;apply Pn.out));refine wk @Nat.zero_add ?_;(repeat(refine Pn.mk ?_;intro N hN))))
 exact eK (.inr rfl) (vs:=[]) rfl ⟨rfl,⟨v7.frame cD fun _ _=>rfl,Xt,TU,(J0.frame cD fun x hx _=>rfl).mono fun q _=>by
  by_cases hq:∃k:Nat,k<4/\q=cN p k
  ·exact .inr hq
  ·exact .inl hq⟩,cD,fun x Rs YN Gc=>(hf x ab Gc).trans (hG x Rs YN Gc)⟩
end Go.Proofs.YtalkncaokeaifaaGreatDoor.V

namespace Go.Proofs.YtalkncaokeaifaaGreatDoor.V
open Go.RowKit Go.Shelf
attribute [local go_sem] Oper.semAt_some
section
variable {F:Fence} {n:Nat} {P:Program} {ops:Array Oper} {Q:Exit->Act->World->Prop} {rest:List Oper} {a:Act} {w:World} {o:Oper}
theorem Fz (hg:o.guard=none) (m:Operand) (t:TypeId) (ep:o.op=Op.range t m) {v:Value} {w':World} (fF:(Instr.range t (a.eval m)).run P w=.ok v w') (h:wpListIn F n P ops Q rest (a.put o.dst v) w'):wpListIn F n P ops Q (o::rest) a w:=by
 refine wpListIn_plain hg fun K' Wq=>?_
 unfold Oper.wpIn
 refine⟨by simp[Oper.about,ep],?_⟩
 rw[Oper.semAt_plain F _ _ (by rw[ep];intro c jZ;cases jZ)]
 simp[execOp,ep,fF,Result.andThen]
 exact Wq _ _ h
theorem It (hg:o.guard=none) (it:Operand) (ep:o.op=Op.next it false) (rr b clock:Nat) (seen:Array Nat) (es:Array MapEntry) (IJ:a.eval it=.pointer (some ⟨rr,0,none⟩)) (hr:w.heap[rr]? =some (.mapIter (some b) clock seen clock)) (hb:w.heap[b]? =some (.map es clock)) (ed:FE es clock)
  (TF:(leftOf es seen).toList=[]->wpListIn F n P ops Q rest (a.put o.dst (.tuple #[.bool false])) w)
  (TR:∀e∈(leftOf es seen).toList,∀w',w'.heap[rr]? =some (.mapIter (some b) clock (seen.push e.born) clock)->w'.heap[b]? =some (.map es clock)->w.grownBy w' (some rr)->w'.heap.size=w.heap.size->(Instr.entry (.pointer (some ⟨rr,0,none⟩))).run P w'=.ok (.tuple #[e.key,e.val]) w'->wpListIn F n P ops Q rest (a.put o.dst (.tuple #[.bool true,e.key,e.val])) w'):
  wpListIn F n P ops Q (o::rest) a w:=by
 refine wpListIn_plain hg fun K' Wq=>?_
 unfold Oper.wpIn
 refine⟨by simp[Oper.about,ep],?_⟩
 rw[Oper.semAt_plain F _ _ (by rw[ep];intro c jZ;cases jZ)]
 rcases run_next_at (P:=P) w o.type rr b clock clock seen es clock hr hb ed.1 (Nat.le_refl _)with⟨h0,fF⟩|⟨e,he,w1,uq,fF⟩
 ·simp[execOp,ep,IJ,fF,Result.andThen]
  exact Wq _ _ (TF (List.eq_nil_of_length_eq_zero (by simpa using h0)))
 ·have Rc:w1.heap[rr]? =some (.mapIter (some b) clock seen clock):=by rcases uq with rfl|rfl<;>exact hr
  have iL:=MapKept.heap_set (o':=.mapIter (some b) clock (seen.push e.born) clock) Rc
  obtain⟨w2,nA⟩:∃w2,ChangeMaps.setBlock w1 rr (.mapIter (some b) clock (seen.push e.born) clock)=w2:=⟨_,rfl⟩
  have ho:∀k,k≠rr->w2.heap[k]? =w.heap[k]? :=fun k hk=>by
   rw[<-nA]
   refine(iL.2 k hk).trans ?_
   rcases uq with rfl|rfl<;>rfl
  have hz:w2.heap.size=w.heap.size:=by
   rw[<-nA]
   rcases uq with rfl|rfl<;>simp[ChangeMaps.setBlock]
  have yj:w2.heap[rr]? =some (.mapIter (some b) clock (seen.push e.born) clock):=by rw[<-nA];exact iL.1
  have pX:w2.os=w.os/\w2.tape=w.tape/\w2.output=w.output:=by
   rw[<-nA]
   rcases uq with rfl|rfl<;>exact⟨rfl,rfl,rfl⟩
  have XX:b≠rr:=fun e=>by subst e;rw[hr]at hb;cases hb
  have sI:w2.heap[b]? =some (.map es clock):=(ho b XX).trans hb
  have Pp:=run_entry_at (P:=P) w2 rr b clock seen es clock e yj sI (mem_left he).1 ed.2
  rw[nA]at fF
  simp[execOp,ep,IJ,fF,Result.andThen]
  exact Wq _ _ (TR e he w2 yj sI ⟨pX.1,pX.2.1,pX.2.2,ab,fun k _ hk=>ho k fun e=>hk (by rw[e])⟩ hz Pp)
end
def qY (p:af):Value:=.agg #[.int .i64 p.fu,.int .i64 p.eW]
def EK (es:Array MapEntry) (rr:Nat) (w:World):Nat:=match w.heap[rr]? with
 |some (.mapIter _ _ seen _)=>(leftOf es seen).size
 |_=>0
theorem zl {es:Array MapEntry} {rr b clock:Nat} {seen:Array Nat} {w:World} (h:w.heap[rr]? =some (.mapIter (some b) clock seen clock)):EK es rr w=(leftOf es seen).size:=by unfold EK;rw[h]
theorem HM {es:Array MapEntry} {clock:Nat} {seen:Array Nat} {e:MapEntry} (hs:FE es clock) (he:e∈(leftOf es seen).toList):((e.key::(leftOf es (seen.push e.born)).toList.map (·.key)).Perm ((leftOf es seen).toList.map (·.key)))/\(leftOf es (seen.push e.born)).size+1=(leftOf es seen).size:=by
 obtain⟨i,hi,Mt⟩:=List.getElem_of_mem he
 have h2:=wE hs (i:=i) (e:=e) (seen:=seen) (by rw[List.getElem?_eq_getElem hi,Mt])
 have hp:=qw (l:=(leftOf es seen).toList) (i:=i) (x:=e) (by rw[List.getElem?_eq_getElem hi,Mt])
 rw[h2]
 refine⟨by simpa using hp.map fun e:MapEntry=>e.key,?_⟩
 have h3:=congrArg List.length h2
 have h4:=hp.length_eq
 simp only[Array.length_toList,List.length_cons]at h3 h4
 rw[<-h3]at h4;exact h4
theorem Hc {a b:List af} (h:(a.map qY).Perm (b.map qY)):a.Perm b:=by
 have h2:=h.map (fun v:Value=>match v with| .agg ⟨[.int _ x,.int _ y]⟩=>(⟨x,y⟩:af)|_=>⟨0,0⟩)
 simpa[List.map_map,Function.comp_def,qY]using h2
theorem KF (q Bm b:Nat) (es:Array MapEntry) (clock:Nat) (ed:FE es clock) (ks:List af) (hk:es.toList.map (·.key)=ks.map qY) (J Jx:List af->World->Prop) (n:Nat) (hn:1<=n)
  (hY:∀pre x W,J pre W->pre.length<ks.length->YieldAt Fence.wide (n-1) Tryz.prog q #[qY x] W fun e W'=>
   (e=.returned (.bool true)/\J (pre++[x]) W'/\KeepsWalks W W')∨(e=.returned (.bool false)/\Jx (pre++[x]) W'))
  (W:World) (hJ:AbidesFrom W.heap.size J) (hm:W.cell? ⟨Bm,0,none⟩=some (.map (some b))) (hb:W.heap[b]? =some (.map es clock)) (h0:J [] W):
  CallsIn Fence.wide n Tryz.prog 161 #[.func (.yield q) #[] #[],.pointer (some ⟨Bm,0,none⟩)] W fun e W'=>(∃v,e=.returned v)/\
   ((∃ss:List af,ss.Perm ks/\J ss W')∨(∃pre,Jx pre W')):=by
 refine callsIn_of_wp Tryz.func161 rfl trivial ?_ rfl
 simp only[Tryz.ntmps161,List.size_toArray,List.length_cons,List.length_nil,Nat.reduceAdd,Nat.reduceSub,Array.replicate_succ,Array.replicate_zero,List.push_toArray,List.append_toArray,List.nil_append,List.cons_append]
 have hrg:=fun(wx:World) (h:wx.heap[b]? =some (.map es clock))=>run_range_map (P:=Tryz.prog) wx 141 _ _ b es clock Tryz.underlying141 h
 gi_wp2_with (first
  |(refine Fz rfl _ _ rfl (hrg _ hb) ?_)
  |gi_in)
 have iY:b<W.heap.size:=(Array.getElem?_eq_some_iff.1 hb).1
 have TL:J [] (W.alloc (.mapIter (some b) clock #[] clock)):=hJ _ _ _ none h0 (grown_of ((Below.refl _ W).alloc (Nat.le_refl _) _)) (fun r h=>by cases h)
 have Rc:(W.alloc (.mapIter (some b) clock #[] clock)).heap[W.heap.size]? =some (.mapIter (some b) clock #[] clock):=World.alloc_heap_new _ _
 have J3:(W.alloc (.mapIter (some b) clock #[] clock)).heap[b]? =some (.map es clock):=(Below.heap_alloc _ _ _ iY).trans hb
 go_frame
 gi_loopw [3] (fun _ wr=>∃(seen:Array Nat) (ss:List af),wr.heap[W.heap.size]? =some (.mapIter (some b) clock seen clock)/\wr.heap[b]? =some (.map es clock)/\(ss.map qY++(leftOf es seen).toList.map (·.key)).Perm (ks.map qY)/\J ss wr)
  (fun _ wr=>EK es W.heap.size wr)
 case atStart=>
  exact⟨#[],[],Rc,J3,by rw[<-hk,show(leftOf es #[]).toList=es.toList by simp[leftOf]];exact List.Perm.refl _,TL⟩
 case round=>
  obtain⟨seen,ss,hr,XX,hp,Pf⟩:=hrel
  gi_wp2_with (first
   |(refine It rfl _ rfl W.heap.size b clock seen es rfl hr XX ed ?_ ?_)
   |gi_in)
  ·intro Mx
   gi_wp2
   go_end0
   rw[Mx]at hp
   exact⟨⟨_,rfl⟩,.inl ⟨ss,Hc (by simpa using hp),Pf⟩⟩
  ·intro e he0 w2 yj sI Um pZ Pp
   have he:e∈(leftOf es seen).toList:=by simpa using he0
   obtain⟨Cs,eJ⟩:=HM ed he
   obtain⟨x,hx⟩:∃x,e.key=qY x:=by
    have h1:e.key∈es.toList.map (·.key):=List.mem_map_of_mem (mem_left he).1
    rw[hk]at h1
    obtain⟨x,_,hx⟩:=List.mem_map.1 h1
    exact⟨x,hx.symm⟩
   have TM:J ss w2:=hJ ss wr w2 (some W.heap.size) Pf Um (fun r e=>by cases e;exact⟨Nat.le_refl _,_,hr,rfl⟩)
   have hlen:ss.length<ks.length:=by
    have h1:=hp.length_eq
    have h2:0<(leftOf es seen).toList.length:=List.length_pos_of_mem he
    simp only[List.length_append,List.length_map]at h1
    omega
   obtain⟨fn,tmps,assign,body,hy,hR⟩:=hY ss x (w2.alloc (.cells #[.int .i64 x.fu,.int .i64 x.eW] 87)) (hJ _ _ _ none TM (grown_of ((Below.refl _ w2).alloc (Nat.le_refl _) _)) (fun r h=>by cases h)) hlen
   rw[hx]at Pp ⊢
   simp only[qY]at Pp hy ⊢
   gi_wp2
   refine hR.mono ?_
   rintro e3 W3 (⟨rfl,hJ3,Hs⟩|⟨rfl,hJx3⟩)
   ·gi_wp2
    have Wt:=KeepsWalks.alloc w2 (.cells #[.int .i64 x.fu,.int .i64 x.eW] 87)
    have hr3:=Hs.same _ _ (Wt.same _ _ yj rfl) rfl
    have hb3:=Hs.same _ _ (Wt.same _ _ sI rfl) rfl
    go_roundw
    case rel=>
     refine⟨_,ss++[x],hr3,hb3,?_,hJ3⟩
     rw[List.map_append,List.append_assoc]
     refine List.Perm.trans ?_ hp
     rw[hx]at Cs
     exact Cs.append_left _
    case measure=>rw[zl hr3,zl hr];omega
   ·gi_wp2
    refine bodyPost_ret (results_none rfl _ _ _) rfl ?_
    exact⟨⟨_,rfl⟩,.inr ⟨_,hJx3⟩⟩
theorem EE (Bm b:Nat) (es:Array MapEntry) (clock:Nat) (ed:FE es clock) (ks:List af) (hk:es.toList.map (·.key)=ks.map qY) (n:Nat) (hn:1<=n) (w:World) (Xy:Bm<w.heap.size) (hm:w.cell? ⟨Bm,0,none⟩=some (.map (some b))) (hb:w.heap[b]? =some (.map es clock)):
  SeqStopsK Fence.wide n Tryz.prog 161 #[.pointer (some ⟨Bm,0,none⟩)] (fun x:af=> #[qY x]) KeepsWalks (fun ss=>ss.Perm ks) (fun _=>True) ks.length w:=fun q J Jx W hW hJ _ hY h0=>by
 refine(KF q Bm b es clock ed ks hk J Jx n hn hY W hJ ((hW.cell (p:=⟨Bm,0,none⟩) Xy).trans hm) ((hW.block b (Array.getElem?_eq_some_iff.1 hb).1).trans hb) h0).mono ?_
 rintro e W' ⟨h1,⟨ss,h2,h3⟩|⟨pre,h3⟩⟩
 ·exact⟨h1,.inl ⟨ss,h2,h3⟩⟩
 ·exact⟨h1,.inr ⟨pre,trivial,h3⟩⟩
def PN (ps:List af):List Value:=ps.flatMap fun p=>[.int .i64 p.fu,.int .i64 p.eW]
theorem Lf (ps:List af) (p:af):PN (ps++[p])=PN ps++[.int .i64 p.fu,.int .i64 p.eW]:=by simp[PN]
theorem Oj {ps:List af} {i j:Nat} {p:af} (h:ps[i]? =some p) (hj:j<2):(PN ps)[i*2+j]? =([.int .i64 p.fu,.int .i64 p.eW]:List Value)[j]? :=by
 induction ps generalizing i with
 |nil=>simp at h
 |cons q r ih=>
  cases i with
  |zero=>
   simp at h;subst h
   match j,hj with
   |0,_=>rfl
   |1,_=>rfl
  |succ i=>
   simp only[List.getElem?_cons_succ]at h
   have:=ih h
   have e:(i+1)*2+j=i*2+j+2:=ab
   rw[e]
   simpa[PN]using this
theorem cell_two_new (W:World) (T:TypeId) (x y:Value):∀(j:Nat) (u:Value),[x,y][j]? =some u->(W.alloc (.cells #[x,y] T)).cell? ((⟨W.heap.size,0,none⟩:Addr).add j)=some u:=fun j u h=>by
 have hb:(W.alloc (.cells #[x,y] T)).heap[W.heap.size]? =some (.cells #[x,y] T (0,0)):=World.alloc_heap_new _ _
 have e:∀k,(W.alloc (.cells #[x,y] T)).cell? ⟨W.heap.size,k,none⟩=(#[x,y]:Array Value)[k]? :=fun k=>by
  unfold World.cell?
  rw[show(W.alloc (.cells #[x,y] T)).heap[(⟨W.heap.size,k,none⟩:Addr).block]? = _ from hb]
  rfl
 rw[show(⟨W.heap.size,0,none⟩:Addr).add j=⟨W.heap.size,j,none⟩ by simp[Addr.add];exact fun h=>h.symm,e]
 simpa using h
theorem Rv:(Tryz.prog.info? 87).map (fun i=>(i.zero,i.size,i.bytes))=some (some (.agg #[.int .i64 0,.int .i64 0]),2,16):=by kernel_rfl
theorem Hq {β:Type} (B:Nat) (c:Array Value) (t:TypeId) (fr:Nat×Nat):Own (fun(_:β) W=>W.heap[B]? =some (.cells c t fr)):=fun _ X _ row h hg hr=>(hg.block B (Array.getElem?_eq_some_iff.1 h).1 (fun e=>by
 obtain⟨o,ho,hc⟩:=hr B e.symm
 rw[h]at ho;cases ho;cases hc)).trans h
theorem z6 (Bm b:Nat) (es:Array MapEntry) (clock:Nat) (ed:FE es clock) (ks:List af) (hk:es.toList.map (·.key)=ks.map qY) (hl:ks.length<=1000000) (w:World) (Xy:Bm<w.heap.size) (hm:w.cell? ⟨Bm,0,none⟩=some (.map (some b))) (hb:w.heap[b]? =some (.map es clock)):
  CallsIn Fence.wide 5 Tryz.prog 180 #[.slice none 0 0,.func (.func 161) #[] #[.pointer (some ⟨Bm,0,none⟩)]] w fun e W'=>∃(ss:List af) (v:Value),ss.Perm ks/\e=.returned v/\W'.ownsRow w.heap.size 87 2 v ss.length (PN ss)/\(v=.slice none 0 0↔ss=[])/\Below w.heap.size w W':=by
 obtain⟨i0,hi,IQ,sM,pZ⟩:=info_parts Rv
 refine callsIn_of_wp_marks Tryz.func180 rfl trivial ?_ rfl
 simp only[Tryz.ntmps180,List.size_toArray,List.length_cons,List.length_nil,Nat.reduceAdd,Nat.reduceSub,Array.replicate_succ,Array.replicate_zero,List.push_toArray,List.append_toArray,List.nil_append,List.cons_append]
 gi_wp2
 have bO:=Boxed.new w 216 (.slice none 0 0)
 have yd:Below w.heap.size w (w.alloc (.cells #[.slice none 0 0] 216)):=(Below.refl _ w).alloc (Nat.le_refl _) _
 have fc:(w.alloc (.cells #[.slice none 0 0] 216)).heap.size=w.heap.size+1:=by simp
 obtain⟨W0,Pk⟩:∃W0,w.alloc (.cells #[.slice none 0 0] 216)=W0:=⟨_,rfl⟩
 rw[Pk]at bO yd fc ⊢
 clear Pk
 have UA:W0.cell? ⟨Bm,0,none⟩=some (.map (some b)):=(yd.cell (p:=⟨Bm,0,none⟩) Xy).trans hm
 have Eo:=(yd.block b (Array.getElem?_eq_some_iff.1 hb).1).trans hb
 refine wpIn_rangeFunc_ownH (n:=5) rfl ab (gf:=161) (lb:= #[.pointer (some ⟨Bm,0,none⟩)]) rfl trivial (enters_of Tryz.func161 (by kernel_rfl) rfl)
  (EE Bm b es clock ed ks hk (5-1) ab W0 ab UA Eo) walksK_t (walksK_b (w:=W0)) (Below.refl _ _) (fun _=>rfl)
  (fun pre W=>(∃v,Boxed W w.heap.size 216 v/\W.ownsRow w.heap.size 87 2 v pre.length (PN pre)/\(v=.slice none 0 0↔pre=[]))/\Below w.heap.size w W)
  (fun _ _ _=>False)
  (OwnFrom.and (Own.from (holdsRow_own w.heap.size w.heap.size 216 87 2 (fun pre=>pre.length) (fun pre=>PN pre) (fun pre v=>v=.slice none 0 0↔pre=[])) _) (ownFrom_below (Nat.le_refl _) ab))
  (fun _ _ _ _ _ hs _ _=>hs)
  ⟨⟨_,bO,World.ownsRow_nil _ _ _ _,by simp⟩,yd⟩
  (fun x a' W=>∃Bx,w.heap.size<Bx/\W.heap[Bx]? =some (.cells #[.int .i64 x.fu,.int .i64 x.eW] 87 (0,0))/\a'={tmps:= #[.slice none 0 0,.func (.func 161) #[] #[.pointer (some ⟨Bm,0,none⟩)],.pointer (some ⟨w.heap.size,0,none⟩),undef,.slice none 0 0,.pointer (some ⟨Bx,0,none⟩),.func (.func 161) #[] #[.pointer (some ⟨Bm,0,none⟩)],.agg #[.int .i64 x.fu,.int .i64 x.eW],undef,undef,undef,undef,undef],defers:=[]})
  (fun x a' _ X Y row hs hg hr=>by obtain⟨Bx,h1,h2,h3⟩:=hs;exact⟨Bx,h1,Hq Bx _ _ _ () X Y row h2 hg (fun r e=>(hr r e).2),h3⟩)
  ?assign ?body ?done ?stop
 case assign=>
  rintro q pre x W K ⟨⟨v,hv,fy,hnil⟩,hB⟩ hK
  simp only[qY]
  gi_wp2
  exact hK _ _ ((KeepsOthers.alloc _ _).from _) (KeepsWalks.alloc _ _) ⟨⟨v,hv.alloc _,fy.alloc _,hnil⟩,hB.alloc hB.size _⟩ ⟨W.heap.size,hv.lt,World.alloc_heap_new _ _,rfl⟩
 case body=>
  rintro q pre x a' W hq hqr ⟨⟨v,hv,fy,hnil⟩,hB⟩ ⟨Bx,hBx,bX,rfl⟩ eJ
  have hc:=hv.cell
  have Xo:W.cell? ⟨Bx,0,none⟩=some (.int .i64 x.fu):=by simp[World.cell?,bX]
  have Xp:W.cell? ⟨Bx,1,none⟩=some (.int .i64 x.eW):=by simp[World.cell?,bX]
  have Ki:=hB.size
  gi_wp2_with (gi_at_builtin;refine wpListIn_append_own _ rfl _ _ 216 rfl w.heap.size 87 i0 (.agg #[.int .i64 0,.int .i64 0]) 2 16 (by kernel_rfl) hi IQ sM pZ rfl (by decide) _ _ _ rfl (fy.alloc _) ⟨W.heap.size,0,none⟩ 1 1 [.int .i64 x.fu,.int .i64 x.eW] rfl rfl (cell_two_new _ _ _ _) (by simp[Value.oneCell']) (by unfold maxLen;omega) ab (by simp;omega) ?_;intro v' w4 rn pW _;obtain⟨g',M4,rfl⟩:=ownsRow_succ rn;obtain⟨pq,IM,yj,rm,sI⟩:=hv.appended (by decide) fy Ki ab rn pW;have oH:=pq.cell;have Pq:=pq.frozen)
  exact⟨rm.from _,⟨rm.size,fun k o hk hw=>rm.same k o hk (Obj.not_cells_of_walk hw)⟩,⟨⟨_,IM,by rw[Lf,List.length_append];exact yj,by simp⟩,hB.trans sI⟩⟩
 case done=>
  rintro D ys W hD Bt ⟨⟨v,hv,fy,hnil⟩,hB⟩ hK
  have hc:=hv.cell
  gi_wp2
  refine⟨by simp,.inl ⟨_,_,rfl,run_takeDeferred hK,?_⟩⟩
  exact⟨_,results_tmp rfl _ _ _,ys,v,Bt,rfl,ownsRow_putObj fy _ hK rfl,hnil,hB.trans (belowK_b (w:=w) (Nat.le_refl _) W D _ _ ab hK rfl rfl)⟩
 case stop=>
  rintro D c pre W _ _ h _
  exact h.elim
end Go.Proofs.YtalkncaokeaifaaGreatDoor.V

namespace Go.Proofs.YtalkncaokeaifaaGreatDoor.V
open Go.RowKit
theorem RU {P:Program} {w:World} {D:Nat->Prop} {ι:Names} {x y:Int} {v:Value} (h:dE P w D ι (.agg [.int .i64 x,.int .i64 y]) v):v=.agg #[.int .i64 x,.int .i64 y]:=by
 obtain⟨vs,f,rfl,fc,_,h1,h2⟩:=iy h
 have v0:=h1 0 (by simp)
 have v1:=h1 1 (by simp)
 rw[dI (h2 0 _ rfl)]at v0
 rw[dI (h2 1 _ rfl)]at v1
 obtain⟨vl⟩:=vs
 match vl,fc with
 |[a,b],_=>
  simp at v0 v1
  rw[v0,v1]
theorem BB {σ:au} {X O:Id} {b1 b2:Bool} {es:List En} (hX:σ.get X=some ⟨b1,1,[[.map O mP]]⟩) (hO:σ.get O=some ⟨b2,mP.j4,es.map nJ⟩) (hl:es.length<=1000000):
  Call Tryz.prog 180 [.bP,.fn 161 [.ptr X 0 0]] σ (fun r σ'=>σ.next<=σ'.next/\(∀x:Id,x.cV<σ.next->σ'.get x=σ.get x)/\∃ss:List af,ss.Perm (es.map (·.1))/\((ss=[]/\r=.bP)∨∃o:Id,r=.own o 0 ss.length/\σ'.get o=some ⟨true,2,ss.map ao⟩/\σ.next<=o.cV/\o.cV<σ'.next/\ss≠[])):=by
 refine fh fun hs D ι w vs S U A=>?_
 obtain⟨u1,Y6,rfl,h1,h2⟩:=jc A
 obtain⟨u2,Y7,h3,h4,h5⟩:=jc h2
 simp at h3;subst h3
 have:=rS h5
 simp at this;subst this
 obtain rfl:=iN h1
 obtain⟨vc,gf,rfl,_,xS,Ps,hrc⟩:=s4 h4
 obtain⟨BX,hp,hBX,hkX⟩:=gW (hrc 0 _ rfl)
 have YI:vc= #[.pointer (some ⟨BX.b,0,none⟩)]:=by
  obtain⟨l⟩:=vc
  have q0:=Ps 0 (by simp)
  match l,xS with
  |[a],_=>simp at q0;rw[q0,hp];simp
 subst YI
 obtain⟨BX',Nr,RX,_,_⟩:=S.row X _ hX
 rw[hBX]at Nr;injection Nr with Nr;subst Nr
 obtain⟨vm,PG,hrm⟩:=(RX.row hkX).at_ 0 0 _ _ rfl rfl
 obtain⟨BO,rfl,hBO,hkO⟩:=A7 hrm
 obtain⟨BO',Nq,RO,_,_⟩:=S.row O _ hO
 rw[hBO]at Nq;injection Nq with Nq;subst Nq
 obtain⟨_,Ar,clock,hblk,fc,⟨_,Cx⟩,hM⟩:=RO.map mP hkO
 have hk:Ar.toList.map (·.key)=(es.map (·.1)).map qY:=by
  have Ez:Ar.toList.length=es.length:=by simpa using fc
  refine List.ext_getElem (by simpa using Ez) fun i h1 h2=>?_
  have hi:i<es.length:=by simpa using h2
  obtain⟨e,kv,vv,q1,q2,_,q4,_⟩:=hM i (nJ es[i]) (by simp[hi])
  have e1:kv=.agg [.int .i64 es[i].1.fu,.int .i64 es[i].1.eW]:=by
   simp[part,MK.ks,nJ]at q2
   exact q2.symm
  subst e1
  have e2:=RU q4
  simp only[List.getElem_map]
  have e3:Ar.toList[i]'ab=e:=by
   have:=Array.getElem?_eq_some_iff.1 q1
   obtain⟨_,h⟩:=this
   simpa using h
  rw[e3,e2];rfl
 have eJ:∀b,D b->b<w.heap.size:=S.dead
 have T8:BX.b<w.heap.size:=RX.lt
 have Ub:w.cell? ⟨BX.b,0,none⟩=some (.map (some BO.b)):=by simpa using PG
 refine(callsIn_wide.1 (z6 BX.b BO.b Ar clock Cx (es.map (·.1)) hk (by simpa using hl) w T8 Ub hblk)).mono ?_
 rintro e W' ⟨ss,v,pY,rfl,⟨hle',hown⟩,hnil,hB⟩
 have S':fZ Tryz.prog hs D ι σ.get W':=S.stay (fun b hb=>hB.block b hb) hB.size (fun _ h=>h) (fun b hb=>Nat.lt_of_lt_of_le (eJ b hb) hB.size) (fun _ h=>.inl h) (fun _ _ h=>h)
 have T:Step hs D ι w D ι W':=Step.stay S (fun b hb=>hB.block b hb) hB.size hB.os hB.tape hB.output (fun _ h=>h) (fun _ h=>.inl h) (fun _ _ h=>h)
 rcases hown with⟨rfl,h0⟩|⟨gb,cap,cur,rfl,Q2,hblk2,hle,ye,dW,tR⟩
 ·have Eo:ss=[]:=hnil.1 rfl
  exact⟨.bP,_,σ.next,D,ι,_,rfl,⟨Nat.le_refl _,fun _ _=>rfl,ss,pY,.inl ⟨Eo,rfl⟩⟩,T,S',U,Nat.le_refl _,.eE _ _ .bP⟩
 ·have Eo:ss≠[]:=fun h=>by have:=hnil.2 h;cases this
  have jz:ι ⟨0,σ.next⟩=none:=fresh U (fun h=>h)
  have hR:gC Tryz.prog W' D (jx ι ⟨0,σ.next⟩ ⟨gb,2,cap*2,none⟩) ⟨gb,2,cap*2,none⟩ ⟨true,2,ss.map ao⟩:=by
   refine jO.obj ⟨rfl,⟨cur,_,hblk2,dW⟩,?_,fun cs hc=>?_,fun cs hc a ha=>?_,fun i j cs a hi hj=>?_⟩ rfl
   ·simp only[List.length_map];exact Nat.mul_le_mul_right 2 hle
   ·obtain⟨b,_,rfl⟩:=List.mem_map.1 hc;rfl
   ·obtain⟨b,_,rfl⟩:=List.mem_map.1 hc
    simp[ao]at ha
    rcases ha with rfl|rfl<;>rfl
   ·rw[List.getElem?_map]at hi
    simp only[Option.map_eq_some_iff]at hi
    obtain⟨b,hb,rfl⟩:=hi
    have Yb:j<2:=by have:=(List.getElem?_eq_some_iff.1 hj).1;simpa[ao]using this
    have pN:=(List.getElem?_eq_some_iff.1 hb).1
    have hg:=Oj hb Yb
    rw[<-tR,List.getElem?_take,if_pos ab]at hg
    have key:∀x:Value,([.int .i64 b.fu,.int .i64 b.eW]:List Value)[j]? =some x->W'.cell? ⟨gb,i*2+j,none⟩=some x:=fun x hx=>by
     rw[hx]at hg
     have e:W'.cell? ⟨gb,i*2+j,none⟩=cur[i*2+j]? :=by
      unfold World.cell?
      rw[show W'.heap[(⟨gb,i*2+j,none⟩:Addr).block]? = _ from hblk2]
      rfl
     rw[e,<-Array.getElem?_toList];exact hg
    match j,hj with
    |0,hj=>simp[ao]at hj;subst hj;exact⟨_,key _ rfl,.eE _ _ (.int _ _)⟩
    |1,hj=>simp[ao]at hj;subst hj;exact⟨_,key _ rfl,.eE _ _ (.int _ _)⟩
    |j+2,hj=>simp[ao]at hj
  have S2:=fZ.add (r:=⟨true,2,ss.map ao⟩) S S' jz Q2 hR
  refine⟨.own ⟨0,σ.next⟩ 0 ss.length,bz σ.get ⟨0,σ.next⟩ ⟨true,2,ss.map ao⟩,σ.next+1,D,jx ι ⟨0,σ.next⟩ ⟨gb,2,cap*2,none⟩,_,rfl,⟨Nat.le_succ _,fun x hx=>?_,ss,pY,.inr ⟨_,rfl,by simp[bz],Nat.le_refl _,Nat.lt_succ_self _,Eo⟩⟩,T.trans (Step.stay S' (fun _ _=>rfl) (Nat.le_refl _) rfl rfl rfl (fun _ h=>h) (fun _ h=>.inl h) (eZ jz)),S2,U.upd.next,Nat.le_succ _,.own _ _ _ _ _ _ (eh _ _ _) rfl hle (.inr (by simp)) (by simp) ye⟩
  have:¬x=⟨0,σ.next⟩:=fun e=>by subst e;simp at hx
  simp[bz,this]
end Go.Proofs.YtalkncaokeaifaaGreatDoor.V

namespace Go.Proofs.YtalkncaokeaifaaGreatDoor.V
open Go.RowKit
attribute [local irreducible] dH wpOps eB Call
attribute [local go_sem] ax eo dS ez ev cZ upd bD K.av bR AV.cells AV.cell rowOf rowsOf part ld rowAt eL bz bx cW dj eO bf cC dw er ea cR dq cw cu da db bp aI bZ bj ck cj dn dr dp bW br cz dm bh ar cq bH eM aT bL bq aH cU aQ cX AV.undef aW bd de di cY c6 bJ dv dy bE du dt cm cr List.getD_cons_zero List.getD_cons_succ List.getD_nil List.all_cons List.all_nil Bool.and_true Bool.true_and Bool.and_self Bool.not_true Bool.not_false Option.map_some Option.map_none Option.bind_some Option.bind_none List.length_cons List.length_nil List.take_succ_cons List.take_zero List.take_nil List.drop_succ_cons List.drop_zero List.drop_nil List.head?_cons List.map_cons List.map_nil List.getElem?_cons_zero List.getElem?_cons_succ List.cons_append List.nil_append List.append_nil List.length_map List.set_cons_zero List.set_cons_succ Nat.reduceMul eq_self Int.toNat_natCast Int.natCast_nonneg and_self true_and and_true decide_true decide_false Bool.false_eq_true Nat.zero_add Nat.add_zero List.contains_cons List.contains_nil Bool.or_false Bool.false_or beq_self_eq_true Nat.reduceBEq ne_eq not_true_eq_false not_false_eq_true Id.mk.injEq false_and and_false Nat.reduceLT Int.reduceLE Int.reduceLT Int.reduceToNat Int.reduceNeg Int.reduceAdd Nat.le_refl List.length_append beq_true beq_false Bool.not_eq_eq_eq_not or_false false_or dX ad ae aP aJ bt bI aD aS aA aL bU aZ
theorem oR {α:Type} [DecidableEq α]:∀{xs ys:List α},xs.Nodup->(∀x∈xs,x∈ys)->xs.length=ys.length->xs.Perm ys
 |[],ys,_,_,h=>by
  have:ys=[]:=List.eq_nil_of_length_eq_zero h.symm
  subst this;exact List.Perm.nil
 |x::xs,ys,hn,hs,h=>by
  obtain⟨h1,h2⟩:=List.nodup_cons.1 hn
  have hx:=hs x (by simp)
  have hl:=List.length_erase_of_mem hx
  have:=@oR α _ xs (ys.erase x) h2 (fun y hy=>(List.mem_erase_of_ne fun e=>h1 (by rw[<-e];exact hy)).2 (hs y (by simp[hy]))) (by rw[hl];simp only[List.length_cons]at h;omega)
  exact(this.cons x).trans (List.perm_cons_erase hx).symm
theorem mW {L:List af} (h:nF L):L.Nodup:=List.Pairwise.imp (fun {a b} rj e=>by rw[e,gz]at rj;cases rj) h
theorem OH {L qs:List af} (hR:nF L) (hp:qs.Perm L) (hs:∀i j:Nat,i<j->j<qs.length->k8 (nU qs j) (nU qs i)=false):qs=L:=by
 have hd:qs.Nodup:=hp.nodup_iff.2 (mW hR)
 have hq:nF qs:=by
  unfold nF
  unfold List.Nodup at hd
  rw[List.pairwise_iff_getElem]at hd ⊢
  intro i j hi hj yh
  have h1:=hs i j yh hj
  rw[j3 hj,j3 hi]at h1
  exact uM h1 fun e=>hd i j hi hj yh e.symm
 exact Gv hq hR fun x=>hp.mem_iff
theorem Ie (σ:au):Call Tryz.prog 160 [.bP,.fn 115 []] σ fun r σ'=>r=.fN []/\σ'.next=σ.next/\σ'.get=σ.get:=by
 refine fh fun hs D ι w vs S U A=>?_
 obtain⟨u1,Y6,rfl,h1,h2⟩:=jc A
 obtain⟨u2,Y7,h3,h4,h5⟩:=jc h2
 simp at h3;subst h3
 have:=rS h5
 simp at this;subst this
 obtain rfl:=iN h1
 refine(PQ _ _ _ w).mono ?_
 rintro e w' ⟨rfl,rfl⟩
 exact⟨.fN [],σ.get,σ.next,D,ι,_,rfl,⟨rfl,rfl,rfl⟩,Step.refl _ _ _ _,S,U,Nat.le_refl _,.fN [] #[] (fun _=>Go.undef) rfl (fun j hj=>by simp at hj) (fun j a h=>by simp at h)⟩
theorem KG (O:Id) (σ:au):Call Tryz.prog 140 [.map O mP] σ (fun r σ'=>r=.fn 161 [.ptr ⟨140000000,σ.next⟩ 0 0]/\σ'.get ⟨140000000,σ.next⟩=some ⟨true,1,[[.map O mP]]⟩/\σ.next<σ'.next/\∀x:Id,x.cV<σ.next->σ'.get x=σ.get x):=by
 refine eX fC rfl fun hl=>?_
 clear hl
 (try((repeat(revert hN;revert N;apply Pn.out));refine wk @Nat.zero_add ?_;(repeat(refine Pn.mk ?_;intro N hN))))
 exact eK (.inl rfl) (vs:=[.fn 161 [.ptr ⟨140000000,σ.next⟩ 0 0]]) (sd @Nat.zero_add) ⟨rfl,sd @Nat.zero_add,cD,fun x hx=>by
  have:=dF hx
  simp only[go_sem, ↓reduceIte,Nat.reduceEqDiff,Nat.reduceAdd,Nat.reduceSub,Nat.reduceLeDiff,reduceCtorEq,this]⟩
theorem G7 {σ:au} {X O:Id} {b1 b2:Bool} {es:List En} (hX:σ.get X=some ⟨b1,1,[[.map O mP]]⟩) (hO:σ.get O=some ⟨b2,mP.j4,es.map nJ⟩) (hl:es.length<=1000000) (hXv:X.cV<σ.next) (El:O.cV<σ.next):
  Call Tryz.prog 159 [.fn 161 [.ptr X 0 0]] σ (fun r σ'=>σ.next<=σ'.next/\(∀x:Id,x.cV<σ.next->σ'.get x=σ.get x)/\∃ss:List af,ss.Perm (es.map (·.1))/\((ss=[]/\r=.bP)∨∃o:Id,r=.own o 0 ss.length/\σ'.get o=some ⟨true,2,ss.map ao⟩/\σ.next<=o.cV/\o.cV<σ'.next/\ss≠[])):=by
 refine eX fC rfl fun fb=>?_
 clear fb
 (try((repeat(revert hN;revert N;apply Pn.out));refine wk @Nat.zero_add ?_;(repeat(refine Pn.mk ?_;intro N hN))))
 refine .inr (bc _ _ _ _ _ (fun r σ1 hq=>?_) (BB (σ:=⟨σ.get,_⟩) hX hO hl))
 obtain⟨g1,x1⟩:=σ1
 obtain⟨q1,q2,ss,q3,q4⟩:=hq
 (try dsimp only at q1 q2 q4)
 refine hN _ _ ?_
 clear hN N
 (try((repeat(revert hN;revert N;apply Pn.out));refine wk @Nat.zero_add ?_;(repeat(refine Pn.mk ?_;intro N hN))))
 exact eK (.inl rfl) (vs:=[r]) (sd @Nat.zero_add) ⟨cD,fun x hx=>q2 x ab,ss,q3,by
  rcases q4 with h|⟨o,h1,h2,h3,h4,h5⟩
  ·exact .inl h
  ·exact .inr ⟨o,h1,h2,ab,cD,h5⟩⟩
theorem LL {σ:au} {X O:Id} {b1 b2:Bool} {es:List En} (hX:σ.get X=some ⟨b1,1,[[.map O mP]]⟩) (hO:σ.get O=some ⟨b2,mP.j4,es.map nJ⟩) (hl:es.length<=1000000) (hXv:X.cV<σ.next) (El:O.cV<σ.next) (L:List af) (hR:nF L) (hn:(es.map (·.1)).Nodup) (hm:∀x,x∈L↔x∈es.map (·.1)):
  Call Tryz.prog 139 [.fn 161 [.ptr X 0 0],.fn 115 []] σ (fun r σ'=>σ.next<=σ'.next/\(∀x:Id,x.cV<σ.next->σ'.get x=σ.get x)/\((L=[]/\r=.bP)∨∃o:Id,r=.own o 0 L.length/\σ'.get o=some ⟨true,2,L.map ao⟩/\σ.next<=o.cV/\o.cV<σ'.next/\L≠[])):=by
 refine eX fC rfl fun fb=>?_
 clear fb
 (try((repeat(revert hN;revert N;apply Pn.out));refine wk @Nat.zero_add ?_;(repeat(refine Pn.mk ?_;intro N hN))))
 refine .inr (bc _ _ _ _ _ (fun r σ1 hq=>?_) (G7 (σ:=⟨σ.get,_⟩) hX hO hl cD cD))
 obtain⟨g1,x1⟩:=σ1
 obtain⟨q1,q2,ss,q3,q4⟩:=hq
 (try dsimp only at q1 q2 q4)
 have po:ss.Nodup:=q3.nodup_iff.2 hn
 have sL:∀x,x∈L↔x∈ss:=fun x=>(hm x).trans q3.mem_iff.symm
 refine hN _ _ ?_
 clear hN N
 rcases q4 with⟨hs,rfl⟩|⟨o,rfl,q5,q6,q7,q8⟩
 ·have hL:L=[]:=List.eq_nil_iff_forall_not_mem.2 fun x hx=>by have:=(sL x).1 hx;rw[hs]at this;cases this
  (try((repeat(revert hN;revert N;apply Pn.out));refine wk @Nat.zero_add ?_;(repeat(refine Pn.mk ?_;intro N hN))))
  refine .inr (bc _ _ _ _ _ (fun r σ2 hq=>?_) (Ie ⟨g1,_⟩))
  obtain⟨g2,x2⟩:=σ2
  obtain⟨rfl,u1,u2⟩:=hq
  (try dsimp only at u1 u2)
  refine hN _ _ ?_
  clear hN N
  (try((repeat(revert hN;revert N;apply Pn.out));refine wk @Nat.zero_add ?_;(repeat(refine Pn.mk ?_;intro N hN))))
  exact eK (.inl rfl) (vs:=[.bP]) (sd @Nat.zero_add) ⟨cD,fun x hx=>(congrFun u2 x).trans (q2 x ab),.inl ⟨hL,rfl⟩⟩
 ·have nz:ss.length<=1048576:=by rw[q3.length_eq,List.length_map];omega
  (try((repeat(revert hN;revert N;apply Pn.out));refine wk @Nat.zero_add ?_;(repeat(refine Pn.mk ?_;intro N hN))))
  refine .inr (bc _ _ _ _ _ (fun r σ2 hq=>?_) (Ih VM PQ ss nz ⟨g1,_⟩ o q5))
  obtain⟨g2,x2⟩:=σ2
  obtain⟨u1,u2,qs,u3,u4,u5,u6⟩:=hq
  (try dsimp only at u1 u2 u3)
  have WH:qs=L:=OH hR ((oR (mW hR) (fun x hx=>(u5 x).2 ((sL x).1 hx)) (by
   rw[u4]
   exact(oR (mW hR) (fun x hx=>(sL x).1 hx) (Nat.le_antisymm (mg (mW hR) fun x hx=>(sL x).1 hx) (mg po fun x hx=>(sL x).2 hx))).length_eq)).symm) u6
  rw[WH]at u3 u4
  have SF:L≠[]:=fun e=>by rw[e]at u4;exact q8 (List.eq_nil_of_length_eq_zero u4.symm)
  refine hN _ _ ?_
  clear hN N
  (try((repeat(revert hN;revert N;apply Pn.out));refine wk @Nat.zero_add ?_;(repeat(refine Pn.mk ?_;intro N hN))))
  exact eK (.inl rfl) (vs:=[.own o 0 ss.length]) (sd @Nat.zero_add) ⟨cD,fun x hx=>by
   have h1:x≠o:=fun e=>by rw[e]at hx;omega
   exact(u2 x h1).trans (q2 x ab),.inr ⟨o,by rw[u4];rfl,u3,ab,cD,SF⟩⟩
def DH (z m:Nat) (L:List aa) (v:AV) (g:Rows) (n:Nat):Prop:=(L=[]/\v=.bP)∨∃u:Id,v=.own u 0 L.length/\g u=some ⟨true,3,L.map ai⟩/\m<=u.cV/\u.cV<n/\0<L.length/\u.site=z
theorem DH.frame {z m:Nat} {L:List aa} {v v':AV} {g g':Rows} {n n':Nat} (h:DH z m L v g n) (he:v'=v) (hn:n<=n') (hf:∀x:Id,x.cV<n->g' x=g x):DH z m L v' g' n':=by
 subst he
 rcases h with h|⟨u,h1,h2,h3,h4,h5⟩
 ·exact .inl h
 ·exact .inr ⟨u,h1,(hf u h4).trans h2,h3,ab,h5⟩
def qv (p:af) (ks:List Int) (j:Nat):List aa:=(ks.take j).map fun k=>⟨p,k⟩
theorem HV {p:af} {ks:List Int} {j:Nat} (h:j<ks.length):qv p ks (j+1)=qv p ks j++[⟨p,ks.getD j 0⟩]:=by
 unfold qv
 rw[List.take_succ_eq_append_getElem h,List.map_append]
 simp[List.getD_eq_getElem?_getD,h]
theorem K2 (p:af) (ks:List Int):qv p ks ks.length=ks.map fun k=>(⟨p,k⟩:aa):=by unfold qv;rw[List.take_length]
theorem NT {ks:List Int} {j:Nat} (h:j<ks.length):(ks.map ah)[j]? =some [.int .i64 (ks.getD j 0)]:=by simp[ah,List.getD_eq_getElem?_getD,h]
structure W9 (g:Rows) (n:Nat) (c T O:Id) (s:aw) (l:List aa):Prop where
 row:g c=some ⟨true,6,[[.sl (s.aq.dx.map eP),.sl (s.aq.ay.map eS),.sl (s.dJ.ay.map ai),.int .i64 s.bu,.map T mP,.map O mP]]⟩
 cv:c.cV<n
 ov:O.cV<n
 op:∃es:List En,g O=some ⟨true,mP.j4,es.map nJ⟩/\u7 g n es (gP s l) (fun _=>True)
theorem Ry {σ:au} {c T O:Id} {s:aw} {l:List aa} (h:W9 σ.get σ.next c T O s l) (hT:1<=s.bu) (hS:gO s.aq) (hA:gV s.aq l):
  Call Tryz.prog 108 [.ptr c 0 0] σ (fun r σ'=>σ.next<=σ'.next/\(∀x:Id,x.cV<σ.next->σ'.get x=σ.get x)/\DH 108008005 σ.next (Bn (eH s l) s.aq.ay.length (mb l)) r σ'.get σ'.next):=by
 refine eX fC rfl fun fb=>?_
 clear fb
 obtain⟨es,hO,hE⟩:=h.op
 have fy:=h.row
 have v1:=dF h.cv
 have v2:=dF h.ov
 have Dv:=hS.xI
 have J8:=hA.1.Dq
 have Q5:∀q,q∈lI s l↔q∈es.map (·.1):=fun q=>by
  rw[wI hT hA]
  rcases hE.at_ q trivial with⟨h1,h2⟩|⟨h1,o,h2,_⟩
  ·refine⟨fun h=>absurd h1 h,fun h=>?_⟩
   obtain⟨e,he,rfl⟩:=List.mem_map.1 h
   exact absurd rfl (h2 e he)
  ·exact⟨fun _=>List.mem_map_of_mem (f:=(·.1)) h2,fun _=>h1⟩
 have UO:(lI s l).length<=10000:=by
  have h1:(lI s l).length<=(mb l).length:=List.length_filter_le _ _
  have h2:(mb l).length<=l.length*4:=qu l l.length
  omega
 have hes:es.length<=1000000:=by
  have h1:=mg hE.nodup fun x hx=>(Q5 x).2 hx
  rw[List.length_map]at h1
  omega
 rw[DR]
 have hR:=Ea s l
 have sJ:∀q∈lI s l,gP s l q≠[]:=fun q hq=>(wI hT hA q).1 hq
 generalize lI s l=ps at Q5 UO hR sJ
 (try((repeat(revert hN;revert N;apply Pn.out));refine wk (tw @fy @v1) ?_;(repeat(refine Pn.mk ?_;intro N hN))))
 refine .inr (bc _ _ _ _ _ (fun r σ1 hq=>?_) (KG O _))
 obtain⟨g1,x1⟩:=σ1
 obtain⟨rfl,q1,q2,q3⟩:=hq
 (try dsimp only at q1 q2 q3)
 have hO1:g1 O=some ⟨true,mP.j4,es.map nJ⟩:=(q3 O (by have:=h.ov;(try dsimp only);omega)).trans hO
 refine hN _ _ ?_
 clear hN N
 (try((repeat(revert hN;revert N;apply Pn.out));refine wk @Nat.zero_add ?_;(repeat(refine Pn.mk ?_;intro N hN))))
 refine .inr (bc _ _ _ _ _ (fun r σ2 hq=>?_) (LL (σ:=⟨g1,_⟩) q1 hO1 hes cD (by have:=h.ov;(try dsimp only);omega) ps hR hE.nodup Q5))
 obtain⟨g2,x2⟩:=σ2
 obtain⟨u1,u2,u3⟩:=hq
 (try dsimp only at u1 u2 u3)
 have qk:∀x:Id,x.cV<σ.next->g2 x=σ.get x:=fun x hx=>(u2 x ab).trans (q3 x cD)
 refine hN _ _ ?_
 clear hN N
 rcases u3 with⟨hps,rfl⟩|⟨o,rfl,ho,SQ,hox,hpne⟩
 ·(try((repeat(revert hN;revert N;apply Pn.out));refine wk @Nat.zero_add ?_;(repeat(refine Pn.mk ?_;intro N hN))))
  refine dc (fun n env st=>(env 15=.int .i64 0/\env 14=.int .i64 0/\env 3=.bP)/\σ.next<=st.next/\∀x:Id,x.cV<σ.next->st.get x=σ.get x) 0 ⟨⟨sd @Nat.zero_add,sl @Nat.zero_add,sd @Nat.zero_add⟩,cD,fun x hx=>qk x hx⟩ ?_
  rintro m e st ⟨⟨Ix,kZ,a3⟩,an,aF⟩ -
  have d0:decide ((0:Int)<0)=false:=rfl
  (try((repeat(revert hN;revert N;apply Pn.out));refine wk (tw @a3 (tw @kZ (tw @Ix @d0))) ?_;(repeat(refine Pn.mk ?_;intro N hN))))
  exact eK (.inl rfl) (vs:=[.bP]) (sd @a3) ⟨cD,fun x hx=>aF x hx,.inl ⟨by rw[hps];rfl,rfl⟩⟩
 ·have Ep:g2 c=some ⟨true,6,[[.sl (s.aq.dx.map eP),.sl (s.aq.ay.map eS),.sl (s.dJ.ay.map ai),.int .i64 s.bu,.map T mP,.map O mP]]⟩:=(qk c h.cv).trans fy
  have TU:g2 O=some ⟨true,mP.j4,es.map nJ⟩:=(qk O h.ov).trans hO
  have Po:=h.cv
  have El:=h.ov
  (try((repeat(revert hN;revert N;apply Pn.out));refine wk @Nat.zero_add ?_;(repeat(refine Pn.mk ?_;intro N hN))))
  refine dc (fun n env st=>∃k:Nat,n=(ps.length)-k/\k<=(ps.length)/\env 15=.int .i64 (k:Int)/\(x2<=st.next/\(∀x:Id,x.cV<x2->st.get x=g2 x)/\DH 108008005 x2 (Bn (eH s l) s.aq.ay.length (ps.take k)) (env 3) st.get st.next)) (ps.length) ⟨0,ab,ab,sl @Nat.zero_add,by(try dsimp only);exact⟨ab,fun x hx=>sd @Nat.zero_add,.inl ⟨rfl,sd @Nat.zero_add⟩⟩⟩ ?_
  rintro n_a env_a st_a ⟨k,rfl,ale,Ix,qM⟩ eR
  have a0:=eR 0 (by kernel_rfl);have nQ:=eR 13 (by kernel_rfl);have kZ:=eR 14 (by kernel_rfl)
  simp only[go_sem, ↓reduceIte,Nat.reduceEqDiff,Nat.reduceAdd,Nat.reduceSub,Nat.reduceLeDiff,reduceCtorEq]at a0 nQ kZ
  clear eR
  obtain⟨an,eR,a3⟩:=qM
  have bl:(Bn (eH s l) s.aq.ay.length (ps.take k)).length<=10000*160:=by
   have h2:=Ab (eH s l) s.aq.ay.length (ps.take k)
   have h3:(ps.take k).length*s.aq.ay.length<=10000*160:=Nat.mul_le_mul (by rw[List.length_take];omega) Dv
   omega
  by_cases hk:(k:Int)<(ps.length:Int)
  ·have eF:∀{e:Env} {gg:Rows} {nx:Nat},(e 15=.int .i64 (IntKind.i64.wrap ((k:Int)+1)))->(x2<=nx/\(∀x:Id,x.cV<x2->gg x=g2 x)/\DH 108008005 x2 (Bn (eH s l) s.aq.ay.length (ps.take (k+1))) (e 3) gg nx)->∃m0,m0<(ps.length)-k/\∃k:Nat,m0=(ps.length)-k/\k<=(ps.length)/\e 15=.int .i64 (k:Int)/\(x2<=nx/\(∀x:Id,x.cV<x2->gg x=g2 x)/\DH 108008005 x2 (Bn (eH s l) s.aq.ay.length (ps.take k)) (e 3) gg nx):=fun x1 x2=>⟨_,ab,k+1,rfl,ab,(by rw[x1,cE ab]),x2⟩
   have jv:k<ps.length:=ab
   have Br:=(eR o hox).trans ho
   have vao:=dF (i:=o) (n:=st_a.next) ab
   have iK:=Vp jv
   have Ps:=(eR c ab).trans Ep
   have vac:=dF (i:=c) (n:=st_a.next) ab
   have hgO:=(eR O ab).trans TU
   have vaO:=dF (i:=O) (n:=st_a.next) ab
   obtain⟨o',II,Yp,Q8⟩:∃o':Id,(nU ps k,AV.own o' 0 (gP s l (nU ps k)).length)∈es/\o'.cV<σ.next/\σ.get o'=some ⟨true,1,(gP s l (nU ps k)).map ah⟩:=by
    rcases hE.at_ (nU ps k) trivial with⟨h1,_⟩|⟨_,o',h2⟩
    ·exact absurd h1 (sJ _ (Gs jv))
    ·exact⟨o',h2⟩
   obtain⟨fi,yg,_,_,Cw,UH⟩:=sS (nU ps k) es
   obtain⟨j0,rfl,Ur⟩:∃j,fi=some j/\(es.map nJ)[j]? =some [.int .i64 (nU ps k).fu,.int .i64 (nU ps k).eW,.own o' 0 (gP s l (nU ps k)).length]:=by
    cases fi with
    |none=>exact absurd rfl (UH rfl _ II)
    |some j=>
     obtain⟨v,hv⟩:=Cw j rfl
     have e:=NY hE.nodup (List.mem_of_getElem? hv) II
     subst e
     exact⟨j,rfl,by rw[List.getElem?_map,hv];rfl⟩
   have T7:=Jl (B:=eH s l) (m:=s.aq.ay.length) jv
   have qj:DP (eH s l) (nU ps k) s.aq.ay.length=(gP s l (nU ps k)).map fun t=>(⟨nU ps k,t⟩:aa):=DQ _ _ _
   rw[qj,<-K2]at T7
   have hul:(gP s l (nU ps k)).length<=160:=by
    have:=Au (eH s l) (nU ps k) s.aq.ay.length
    unfold gP;omega
   generalize nU ps k=q at yg Ur II Q8 iK T7 hul
   generalize gP s l q=us at Ur II Q8 T7 hul
   generalize Bn (eH s l) s.aq.ay.length (ps.take k)=L at a3 bl T7
   (try((repeat(revert hN;revert N;apply Pn.out));refine wk (tw @Ix (tw @a0 (tw @nQ (tw @kZ (tw @hk (tw @Br (tw @vao (tw @iK (tw @Ps (tw @vac (tw @hgO (tw @vaO (tw @yg (tw @Ur @ao.eq_1)))))))))))))) ?_;(repeat(refine Pn.mk ?_;intro N hN))))
   refine dc (fun n env st=>∃j:Nat,n=(us.length)-j/\j<=(us.length)/\env 26=.int .i64 (j:Int)/\st.get ⟨108004002,st_a.next+1⟩=some ⟨true,2,[ao q]⟩/\(st_a.next+2<=st.next/\(∀x:Id,x.cV<x2->st.get x=g2 x)/\DH 108008005 x2 (L++qv q us j) (env 3) st.get st.next)) (us.length) ⟨0,ab,ab,sl (tw @Ix (tw @a0 (tw @nQ (tw @kZ @ao.eq_1)))),sl (tw @Ix (tw @a0 (tw @nQ (tw @kZ @ao.eq_1)))),by(try dsimp only);exact⟨ab,fun x hx=>by
    have h2:=dF (i:=x) (n:=st_a.next) ab
    have h3:=eR x hx
    simp only[go_sem, ↓reduceIte,Nat.reduceEqDiff,Nat.reduceAdd,Nat.reduceSub,Nat.reduceLeDiff,reduceCtorEq,h2,h3],by
    rw[show qv q us 0=[]from rfl,List.append_nil]
    exact a3.frame (sd @Nat.zero_add) ab fun x hx=>by
     have h2:=dF hx
     simp only[go_sem, ↓reduceIte,Nat.reduceEqDiff,Nat.reduceAdd,Nat.reduceSub,Nat.reduceLeDiff,reduceCtorEq,h2]⟩⟩ ?_
   rintro n_b env_b st_b ⟨j,rfl,ble,b26,bg0,bI0⟩ fG
   have b0:=fG 0 (by kernel_rfl);have b5:=fG 5 (by kernel_rfl);have Qj:=fG 13 (by kernel_rfl);have Bl:=fG 14 (by kernel_rfl);have Qk:=fG 15 (by kernel_rfl);have Ql:=fG 24 (by kernel_rfl);have Qm:=fG 25 (by kernel_rfl)
   simp only[go_sem, ↓reduceIte,Nat.reduceEqDiff,Nat.reduceAdd,Nat.reduceSub,Nat.reduceLeDiff,reduceCtorEq,Ix,a0,nQ,kZ,ao]at b0 b5 Qj Bl Qk Ql Qm
   clear fG
   obtain⟨bn,fG,b3⟩:=bI0
   have WZ:=dF (i:=⟨108004002,st_a.next+1⟩) (n:=st_b.next) cD
   have Ph:(L++qv q us j).length<=16777214:=by
    have:(qv q us j).length<=us.length:=by unfold qv;simp;omega
    rw[List.length_append];omega
   by_cases hj:(j:Int)<(us.length:Int)
   ·have gi:∀{e:Env} {gg:Rows} {nx:Nat},(e 26=.int .i64 (IntKind.i64.wrap ((j:Int)+1)))->(gg ⟨108004002,st_a.next+1⟩=some ⟨true,2,[ao q]⟩)->(st_a.next+2<=nx/\(∀x:Id,x.cV<x2->gg x=g2 x)/\DH 108008005 x2 (L++qv q us (j+1)) (e 3) gg nx)->∃m0,m0<(us.length)-j/\∃j:Nat,m0=(us.length)-j/\j<=(us.length)/\e 26=.int .i64 (j:Int)/\gg ⟨108004002,st_a.next+1⟩=some ⟨true,2,[ao q]⟩/\(st_a.next+2<=nx/\(∀x:Id,x.cV<x2->gg x=g2 x)/\DH 108008005 x2 (L++qv q us j) (e 3) gg nx):=fun x1 x2 x3=>⟨_,ab,j+1,rfl,ab,(by rw[x1,cE ab]),x2,x3⟩
    have pO:j<us.length:=ab
    have ym:=HV (p:=q) pO
    have Nw:=NT pO
    have Up:=(fG o' ab).trans ((qk o' Yp).trans Q8)
    have VQ:=dF (i:=o') (n:=st_b.next) ab
    have UD:(us.map ah).length=us.length:=by simp
    have Pj:L++qv q us (j+1)=(L++qv q us j)++[⟨q,us.getD j 0⟩]:=by rw[ym,List.append_assoc]
    generalize us.getD j 0=t at Nw Pj
    generalize L++qv q us j=M at b3 Ph Pj
    have Du:(M++[(⟨q,t⟩:aa)]).length=M.length+1:=by simp
    have Cq:(M++[(⟨q,t⟩:aa)]).map ai=M.map ai++[[.int .i64 q.fu,.int .i64 q.eW,.int .i64 t]]:=by rw[List.map_append];rfl
    rcases b3 with⟨hM,b3⟩|⟨u,b3,hug,hum,huv,hul0,UW⟩
    ·subst hM
     (try((repeat(revert hN;revert N;apply Pn.out));refine wk (tw @b26 (tw @bg0 (tw @b0 (tw @b5 (tw @Qj (tw @Bl (tw @Qk (tw @Ql (tw @Qm (tw @hj (tw @Nw (tw @Up (tw @VQ (tw @UD (tw @b3 (tw @WZ @ao.eq_1)))))))))))))))) ?_;(repeat(refine Pn.mk ?_;intro N hN))))
     refine gi ?_ ?_ (by(try dsimp only);exact⟨ab,fun x hx=>by
      have h2:=dF (i:=x) (n:=st_b.next) ab
      have h3:=fG x hx
      simp only[go_sem, ↓reduceIte,Nat.reduceEqDiff,Nat.reduceAdd,Nat.reduceSub,Nat.reduceLeDiff,reduceCtorEq,h2,h3],.inr ⟨⟨108008005,st_b.next+1+1⟩,by rw[Pj,Du];simp only[go_sem, ↓reduceIte,Nat.reduceEqDiff,Nat.reduceAdd,Nat.reduceSub,Nat.reduceLeDiff,reduceCtorEq]<;>rfl,by rw[Pj,Cq];simp only[go_sem, ↓reduceIte,Nat.reduceEqDiff,Nat.reduceAdd,Nat.reduceSub,Nat.reduceLeDiff,reduceCtorEq]<;>rfl,cD,cD,by rw[Pj,Du];omega,rfl⟩⟩)
     all_goals simp only[go_sem, ↓reduceIte,Nat.reduceEqDiff,Nat.reduceAdd,Nat.reduceSub,Nat.reduceLeDiff,reduceCtorEq,b26,bg0,b0,b5,Qj,Bl,Qk,Ql,Qm,WZ,ao]
    ·have vub:=dF huv
     have fJ:(M.map ai).length=M.length:=by simp
     have TQ:M.length<=16777215:=ab
     have ux:=eY UW (b:=108004002) (v:=st_a.next+1) (by decide)
     (try((repeat(revert hN;revert N;apply Pn.out));refine wk (tw @b26 (tw @bg0 (tw @b0 (tw @b5 (tw @Qj (tw @Bl (tw @Qk (tw @Ql (tw @Qm (tw @hj (tw @Nw (tw @Up (tw @VQ (tw @UD (tw @b3 (tw @hug (tw @vub (tw @fJ (tw @TQ (tw @WZ (tw @ux @ao.eq_1))))))))))))))))))))) ?_;(repeat(refine Pn.mk ?_;intro N hN))))
     refine gi ?_ ?_ (by(try dsimp only);exact⟨ab,fun x hx=>by
      have h2:=dF (i:=x) (n:=st_b.next) ab
      have h4:=dU (a:=x) (b:=u) ab
      have h3:=fG x hx
      simp only[go_sem, ↓reduceIte,Nat.reduceEqDiff,Nat.reduceAdd,Nat.reduceSub,Nat.reduceLeDiff,reduceCtorEq,h2,h3,h4],.inr ⟨⟨108008005,st_b.next+1+1⟩,by rw[Pj,Du];simp only[go_sem, ↓reduceIte,Nat.reduceEqDiff,Nat.reduceAdd,Nat.reduceSub,Nat.reduceLeDiff,reduceCtorEq]<;>rfl,by rw[Pj,Cq];simp only[go_sem, ↓reduceIte,Nat.reduceEqDiff,Nat.reduceAdd,Nat.reduceSub,Nat.reduceLeDiff,reduceCtorEq]<;>rfl,cD,cD,by rw[Pj,Du];omega,rfl⟩⟩)
     all_goals simp only[go_sem, ↓reduceIte,Nat.reduceEqDiff,Nat.reduceAdd,Nat.reduceSub,Nat.reduceLeDiff,reduceCtorEq,b26,bg0,b0,b5,Qj,Bl,Qk,Ql,Qm,WZ,ux,ao]
   ·have hju:j=us.length:=ab
    subst hju
    (try((repeat(revert hN;revert N;apply Pn.out));refine wk (tw @b26 (tw @bg0 (tw @b0 (tw @b5 (tw @Qj (tw @Bl (tw @Qk (tw @Ql (tw @Qm @hj))))))))) ?_;(repeat(refine Pn.mk ?_;intro N hN))))
    exact eF (sd (tw @Ix (tw @a0 (tw @nQ (tw @kZ (tw @b26 (tw @bg0 (tw @b0 (tw @b5 (tw @Qj (tw @Bl (tw @Qk (tw @Ql @Qm))))))))))))) (by(try dsimp only);exact⟨ab,fun x hx=>fG x hx,by
     rw[T7]
     exact b3.frame (sd @Nat.zero_add) ab fun x hx=>rfl⟩)
  ·have mN:k=ps.length:=ab
   subst mN
   rw[List.take_length]at a3
   (try((repeat(revert hN;revert N;apply Pn.out));refine wk (tw @Ix (tw @a0 (tw @nQ (tw @kZ @hk)))) ?_;(repeat(refine Pn.mk ?_;intro N hN))))
   exact eK (.inl rfl) (vs:=[env_a 3]) (sd @Nat.zero_add) ⟨cD,fun x hx=>(eR x ab).trans (qk x hx),by
    rcases a3 with h1|⟨u,h1,h2,h3,h4,h5⟩
    ·exact .inl h1
    ·exact .inr ⟨u,h1,h2,ab,cD,h5⟩⟩
end Go.Proofs.YtalkncaokeaifaaGreatDoor.V

namespace Go.Proofs.YtalkncaokeaifaaGreatDoor.V
open Go.RowKit
theorem Aa {B:af->Int->Bool} {p:af}:∀{t:Nat} {x:aa},x∈DP B p t->∃k:Nat,k<t/\x=⟨p,k⟩/\B p k=true
 |0,x,h=>by simp[DP]at h
 |t+1,x,h=>by
  rw[DP]at h
  split at h
  ·rename_i hb
   rcases List.mem_append.1 h with h|h
   ·obtain⟨k,hk,h1⟩:=Aa h
    exact⟨k,ab,h1⟩
   ·exact⟨t,ab,by simpa using h,hb⟩
  ·obtain⟨k,hk,h1⟩:=Aa h
   exact⟨k,ab,h1⟩
theorem MR {B:af->Int->Bool} {m:Nat} {ps:List af} {x:aa} (h:x∈Bn B m ps):x.bQ∈ps/\∃k:Nat,k<m/\x.cK=k/\B x.bQ x.cK=true:=by
 obtain⟨p,hp,hx⟩:=List.mem_flatMap.1 h
 obtain⟨k,hk,rfl,hb⟩:=Aa hx
 exact⟨hp,k,hk,rfl,hb⟩
noncomputable def iG (s:aw) (l:List aa):List aa:=Bn (eH s l) s.aq.ay.length (mb l)
theorem K5 {s:aw} {l:List aa} (hS:gO s.aq) (hA:gV s.aq l):(iG s l).length<=320000:=by
 have h1:=Ab (eH s l) s.aq.ay.length (mb l)
 have h2:(mb l).length<=l.length*4:=qu l l.length
 have h3:=hA.1.Dq
 have h4:=hS.xI
 have h5:(mb l).length*s.aq.ay.length<=2000*160:=Nat.mul_le_mul ab h4
 unfold iG;omega
def uy (sch:List Int) (d n:Nat):Nat:=if sch.length=0 then 0 else(sch.getD (d % sch.length) 0).toNat % n
theorem pJ {sch:List Int} {d n:Nat} (h:0<n):uy sch d n<n:=by
 unfold uy
 split
 ·exact h
 ·exact Nat.mod_lt _ h
noncomputable def mM (s:aw) (sch:List Int) (steps:Nat):Nat->List aa->Option (List aa)
 |0,es=>some es
 |f+1,es=>if (iG s (ei s es es.length)).length=0 then some es else if steps<=es.length then some es else if 500<=(ei s es es.length).length then none else mM s sch steps f (es++[cP (iG s (ei s es es.length)) (uy sch es.length (iG s (ei s es es.length)).length)])
theorem C0 {s:aw} {es ds:List aa} {i:Nat} (h:i<=es.length):ei s (es++ds) i=ei s es i:=by
 unfold ei
 rw[List.take_append_of_le_length h]
theorem Ld {es ds:List aa} {i:Nat} (h:i<es.length):cP (es++ds) i=cP es i:=by
 simp[cP,List.getD_eq_getElem?_getD,List.getElem?_append_left h]
theorem EZ {s:aw} {es ds:List aa} {i:Nat} (h:i<es.length):iV s (es++ds) i=iV s es i:=by
 unfold iV PM
 rw[C0 ab,Ld h]
theorem CX {s:aw} {l:List aa} {x:aa} (h:x∈iG s l):eA s.aq x.cK=true/\eH s l x.bQ x.cK=true:=by
 obtain⟨_,k,hk,e,hf⟩:=MR h
 refine⟨?_,hf⟩
 rw[e]
 exact jE ab
def gM (s:aw) (es:List aa):Prop:=∀j,j<es.length->iV s es j=true
theorem gM.nil (s:aw):gM s []:=fun j hj=>by simp at hj
theorem gM.add {s:aw} {es:List aa} (h:gM s es) {x:aa} (hx:x∈iG s (ei s es es.length)) (hl:(ei s es es.length).length<500):gM s (es++[x]):=fun j hj=>by
 rw[List.length_append,List.length_singleton]at hj
 by_cases h0:j<es.length
 ·rw[EZ h0];exact h j h0
 ·have e:j=es.length:=ab
  subst e
  obtain⟨h1,h2⟩:=CX hx
  unfold iV PM
  rw[C0 (Nat.le_refl _),show cP (es++[x]) es.length=x by simp[cP],h1,h2]
  simpa using hl
theorem oU (s:aw) (es:List aa):∀i,i<=es.length->(ei s es i).length=s.dJ.ay.length+i
 |0,_=>rfl
 |i+1,hi=>by rw[ki s es ab,xc,oU s es i ab];rfl
theorem yX {s:aw} {sch:List Int} {steps:Nat}:∀(f:Nat) (es Ar:List aa),gM s es->es.length<=steps->mM s sch steps f es=some Ar->gM s Ar/\Ar.length<=steps
 |0,es,Ar,h,hl,he=>by
  rw[mM]at he;injection he with he;subst he
  exact⟨h,hl⟩
 |f+1,es,Ar,h,hl,he=>by
  rw[mM]at he
  split at he
  ·injection he with he;subst he;exact⟨h,hl⟩
  ·split at he
   ·injection he with he;subst he;exact⟨h,hl⟩
   ·split at he
    ·cases he
    ·refine yX f _ _ (h.add (gR (pJ ab)) ab) ?_ he
     rw[List.length_append,List.length_singleton];omega
noncomputable def pM (s:aw) (sch:List Int) (steps:Nat):Option (List aa):=mM s sch steps 501 []
theorem yZ {s:aw} {sch:List Int} {steps:Nat} {es:List aa} (h:pM s sch steps=some es):gM s es/\es.length<=steps:=yX _ _ _ (gM.nil s) (Nat.zero_le _) h
theorem FH {B:af->Int->Bool} {p:af} {t:Nat} (hB:B p (t:Int)=true):∀{m:Nat},t<m->(⟨p,(t:Int)⟩:aa)∈DP B p m
 |0,h=>by omega
 |m+1,h=>by
  rw[DP]
  by_cases e:t=m
  ·subst e;rw[if_pos hB];simp
  ·have ih:=FH hB (m:=m) ab
   split
   ·exact List.mem_append_left _ ih
   ·exact ih
theorem Oa {s:aw} (hT:1<=s.bu) {l:List aa} (hA:gV s.aq l) {p:af} {t:Int} (ht:eA s.aq t=true) (h:eH s l p t=true):(⟨p,t⟩:aa)∈iG s l:=by
 have hn:=B8 hT hA h
 have WL:=dZ ht
 obtain⟨k,rfl⟩:∃k:Nat,t=(k:Int):=⟨t.toNat,ab⟩
 exact List.mem_flatMap.2 ⟨p,(zm l p).2 hn,FH h ab⟩
end Go.Proofs.YtalkncaokeaifaaGreatDoor.V

namespace Go.Proofs.YtalkncaokeaifaaGreatDoor.V
open Go.RowKit
attribute [local irreducible] dH wpOps eB Call
attribute [local go_sem] ax eo dS ez ev cZ upd bD K.av bR AV.cells AV.cell rowOf rowsOf part ld rowAt eL bz bx cW dj eO bf cC dw er ea cR dq cw cu da db bp aI bZ bj ck cj dn dr dp bW br cz dm bh ar cq bH eM aT bL bq aH cU aQ cX AV.undef aW bd de di cY c6 bJ dv dy bE du dt cm cr List.getD_cons_zero List.getD_cons_succ List.getD_nil List.all_cons List.all_nil Bool.and_true Bool.true_and Bool.and_self Bool.not_true Bool.not_false Option.map_some Option.map_none Option.bind_some Option.bind_none List.length_cons List.length_nil List.take_succ_cons List.take_zero List.take_nil List.drop_succ_cons List.drop_zero List.drop_nil List.head?_cons List.map_cons List.map_nil List.getElem?_cons_zero List.getElem?_cons_succ List.cons_append List.nil_append List.append_nil List.length_map List.set_cons_zero List.set_cons_succ Nat.reduceMul eq_self Int.toNat_natCast Int.natCast_nonneg and_self true_and and_true decide_true decide_false Bool.false_eq_true Nat.zero_add Nat.add_zero List.contains_cons List.contains_nil Bool.or_false Bool.false_or beq_self_eq_true Nat.reduceBEq ne_eq not_true_eq_false not_false_eq_true Id.mk.injEq false_and and_false Nat.reduceLT Int.reduceLE Int.reduceLT Int.reduceToNat Int.reduceNeg Int.reduceAdd Nat.le_refl List.length_append beq_true beq_false Bool.not_eq_eq_eq_not or_false false_or dX ad ae aP aJ bt bI aD aS aA aL bU aZ
end Go.Proofs.YtalkncaokeaifaaGreatDoor.V

namespace Go.Proofs.YtalkncaokeaifaaGreatDoor.V
open Go.RowKit
theorem vh (s:aO) (f:af->Int) (p:af) (t:Int):nn s f p t=0+(if 0<=f (cN p 0)then fX s t 0 (f (cN p 0))else 0)+(if 0<=f (cN p 1)then fX s t 1 (f (cN p 1))else 0)+(if 0<=f (cN p 2)then fX s t 2 (f (cN p 2))else 0)+(if 0<=f (cN p 3)then fX s t 3 (f (cN p 3))else 0):=rfl
end Go.Proofs.YtalkncaokeaifaaGreatDoor.V

namespace Go.Proofs.YtalkncaokeaifaaGreatDoor.V
open Go.RowKit
attribute [local irreducible] dH wpOps eB Call
attribute [local go_sem] ax eo dS ez ev cZ upd bD K.av bR AV.cells AV.cell rowOf rowsOf part ld rowAt eL bz bx cW dj eO bf cC dw er ea cR dq cw cu da db bp aI bZ bj ck cj dn dr dp bW br cz dm bh ar cq bH eM aT bL bq aH cU aQ cX AV.undef aW bd de di cY c6 bJ dv dy bE du dt cm cr List.getD_cons_zero List.getD_cons_succ List.getD_nil List.all_cons List.all_nil Bool.and_true Bool.true_and Bool.and_self Bool.not_true Bool.not_false Option.map_some Option.map_none Option.bind_some Option.bind_none List.length_cons List.length_nil List.take_succ_cons List.take_zero List.take_nil List.drop_succ_cons List.drop_zero List.drop_nil List.head?_cons List.map_cons List.map_nil List.getElem?_cons_zero List.getElem?_cons_succ List.cons_append List.nil_append List.append_nil List.length_map List.set_cons_zero List.set_cons_succ Nat.reduceMul eq_self Int.toNat_natCast Int.natCast_nonneg and_self true_and and_true decide_true decide_false Bool.false_eq_true Nat.zero_add Nat.add_zero List.contains_cons List.contains_nil Bool.or_false Bool.false_or beq_self_eq_true Nat.reduceBEq ne_eq not_true_eq_false not_false_eq_true Id.mk.injEq false_and and_false Nat.reduceLT Int.reduceLE Int.reduceLT Int.reduceToNat Int.reduceNeg Int.reduceAdd Nat.le_refl List.length_append beq_true beq_false Bool.not_eq_eq_eq_not or_false false_or dX ad ae aP aJ bt bI aD aS aA aL bU aZ
section
variable {E E':Nat->Prop} {n0:Nat} {g:Rows} {n:Nat} {rs:List (List AV)} {X Y:List fj}
end
end Go.Proofs.YtalkncaokeaifaaGreatDoor.V

namespace Go.Proofs.YtalkncaokeaifaaGreatDoor.V
open Go.RowKit
def sdN (m h i:Nat) (b:Int):List Int:=if i=0 then[if 0<h then(m:Int)+3 else 0,if 0<m then 3 else 0,0,0]else if i<=m then[b,if i<m then(i:Int)+3 else 0,0,(i:Int)+2]else[if i<m+h then(i:Int)+3 else 0,b,(i:Int)+2,0]
structure Qe (s:aw) (m h:Nat):Prop where
 m1:1<=m/\m<=4
 h1:1<=h/\h<=4
 len:s.aq.ay.length=m+h+5
 arm:∀i:Nat,i<=m+h->∃b:Int,(b=1∨b=2)/\(cG s.aq (i:Int)).eD=sdN m h i b
 fill:∀k:Nat,k<4->∃a b:Int,(a=1∨a=2)/\(b=1∨b=2)/\(cG s.aq ((m+h+1+k:Nat):Int)).eD=[a,b,1+(k:Int) % 2,1+(k:Int) / 2]
 tK:s.aq.dx.length=m+2+h
 str:∀i:Nat,i<m+2+h->(jl s.aq (i:Int)).gK=if i<2 then 1 else 2
 s6:s.dJ.ay=[⟨⟨0,0⟩,0⟩]
 uz:s.bu=2
section
variable {s:aw} {m h:Nat} (X:Qe s m h)
include X
end
def Tv (m h:Nat) (gs gw:Int):Int:=m+h+1+(gs-1)+2*(gw-1)
def S7 (s:aw) (m h:Nat) (L:List aa) (x:aa):Prop:=
 (x.bQ=⟨0,0⟩/\x.cK=0)∨
 (∃a:Int,1<=a/\a<=m/\x.bQ=⟨a,0⟩/\x.cK=a/\∃y∈L,y.bQ=⟨a-1,0⟩)∨
 (∃b:Int,1<=b/\b<=h/\x.bQ=⟨0,b⟩/\x.cK=m+b/\∃y∈L,y.bQ=⟨0,b-1⟩)∨
 (∃a b:Int,1<=a/\1<=b/\x.bQ=⟨a,b⟩/\∃yS∈L,∃yW∈L,yS.bQ=⟨a,b-1⟩/\yW.bQ=⟨a-1,b⟩/\(cL (cG s.aq yS.cK) 0=1∨cL (cG s.aq yS.cK) 0=2)/\(cL (cG s.aq yW.cK) 1=1∨cL (cG s.aq yW.cK) 1=2)/\x.cK=Tv m h (cL (cG s.aq yS.cK) 0) (cL (cG s.aq yW.cK) 1))
noncomputable def gy (s:aw) (L:List aa) (p:af) (t d:Int):Int:=if 0<=gh L (cN p d)then fX s.aq t d (gh L (cN p d))else 0
theorem FY {s:aO} {L:List aa} (hA:gV s L) {p:af} (hf:gh L p<0) {y:aa} (hy:y∈L):y.bQ≠p:=fun hc=>by
 have h1:=at_mem hA.1.MA hy
 have h2:=dZ (hA.2 y hy)
 rw[hc]at h1
 omega
section
variable {s:aw} {m h:Nat} (X:Qe s m h) {L:List aa} (hA:gV s.aq L) (hI:∀x∈L,S7 s m h L x) {a b:Int} (hf:gh L ⟨a,b⟩<0)
include X hA hI hf
end
section
variable {s:aw} {m h:Nat} (X:Qe s m h) {L:List aa} (hA:gV s.aq L) (hI:∀x∈L,S7 s m h L x) {a b:Int}
include X hA hI
end
def frT (c r f a b:Int):Int:=if a=0 then(if b=0 then 0 else c+b)else if b=0 then r+a else f
structure I3 (s:aw) (W H u v c r f:Int):Prop where
 uz:s.bu=2
 s6:s.dJ.ay=[⟨⟨0,0⟩,0⟩]
 w1:1<=W
 h1:1<=H
 u1:1<=u
 v1:1<=v
 uv:∀j k:Int,1<=j->j<H->1<=k->k<W->u+j≠v+k
 c0:0<=c
 r0:0<=r
 f0:0<=f
 one:kg s.aq 1=1
 col:∀k:Int,1<=k->k<H->kg s.aq (u+k)=2
 row:∀k:Int,1<=k->k<W->kg s.aq (v+k)=2
 xz:∀t:Int,eA s.aq t=true->
  (t=0/\cL (cG s.aq t) 0=(if 1<H then u+1 else 0)/\cL (cG s.aq t) 1=(if 1<W then v+1 else 0)/\cL (cG s.aq t) 2=0/\cL (cG s.aq t) 3=0)∨
  (∃k:Int,1<=k/\k<H/\t=c+k/\cL (cG s.aq t) 0=(if k+1<H then u+(k+1)else 0)/\cL (cG s.aq t) 1=1/\cL (cG s.aq t) 2=u+k/\cL (cG s.aq t) 3=0)∨
  (∃k:Int,1<=k/\k<W/\t=r+k/\cL (cG s.aq t) 0=1/\cL (cG s.aq t) 1=(if k+1<W then v+(k+1)else 0)/\cL (cG s.aq t) 2=0/\cL (cG s.aq t) 3=v+k)∨
  (t=f/\cL (cG s.aq t) 0=1/\cL (cG s.aq t) 1=1/\cL (cG s.aq t) 2=1/\cL (cG s.aq t) 3=1)
 atC:cL (cG s.aq 0) 0=(if 1<H then u+1 else 0)/\cL (cG s.aq 0) 1=(if 1<W then v+1 else 0)/\cL (cG s.aq 0) 2=0/\cL (cG s.aq 0) 3=0
 atCol:∀k:Int,1<=k->k<H->eA s.aq (c+k)=true/\cL (cG s.aq (c+k)) 0=(if k+1<H then u+(k+1)else 0)/\cL (cG s.aq (c+k)) 1=1/\cL (cG s.aq (c+k)) 2=u+k/\cL (cG s.aq (c+k)) 3=0
 atRow:∀k:Int,1<=k->k<W->eA s.aq (r+k)=true/\cL (cG s.aq (r+k)) 0=1/\cL (cG s.aq (r+k)) 1=(if k+1<W then v+(k+1)else 0)/\cL (cG s.aq (r+k)) 2=0/\cL (cG s.aq (r+k)) 3=v+k
 atF:eA s.aq f=true/\cL (cG s.aq f) 0=1/\cL (cG s.aq f) 1=1/\cL (cG s.aq f) 2=1/\cL (cG s.aq f) 3=1
def InF (W H c r f:Int) (x:aa):Prop:=0<=x.bQ.fu/\x.bQ.fu<W/\0<=x.bQ.eW/\x.bQ.eW<H/\x.cK=frT c r f x.bQ.fu x.bQ.eW
section
variable {s:aw} {W H u v c r f:Int} (X:I3 s W H u v c r f) {a b:Int}
include X
end
section
variable {s:aw} {W H u v c r f:Int} (X:I3 s W H u v c r f) {L:List aa} (hI:∀x∈L,InF W H c r f x) {a b:Int}
include X hI
end
section
variable {s:aw} {W H u v c r f:Int} (X:I3 s W H u v c r f) {t:Int} (ht:eA s.aq t=true)
include X ht
end
section
variable {s:aw} {W H u v c r f:Int} (X:I3 s W H u v c r f) {L:List aa} (hA:gV s.aq L) {a b:Int}
include X
include hA
end
section
variable {s:aw} {W H u v c r f:Int} (X:I3 s W H u v c r f) {L:List aa} (hA:gV s.aq L) (hI:∀x∈L,InF W H c r f x) (NJ:∀a b:Int,0<=a->a<W->0<=b->b<H->zF ⟨a,b⟩=true)
 (h00:eA s.aq 0=true) (oI:iG s L=[]) {a b:Int}
include X hA hI NJ h00 oI
end
def E5 (W H:Nat):List af:=(List.range H).flatMap fun(j:Nat)=>(List.range W).map fun(k:Nat)=>⟨(k:Int),(j:Int)⟩
theorem Gn {W H:Nat} {p:af}:p∈E5 W H↔0<=p.fu/\p.fu<W/\0<=p.eW/\p.eW<H:=by
 unfold E5
 rw[List.mem_flatMap]
 constructor
 ·rintro⟨j,hj,hp⟩
  obtain⟨k,hk,rfl⟩:=List.mem_map.1 hp
  have h1:=List.mem_range.1 hj
  have h2:=List.mem_range.1 hk
  exact⟨by show(0:Int)<=(k:Int);omega,by show(k:Int)<(W:Int);omega,by show(0:Int)<=(j:Int);omega,by show(j:Int)<(H:Int);omega⟩
 ·rintro⟨h1,h2,h3,h4⟩
  obtain⟨a,b⟩:=p
  (try dsimp only at h1 h2 h3 h4)
  exact⟨b.toNat,List.mem_range.2 ab,List.mem_map.2 ⟨a.toNat,List.mem_range.2 ab,by rw[show((a.toNat:Nat):Int)=a by omega,show((b.toNat:Nat):Int)=b by omega]⟩⟩
theorem Oo (W H:Nat):(E5 W H).Pairwise fun a b=>k8 a b=true:=by
 unfold E5
 rw[List.pairwise_flatMap]
 refine⟨fun j _=>?_,?_⟩
 ·rw[List.pairwise_map]
  refine List.Pairwise.imp ?_ List.pairwise_lt_range
  intro x y h
  rw[pv]
  exact .inr ⟨rfl,by show(x:Int)<(y:Int);omega⟩
 ·refine List.Pairwise.imp ?_ List.pairwise_lt_range
  intro i j h x hx y hy
  obtain⟨k,_,rfl⟩:=List.mem_map.1 hx
  obtain⟨l,_,rfl⟩:=List.mem_map.1 hy
  rw[pv]
  exact .inl (by show(i:Int)<(j:Int);omega)
theorem On (W H:Nat):(E5 W H).length=W*H:=by
 unfold E5
 rw[List.length_flatMap]
 simp only[List.length_map,List.length_range,List.map_const',List.length_range,List.sum_replicate_nat]
 exact Nat.mul_comm _ _
theorem Cg {s:aw} (hP:lE s) {es:List aa} (h:gM s es):s.dJ.ay.length+es.length<=500∨es.length=0:=by
 rcases Nat.eq_zero_or_pos es.length with h0|h0
 ·exact .inr h0
 ·left
  have h1:=h (es.length-1) ab
  unfold iV at h1
  rw[Bool.and_eq_true,decide_eq_true_eq,oU s es _ ab]at h1
  omega
theorem yV {s:aw} (hP:lE s) {sch:List Int}:∀(f:Nat) (es Ar:List aa),501<=es.length+f->gM s es->mM s sch 501 f es=some Ar->iG s (ei s Ar Ar.length)=[]
 |0,es,Ar,hf,hG,h=>by
  have:=Cg hP hG
  have:=hP.some
  omega
 |f+1,es,Ar,hf,hG,h=>by
  rw[mM]at h
  split at h
  ·rename_i h0
   cases h
   exact List.eq_nil_of_length_eq_zero h0
  ·rename_i h0
   split at h
   ·rename_i h1
    have:=Cg hP hG
    have:=hP.some
    omega
   ·split at h
    ·cases h
    ·rename_i h2
     refine yV hP f _ Ar (by rw[List.length_append,List.length_singleton];omega) (hG.add (gR (pJ ab)) ab) h
theorem yY {s:aw} {sch:List Int} (hB:∀ds,gM s ds->iG s (ei s ds ds.length)≠[]->(ei s ds ds.length).length<500):∀(f:Nat) (es:List aa),gM s es->∃Ar,mM s sch 501 f es=some Ar
 |0,es,hG=>⟨es,by rw[mM]⟩
 |f+1,es,hG=>by
  rw[mM]
  split
  ·exact⟨_,rfl⟩
  ·rename_i h0
   split
   ·exact⟨_,rfl⟩
   ·have hb:=hB es hG fun h=>h0 (by rw[h];rfl)
    rw[if_neg ab]
    exact yY hB f _ (hG.add (gR (pJ ab)) ab)
end Go.Proofs.YtalkncaokeaifaaGreatDoor.V

namespace Go.Proofs.YtalkncaokeaifaaGreatDoor.V
open Go.RowKit
attribute [local irreducible] dH wpOps eB Call
attribute [local go_sem] ax eo dS ez ev cZ upd bD K.av bR AV.cells AV.cell rowOf rowsOf part ld rowAt eL bz bx cW dj eO bf cC dw er ea cR dq cw cu da db bp aI bZ bj ck cj dn dr dp bW br cz dm bh ar cq bH eM aT bL bq aH cU aQ cX AV.undef aW bd de di cY c6 bJ dv dy bE du dt cm cr List.getD_cons_zero List.getD_cons_succ List.getD_nil List.all_cons List.all_nil Bool.and_true Bool.true_and Bool.and_self Bool.not_true Bool.not_false Option.map_some Option.map_none Option.bind_some Option.bind_none List.length_cons List.length_nil List.take_succ_cons List.take_zero List.take_nil List.drop_succ_cons List.drop_zero List.drop_nil List.head?_cons List.map_cons List.map_nil List.getElem?_cons_zero List.getElem?_cons_succ List.cons_append List.nil_append List.append_nil List.length_map List.set_cons_zero List.set_cons_succ Nat.reduceMul eq_self Int.toNat_natCast Int.natCast_nonneg and_self true_and and_true decide_true decide_false Bool.false_eq_true Nat.zero_add Nat.add_zero List.contains_cons List.contains_nil Bool.or_false Bool.false_or beq_self_eq_true Nat.reduceBEq ne_eq not_true_eq_false not_false_eq_true Id.mk.injEq false_and and_false Nat.reduceLT Int.reduceLE Int.reduceLT Int.reduceToNat Int.reduceNeg Int.reduceAdd Nat.le_refl List.length_append beq_true beq_false Bool.not_eq_eq_eq_not or_false false_or dX ad ae aP aJ bt bI aD aS aA aL bU aZ
theorem Handed.nil {g:Rows}:Handed [] g:=fun x hx=>by cases hx
section
variable {P:Program} {α:Type} {e:α->List AV} {z:Nat} {g g':Rows} {v:AV} {L:List α} {ids:List Id}
end
theorem Tx {g:Rows} {u v u' v':AV} (h0:V.fz g 6 u=some u') (h1:V.fz g 6 v=some v'):ek g 6 [u,v]=some [u',v']:=by simp only[ad,ae,h0,h1,Option.map_some]
theorem Ty {g:Rows} {u v w u' v' w':AV} (h0:V.fz g 6 u=some u') (h1:V.fz g 6 v=some v') (h2:V.fz g 6 w=some w'):ek g 6 [u,v,w]=some [u',v',w']:=by simp only[ad,ae,h0,h1,h2,Option.map_some]
theorem Xq (x:aa):(ai x).all AV.clean=true:=rfl
theorem MY (s:aO) (p:aa):dL s [p]=[]:=by
 have h:∀d:Int,ir d 0 3=true->lH s [p] 0 d=[]:=fun d hd=>by
  unfold lH
  rw[if_neg]
  intro⟨h,_⟩
  obtain⟨h1,h2⟩:=jM h
  have h3:(ew [p] (cN (cP [p] 0).bQ d)).toNat=0:=by simpa using h1
  rw[h3]at h2
  have F4:=dZ hd
  have e1:=congrArg af.fu h2
  have e2:=congrArg af.eW h2
  have:d=0∨d=1∨d=2∨d=3:=ab
  rcases this with rfl|rfl|rfl|rfl<;>simp[cN]at e1 e2<;>omega
 show(List.range 1).flatMap (fun i=>ig s [p] i 2)=[]
 have e:ig s [p] 0 2=[]:=by
  rw[lF,lF,h _ rfl,h _ rfl];rfl
 simp[List.range_succ,e]
theorem LO (p:aa) (s:aO) (t:Int):mH [p].length (dL s [p]) t:=by
 rw[MY]
 have h1:=l6 1 (fP (cF t []))
 exact⟨Nat.le_trans h1 (by decide),Hw (Nat.lt_of_le_of_lt h1 (by decide))⟩
end Go.Proofs.YtalkncaokeaifaaGreatDoor.V

namespace Go.Proofs.YtalkncaokeaifaaGreatDoor.V
open Go.RowKit
theorem rJ {a b c d x:Int} (h:x∈[a,b,c,d]):x=a∨x=b∨x=c∨x=d:=by simpa using h
theorem jm {n lo hi:Int} (h1:lo<=n) (h2:n<=hi):ir n lo hi=true:=by simp[ir,h1,h2]
theorem LG {s:aO} (h:gO s):gV s [⟨⟨0,0⟩,0⟩]:=by
 have h1:=h.some
 refine⟨⟨by decide,fun i hi=>?_⟩,fun t ht=>?_⟩
 ·have:i=0:=by simpa using hi
  subst this
  exact⟨rfl,rfl,fun h=>absurd h ab⟩
 ·rw[List.mem_singleton.1 ht]
  unfold eA
  exact jm (Int.le_refl _) cD
def rN:ByteArray:=⟨#[99,111,114,110,101,114]⟩
def gr (c:UInt8) (k:Nat):ByteArray:=⟨#[c]⟩++ik k
def Gg (nm:ByteArray):Bool:=decide (1<=nm.size)&&decide (nm.size<=12)&&(List.range nm.size).all fun i=>l7 (tD nm i:Int)||(decide (0<i)&&l5 (tD nm i:Int))
theorem Gh {nm:ByteArray} (h:Gg nm=true):kF nm=true:=by
 unfold Gg at h
 simp only[Bool.and_eq_true,decide_eq_true_eq,List.all_eq_true,List.mem_range,Bool.or_eq_true]at h
 refine sU.2 ⟨⟨h.1.1,h.1.2⟩,fun i hi=>?_⟩
 have:=h.2 i hi
 rw[vJ hi]at this
 rcases this with h1|⟨h0,h1⟩
 ·exact .inl h1
 ·exact .inr ⟨h0,.inl h1⟩
end Go.Proofs.YtalkncaokeaifaaGreatDoor.V

namespace Go.Proofs.YtalkncaokeaifaaGreatDoor
open Go.RowKit
theorem Dc (x:ByteArray) (l:List UInt8) (h:x.data.toList=l):x=⟨l.toArray⟩:=by
 subst h
 cases x
 simp
theorem Ic (i:Nat) (h:i<100) (w:World):
  Calls Tryz.prog 124 #[.int .i64 i] w fun e w'=>e=.returned (.string ⟨(Lib.decDigits i).toArray⟩)/\w'=w:=by
 go_enter Tryz.func124,Tryz.ntmps124
 go_name_bytes_deep 45 SM hSM
 have eSM:SM=Lib.smalls:=by rw[<-hSM];decide+kernel
 subst eSM
 clear hSM
 go_name_bytes_deep 30 DG hDG
 have eDG:DG=Lib.digits36:=by rw[<-hDG];decide+kernel
 subst eDG
 clear hDG
 by_cases JY:i<10
 ·have nz:∀w,(Instr.slice 9 (.string Lib.digits36) (some (.int .i64 (i:Int))) (some (.int .i64 ((i:Int)+1))) none).run Tryz.prog w=.ok (.string (Lib.digits36.extract i (i+1))) w:=fun w=>by
   rw[run_slice_string w 9 Lib.digits36 .i64 .i64 _ _ Tryz.underlying9 (by omega) (by omega) (by rw[Lib.digits36_size];omega),show((i:Int)).toNat=i by omega,show((i:Int)+1).toNat=i+1 by omega]
  go_wp2
  go_ret
  refine⟨?_,rfl⟩
  show Ending.returned (Value.string (Lib.digits36.extract i (i+1)))= _
  rw[Dc (Lib.digits36.extract i (i+1)) (Lib.decDigits i) (by rw[Lib.extract_data];exact Lib.digits36_piece JY)]
 ·have nz:∀w,(Instr.slice 9 (.string Lib.smalls) (some (.int .i64 ((i:Int)*2))) (some (.int .i64 ((i:Int)*2+2))) none).run Tryz.prog w=.ok (.string (Lib.smalls.extract (i*2) (i*2+2))) w:=fun w=>by
   rw[run_slice_string w 9 Lib.smalls .i64 .i64 _ _ Tryz.underlying9 (by omega) (by omega) (by rw[Lib.smalls_size];omega),show((i:Int)*2).toNat=i*2 by omega,show((i:Int)*2+2).toNat=i*2+2 by omega]
  go_wp2
  go_ret
  refine⟨?_,rfl⟩
  show Ending.returned (Value.string (Lib.smalls.extract (i*2) (i*2+2)))= _
  rw[Dc (Lib.smalls.extract (i*2) (i*2+2)) (Lib.decDigits i) (by rw[Lib.extract_data];exact Lib.smalls_piece JY h)]
theorem Ec (i:Nat) (hi:i<100) (w:World):
  Calls Tryz.prog 101 #[.int .i64 i,.int .i64 10] w fun e w'=>e=.returned (.string ⟨(Lib.decDigits i).toArray⟩)/\w'=w:=by
 go_enter Tryz.func101,Tryz.ntmps101
 go_wp2_with (go_at_call 124;refine(Ic i hi _).mono ?_;rintro e w' ⟨rfl,rfl⟩)
 go_ret
 exact⟨rfl,rfl⟩
theorem Ap:∀n:Fin 100,(⟨(Lib.decDigits n.1).toArray⟩:ByteArray)=V.ik n.1:=by decide+kernel
namespace V
attribute [local irreducible] dH wpOps eB Call
attribute [local go_sem] ax eo dS ez ev cZ upd bD K.av bR AV.cells AV.cell rowOf rowsOf part ld rowAt eL bz bx cW dj eO bf cC dw er ea cR dq cw cu da db bp aI bZ bj ck cj dn dr dp bW br cz dm bh ar cq bH eM aT bL bq aH cU aQ cX AV.undef aW bd de di cY c6 bJ dv dy bE du dt cm cr List.getD_cons_zero List.getD_cons_succ List.getD_nil List.all_cons List.all_nil Bool.and_true Bool.true_and Bool.and_self Bool.not_true Bool.not_false Option.map_some Option.map_none Option.bind_some Option.bind_none List.length_cons List.length_nil List.take_succ_cons List.take_zero List.take_nil List.drop_succ_cons List.drop_zero List.drop_nil List.head?_cons List.map_cons List.map_nil List.getElem?_cons_zero List.getElem?_cons_succ List.cons_append List.nil_append List.append_nil List.length_map List.set_cons_zero List.set_cons_succ Nat.reduceMul eq_self Int.toNat_natCast Int.natCast_nonneg and_self true_and and_true decide_true decide_false Bool.false_eq_true Nat.zero_add Nat.add_zero List.contains_cons List.contains_nil Bool.or_false Bool.false_or beq_self_eq_true Nat.reduceBEq ne_eq not_true_eq_false not_false_eq_true Id.mk.injEq false_and and_false Nat.reduceLT Int.reduceLE Int.reduceLT Int.reduceToNat Int.reduceNeg Int.reduceAdd Nat.le_refl List.length_append beq_true beq_false Bool.not_eq_eq_eq_not or_false false_or dX ad ae aP aJ bt bI aD aS aA aL bU aZ
theorem Oq {P:Program} {w:World} {D:Nat->Prop} {ι:Names} {k m:Int} {vs:Array Value} (h:fE P w D ι [.int .i64 k,.int .i64 m] vs):vs= #[.int .i64 k,.int .i64 m]:=by
 obtain⟨h1,h2⟩:=h
 obtain⟨u,hu,hr⟩:=h2 0 _ rfl
 rw[dI hr]at hu
 obtain⟨u2,Rn,yj⟩:=h2 1 _ rfl
 rw[dI yj]at Rn
 obtain⟨l⟩:=vs
 match l,h1 with
 |[a,b],_=>
  simp at hu Rn
  rw[hu,Rn]
theorem JU (n:Nat) (h:n<100):az Tryz.prog 101 [.int .i64 (n:Int),.int .i64 10] (.str (ik n)):=
 p4 (vs0:= #[.int .i64 (n:Int),.int .i64 10]) (u0:=.string (ik n)) (fun _ _ _ _=>Oq) (fun _ _ _=>.eE _ _ (.str _)) (fun g=>jk g 5 _) fun w=>(Ec n h w).mono (by
  rintro e w' ⟨rfl,rfl⟩
  exact⟨by rw[Ap ⟨n,h⟩],Below.refl _ _⟩)
theorem Ca (n:Nat) (h:n<100):az Tryz.prog 83 [.int .i64 (n:Int),.int .i64 10] (.str (ik n)):=by
 refine az.body fC rfl fun hl n0=>?_
 clear hl
 have h1:=JU n h
 (repeat(first|((repeat(revert hN;revert N;apply Pn.out));refine wk @Nat.zero_add ?_;(repeat(refine Pn.mk ?_;intro N hN)))|((try apply Or.inl);refine⟨_,az.x (h1) (sd @Nat.zero_add),?_⟩;refine hN _ _ ?_;clear hN N)))
 exact oY (.inl rfl) (vs:=[.str (ik n)]) (sd @Nat.zero_add) (by simp only[gp,jk])
theorem GL (n:Nat) (h:n<100):az Tryz.prog 64 [.int .i64 (n:Int)] (.str (ik n)):=by
 refine az.body fC rfl fun hl n0=>?_
 clear hl
 have h1:=Ca n h
 (repeat(first|((repeat(revert hN;revert N;apply Pn.out));refine wk @Nat.zero_add ?_;(repeat(refine Pn.mk ?_;intro N hN)))|((try apply Or.inl);refine⟨_,az.x (h1) (sd @Nat.zero_add),?_⟩;refine hN _ _ ?_;clear hN N)))
 exact oY (.inl rfl) (vs:=[.str (ik n)]) (sd @Nat.zero_add) (by simp only[gp,jk])
theorem wV (u:ByteArray) (hu:u.size<=1000) (n:Nat) (h:n<100):az Tryz.prog 35 [.str u,.int .i64 (n:Int)] (.str (u++ik n)):=by
 refine az.body fC rfl fun hl n0=>?_
 clear hl
 have h1:=GL n h
 have h2:u.size+(ik n).size<=9223372036854775807:=by have:=JF n;omega
 generalize ik n=d at h1 h2 ⊢
 (repeat(first|((repeat(revert hN;revert N;apply Pn.out));refine wk @h2 ?_;(repeat(refine Pn.mk ?_;intro N hN)))|((try apply Or.inl);refine⟨_,az.x (h1) (sd @h2),?_⟩;refine hN _ _ ?_;clear hN N)))
 exact oY (.inl rfl) (vs:=[.str (u++d)]) (sd @Nat.zero_add) (by simp only[gp,jk])
theorem ER (nm u:ByteArray) (hu:u.size<=1000) (lim:Nat) (Ux:lim<=10):az Tryz.prog 45 [.str nm,.str u,.int .i64 (lim:Int)] (.int .i64 (sE nm u lim)):=by
 refine az.body fC rfl fun hl n0=>?_
 clear hl
 (try((repeat(revert hN;revert N;apply Pn.out));refine wk @Nat.zero_add ?_;(repeat(refine Pn.mk ?_;intro N hN))))
 refine dc (fun n env st=>∃k:Nat,n=(lim)-k/\k<=(lim)/\env 9=.int .i64 (k:Int)/\(∀j:Nat,j<k->nm≠u++ik j)) (lim) ⟨0,by omega,by omega,sl @Nat.zero_add,fun _ h=>absurd h (Nat.not_lt_zero _)⟩ ?_
 rintro n_a env_a st_a ⟨k,rfl,ale,a9,xQ⟩ eR
 have a0:=eR 0 (by kernel_rfl);have a1:=eR 1 (by kernel_rfl);have a8:=eR 8 (by kernel_rfl)
 simp only[go_sem, ↓reduceIte,Nat.reduceEqDiff,Nat.reduceAdd,Nat.reduceSub,Nat.reduceLeDiff,reduceCtorEq]at a0 a1 a8
 clear eR
 by_cases hk:(k:Int)<(lim:Int)
 ·have eF:∀{e:Env},(e 9=.int .i64 (IntKind.i64.wrap ((k:Int)+1)))->(nm≠u++ik k)->∃m0,m0<(lim)-k/\∃k:Nat,m0=(lim)-k/\k<=(lim)/\e 9=.int .i64 (k:Int)/\(∀j:Nat,j<k->nm≠u++ik j):=fun x1 x2=>⟨_,by omega,k+1,rfl,by omega,(by rw[x1,cE (by omega)]),(all_succ xQ x2)⟩
  have jv:k<lim:=by omega
  have UF:=wV u hu k (by omega)
  have Ev:=B3 (nm:=nm) (pre:=u) jv Ux
  by_cases he:nm=u++ik k
  ·have hd:=decide_eq_true he
   have hv:=Ev.1 he
   (repeat(first|((repeat(revert hN;revert N;apply Pn.out));refine wk (tw @a9 (tw @a0 (tw @a1 (tw @a8 (tw @hk @hd))))) ?_;(repeat(refine Pn.mk ?_;intro N hN)))|((try apply Or.inl);refine⟨_,az.x (UF) (sd (tw @a9 (tw @a0 (tw @a1 (tw @a8 (tw @hk @hd)))))),?_⟩;refine hN _ _ ?_;clear hN N)))
   exact e7 (b:=(k:Int)) (.inl rfl) (sd @Nat.zero_add) hv.symm
  ·have hd:=decide_eq_false he
   (repeat(first|((repeat(revert hN;revert N;apply Pn.out));refine wk (tw @a9 (tw @a0 (tw @a1 (tw @a8 (tw @hk @hd))))) ?_;(repeat(refine Pn.mk ?_;intro N hN)))|((try apply Or.inl);refine⟨_,az.x (UF) (sd (tw @a9 (tw @a0 (tw @a1 (tw @a8 (tw @hk @hd)))))),?_⟩;refine hN _ _ ?_;clear hN N)))
   exact eF (sd (tw @a9 (tw @a0 (tw @a1 @a8)))) (he)
 ·have mN:k=lim:=by omega
  subst mN
  (try((repeat(revert hN;revert N;apply Pn.out));refine wk (tw @a9 (tw @a0 (tw @a1 (tw @a8 @hk)))) ?_;(repeat(refine Pn.mk ?_;intro N hN))))
  exact e7 (b:=-1) (.inl rfl) (sd @Nat.zero_add) (Hd Ux fun n hn=>xQ n hn).symm
theorem Cf (s:aO) (hF:lS s) (l:List aa) (hA:gV s l) (p:af) (d:Int) (hd:ir d 0 3=true):az Tryz.prog 46 [.agg (aj s),.agg [.sl (l.map ai)],.agg (ao p),.int .i64 d] (.str (Nj s l p d)):=by
 refine az.body fC rfl fun hl n0=>?_
 have hn:s.dx.length<=9223372036854775807:=by
  have h1:=(hl (.agg (aj s)) (by simp)).MN (a:=.sl (s.dx.map eP)) (by simp[aj])
  simpa using h1.len
 clear hl
 have y5:=Xk l p hA.1.MA (by have:=hA.1.Dq;omega)
 rw[ao]at y5 ⊢
 by_cases h0:gh l p<0
 ·(repeat(first|((repeat(revert hN;revert N;apply Pn.out));refine wk (tw @aj.eq_1 @h0) ?_;(repeat(refine Pn.mk ?_;intro N hN)))|((try apply Or.inl);refine⟨_,az.x (y5) (sd (tw @aj.eq_1 @h0)),?_⟩;refine hN _ _ ?_;clear hN N)))
  exact oY (.inl rfl) (vs:=[.str ⟨#[]⟩]) (sd @Nat.zero_add) (by rw[Nj,if_pos h0];simp only[gp,jk])
 ·have ht:=BD hA (p:=p) (by omega)
  have hg:Nj s l p d=if cL (cG s (gh l p)) d=0 then⟨#[]⟩else(jl s (cL (cG s (gh l p)) d-1)).dP:=by rw[Nj,if_neg h0]
  rw[hg]
  generalize gh l p=t at y5 h0 ht
  obtain⟨a0,a1,a2⟩:=r9 ht
  have s1:=r4 (hF.xz _ a2) hd
  have gl:=hF.tK _ a2 _ (Da (hF.xz _ a2) hd)
  have d0:=(dZ hd).1
  generalize cL (cG s t) d=g at s1 gl ⊢
  by_cases Mq:g=0
  ·have e:=decide_eq_true Mq
   (repeat(first|((repeat(revert hN;revert N;apply Pn.out));refine wk (tw @aj.eq_1 (tw @eS.eq_1 (tw @h0 (tw @a0 (tw @a1 (tw @s1 (tw @d0 @e))))))) ?_;(repeat(refine Pn.mk ?_;intro N hN)))|((try apply Or.inl);refine⟨_,az.x (y5) (sd (tw @aj.eq_1 (tw @eS.eq_1 (tw @h0 (tw @a0 (tw @a1 (tw @s1 (tw @d0 @e)))))))),?_⟩;refine hN _ _ ?_;clear hN N)))
   exact oY (.inl rfl) (vs:=[.str ⟨#[]⟩]) (sd @Nat.zero_add) (by rw[if_pos Mq];simp only[gp,jk])
  ·have e:=decide_eq_false Mq
   have hw:IntKind.i64.wrap (g-1)=g-1:=cH (by omega)
   have tN:0<=g-1:=by omega
   have iK:(s.dx.map eP)[(g-1).toNat]? =some (eP (jl s (g-1))):=getD_map eP (by omega)
   (repeat(first|((repeat(revert hN;revert N;apply Pn.out));refine wk (tw @aj.eq_1 (tw @eS.eq_1 (tw @h0 (tw @a0 (tw @a1 (tw @s1 (tw @d0 (tw @e (tw @hw (tw @tN (tw @iK @eP.eq_1))))))))))) ?_;(repeat(refine Pn.mk ?_;intro N hN)))|((try apply Or.inl);refine⟨_,az.x (y5) (sd (tw @aj.eq_1 (tw @eS.eq_1 (tw @h0 (tw @a0 (tw @a1 (tw @s1 (tw @d0 (tw @e (tw @hw (tw @tN (tw @iK @eP.eq_1)))))))))))),?_⟩;refine hN _ _ ?_;clear hN N)))
   exact oY (.inl rfl) (vs:=[.str (jl s (g-1)).dP]) (sd @Nat.zero_add) (by rw[if_neg Mq];simp only[gp,jk])
end V
end Go.Proofs.YtalkncaokeaifaaGreatDoor

namespace Go.Proofs.YtalkncaokeaifaaGreatDoor.V
open Go.RowKit
attribute [local irreducible] dH wpOps eB Call
attribute [local go_sem] ax eo dS ez ev cZ upd bD K.av bR AV.cells AV.cell rowOf rowsOf part ld rowAt eL bz bx cW dj eO bf cC dw er ea cR dq cw cu da db bp aI bZ bj ck cj dn dr dp bW br cz dm bh ar cq bH eM aT bL bq aH cU aQ cX AV.undef aW bd de di cY c6 bJ dv dy bE du dt cm cr List.getD_cons_zero List.getD_cons_succ List.getD_nil List.all_cons List.all_nil Bool.and_true Bool.true_and Bool.and_self Bool.not_true Bool.not_false Option.map_some Option.map_none Option.bind_some Option.bind_none List.length_cons List.length_nil List.take_succ_cons List.take_zero List.take_nil List.drop_succ_cons List.drop_zero List.drop_nil List.head?_cons List.map_cons List.map_nil List.getElem?_cons_zero List.getElem?_cons_succ List.cons_append List.nil_append List.append_nil List.length_map List.set_cons_zero List.set_cons_succ Nat.reduceMul eq_self Int.toNat_natCast Int.natCast_nonneg and_self true_and and_true decide_true decide_false Bool.false_eq_true Nat.zero_add Nat.add_zero List.contains_cons List.contains_nil Bool.or_false Bool.false_or beq_self_eq_true Nat.reduceBEq ne_eq not_true_eq_false not_false_eq_true Id.mk.injEq false_and and_false Nat.reduceLT Int.reduceLE Int.reduceLT Int.reduceToNat Int.reduceNeg Int.reduceAdd Nat.le_refl List.length_append beq_true beq_false Bool.not_eq_eq_eq_not or_false false_or dX ad ae aP aJ bt bI aD aS aA aL bU aZ
theorem me:∀c k,k<10->(gr c k).size=2:=fun c k h=>by
 unfold gr
 rw[tz,DY h]
 rfl
theorem iT (c:UInt8) (k:Nat) (h:k<100):az Tryz.prog 35 [.str ⟨#[c]⟩,.int .i64 (k:Int)] (.str (gr c k)):=wV ⟨#[c]⟩ (Nat.le_trans (Nat.le_of_eq (show(⟨#[c]⟩:ByteArray).size=1 from rfl)) ab) k h
theorem LS {E:Nat->Prop} {n0 n:Nat} {g:Rows} {rs:List (List AV)} {X:List fj} {og o d:Id} {G c:Nat} {L:List gj} {p:aa} (h1:g og=some ⟨true,2,L.map eP⟩) (h2:L.length=G) (h3:g o=some ⟨true,2,rs⟩) (h4:X.length=c) (h6:TX E n0 g n rs X) (h7:g d=some ⟨true,3,[ai p]⟩):gx g 5 (.agg [.own og 0 G,.own o 0 c,.own d 0 1,.int .i64 2])=some (.agg (eb ⟨⟨L,X⟩,⟨[p]⟩,2⟩)):=by
 subst h2
 have h5:=h6.len
 have a1:gx g 4 (.own og 0 L.length)=some (.sl (L.map eP)):=eT (e:=eP) (n:=3) h1 rfl fun x=>by simp[eP,cQ,dD,jk,eV]
 have a2:gx g 4 (.own o 0 c)=some (.sl (X.map eS)):=uH (n:=3) h3 ab (by rw[List.drop_zero,List.take_of_length_le ab];exact h6.fz 1)
 have a3:gx g 4 (.own d 0 1)=some (.sl [ai p]):=eT (e:=ai) (l:=[p]) (n:=3) h7 rfl fun x=>by simp[ai,cQ,dD,eV]
 simp only[eb,Ax,cQ,dD,a1,a2,a3,eV,Option.map_some,List.map_cons,List.map_nil]
section
set_option maxRecDepth 100000
set_option maxHeartbeats 16000000
end
end Go.Proofs.YtalkncaokeaifaaGreatDoor.V

namespace Go.Proofs.YtalkncaokeaifaaGreatDoor.V
open Go.RowKit
def mY (s:aw) (t d:Int):Int:=cL (cG s.aq t) d
structure uh (s:aw) (W H:Int) (T:Int->Int->Int):Prop where
 uz:s.bu=2
 s6:s.dJ.ay=[⟨⟨0,0⟩,T 0 0⟩]
 w1:1<=W
 h1:1<=H
 ok:∀a b,0<=a->a<W->0<=b->b<H->eA s.aq (T a b)=true
 Y8:∀a b,0<=a->a<W->0<=b->b+1<H->mY s (T a (b+1)) 2=mY s (T a b) 0
 VT:∀a b,0<=a->a<W->0<=b->b+1<H->kg s.aq (mY s (T a b) 0)=if a=0 then 2 else 1
 top:∀a,0<=a->a<W->kg s.aq (mY s (T a (H-1)) 0)=0∨(1<=a/\kg s.aq (mY s (T a (H-1)) 0)=1)
 Yu:∀a b,0<=a->a+1<W->0<=b->b<H->mY s (T (a+1) b) 3=mY s (T a b) 1
 UQ:∀a b,0<=a->a+1<W->0<=b->b<H->kg s.aq (mY s (T a b) 1)=if b=0 then 2 else 1
 right:∀b,0<=b->b<H->kg s.aq (mY s (T (W-1) b) 1)=0∨(1<=b/\kg s.aq (mY s (T (W-1) b) 1)=1)
 bot:∀a,0<=a->a<W->kg s.aq (mY s (T a 0) 2)=0
 left:∀b,0<=b->b<H->kg s.aq (mY s (T 0 b) 3)=0
 col:∀b t,0<=b->b+1<H->eA s.aq t=true->mY s t 2=mY s (T 0 b) 0->t=T 0 (b+1)
 row:∀a t,0<=a->a+1<W->eA s.aq t=true->mY s t 3=mY s (T a 0) 1->t=T (a+1) 0
 inn:∀a b t,0<=a->a+1<W->0<=b->b+1<H->eA s.aq t=true->mY s t 2=mY s (T (a+1) b) 0->mY s t 3=mY s (T a (b+1)) 1->t=T (a+1) (b+1)
def MF (W H:Int) (T:Int->Int->Int) (L:List aa) (x:aa):Prop:=0<=x.bQ.fu/\x.bQ.fu<W/\0<=x.bQ.eW/\x.bQ.eW<H/\x.cK=T x.bQ.fu x.bQ.eW/\(1<=x.bQ.eW->∃y∈L,y.bQ=⟨x.bQ.fu,x.bQ.eW-1⟩)/\(1<=x.bQ.fu->∃y∈L,y.bQ=⟨x.bQ.fu-1,x.bQ.eW⟩)
theorem MF.more {W H:Int} {T:Int->Int->Int} {L L':List aa} {x:aa} (h:MF W H T L x) (hs:∀y∈L,y∈L'):MF W H T L' x:=by
 obtain⟨h1,h2,h3,h4,h5,h6,h7⟩:=h
 refine⟨h1,h2,h3,h4,h5,fun h=>?_,fun h=>?_⟩
 ·obtain⟨y,hy,e⟩:=h6 h;exact⟨y,hs y hy,e⟩
 ·obtain⟨y,hy,e⟩:=h7 h;exact⟨y,hs y hy,e⟩
section
variable {s:aw} {W H:Int} {T:Int->Int->Int} (X:uh s W H T) {L:List aa} (hA:gV s.aq L) (hI:∀x∈L,MF W H T L x) {a b:Int}
include X hI
theorem KY (hA:gV s.aq L) (hf:gh L ⟨a,b⟩<0) (t:Int):gy s L ⟨a,b⟩ t 0=0:=by
 unfold gy
 split
 ·rename_i h0
  obtain⟨y,hy,e1,e2⟩:=wF h0
  have e3:y.bQ=⟨a,b+1⟩:=e1
  obtain⟨q1,q2,q3,q4,q5,q6,_⟩:=hI y hy
  rw[e3]at q1 q2 q3 q4 q5 q6
  (try dsimp only at q1 q2 q3 q4 q5 q6)
  by_cases hb:1<=b+1
  ·obtain⟨z,hz,e⟩:=q6 hb
   rw[Int.add_sub_cancel]at e
   exact absurd e (FY hA hf hz)
  ·have Eo:b+1=0:=ab
   have hz:=X.bot a q1 q2
   rw[Eo]at q5
   rw[<-q5]at hz
   rw[<-e2]
   unfold fX
   rw[show jT 0=2 from rfl]
   split
   ·rename_i hq;rw[hq];exact hz
   ·rfl
 ·rfl
theorem Pb (hA:gV s.aq L) (hf:gh L ⟨a,b⟩<0) (t:Int):gy s L ⟨a,b⟩ t 1=0:=by
 unfold gy
 split
 ·rename_i h0
  obtain⟨y,hy,e1,e2⟩:=wF h0
  have e3:y.bQ=⟨a+1,b⟩:=e1
  obtain⟨q1,q2,q3,q4,q5,_,q6⟩:=hI y hy
  rw[e3]at q1 q2 q3 q4 q5 q6
  (try dsimp only at q1 q2 q3 q4 q5 q6)
  by_cases ha:1<=a+1
  ·obtain⟨z,hz,e⟩:=q6 ha
   rw[Int.add_sub_cancel]at e
   exact absurd e (FY hA hf hz)
  ·have kh:a+1=0:=ab
   have hz:=X.left b q3 q4
   rw[kh]at q5
   rw[<-q5]at hz
   rw[<-e2]
   unfold fX
   rw[show jT 1=3 from rfl]
   split
   ·rename_i hq;rw[hq];exact hz
   ·rfl
 ·rfl
theorem LM (t:Int):gy s L ⟨a,b⟩ t 2=0∨(0<=a/\a<W/\1<=b/\b<=H/\(∃y∈L,y.bQ=⟨a,b-1⟩)/\mY s t 2=mY s (T a (b-1)) 0/\((a=0/\b<H/\gy s L ⟨a,b⟩ t 2=2)∨(1<=a/\gy s L ⟨a,b⟩ t 2=1))):=by
 unfold gy
 split
 ·rename_i h0
  obtain⟨y,hy,e1,e2⟩:=wF h0
  have e3:y.bQ=⟨a,b-1⟩:=e1
  obtain⟨q1,q2,q3,q4,q5,_,_⟩:=hI y hy
  rw[e3]at q1 q2 q3 q4 q5
  (try dsimp only at q1 q2 q3 q4 q5)
  rw[<-e2]
  unfold fX
  rw[show jT 2=0 from rfl]
  by_cases hq:cL (cG s.aq t) 2=cL (cG s.aq y.cK) 0
  ·rw[if_pos hq,hq,q5]
   by_cases hb:b-1+1<H
   ·have hv:=X.VT a (b-1) q1 q2 q3 hb
    unfold mY at hv ⊢
    rw[hv]
    refine .inr ⟨q1,q2,ab,ab,⟨y,hy,e3⟩,by rw[hq,q5],?_⟩
    by_cases ha:a=0
    ·rw[if_pos ha];exact .inl ⟨ha,ab,rfl⟩
    ·rw[if_neg ha];exact .inr ⟨ab,rfl⟩
   ·have J3:b-1=H-1:=ab
    rw[J3]
    have ht:=X.top a q1 q2
    unfold mY at ht ⊢
    rcases ht with h|⟨h1,h2⟩
    ·exact .inl h
    ·exact .inr ⟨q1,q2,ab,ab,⟨y,hy,by rw[e3,J3]⟩,by rw[hq,q5,J3],.inr ⟨h1,h2⟩⟩
  ·rw[if_neg hq];exact .inl rfl
 ·exact .inl rfl
theorem Me (t:Int):gy s L ⟨a,b⟩ t 3=0∨(0<=b/\b<H/\1<=a/\a<=W/\(∃y∈L,y.bQ=⟨a-1,b⟩)/\mY s t 3=mY s (T (a-1) b) 1/\((b=0/\a<W/\gy s L ⟨a,b⟩ t 3=2)∨(1<=b/\gy s L ⟨a,b⟩ t 3=1))):=by
 unfold gy
 split
 ·rename_i h0
  obtain⟨y,hy,e1,e2⟩:=wF h0
  have e3:y.bQ=⟨a-1,b⟩:=e1
  obtain⟨q1,q2,q3,q4,q5,_,_⟩:=hI y hy
  rw[e3]at q1 q2 q3 q4 q5
  (try dsimp only at q1 q2 q3 q4 q5)
  rw[<-e2]
  unfold fX
  rw[show jT 3=1 from rfl]
  by_cases hq:cL (cG s.aq t) 3=cL (cG s.aq y.cK) 1
  ·rw[if_pos hq,hq,q5]
   by_cases ha:a-1+1<W
   ·have hv:=X.UQ (a-1) b q1 ha q3 q4
    unfold mY at hv ⊢
    rw[hv]
    refine .inr ⟨q3,q4,ab,ab,⟨y,hy,e3⟩,by rw[hq,q5],?_⟩
    by_cases hb:b=0
    ·rw[if_pos hb];exact .inl ⟨hb,ab,rfl⟩
    ·rw[if_neg hb];exact .inr ⟨ab,rfl⟩
   ·have XT:a-1=W-1:=ab
    rw[XT]
    have ht:=X.right b q3 q4
    unfold mY at ht ⊢
    rcases ht with h|⟨h1,h2⟩
    ·exact .inl h
    ·exact .inr ⟨q3,q4,ab,ab,⟨y,hy,by rw[e3,XT]⟩,by rw[hq,q5,XT],.inr ⟨h1,h2⟩⟩
  ·rw[if_neg hq];exact .inl rfl
 ·exact .inl rfl
end
theorem Vm {s:aw} {W H:Int} {T:Int->Int->Int} (X:uh s W H T) {L:List aa} (hA:gV s.aq L) (hI:∀x∈L,MF W H T L x) {x:aa} (ht:eA s.aq x.cK=true) (hf:eH s L x.bQ x.cK=true):MF W H T L x:=by
 obtain⟨⟨a,b⟩,t⟩:=x
 (try dsimp only at ht hf)
 simp only[eH,Bool.and_eq_true,decide_eq_true_eq]at hf
 obtain⟨⟨_,h0⟩,hb⟩:=hf
 have Wu:nn s.aq (gh L) ⟨a,b⟩ t=0+gy s L ⟨a,b⟩ t 0+gy s L ⟨a,b⟩ t 1+gy s L ⟨a,b⟩ t 2+gy s L ⟨a,b⟩ t 3:=vh _ _ _ _
 rw[X.uz]at hb
 rw[KY X hI hA h0 t,Pb X hI hA h0 t]at Wu
 unfold MF
 (try dsimp only)
 rcases LM X hI (a:=a) (b:=b) t with q|⟨q1,q2,q3,q4,q5,q6,q7⟩
 ·rcases Me X hI (a:=a) (b:=b) t with w|⟨w1,w2,w3,w4,w5,w6,w7⟩
  ·omega
  ·rcases w7 with⟨rfl,w7,w8⟩|⟨w7,w8⟩
   ·have hr:=X.row (a-1) t ab ab ht w6
    rw[Int.sub_add_cancel]at hr
    exact⟨ab,w7,ab,ab,hr,fun h=>ab,fun _=>w5⟩
   ·omega
 ·rcases q7 with⟨rfl,q7,q8⟩|⟨q7,q8⟩
  ·have hr:=X.col (b-1) t ab ab ht q6
   rw[Int.sub_add_cancel]at hr
   exact⟨ab,ab,ab,q7,hr,fun _=>q5,fun h=>ab⟩
  ·rcases Me X hI (a:=a) (b:=b) t with w|⟨w1,w2,w3,w4,w5,w6,w7⟩
   ·omega
   ·have hr:=X.inn (a-1) (b-1) t ab ab ab ab ht (by rw[Int.sub_add_cancel];exact q6) (by rw[Int.sub_add_cancel];exact w6)
    rw[Int.sub_add_cancel,Int.sub_add_cancel]at hr
    exact⟨ab,q2,ab,w2,hr,fun _=>q5,fun _=>w5⟩
theorem AL {s:aw} (hP:lE s) {W H:Int} {T:Int->Int->Int} (X:uh s W H T) {ds:List aa} (hD:gM s ds):∀i,i<=ds.length->∀x∈ei s ds i,MF W H T (ei s ds i) x
 |0,_,x,hx=>by
  rw[HW,X.s6]at hx ⊢
  rw[List.mem_singleton.1 hx]
  have hw:=X.w1
  have hh:=X.h1
  exact⟨Int.le_refl _,by show(0:Int)<W;omega,Int.le_refl _,by show(0:Int)<H;omega,rfl,fun h=>absurd h (by show ¬(1:Int)<=0;omega),fun h=>absurd h (by show ¬(1:Int)<=0;omega)⟩
 |i+1,hi,x,hx=>by
  have ih:=AL hP X hD i ab
  have hA:=kI hP (es:=ds) i ab (fun j hj=>hD j ab)
  have hg:=hD i ab
  simp only[iV,PM,Bool.and_eq_true]at hg
  rw[ki s ds ab]at hx ⊢
  rcases jS.1 hx with rfl|hx
  ·exact(Vm X hA ih hg.1.1 hg.1.2).more fun y hy=>jS.2 (.inr hy)
  ·exact(ih x hx).more fun y hy=>jS.2 (.inr hy)
section
variable {s:aw} {W H:Int} {T:Int->Int->Int} (X:uh s W H T) {L:List aa} (hA:gV s.aq L) {a b:Int}
include X
theorem C3 (ha:0<=a) (y4:a<W) (hb:0<=b) (y6:b<H):0<=T a b:=(dZ (X.ok a b ha y4 hb y6)).1
include hA
theorem zM (ha:0<=a) (y4:a<W) (hb:0<=b) (y6:b+1<H) (hx:(⟨⟨a,b⟩,T a b⟩:aa)∈L):gy s L ⟨a,b+1⟩ (T a (b+1)) 2=if a=0 then 2 else 1:=by
 have e:gh L (cN ⟨a,b+1⟩ 2)=T a b:=by
  have h1:=at_mem hA.1.MA hx
  have h2:cN ⟨a,b+1⟩ 2=⟨a,b⟩:=by
   show(⟨a,b+1-1⟩:af)=⟨a,b⟩
   rw[Int.add_sub_cancel]
  rw[h2];exact h1
 have h4:=X.Y8 a b ha y4 hb y6
 have h5:=X.VT a b ha y4 hb y6
 unfold mY at h4 h5
 unfold gy
 rw[e,if_pos (C3 X ha y4 hb ab)]
 unfold fX
 rw[show jT 2=0 from rfl,h4,if_pos rfl]
 exact h5
theorem Dl (ha:0<=a) (y4:a+1<W) (hb:0<=b) (y6:b<H) (hx:(⟨⟨a,b⟩,T a b⟩:aa)∈L):gy s L ⟨a+1,b⟩ (T (a+1) b) 3=if b=0 then 2 else 1:=by
 have e:gh L (cN ⟨a+1,b⟩ 3)=T a b:=by
  have h1:=at_mem hA.1.MA hx
  have h2:cN ⟨a+1,b⟩ 3=⟨a,b⟩:=by
   show(⟨a+1-1,b⟩:af)=⟨a,b⟩
   rw[Int.add_sub_cancel]
  rw[h2];exact h1
 have h4:=X.Yu a b ha y4 hb y6
 have h5:=X.UQ a b ha y4 hb y6
 unfold mY at h4 h5
 unfold gy
 rw[e,if_pos (C3 X ha ab hb y6)]
 unfold fX
 rw[show jT 3=1 from rfl,h4,if_pos rfl]
 exact h5
end
section
variable {s:aw} {W H:Int} {T:Int->Int->Int} (X:uh s W H T) {L:List aa} (hA:gV s.aq L) (hI:∀x∈L,MF W H T L x) (NJ:∀a b:Int,0<=a->a<W->0<=b->b<H->zF ⟨a,b⟩=true) (oI:iG s L=[]) {a b:Int}
include X hA hI NJ oI
theorem D7 (ha:0<=a) (y4:a<W) (hb:0<=b) (y6:b<H) (h2:2<=gy s L ⟨a,b⟩ (T a b) 2+gy s L ⟨a,b⟩ (T a b) 3):(⟨⟨a,b⟩,T a b⟩:aa)∈L:=by
 rcases Int.lt_or_le (gh L ⟨a,b⟩) 0 with h0|h0
 ·exfalso
  have ht:=X.ok a b ha y4 hb y6
  have Wu:nn s.aq (gh L) ⟨a,b⟩ (T a b)=0+gy s L ⟨a,b⟩ (T a b) 0+gy s L ⟨a,b⟩ (T a b) 1+gy s L ⟨a,b⟩ (T a b) 2+gy s L ⟨a,b⟩ (T a b) 3:=vh _ _ _ _
  rw[KY X hI hA h0,Pb X hI hA h0]at Wu
  have hf:eH s L ⟨a,b⟩ (T a b)=true:=by
   simp only[eH,Bool.and_eq_true,decide_eq_true_eq]
   refine⟨⟨NJ a b ha y4 hb y6,h0⟩,?_⟩
   rw[X.uz];omega
  have h:=Oa (by rw[X.uz];omega) hA ht hf
  rw[oI]at h
  cases h
 ·obtain⟨⟨p,t⟩,hy,e,_⟩:=wF h0
  (try dsimp only at e)
  subst e
  have h:=(hI _ hy).2.2.2.2.1
  (try dsimp only at h)
  rw[<-h];exact hy
theorem Tm (hs:(⟨⟨0,0⟩,T 0 0⟩:aa)∈L):∀k:Nat,(k:Int)<H->(⟨⟨0,(k:Int)⟩,T 0 k⟩:aa)∈L
 |0,_=>hs
 |k+1,h=>by
  have hw:=X.w1
  have ih:=Tm hs k ab
  have h1:=zM X hA (a:=0) (b:=k) ab ab ab ab ih
  rw[if_pos rfl]at h1
  rw[show((k+1:Nat):Int)=(k:Int)+1 by omega]
  refine D7 X hA hI NJ oI ab ab ab ab ?_
  have w:0<=gy s L ⟨0,(k:Int)+1⟩ (T 0 ((k:Int)+1)) 3:=by rcases Me X hI (a:=0) (b:=(k:Int)+1) (T 0 ((k:Int)+1))with n|⟨_,_,n,_⟩<;>omega
  omega
theorem Vy (hs:(⟨⟨0,0⟩,T 0 0⟩:aa)∈L):∀k:Nat,(k:Int)<W->(⟨⟨(k:Int),0⟩,T k 0⟩:aa)∈L
 |0,_=>hs
 |k+1,h=>by
  have hw:=X.h1
  have ih:=Vy hs k ab
  have h1:=Dl X hA (a:=k) (b:=0) ab ab ab ab ih
  rw[if_pos rfl]at h1
  rw[show((k+1:Nat):Int)=(k:Int)+1 by omega]
  refine D7 X hA hI NJ oI ab ab ab ab ?_
  have w:0<=gy s L ⟨(k:Int)+1,0⟩ (T ((k:Int)+1) 0) 2:=by rcases LM X hI (a:=(k:Int)+1) (b:=0) (T ((k:Int)+1) 0)with n|⟨_,_,n,_⟩<;>omega
  omega
theorem Qg (hs:(⟨⟨0,0⟩,T 0 0⟩:aa)∈L):∀j:Nat,(j:Int)<H->∀k:Nat,(k:Int)<W->(⟨⟨(k:Int),(j:Int)⟩,T k j⟩:aa)∈L
 |0,_,k,hk=>Vy X hA hI NJ oI hs k hk
 |j+1,hj,0,_=>Tm X hA hI NJ oI hs (j+1) hj
 |j+1,hj,k+1,hk=>by
  have i1:=Qg hs j ab (k+1) hk
  have i2:=Qg hs (j+1) hj k ab
  rw[show((k+1:Nat):Int)=(k:Int)+1 by omega]at i1 ⊢
  rw[show((j+1:Nat):Int)=(j:Int)+1 by omega]at i2 ⊢
  have h1:=zM X hA (a:=(k:Int)+1) (b:=j) ab ab ab ab i1
  have h2:=Dl X hA (a:=k) (b:=(j:Int)+1) ab ab ab ab i2
  rw[if_neg ab]at h1 h2
  exact D7 X hA hI NJ oI ab ab ab ab ab
end
def ke (W H:Nat) (T:Int->Int->Int):List aa:=(E5 W H).map fun p=>⟨p,T p.fu p.eW⟩
theorem C2 (W H:Nat) (T:Int->Int->Int):mE (ke W H T):=by
 rw[ml]
 unfold ke
 rw[List.pairwise_map]
 exact Oo W H
theorem C1 (W H:Nat) (T:Int->Int->Int):(ke W H T).length=W*H:=by
 unfold ke;rw[List.length_map,On]
theorem wN {W H:Nat} {T:Int->Int->Int} {x:aa}:x∈ke W H T↔0<=x.bQ.fu/\x.bQ.fu<W/\0<=x.bQ.eW/\x.bQ.eW<H/\x.cK=T x.bQ.fu x.bQ.eW:=by
 unfold ke
 rw[List.mem_map]
 constructor
 ·rintro⟨p,hp,rfl⟩
  obtain⟨h1,h2,h3,h4⟩:=Gn.1 hp
  exact⟨h1,h2,h3,h4,rfl⟩
 ·rintro⟨h1,h2,h3,h4,h5⟩
  exact⟨x.bQ,Gn.2 ⟨h1,h2,h3,h4⟩,by rw[<-h5]⟩
theorem uh.list {s:aw} (hP:lE s) {W H:Nat} {T:Int->Int->Int} (X:uh s W H T) (hW:W<=61) (hH:H<=61) {ds:List aa} (hD:gM s ds) (oI:iG s (ei s ds ds.length)=[]):ei s ds ds.length=ke W H T:=by
 have hA:=kI hP (es:=ds) ds.length (Nat.le_refl _) hD
 have hI:=AL hP X hD ds.length (Nat.le_refl _)
 have hs:(⟨⟨0,0⟩,T 0 0⟩:aa)∈ei s ds ds.length:=KP.2 (.inl (by rw[X.s6];exact List.mem_singleton.2 rfl))
 refine Lv hA.1.MA (C2 W H T) fun x=>?_
 rw[wN]
 constructor
 ·intro hx
  obtain⟨h1,h2,h3,h4,h5,_⟩:=hI x hx
  exact⟨h1,h2,h3,h4,h5⟩
 ·rintro⟨h1,h2,h3,h4,h5⟩
  obtain⟨⟨a,b⟩,t⟩:=x
  (try dsimp only at h1 h2 h3 h4 h5)
  obtain⟨k,rfl⟩:∃k:Nat,a=(k:Int):=⟨a.toNat,ab⟩
  obtain⟨j,rfl⟩:∃j:Nat,b=(j:Int):=⟨b.toNat,ab⟩
  rw[h5]
  refine Qg X hA hI (fun a b q1 q2 q3 q4=>?_) oI hs j h4 k h2
  unfold zF ir
  simp only[Bool.and_eq_true,decide_eq_true_eq]
  omega
theorem uh.Dq {s:aw} (hP:lE s) {W H:Nat} {T:Int->Int->Int} (X:uh s W H T) {ds:List aa} (hD:gM s ds) {i:Nat} (hi:i<=ds.length):(ei s ds i).length<=W*H:=by
 have hA:=kI hP (es:=ds) i hi (fun j hj=>hD j ab)
 rw[<-C1 W H T]
 exact mg (H5 hA.1.MA) fun x hx=>by
  obtain⟨h1,h2,h3,h4,h5,_⟩:=AL hP X hD i hi x hx
  exact wN.2 ⟨h1,h2,h3,h4,h5⟩
theorem uh.TC {s:aw} (hP:lE s) {W H:Nat} {T:Int->Int->Int} (X:uh s W H T) (hW:W<=61) (hH:H<=61) (hWH:W*H<500) (sch:List Int):∃es,pM s sch 501=some es/\ei s es es.length=ke W H T:=by
 obtain⟨es,he⟩:=yY (s:=s) (sch:=sch) (fun ds hD _=>by have:=X.Dq hP hD (Nat.le_refl _);omega) 501 [] (gM.nil s)
 have hg:pM s sch 501=some es:=he
 exact⟨es,hg,X.list hP hW hH (yZ hg).1 (yV hP 501 [] es (by simp) (gM.nil s) he)⟩
def wG (S k:Nat):Int:=if k=0 then(S:Int)+1 else(S:Int)+2+k
def eG (S m k:Nat):Int:=if k=0 then(S:Int)+2 else(S:Int)+1+m+k
def uw (S m n:Nat) (ws ss tb:List Int) (i:Nat):List Int:=
 if i=0 then[wG S 0,eG S m 0,0,0]
 else if i<=m then[if i<m then wG S i else 0,ws.getD (i-1) 0+1,wG S (i-1),0]
 else if i<=m+n then[ss.getD (i-1-m) 0+1,if i-m<n then eG S m (i-m)else 0,0,eG S m (i-1-m)]
 else[tb.getD (i-1-m-n) 0+1,tb.getD (i-1-m-n) 0+1,(((i-1-m-n) % S:Nat):Int)+1,(((i-1-m-n) / S:Nat):Int)+1]
def Dx (S m n i:Nat):ByteArray:=
 if i=0 then rN else if i<=m then gr 119 (i-1)else if i<=m+n then gr 101 (i-1-m)else gr 113 ((i-1-m-n) / S)++gr 113 ((i-1-m-n) % S)
def oZ (S m n:Nat):List gj:=((List.range S).map fun k=>⟨gr 113 k,1⟩)++([⟨gr 119 0,2⟩,⟨gr 101 0,2⟩]++(((List.range (m-1)).map fun k=>⟨gr 119 (k+1),2⟩)++((List.range (n-1)).map fun k=>⟨gr 101 (k+1),2⟩)))
def iW (S m n:Nat) (ws ss tb:List Int) (j:Nat):List fj:=(List.range j).map fun i=>⟨Dx S m n i,uw S m n ws ss tb i⟩
theorem kS (S m n:Nat) (ws ss tb:List Int) (j:Nat):(iW S m n ws ss tb j).length=j:=by simp[iW]
theorem Fc (S m n:Nat) (ws ss tb:List Int) (j:Nat):iW S m n ws ss tb (j+1)=iW S m n ws ss tb j++[⟨Dx S m n j,uw S m n ws ss tb j⟩]:=by simp[iW,List.range_succ]
def gH (S m n:Nat) (ws ss tb:List Int):aw:=⟨⟨oZ S m n,iW S m n ws ss tb (1+m+n+S*S)⟩,⟨[⟨⟨0,0⟩,0⟩]⟩,2⟩
def Iw (S:Nat) (l:List Int) (k:Nat):Prop:=l.length=k/\∀v∈l,0<=v/\v<(S:Int)
theorem Iw.at {S:Nat} {l:List Int} {k:Nat} (h:Iw S l k) {i:Nat} (hi:i<k):0<=l.getD i 0/\l.getD i 0<(S:Int):=by
 have h1:i<l.length:=by rw[h.1];exact hi
 rw[List.getD_eq_getElem?_getD,List.getElem?_eq_getElem h1]
 exact h.2 _ (List.getElem_mem h1)
structure GO (S m n:Nat) (ws ss tb:List Int):Prop where
 s1:1<=S
 m1:1<=m
 n1:1<=n
 ws:Iw S ws m
 ss:Iw S ss n
 tb:Iw S tb (S*S)
def rG (S:Nat) (ws ss tb:List Int):Nat->Nat->Int
 |0,0=>0
 |0,y+1=>ws.getD y 0
 |x+1,0=>ss.getD x 0
 |x+1,y+1=>tb.getD (rG S ws ss tb x (y+1)*S+rG S ws ss tb (x+1) y).toNat 0
 termination_by x y=>(x,y)
def rT (S m n:Nat) (ws ss tb:List Int):Nat->Nat->Nat
 |0,y=>y
 |x+1,0=>1+m+x
 |x+1,y+1=>1+m+n+(rG S ws ss tb x (y+1)*S+rG S ws ss tb (x+1) y).toNat
section
variable {S m n:Nat} {ws ss tb:List Int} (X:GO S m n ws ss tb)
include X
omit X in
theorem AR {a b:Int} (ha:0<=a/\a<(S:Int)) (hb:0<=b/\b<(S:Int)):(a*S+b).toNat<S*S/\(((a*S+b).toNat % S:Nat):Int)=b/\(((a*S+b).toNat / S:Nat):Int)=a:=by
 obtain⟨k,rfl⟩:∃k:Nat,a=(k:Int):=⟨a.toNat,ab⟩
 obtain⟨l,rfl⟩:∃l:Nat,b=(l:Int):=⟨b.toNat,ab⟩
 have e:((k:Int)*S+l).toNat=k*S+l:=by
  rw[show(k:Int)*S+l=((k*S+l:Nat):Int) by simp];exact Int.toNat_natCast _
 rw[e]
 have hk:k<S:=ab
 have hl:l<S:=ab
 refine⟨?_,?_,?_⟩
 ·have h1:k*S+S<=S*S:=by
   have:=Nat.mul_le_mul_right S (show k+1<=S by omega)
   rw[Nat.add_mul,Nat.one_mul]at this
   exact this
  omega
 ·rw[Nat.mul_comm,Nat.mul_add_mod,Nat.mod_eq_of_lt hl]
 ·rw[Nat.mul_comm,Nat.mul_add_div ab,Nat.div_eq_of_lt hl,Nat.add_zero]
theorem lv:∀x y,x<=n->y<=m->1<=x+y->0<=rG S ws ss tb x y/\rG S ws ss tb x y<(S:Int)
 |0,0,_,_,h=>by omega
 |0,y+1,_,hy,_=>by rw[rG];exact X.ws.at ab
 |x+1,0,hx,_,_=>by rw[rG];exact X.ss.at ab
 |x+1,y+1,hx,hy,_=>by
  have h1:=lv x (y+1) ab hy ab
  have h2:=lv (x+1) y hx ab ab
  rw[rG]
  exact X.tb.at (AR h1 h2).1
 termination_by x y=>(x,y)
omit X in
theorem C7 {i:Nat} (hi:i<1+m+n+S*S):cG (gH S m n ws ss tb).aq (i:Int)=⟨Dx S m n i,uw S m n ws ss tb i⟩:=by
 have:cG (gH S m n ws ss tb).aq (i:Int)=(iW S m n ws ss tb (1+m+n+S*S)).getD i wU:=by unfold cG;rw[Int.toNat_natCast];rfl
 rw[this,iW,List.getD_eq_getElem?_getD,List.getElem?_map,List.getElem?_range hi]
 rfl
omit X in
theorem A9 {i:Nat} (hi:i<1+m+n+S*S) (d:Int):mY (gH S m n ws ss tb) (i:Int) d=(uw S m n ws ss tb i).getD d.toNat 0:=by
 unfold mY cL
 rw[C7 hi]
theorem PO {x y:Nat} (hx:x<=n) (hy:y<=m):rT S m n ws ss tb x y<1+m+n+S*S:=by
 match x,y with
 |0,y=>rw[show rT S m n ws ss tb 0 y=y by unfold rT;rfl];omega
 |x+1,0=>rw[show rT S m n ws ss tb (x+1) 0=1+m+x by unfold rT;rfl];omega
 |x+1,y+1=>
  have h1:=lv X x (y+1) ab hy ab
  have h2:=lv X (x+1) y hx ab ab
  have:=(AR h1 h2).1
  rw[rT];omega
theorem kM {x y:Nat} (hx:x<=n) (hy:y<=m):
  mY (gH S m n ws ss tb) (rT S m n ws ss tb x y:Nat) 0=(if x=0 then(if y<m then wG S y else 0)else rG S ws ss tb x y+1)/\
  mY (gH S m n ws ss tb) (rT S m n ws ss tb x y:Nat) 1=(if y=0 then(if x<n then eG S m x else 0)else rG S ws ss tb x y+1)/\
  mY (gH S m n ws ss tb) (rT S m n ws ss tb x y:Nat) 2=(if y=0 then 0 else if x=0 then wG S (y-1)else rG S ws ss tb x (y-1)+1)/\
  mY (gH S m n ws ss tb) (rT S m n ws ss tb x y:Nat) 3=(if x=0 then 0 else if y=0 then eG S m (x-1)else rG S ws ss tb (x-1) y+1):=by
 have hm:=X.m1
 have hn:=X.n1
 have ht:=PO X hx hy
 have h:=fun d=>A9 (ws:=ws) (ss:=ss) (tb:=tb) ht d
 rw[h 0,h 1,h 2,h 3]
 clear h
 match x,y with
 |0,0=>
  have e:rT S m n ws ss tb 0 0=0:=by unfold rT;rfl
  rw[e,uw,if_pos rfl]
  simp only[if_true]
  rw[if_pos ab,if_pos ab]
  exact⟨rfl,rfl,rfl,rfl⟩
 |0,y+1=>
  have e:rT S m n ws ss tb 0 (y+1)=y+1:=by unfold rT;rfl
  rw[e,uw,if_neg ab,if_pos ab]
  simp only[if_true,if_neg (show ¬y+1=0 by omega),Nat.add_sub_cancel]
  refine⟨rfl,?_,rfl,rfl⟩
  rw[rG];rfl
 |x+1,0=>
  have e:rT S m n ws ss tb (x+1) 0=1+m+x:=by unfold rT;rfl
  rw[e,uw,if_neg ab,if_neg ab,if_pos ab]
  simp only[if_true,if_neg (show ¬x+1=0 by omega),Nat.add_sub_cancel]
  have e1:1+m+x-1-m=x:=ab
  have e2:1+m+x-m=x+1:=ab
  rw[e1,e2]
  refine⟨?_,rfl,rfl,rfl⟩
  rw[rG];rfl
 |x+1,y+1=>
  have h1:=lv X x (y+1) ab hy ab
  have h2:=lv X (x+1) y hx ab ab
  obtain⟨q1,q2,q3⟩:=AR h1 h2
  have e:rT S m n ws ss tb (x+1) (y+1)=1+m+n+(rG S ws ss tb x (y+1)*S+rG S ws ss tb (x+1) y).toNat:=by rw[rT]
  rw[e,uw,if_neg ab,if_neg ab,if_neg ab]
  have e1:1+m+n+(rG S ws ss tb x (y+1)*S+rG S ws ss tb (x+1) y).toNat-1-m-n=(rG S ws ss tb x (y+1)*S+rG S ws ss tb (x+1) y).toNat:=ab
  rw[e1,q2,q3]
  simp only[if_neg (show ¬x+1=0 by omega),if_neg (show ¬y+1=0 by omega),Nat.add_sub_cancel]
  refine⟨?_,?_,rfl,rfl⟩
  ·rw[rG];rfl
  ·rw[rG];rfl
omit X in
theorem xp (hm:1<=m) (hn:1<=n):(oZ S m n).length=S+m+n:=by simp[oZ];omega
omit X in
theorem LB {i:Nat} (hi:i<(oZ S m n).length):((oZ S m n).getD i ⟨⟨#[]⟩,0⟩).gK=if i<S then 1 else 2:=by
 unfold oZ at hi ⊢
 rw[List.getD_eq_getElem?_getD]
 by_cases h:i<S
 ·rw[if_pos h,List.getElem?_append_left (by simpa using h),List.getElem?_map,List.getElem?_range h];rfl
 ·rw[if_neg h,List.getElem?_append_right (by simp;omega)]
  simp only[List.length_map,List.length_range,List.length_append,List.length_cons,List.length_nil]at hi ⊢
  by_cases h2:i-S<2
  ·rw[List.getElem?_append_left (by simpa using h2)]
   have:i-S=0∨i-S=1:=ab
   rcases this with e|e<;>rw[e]<;>rfl
  ·rw[List.getElem?_append_right (by simp;omega)]
   simp only[List.length_cons,List.length_nil]
   by_cases h3:i-S-(0+1+1)<m-1
   ·rw[List.getElem?_append_left (by simpa using h3),List.getElem?_map,List.getElem?_range h3];rfl
   ·rw[List.getElem?_append_right (by simp;omega),List.getElem?_map]
    simp only[List.length_map,List.length_range]
    rw[List.getElem?_range ab];rfl
theorem pE {g:Int} (h1:1<=g) (h2:g<=(S:Int)+m+n):kg (gH S m n ws ss tb).aq g=if g<=(S:Int)then 1 else 2:=by
 have hl:=xp (S:=S) X.m1 X.n1
 unfold kg
 rw[if_neg ab]
 have e:jl (gH S m n ws ss tb).aq (g-1)=(oZ S m n).getD (g-1).toNat ⟨⟨#[]⟩,0⟩:=rfl
 rw[e,LB ab]
 by_cases h:g<=(S:Int)
 ·rw[if_pos h,if_pos ab]
 ·rw[if_neg h,if_neg ab]
omit X in
theorem zS {k:Nat} (hk:k<m) (hn:1<=n):(S:Int)<wG S k/\wG S k<=(S:Int)+m+n/\∀l,wG S l=wG S k->l=k:=by
 unfold wG
 refine⟨by split<;>omega,by split<;>omega,fun l=>by split<;>split<;>omega⟩
omit X in
theorem BZ {k:Nat} (hk:k<n) (hm:1<=m):(S:Int)<eG S m k/\eG S m k<=(S:Int)+m+n/\∀l,eG S m l=eG S m k->l=k:=by
 unfold eG
 refine⟨by split<;>omega,by split<;>omega,fun l=>by split<;>split<;>omega⟩
theorem OA:uh (gH S m n ws ss tb) ((n+1:Nat):Int) ((m+1:Nat):Int) (fun a b=>(rT S m n ws ss tb a.toNat b.toNat:Nat)):=by
 have hm:=X.m1
 have hn:=X.n1
 have hS:=X.s1
 have OI:kg (gH S m n ws ss tb).aq 0=0:=by unfold kg;rw[if_pos rfl]
 have nat:∀{a:Int},0<=a->∃k:Nat,a=(k:Int):=fun {a} h=>⟨a.toNat,ab⟩
 have Y3:∀{t:Int},eA (gH S m n ws ss tb).aq t=true->∃i:Nat,t=(i:Int)/\i<1+m+n+S*S:=fun {t} h=>by
  unfold eA at h
  have h1:=dZ h
  have h2:(gH S m n ws ss tb).aq.ay.length=1+m+n+S*S:=kS _ _ _ _ _ _ _
  rw[h2]at h1
  exact⟨t.toNat,ab,ab⟩
 have byS:∀{i k:Nat},i<1+m+n+S*S->k<m->mY (gH S m n ws ss tb) (i:Int) 2=wG S k->i=k+1:=fun {i k} hi hk h=>by
  obtain⟨w1,_,w3⟩:=zS (S:=S) hk hn
  rw[A9 hi,uw]at h
  split at h
  ·have h':(0:Int)=wG S k:=h
   omega
  ·split at h
   ·have h':wG S (i-1)=wG S k:=h
    have:=w3 _ h'
    omega
   ·split at h
    ·have h':(0:Int)=wG S k:=h
     omega
    ·have h':(((i-1-m-n) % S:Nat):Int)+1=wG S k:=h
     have:=Nat.mod_lt (i-1-m-n) (show 0<S by omega)
     omega
 have byW:∀{i k:Nat},i<1+m+n+S*S->k<n->mY (gH S m n ws ss tb) (i:Int) 3=eG S m k->i=1+m+k:=fun {i k} hi hk h=>by
  obtain⟨w1,_,w3⟩:=BZ (S:=S) (m:=m) hk hm
  rw[A9 hi,uw]at h
  split at h
  ·have h':(0:Int)=eG S m k:=h
   omega
  ·split at h
   ·have h':(0:Int)=eG S m k:=h
    omega
   ·split at h
    ·have h':eG S m (i-1-m)=eG S m k:=h
     have:=w3 _ h'
     omega
    ·have h':(((i-1-m-n) / S:Nat):Int)+1=eG S m k:=h
     have h2:(i-1-m-n) / S<S:=Nat.div_lt_of_lt_mul ab
     omega
 refine⟨rfl,?_,ab,ab,?_,?_,?_,?_,?_,?_,?_,?_,?_,?_,?_,?_⟩
 ·show([⟨⟨0,0⟩,0⟩]:List aa)= _
  unfold rT;rfl
 ·intro a b ha y4 hb y6
  have:=PO X (x:=a.toNat) (y:=b.toNat) ab ab
  have h2:(gH S m n ws ss tb).aq.ay.length=1+m+n+S*S:=kS _ _ _ _ _ _ _
  unfold eA
  exact jm ab (by rw[h2];omega)
 ·intro a b ha y4 hb y6
  obtain⟨x,rfl⟩:=nat ha
  obtain⟨y,rfl⟩:=nat hb
  (try dsimp only)
  rw[show((y:Int)+1).toNat=y+1 by omega,Int.toNat_natCast,Int.toNat_natCast,(kM X (x:=x) (y:=y+1) ab ab).2.2.1,(kM X (x:=x) (y:=y) ab ab).1,if_neg ab]
  by_cases h:x=0
  ·rw[if_pos h,if_pos h,if_pos ab];rfl
  ·rw[if_neg h,if_neg h];rfl
 ·intro a b ha y4 hb y6
  obtain⟨x,rfl⟩:=nat ha
  obtain⟨y,rfl⟩:=nat hb
  (try dsimp only)
  rw[Int.toNat_natCast,Int.toNat_natCast,(kM X (x:=x) (y:=y) ab ab).1]
  by_cases h:x=0
  ·obtain⟨w1,w2,_⟩:=zS (S:=S) (m:=m) (n:=n) (k:=y) ab hn
   rw[if_pos h,if_pos ab,if_pos ab,pE X ab w2,if_neg ab]
  ·have:=lv X x y ab ab ab
   rw[if_neg h,if_neg ab,pE X ab ab,if_pos ab]
 ·intro a ha y4
  obtain⟨x,rfl⟩:=nat ha
  (try dsimp only)
  rw[show(((m+1:Nat):Int)-1).toNat=m by omega,Int.toNat_natCast,(kM X (x:=x) (y:=m) ab ab).1]
  by_cases h:x=0
  ·rw[if_pos h,if_neg ab];exact .inl OI
  ·have:=lv X x m ab ab ab
   rw[if_neg h,pE X ab ab,if_pos ab]
   exact .inr ⟨ab,rfl⟩
 ·intro a b ha y4 hb y6
  obtain⟨x,rfl⟩:=nat ha
  obtain⟨y,rfl⟩:=nat hb
  (try dsimp only)
  rw[show((x:Int)+1).toNat=x+1 by omega,Int.toNat_natCast,Int.toNat_natCast,(kM X (x:=x+1) (y:=y) ab ab).2.2.2,(kM X (x:=x) (y:=y) ab ab).2.1,if_neg ab]
  by_cases h:y=0
  ·rw[if_pos h,if_pos h,if_pos ab];rfl
  ·rw[if_neg h,if_neg h];rfl
 ·intro a b ha y4 hb y6
  obtain⟨x,rfl⟩:=nat ha
  obtain⟨y,rfl⟩:=nat hb
  (try dsimp only)
  rw[Int.toNat_natCast,Int.toNat_natCast,(kM X (x:=x) (y:=y) ab ab).2.1]
  by_cases h:y=0
  ·obtain⟨w1,w2,_⟩:=BZ (S:=S) (m:=m) (n:=n) (k:=x) ab hm
   rw[if_pos h,if_pos ab,if_pos ab,pE X ab w2,if_neg ab]
  ·have:=lv X x y ab ab ab
   rw[if_neg h,if_neg ab,pE X ab ab,if_pos ab]
 ·intro b hb y6
  obtain⟨y,rfl⟩:=nat hb
  (try dsimp only)
  rw[show(((n+1:Nat):Int)-1).toNat=n by omega,Int.toNat_natCast,(kM X (x:=n) (y:=y) ab ab).2.1]
  by_cases h:y=0
  ·rw[if_pos h,if_neg ab];exact .inl OI
  ·have:=lv X n y ab ab ab
   rw[if_neg h,pE X ab ab,if_pos ab]
   exact .inr ⟨ab,rfl⟩
 ·intro a ha y4
  obtain⟨x,rfl⟩:=nat ha
  (try dsimp only)
  rw[show(0:Int).toNat=0 from rfl,Int.toNat_natCast,(kM X (x:=x) (y:=0) ab ab).2.2.1,if_pos rfl]
  exact OI
 ·intro b hb y6
  obtain⟨y,rfl⟩:=nat hb
  (try dsimp only)
  rw[show(0:Int).toNat=0 from rfl,Int.toNat_natCast,(kM X (x:=0) (y:=y) ab ab).2.2.2,if_pos rfl]
  exact OI
 ·intro b t hb y6 ht h
  obtain⟨y,rfl⟩:=nat hb
  obtain⟨i,rfl,hi⟩:=Y3 ht
  (try dsimp only at h ⊢)
  rw[show(0:Int).toNat=0 from rfl,Int.toNat_natCast,(kM X (x:=0) (y:=y) ab ab).1,if_pos rfl,if_pos ab]at h
  rw[byS hi ab h,show((y:Int)+1).toNat=y+1 by omega,show(0:Int).toNat=0 from rfl]
  unfold rT;rfl
 ·intro a t ha y4 ht h
  obtain⟨x,rfl⟩:=nat ha
  obtain⟨i,rfl,hi⟩:=Y3 ht
  (try dsimp only at h ⊢)
  rw[show(0:Int).toNat=0 from rfl,Int.toNat_natCast,(kM X (x:=x) (y:=0) ab ab).2.1,if_pos rfl,if_pos ab]at h
  rw[byW hi ab h,show((x:Int)+1).toNat=x+1 by omega,show(0:Int).toNat=0 from rfl]
  unfold rT;rfl
 ·intro a b t ha y4 hb y6 ht h2 h3
  obtain⟨x,rfl⟩:=nat ha
  obtain⟨y,rfl⟩:=nat hb
  obtain⟨i,rfl,hi⟩:=Y3 ht
  (try dsimp only at h2 h3 ⊢)
  rw[show((x:Int)+1).toNat=x+1 by omega,Int.toNat_natCast,(kM X (x:=x+1) (y:=y) ab ab).1,if_neg ab]at h2
  rw[show((y:Int)+1).toNat=y+1 by omega,Int.toNat_natCast,(kM X (x:=x) (y:=y+1) ab ab).2.1,if_neg ab]at h3
  rw[show((x:Int)+1).toNat=x+1 by omega,show((y:Int)+1).toNat=y+1 by omega]
  have g1:=lv X (x+1) y ab ab ab
  have g2:=lv X x (y+1) ab ab ab
  obtain⟨q1,q2,q3⟩:=AR g2 g1
  rw[rT]
  generalize rG S ws ss tb (x+1) y=u at *
  generalize rG S ws ss tb x (y+1)=v at *
  rw[A9 hi,uw]at h2 h3
  split at h2
  ·have h':(0:Int)=u+1:=h2
   omega
  ·rename_i i0
   rw[if_neg i0]at h3
   split at h2
   ·rename_i i1
    have h':wG S (i-1)=u+1:=h2
    have:=(zS (S:=S) (m:=m) (n:=n) (k:=i-1) ab hn).1
    omega
   ·rename_i i1
    rw[if_neg i1]at h3
    split at h2
    ·have h':(0:Int)=u+1:=h2
     omega
    ·rename_i i2
     rw[if_neg i2]at h3
     have e2:(((i-1-m-n) % S:Nat):Int)+1=u+1:=h2
     have e3:(((i-1-m-n) / S:Nat):Int)+1=v+1:=h3
     have e4:=Nat.div_add_mod (i-1-m-n) S
     have e5:(v*S+u).toNat=i-1-m-n:=by
      have:v*S+u=((i-1-m-n:Nat):Int):=by
       rw[<-e4,show v=(((i-1-m-n) / S:Nat):Int) by omega,show u=(((i-1-m-n) % S:Nat):Int) by omega]
       rw[Int.mul_comm]
       push_cast
       rfl
      rw[this,Int.toNat_natCast]
     rw[e5]
     omega
end
def oV (s:aO) (l:List aa) (y x:Nat):Int:=sE (Nj s l ⟨(x:Int)+1,(y:Int)+1⟩ 0) ⟨#[113]⟩ 10
def pR (s:aO) (l:List aa) (y x:Nat):List Int:=(List.range x).map (oV s l y)
theorem rR (s:aO) (l:List aa) (y x:Nat):(pR s l y x).length=x:=by simp[pR]
theorem HZ (s:aO) (l:List aa) (y x:Nat):pR s l y (x+1)=pR s l y x++[oV s l y x]:=by simp[pR,List.range_succ]
def RP (s:aO) (l:List aa) (w h:Nat):Bool:=(List.range h).all fun y=>(List.range w).all fun x=>decide (0<=oV s l y x)
theorem Gt {s:aO} {l:List aa} {w h:Nat} (q:∀y,y<h->∀x,x<w->0<=oV s l y x):RP s l w h=true:=by
 simpa[RP]using q
theorem RQ {s:aO} {l:List aa} {w h y x:Nat} (hy:y<h) (hx:x<w) (q:oV s l y x<0):RP s l w h=false:=by
 simp only[RP,List.all_eq_false,List.mem_range,Bool.not_eq_true]
 exact⟨y,hy,x,hx,decide_eq_false ab⟩
def rL (s:aO) (l:List aa) (w h:Nat):List (List Int):=(List.range h).map fun y=>pR s l y w
theorem Lj (s:aO) (l:List aa) (w h:Nat):(rL s l w h).length=h:=by simp[rL]
theorem Om (s:aO) (l:List aa) (w h:Nat):rL s l w (h+1)=rL s l w h++[pR s l h w]:=by simp[rL,List.range_succ]
noncomputable def qy (s:aw) (a:km) (w h:Int):List (List Int)×Int:=
 if xW s a.ay=true then(if (ir w 1 15&&ir h 1 15)=true then(if RP s.aq a.ay w.toNat h.toNat=true then(rL s.aq a.ay w.toNat h.toNat,0)else([],9))else([],2))else([],1)
def Lt (S m n i:Nat):Bool:=Gg ((oZ S m n).getD i ⟨⟨#[]⟩,0⟩).dP&&ir ((oZ S m n).getD i ⟨⟨#[]⟩,0⟩).gK 1 4&&((List.range i).all fun j=> !decide (((oZ S m n).getD j ⟨⟨#[]⟩,0⟩).dP=((oZ S m n).getD i ⟨⟨#[]⟩,0⟩).dP))
def Lz (S m n i:Nat):Bool:=Gg (Dx S m n i)&&((List.range i).all fun j=> !decide (Dx S m n j=Dx S m n i))
def Vu (S m n:Nat):Bool:=(List.range (S+(m+1)+(n+1))).all fun i=>Lt S (m+1) (n+1) i
def VA (S m n:Nat):Bool:=(List.range (1+(m+1)+(n+1)+S*S)).all fun i=>Lz S (m+1) (n+1) i
theorem RW:∀S,S<5->∀m,m<5->∀n,n<5->Vu S m n=true:=by decide+kernel
theorem RZ:∀S,S<5->∀m,m<5->∀n,n<5->VA S m n=true:=by decide+kernel
theorem Lu (S:Nat) (hS:S<5) (m:Nat) (hm:m<6) (m1:1<=m) (n:Nat) (hn:n<6) (n1:1<=n) (i:Nat) (hi:i<S+m+n):Lt S m n i=true:=by
 obtain⟨m,rfl⟩:∃k,m=k+1:=⟨m-1,ab⟩
 obtain⟨n,rfl⟩:∃k,n=k+1:=⟨n-1,ab⟩
 exact List.all_eq_true.1 (RW S hS m ab n ab) i (List.mem_range.2 hi)
theorem LA (S:Nat) (hS:S<5) (m:Nat) (hm:m<6) (m1:1<=m) (n:Nat) (hn:n<6) (n1:1<=n) (i:Nat) (hi:i<1+m+n+S*S):Lz S m n i=true:=by
 obtain⟨m,rfl⟩:∃k,m=k+1:=⟨m-1,ab⟩
 obtain⟨n,rfl⟩:∃k,n=k+1:=⟨n-1,ab⟩
 exact List.all_eq_true.1 (RZ S hS m ab n ab) i (List.mem_range.2 hi)
section
variable {S m n:Nat} {ws ss tb:List Int} (X:GO S m n ws ss tb) (hS:S<5) (hm:m<6) (hn:n<6)
include X hS hm hn
theorem OB:gO (gH S m n ws ss tb).aq:=by
 have s1:=X.s1
 have m1:=X.m1
 have n1:=X.n1
 have hg:(gH S m n ws ss tb).aq.dx.length=S+m+n:=xp m1 n1
 have ht:(gH S m n ws ss tb).aq.ay.length=1+m+n+S*S:=kS _ _ _ _ _ _ _
 have XP:S*S<=4*4:=Nat.mul_le_mul ab ab
 refine⟨ab,ab,ab,fun i hi=>?_,fun i hi=>?_⟩
 ·have h:=Lu S hS m hm m1 n hn n1 i ab
  unfold Lt at h
  simp only[Bool.and_eq_true]at h
  obtain⟨⟨a,b⟩,c⟩:=h
  refine⟨Gh a,b,fun j hj=>?_⟩
  have:=List.all_eq_true.1 c j (List.mem_range.2 hj)
  simp only[Bool.not_eq_true',decide_eq_false_iff_not]at this
  exact this
 ·rw[ht]at hi
  have tn:∀j,j<1+m+n+S*S->sq (gH S m n ws ss tb).aq j=⟨Dx S m n j,uw S m n ws ss tb j⟩:=fun j hj=>by
   have:=C7 (ws:=ws) (ss:=ss) (tb:=tb) hj
   rw[<-this]
   unfold sq cG
   rw[Int.toNat_natCast]
  have h:=LA S hS m hm m1 n hn n1 i hi
  unfold Lz at h
  simp only[Bool.and_eq_true]at h
  obtain⟨a,c⟩:=h
  refine⟨by rw[tn i hi];exact Gh a,?_,fun j hj=>?_,?_⟩
  ·rw[tn i hi]
   show(uw S m n ws ss tb i).length=4
   unfold uw
   split
   ·rfl
   ·split
    ·rfl
    ·split<;>rfl
  ·rw[tn i hi,tn j ab]
   have:=List.all_eq_true.1 c j (List.mem_range.2 hj)
   simp only[Bool.not_eq_true',decide_eq_false_iff_not]at this
   exact this
  ·rw[tn i hi,hg]
   intro g uk
   have uk:g∈uw S m n ws ss tb i:=uk
   have key:0<=g/\g<=(S:Int)+m+n:=by
    unfold uw at uk
    split at uk
    ·obtain⟨a1,a2,_⟩:=zS (S:=S) (m:=m) (n:=n) (k:=0) ab n1
     obtain⟨b1,b2,_⟩:=BZ (S:=S) (m:=m) (n:=n) (k:=0) ab m1
     rcases rJ uk with rfl|rfl|rfl|rfl<;>omega
    ·split at uk
     ·have hw:=X.ws.at (i:=i-1) ab
      obtain⟨a1,a2,_⟩:=zS (S:=S) (m:=m) (n:=n) (k:=i-1) ab n1
      rcases rJ uk with rfl|rfl|rfl|rfl
      ·split
       ·rename_i h9
        obtain⟨c1,c2,_⟩:=zS (S:=S) (m:=m) (n:=n) (k:=i) h9 n1
        omega
       ·omega
      ·omega
      ·omega
      ·omega
     ·split at uk
      ·have hw:=X.ss.at (i:=i-1-m) ab
       obtain⟨a1,a2,_⟩:=BZ (S:=S) (m:=m) (n:=n) (k:=i-1-m) ab m1
       rcases rJ uk with rfl|rfl|rfl|rfl
       ·omega
       ·split
        ·rename_i h9
         obtain⟨c1,c2,_⟩:=BZ (S:=S) (m:=m) (n:=n) (k:=i-m) h9 m1
         omega
        ·omega
       ·omega
       ·omega
      ·have hw:=X.tb.at (i:=i-1-m-n) ab
       have h1:=Nat.mod_lt (i-1-m-n) (show 0<S by omega)
       have h2:(i-1-m-n) / S<S:=Nat.div_lt_of_lt_mul ab
       generalize (i-1-m-n) / S=q1 at uk h2
       generalize (i-1-m-n) % S=q2 at uk h1
       rcases rJ uk with rfl|rfl|rfl|rfl<;>omega
   exact jm key.1 ab
theorem Bb:lE (gH S m n ws ss tb):=by
 have h:=OB X hS hm hn
 refine⟨h,LG h,Nat.le_refl _,rfl,LO _ _ _⟩
theorem H8 (sch:List Int):∃es,pM (gH S m n ws ss tb) sch 501=some es/\ei (gH S m n ws ss tb) es es.length=ke (n+1) (m+1) (fun a b=>(rT S m n ws ss tb a.toNat b.toNat:Nat)):=by
 have h6:(n+1)*(m+1)<=6*6:=Nat.mul_le_mul ab ab
 exact(OA X).TC (Bb X hS hm hn) ab ab ab sch
omit X hS hm hn in
theorem QG:∀S,S<5->∀m,m<6->∀n,n<6->∀k,k<S->((oZ S m n).getD k ⟨⟨#[]⟩,0⟩).dP=gr 113 k:=by decide+kernel
omit X hS hm hn in
theorem Tt:∀k,k<10->sE (gr 113 k) ⟨#[113]⟩ 10=(k:Int):=by decide+kernel
theorem Gx {x y:Nat} (hx:x<n) (hy:y<m):oV (gH S m n ws ss tb).aq (ke (n+1) (m+1) (fun a b=>(rT S m n ws ss tb a.toNat b.toNat:Nat))) y x=rG S ws ss tb (x+1) (y+1):=by
 have hg:=lv X (x+1) (y+1) ab ab ab
 have y5:gh (ke (n+1) (m+1) (fun a b=>(rT S m n ws ss tb a.toNat b.toNat:Nat))) ⟨(x:Int)+1,(y:Int)+1⟩=(rT S m n ws ss tb (x+1) (y+1):Nat):=by
  have sL:(⟨⟨(x:Int)+1,(y:Int)+1⟩,(rT S m n ws ss tb (x+1) (y+1):Nat)⟩:aa)∈ke (n+1) (m+1) (fun a b=>(rT S m n ws ss tb a.toNat b.toNat:Nat)):=by
   rw[wN]
   (try dsimp only)
   refine⟨ab,ab,ab,ab,?_⟩
   rw[show((x:Int)+1).toNat=x+1 by omega,show((y:Int)+1).toNat=y+1 by omega]
  exact at_mem (C2 _ _ _) sL
 have Rg:=(kM X (x:=x+1) (y:=y+1) ab ab).1
 rw[if_neg ab]at Rg
 unfold mY at Rg
 unfold oV Nj
 rw[y5,if_neg ab,Rg,if_neg ab]
 obtain⟨k,hk⟩:∃k:Nat,rG S ws ss tb (x+1) (y+1)=(k:Int):=⟨(rG S ws ss tb (x+1) (y+1)).toNat,ab⟩
 rw[hk]at hg ⊢
 have e:(jl (gH S m n ws ss tb).aq ((k:Int)+1-1)).dP=gr 113 k:=by
  rw[Int.add_sub_cancel]
  have:jl (gH S m n ws ss tb).aq (k:Int)=(oZ S m n).getD k ⟨⟨#[]⟩,0⟩:=by unfold jl;rw[Int.toNat_natCast];rfl
  rw[this]
  exact QG S hS m hm n hn k ab
 rw[e]
 exact Tt k ab
end
def yu (k:Nat):List gj:=(List.range k).map fun k=>⟨gr 113 k,1⟩
def nV (S a b:Nat):List gj:=yu S++([⟨gr 119 0,2⟩,⟨gr 101 0,2⟩]++(((List.range a).map fun k=>⟨gr 119 (k+1),2⟩)++((List.range b).map fun k=>⟨gr 101 (k+1),2⟩)))
theorem Oy (S m n:Nat):nV S (m-1) (n-1)=oZ S m n:=rfl
def pj (L:List gj):List NE:=⟨⟨#[45]⟩,0⟩::L.zipIdx.map fun(x:gj×Nat)=>⟨x.1.dP,(x.2:Int)+1⟩
theorem FP (L:List gj) (g:gj):pj (L++[g])=pj L++[⟨g.dP,(L.length:Int)+1⟩]:=by
 unfold pj
 rw[List.zipIdx_append]
 simp
theorem Vr (k:Nat):yu (k+1)=yu k++[⟨gr 113 k,1⟩]:=by simp[yu,List.range_succ]
theorem A5 (k:Nat):(yu k).length=k:=by simp[yu]
theorem VB (S:Nat):nV S 0 0=yu S++[⟨gr 119 0,2⟩]++[⟨gr 101 0,2⟩]:=by simp[nV]
theorem VD (S a:Nat):nV S (a+1) 0=nV S a 0++[⟨gr 119 (a+1),2⟩]:=by simp[nV,List.range_succ]
theorem VE (S a b:Nat):nV S a (b+1)=nV S a b++[⟨gr 101 (b+1),2⟩]:=by simp[nV,List.range_succ]
theorem Gw (S a b:Nat):(nV S a b).length=S+2+a+b:=by simp[nV,yu];omega
def CT (E:List NE) (nm:ByteArray):Bool:= !decide (CN E nm<E.length)
theorem rM {E:List NE} {nm:ByteArray} (h:CT E nm=true):¬CN E nm<E.length:=by
 unfold CT at h
 simpa using h
theorem Vq:∀k,k<5->CT (pj (yu k)) (gr 113 k)=true:=by decide+kernel
theorem L6:∀S,S<5->CT (pj (yu S)) (gr 119 0)=true/\CT (pj (yu S++[⟨gr 119 0,2⟩])) (gr 101 0)=true:=by decide+kernel
theorem VU:∀S,S<5->∀a,a<5->CT (pj (nV S a 0)) (gr 119 (a+1))=true:=by decide+kernel
theorem Tq:∀S,S<5->∀a,a<5->∀b,b<5->CT (pj (nV S a b)) (gr 101 (b+1))=true:=by decide+kernel
theorem KL:∀S,S<5->∀a,a<5->∀b,b<5->∀k,k<S->tW (pj (nV S a b)) (gr 113 k)=(k:Int)+1:=by decide+kernel
theorem RB:∀S,S<5->∀a,a<5->∀b,b<5->∀k,k<a+1->tW (pj (nV S a b)) (gr 119 k)=wG S k:=by decide+kernel
theorem RA:∀S,S<5->∀a,a<5->∀b,b<5->∀k,k<b+1->tW (pj (nV S a b)) (gr 101 k)=eG S (a+1) k:=by decide+kernel
theorem Rz:∀S,S<5->∀a,a<5->∀b,b<5->tW (pj (nV S a b)) ⟨#[45]⟩=0:=by decide+kernel
end Go.Proofs.YtalkncaokeaifaaGreatDoor.V

namespace Go.Proofs.YtalkncaokeaifaaGreatDoor.V
open Go.RowKit
attribute [local irreducible] dH wpOps eB Call
attribute [local go_sem] ax eo dS ez ev cZ upd bD K.av bR AV.cells AV.cell rowOf rowsOf part ld rowAt eL bz bx cW dj eO bf cC dw er ea cR dq cw cu da db bp aI bZ bj ck cj dn dr dp bW br cz dm bh ar cq bH eM aT bL bq aH cU aQ cX AV.undef aW bd de di cY c6 bJ dv dy bE du dt cm cr List.getD_cons_zero List.getD_cons_succ List.getD_nil List.all_cons List.all_nil Bool.and_true Bool.true_and Bool.and_self Bool.not_true Bool.not_false Option.map_some Option.map_none Option.bind_some Option.bind_none List.length_cons List.length_nil List.take_succ_cons List.take_zero List.take_nil List.drop_succ_cons List.drop_zero List.drop_nil List.head?_cons List.map_cons List.map_nil List.getElem?_cons_zero List.getElem?_cons_succ List.cons_append List.nil_append List.append_nil List.length_map List.set_cons_zero List.set_cons_succ Nat.reduceMul eq_self Int.toNat_natCast Int.natCast_nonneg and_self true_and and_true decide_true decide_false Bool.false_eq_true Nat.zero_add Nat.add_zero List.contains_cons List.contains_nil Bool.or_false Bool.false_or beq_self_eq_true Nat.reduceBEq ne_eq not_true_eq_false not_false_eq_true Id.mk.injEq false_and and_false Nat.reduceLT Int.reduceLE Int.reduceLT Int.reduceToNat Int.reduceNeg Int.reduceAdd Nat.le_refl List.length_append beq_true beq_false Bool.not_eq_eq_eq_not or_false false_or dX ad ae aP aJ bt bI aD aS aA aL bU aZ
section
set_option maxRecDepth 100000
set_option maxHeartbeats 8000000
theorem Js (v lim:Int) (hl: -1000000<=lim/\lim<=1000000):az Tryz.prog 81 [.int .i64 v,.fe [.int .i64 lim]] (.bool (!ir v 0 (lim-1))):=by
 refine az.body fC rfl fun fb n0=>?_
 clear fb
 have hw:IntKind.i64.wrap (lim-1)=lim-1:=cH ab
 have h1:=fR v 0 (lim-1)
 (repeat(first|((repeat(revert hN;revert N;apply Pn.out));refine wk @hw ?_;(repeat(refine Pn.mk ?_;intro N hN)))|((try apply Or.inl);refine⟨_,az.x (h1) (sd @hw),?_⟩;refine hN _ _ ?_;clear hN N)))
 exact dQ (b:= !ir v 0 (lim-1)) (.inl rfl) (sd @Nat.zero_add) rfl
theorem Ju (l:List Int) (lim:Int) (Kg: -1000000<=lim/\lim<=1000000) (h:∀v∈l,ir v 0 (lim-1)=true) (hl:l.length<=1048576):az Tryz.prog 86 [.sl (l.map ah),.fn 81 [.fe [.int .i64 lim]]] (.int .i64 (-1)):=by
 refine az.body fC rfl fun fb n0=>?_
 clear fb
 have fJ:(l.map ah).length=l.length:=by simp
 (try((repeat(revert hN;revert N;apply Pn.out));refine wk @fJ ?_;(repeat(refine Pn.mk ?_;intro N hN))))
 refine dc (fun n env st=>∃k:Nat,n=(l.length)-k/\k<=(l.length)/\env 8=.int .i64 (k:Int)) (l.length) ⟨0,ab,ab,sl @fJ⟩ ?_
 rintro n_a env_a st_a ⟨k,rfl,ale,a8⟩ eR
 have a0:=eR 0 (by kernel_rfl);have a1:=eR 1 (by kernel_rfl);have a7:=eR 7 (by kernel_rfl)
 simp only[go_sem, ↓reduceIte,Nat.reduceEqDiff,Nat.reduceAdd,Nat.reduceSub,Nat.reduceLeDiff,reduceCtorEq,fJ]at a0 a1 a7
 clear eR
 by_cases hk:(k:Int)<(l.length:Int)
 ·have eF:∀{e:Env},(e 8=.int .i64 (IntKind.i64.wrap ((k:Int)+1)))->∃m0,m0<(l.length)-k/\∃k:Nat,m0=(l.length)-k/\k<=(l.length)/\e 8=.int .i64 (k:Int):=fun x1=>⟨_,ab,k+1,rfl,ab,(by rw[x1,cE ab])⟩
  have jv:k<l.length:=ab
  have je:(l.map ah)[k]? =some [.int .i64 (l.getD k 0)]:=getD_map (d:=0) ah jv
  have im:=h (l.getD k 0) (by rw[List.getD_eq_getElem?_getD,List.getElem?_eq_getElem jv];exact List.getElem_mem jv)
  have h1:=Js (l.getD k 0) lim Kg
  rw[im]at h1
  (repeat(first|((repeat(revert hN;revert N;apply Pn.out));refine wk (tw @a8 (tw @a0 (tw @a1 (tw @a7 (tw @hk (tw @je @fJ)))))) ?_;(repeat(refine Pn.mk ?_;intro N hN)))|((try apply Or.inl);refine⟨_,az.x (h1) (sd (tw @a8 (tw @a0 (tw @a1 (tw @a7 (tw @hk (tw @je @fJ))))))),?_⟩;refine hN _ _ ?_;clear hN N)))
  exact eF (sd (tw @a8 (tw @a0 (tw @a1 @a7))))
 ·(try((repeat(revert hN;revert N;apply Pn.out));refine wk (tw @a8 (tw @a0 (tw @a1 (tw @a7 (tw @hk @fJ))))) ?_;(repeat(refine Pn.mk ?_;intro N hN))))
  exact e7 (b:=-1) (.inl rfl) (sd @Nat.zero_add) rfl
theorem Jt (l:List Int) (lim:Int) (Kg: -1000000<=lim/\lim<=1000000) (h:∀v∈l,ir v 0 (lim-1)=true) (hl:l.length<=1048576):az Tryz.prog 67 [.sl (l.map ah),.fn 81 [.fe [.int .i64 lim]]] (.bool false):=by
 refine az.body fC rfl fun fb n0=>?_
 clear fb
 have h1:=Ju l lim Kg h hl
 have hm:¬(0:Int)<=-1:=by decide
 (repeat(first|((repeat(revert hN;revert N;apply Pn.out));refine wk @hm ?_;(repeat(refine Pn.mk ?_;intro N hN)))|((try apply Or.inl);refine⟨_,az.x (h1) (sd @hm),?_⟩;refine hN _ _ ?_;clear hN N)))
 exact dQ (b:=false) (.inl rfl) (sd @hm) rfl
theorem Ad (l:List Int) (lim:Int) (Kg: -1000000<=lim/\lim<=1000000) (h:∀v∈l,ir v 0 (lim-1)=true) (hl:l.length<=1048576):az Tryz.prog 60 [.sl (l.map ah),.int .i64 lim] (.bool true):=by
 refine az.body fC rfl fun fb n0=>?_
 clear fb
 have h1:=Jt l lim Kg h hl
 (repeat(first|((repeat(revert hN;revert N;apply Pn.out));refine wk @Nat.zero_add ?_;(repeat(refine Pn.mk ?_;intro N hN)))|((try apply Or.inl);refine⟨_,az.x (h1) (sd @Nat.zero_add),?_⟩;refine hN _ _ ?_;clear hN N)))
 exact dQ (b:=true) (.inl rfl) (sd @Nat.zero_add) rfl
theorem Iw.b {S:Nat} {l:List Int} {k:Nat} (h:Iw S l k):∀v∈l,ir v 0 ((S:Int)-1)=true:=fun v hv=>jm (h.2 v hv).1 (by have:=(h.2 v hv).2;omega)
theorem BA (S:Nat) (tb:List Int) (s1:1<=S) (hS:S<5) (h:Iw S tb (S*S)):az Tryz.prog 53 [.agg [.int .i64 (S:Int),.sl (tb.map ah)]] (.bool true):=by
 refine az.body fC rfl fun fb n0=>?_
 clear fb
 have XP:S*S<=4*4:=Nat.mul_le_mul ab ab
 have i1:=fR (S:Int) 1 5
 rw[jm (show(1:Int)<=S by omega) (show(S:Int)<=5 by omega)]at i1
 have i2:=Ad tb (S:Int) ab h.b (by rw[h.1];omega)
 have fJ:(tb.map ah).length=S*S:=by rw[List.length_map,h.1]
 have e1:IntKind.i64.wrap ((S:Int)*(S:Int))=((S*S:Nat):Int):=by rw[show(S:Int)*(S:Int)=((S*S:Nat):Int) by simp];exact cH ab
 have hd:∀x:Int,decide (x=x)=true:=fun x=>decide_eq_true rfl
 (repeat(first|((repeat(revert hN;revert N;apply Pn.out));refine wk (tw @fJ (tw @e1 @hd)) ?_;(repeat(refine Pn.mk ?_;intro N hN)))|((try apply Or.inl);refine⟨_,az.x (i1) (sd (tw @fJ (tw @e1 @hd))),?_⟩;refine hN _ _ ?_;clear hN N)|((try apply Or.inl);refine⟨_,az.x (i2) (sd (tw @fJ (tw @e1 @hd))),?_⟩;refine hN _ _ ?_;clear hN N)))
 exact dQ (b:=true) (.inl rfl) (sd @Nat.zero_add) rfl
theorem C9 (S:Nat) (tb l:List Int) (m:Nat) (hS:S<5) (m1:1<=m) (hm:m<6) (h:Iw S l m):az Tryz.prog 56 [.agg [.int .i64 (S:Int),.sl (tb.map ah)],.sl (l.map ah)] (.bool true):=by
 refine az.body fC rfl fun fb n0=>?_
 clear fb
 have i1:=fR (m:Int) 1 15
 rw[jm (show(1:Int)<=m by omega) (show(m:Int)<=15 by omega)]at i1
 have i2:=Ad l (S:Int) ab h.b (by rw[h.1];omega)
 have fJ:(l.map ah).length=m:=by rw[List.length_map,h.1]
 (repeat(first|((repeat(revert hN;revert N;apply Pn.out));refine wk @fJ ?_;(repeat(refine Pn.mk ?_;intro N hN)))|((try apply Or.inl);refine⟨_,az.x (i1) (sd @fJ),?_⟩;refine hN _ _ ?_;clear hN N)|((try apply Or.inl);refine⟨_,az.x (i2) (sd @fJ),?_⟩;refine hN _ _ ?_;clear hN N)))
 exact dQ (b:=true) (.inl rfl) (sd @Nat.zero_add) rfl
theorem Db {S m n:Nat} {ws ss tb:List Int} (X:GO S m n ws ss tb) (hS:S<5) (hm:m<6) (hn:n<6):az Tryz.prog 32 [.agg [.int .i64 (S:Int),.sl (tb.map ah)],.sl (ws.map ah),.sl (ss.map ah)] (.int .i64 0):=by
 refine az.body fC rfl fun fb n0=>?_
 clear fb
 have i1:=BA S tb X.s1 hS X.tb
 have i2:=C9 S tb ws m hS X.m1 hm X.ws
 have i3:=C9 S tb ss n hS X.n1 hn X.ss
 (repeat(first|((repeat(revert hN;revert N;apply Pn.out));refine wk @Nat.zero_add ?_;(repeat(refine Pn.mk ?_;intro N hN)))|((try apply Or.inl);refine⟨_,az.x (i1) (sd @Nat.zero_add),?_⟩;refine hN _ _ ?_;clear hN N)|((try apply Or.inl);refine⟨_,az.x (i2) (sd @Nat.zero_add),?_⟩;refine hN _ _ ?_;clear hN N)|((try apply Or.inl);refine⟨_,az.x (i3) (sd @Nat.zero_add),?_⟩;refine hN _ _ ?_;clear hN N)))
 exact e7 (b:=0) (.inl rfl) (sd @Nat.zero_add) rfl
theorem xq (S:Nat) (tb:List Int) (hS:S<5) (h:Iw S tb (S*S)) (a b:Nat) (ha:a<S) (hb:b<S):az Tryz.prog 40 [.agg [.int .i64 (S:Int),.sl (tb.map ah)],.int .i64 (a:Int),.int .i64 (b:Int)] (.int .i64 (tb.getD (a*S+b) 0)):=by
 refine az.body fC rfl fun fb n0=>?_
 clear fb
 have hj:a*S+b<S*S:=by
  have:=Nat.mul_le_mul_right S (show a+1<=S by omega)
  rw[Nat.add_mul,Nat.one_mul]at this
  omega
 have XP:S*S<=4*4:=Nat.mul_le_mul ab ab
 have fJ:(tb.map ah).length=S*S:=by rw[List.length_map,h.1]
 have hg:(tb.map ah)[a*S+b]? =some [.int .i64 (tb.getD (a*S+b) 0)]:=getD_map (d:=0) ah (by rw[h.1];exact hj)
 have e0:(a:Int)*(S:Int)=((a*S:Nat):Int):=by simp
 have e1:IntKind.i64.wrap ((a:Int)*(S:Int))=((a*S:Nat):Int):=by rw[e0];exact cH ab
 have e2:IntKind.i64.wrap (((a*S:Nat):Int)+(b:Int))=((a*S+b:Nat):Int):=by rw[show((a*S:Nat):Int)+(b:Int)=((a*S+b:Nat):Int) by omega];exact cH ab
 have eJ:((a*S+b:Nat):Int)<((S*S:Nat):Int):=ab
 have tN:(0:Int)<=((a*S+b:Nat):Int):=ab
 have hn:((a*S+b:Nat):Int).toNat=a*S+b:=Int.toNat_natCast _
 generalize a*S+b=j at *
 (try((repeat(revert hN;revert N;apply Pn.out));refine wk (tw @fJ (tw @e1 (tw @e2 (tw @hg (tw @eJ (tw @tN @hn)))))) ?_;(repeat(refine Pn.mk ?_;intro N hN))))
 exact e7 (b:=tb.getD j 0) (.inl rfl) (sd @Nat.zero_add) rfl
theorem Dh (b:Bool) (nm:ByteArray):az Tryz.prog 65 [.bool b,.str nm] (.str (if b then⟨#[45]⟩else nm)):=by
 refine az.body fC rfl fun fb n0=>?_
 clear fb
 cases b
 ·(try((repeat(revert hN;revert N;apply Pn.out));refine wk @Nat.zero_add ?_;(repeat(refine Pn.mk ?_;intro N hN))))
  exact xl (.inl rfl) (r0:=.str nm) (sd @Nat.zero_add) (jk _ _ _)
 ·(try((repeat(revert hN;revert N;apply Pn.out));refine wk @Nat.zero_add ?_;(repeat(refine Pn.mk ?_;intro N hN))))
  exact xl (.inl rfl) (r0:=.str ⟨#[45]⟩) (sd @Nat.zero_add) (jk _ _ _)
def Jb (fs z:Nat) (ord:ByteArray->ByteArray->ByteArray->List ByteArray):Prop:=∀(a b d:ByteArray) (σ:au),Call Tryz.prog fs [.str a,.str b,.str d] σ fun r σ'=>∃u:Id,r=.own u 0 4/\σ'.get u=some ⟨true,1,(ord a b d).map Nb⟩/\(ord a b d).length=4/\u.site=z/\σ.next<=u.cV/\u.cV<σ'.next/\σ.next<=σ'.next/\∀x:Id,x.cV<σ.next->σ'.get x=σ.get x
theorem R6:Jb 38 38001003 (fun a b d=>[a,b,d,⟨#[45]⟩]):=fun a b d σ=>by
 refine eX fC rfl fun fb=>?_
 clear fb
 (try((repeat(revert hN;revert N;apply Pn.out));refine wk @Nat.zero_add ?_;(repeat(refine Pn.mk ?_;intro N hN))))
 exact eK (.inl rfl) (vs:=[.own ⟨38001003,σ.next+1⟩ 0 4]) (sd @Nat.zero_add) ⟨⟨38001003,σ.next+1⟩,rfl,sl @Nat.zero_add,rfl,rfl,cD,cD,cD,fun x hx=>by
  have h9:=dF hx
  simp only[go_sem, ↓reduceIte,Nat.reduceEqDiff,Nat.reduceAdd,Nat.reduceSub,Nat.reduceLeDiff,reduceCtorEq,h9]⟩
theorem R4:Jb 39 39001003 (fun a b d=>[b,a,⟨#[45]⟩,d]):=fun a b d σ=>by
 refine eX fC rfl fun fb=>?_
 clear fb
 (try((repeat(revert hN;revert N;apply Pn.out));refine wk @Nat.zero_add ?_;(repeat(refine Pn.mk ?_;intro N hN))))
 exact eK (.inl rfl) (vs:=[.own ⟨39001003,σ.next+1⟩ 0 4]) (sd @Nat.zero_add) ⟨⟨39001003,σ.next+1⟩,rfl,sl @Nat.zero_add,rfl,rfl,cD,cD,cD,fun x hx=>by
  have h9:=dF hx
  simp only[go_sem, ↓reduceIte,Nat.reduceEqDiff,Nat.reduceAdd,Nat.reduceSub,Nat.reduceLeDiff,reduceCtorEq,h9]⟩
end
section
set_option maxRecDepth 100000
set_option maxHeartbeats 16000000
theorem FK {n0:Nat} {σ:au} {B M:Id} (Co:n0<=σ.next) (c:UInt8) (fs z:Nat) (ord:ByteArray->ByteArray->ByteArray->List ByteArray) (hs:Jb fs z ord) (hz:(z==36007008)=false) (S:Nat) (hS10:S<10) (xs:List Int) (m:Nat) (hm:m<10) (ed:Iw S xs m) (Ls:Nat->List gj) (Ts:Nat->List fj) (h:uB n0 σ.get σ.next B M (pj (Ls 0)) (Ls 0) (Ts 0))
  (hg:∀k,k+1<m->Ls (k+1)=Ls k++[⟨gr c (k+1),2⟩]/\CT (pj (Ls k)) (gr c (k+1))=true) (tO:∀k,k+1=m->Ls (k+1)=Ls k) (ht:∀k,k<m->Ts (k+1)=Ts k++[⟨gr c k,(ord (if k+1<m then gr c (k+1)else⟨#[45]⟩) (gr 113 (xs.getD k 0).toNat) (gr c k)).map (tW (pj (Ls (k+1))))⟩]) (hL:∀k,k<=m->(Ls k).length<=1000) (hT:∀k,k<=m->(Ts k).length<=1000):
  Call Tryz.prog 37 [.ptr B 0 0,.str ⟨#[c]⟩,.sl (xs.map ah),.fn fs []] σ (fun r σ'=>r=.fN []/\uB n0 σ'.get σ'.next B M (pj (Ls m)) (Ls m) (Ts m)/\σ.next<=σ'.next/\∀x:Id,x.cV<n0->σ'.get x=σ.get x):=by
 refine eX fC rfl fun fb=>?_
 clear fb
 have fJ:(xs.map ah).length=m:=by rw[List.length_map,ed.1]
 (try((repeat(revert hN;revert N;apply Pn.out));refine wk @fJ ?_;(repeat(refine Pn.mk ?_;intro N hN))))
 refine dc (fun n env st=>∃k:Nat,n=(m)-k/\k<=(m)/\env 14=.int .i64 (k:Int)/\(uB n0 st.get st.next B M (pj (Ls k)) (Ls k) (Ts k)/\σ.next<=st.next/\(∀x:Id,x.cV<n0->st.get x=σ.get x))) (m) ⟨0,ab,ab,sl @fJ,by(try dsimp only);exact⟨h.frame cD fun i hi=>(by try rfl),ab,fun x hx=>rfl⟩⟩ ?_
 rintro n_a env_a st_a ⟨k,rfl,ale,kZ,qM⟩ eR
 have a0:=eR 0 (by kernel_rfl);have a1:=eR 1 (by kernel_rfl);have a2:=eR 2 (by kernel_rfl);have a3:=eR 3 (by kernel_rfl);have a12:=eR 12 (by kernel_rfl);have nQ:=eR 13 (by kernel_rfl)
 simp only[go_sem, ↓reduceIte,Nat.reduceEqDiff,Nat.reduceAdd,Nat.reduceSub,Nat.reduceLeDiff,reduceCtorEq,fJ]at a0 a1 a2 a3 a12 nQ
 clear eR
 obtain⟨aK,aN,aF⟩:=qM
 by_cases hk:(k:Int)<(m:Int)
 ·have eF:∀{e:Env} {gg:Rows} {nx:Nat},(e 14=.int .i64 (IntKind.i64.wrap ((k:Int)+1)))->(uB n0 gg nx B M (pj (Ls (k+1))) (Ls (k+1)) (Ts (k+1))/\σ.next<=nx/\(∀x:Id,x.cV<n0->gg x=σ.get x))->∃m0,m0<(m)-k/\∃k:Nat,m0=(m)-k/\k<=(m)/\e 14=.int .i64 (k:Int)/\(uB n0 gg nx B M (pj (Ls k)) (Ls k) (Ts k)/\σ.next<=nx/\(∀x:Id,x.cV<n0->gg x=σ.get x)):=fun x1 x2=>⟨_,ab,k+1,rfl,ab,(by rw[x1,cE ab]),x2⟩
  have jv:k<m:=ab
  have je:(xs.map ah)[k]? =some [.int .i64 (xs.getD k 0)]:=getD_map (d:=0) ah (by rw[ed.1];exact jv)
  obtain⟨v,hv⟩:∃v:Nat,xs.getD k 0=(v:Int):=⟨(xs.getD k 0).toNat,by have:=ed.at jv;omega⟩
  have hvS:v<S:=by have:=(ed.at jv).2;omega
  have YL:(xs.getD k 0).toNat=v:=by rw[hv];exact Int.toNat_natCast _
  rw[hv]at je
  have uq:IntKind.i64.wrap ((m:Int)-1)=(m:Int)-1:=cH ab
  have nA:IntKind.i64.wrap ((k:Int)+1)=(k:Int)+1:=cH ab
  have nb0:=iT c k ab
  have WU:=iT c (k+1) ab
  rw[show((k+1:Nat):Int)=(k:Int)+1 from rfl]at WU
  have nbq:=iT 113 v ab
  by_cases oI:k+1<m
  ·have IH:decide ((k:Int)=(m:Int)-1)=false:=decide_eq_false ab
   (repeat(first|((repeat(revert hN;revert N;apply Pn.out));refine wk (tw @kZ (tw @a0 (tw @a1 (tw @a2 (tw @a3 (tw @a12 (tw @nQ (tw @hk (tw @je (tw @fJ (tw @uq (tw @IH @nA)))))))))))) ?_;(repeat(refine Pn.mk ?_;intro N hN)))|((try apply Or.inl);refine⟨_,az.x (WU) (sd (tw @kZ (tw @a0 (tw @a1 (tw @a2 (tw @a3 (tw @a12 (tw @nQ (tw @hk (tw @je (tw @fJ (tw @uq (tw @IH @nA))))))))))))),?_⟩;refine hN _ _ ?_;clear hN N)))
   refine .inr (bc _ _ _ _ _ (fun r σ2 hq=>?_) (uN (σ:=⟨_,_⟩) (aK.frame cD fun i hi=>(by try rfl)) (gr c (k+1)) 2 (hL k ale) (rM (hg k oI).2)))
   obtain⟨rfl,nL,Cp,qk⟩:=hq
   obtain⟨g2,x2⟩:=σ2
   (try dsimp only at nL Cp qk)
   refine hN _ _ ?_
   clear hN N
   rw[<-FP (Ls k) ⟨gr c (k+1),2⟩,<-(hg k oI).1]at nL
   have UU:=Dh false (gr c (k+1))
   (repeat(first|((repeat(revert hN;revert N;apply Pn.out));refine wk (tw @kZ (tw @a0 (tw @a1 (tw @a2 (tw @a3 (tw @a12 (tw @nQ (tw @hk (tw @je (tw @fJ @nA)))))))))) ?_;(repeat(refine Pn.mk ?_;intro N hN)))|((try apply Or.inl);refine⟨_,az.x (nb0) (sd (tw @kZ (tw @a0 (tw @a1 (tw @a2 (tw @a3 (tw @a12 (tw @nQ (tw @hk (tw @je (tw @fJ @nA))))))))))),?_⟩;refine hN _ _ ?_;clear hN N)|((try apply Or.inl);refine⟨_,az.x (WU) (sd (tw @kZ (tw @a0 (tw @a1 (tw @a2 (tw @a3 (tw @a12 (tw @nQ (tw @hk (tw @je (tw @fJ @nA))))))))))),?_⟩;refine hN _ _ ?_;clear hN N)|((try apply Or.inl);refine⟨_,az.x (UU) (sd (tw @kZ (tw @a0 (tw @a1 (tw @a2 (tw @a3 (tw @a12 (tw @nQ (tw @hk (tw @je (tw @fJ @nA))))))))))),?_⟩;refine hN _ _ ?_;clear hN N)|((try apply Or.inl);refine⟨_,az.x (nbq) (sd (tw @kZ (tw @a0 (tw @a1 (tw @a2 (tw @a3 (tw @a12 (tw @nQ (tw @hk (tw @je (tw @fJ @nA))))))))))),?_⟩;refine hN _ _ ?_;clear hN N)))
   refine .inr (bc _ _ _ _ _ (fun r σ3 hq=>?_) (hs (gr c (k+1)) (gr 113 v) (gr c k) _))
   obtain⟨u,rfl,gu,SJ,us,u0,u1,Ki,Q1⟩:=hq
   obtain⟨g3,x3⟩:=σ3
   (try dsimp only at gu u0 u1 Ki Q1)
   refine hN _ _ ?_
   clear hN N
   (try((repeat(revert hN;revert N;apply Pn.out));refine wk (tw @kZ (tw @a0 (tw @a1 (tw @a2 (tw @a3 (tw @a12 @nQ)))))) ?_;(repeat(refine Pn.mk ?_;intro N hN))))
   refine .inr (bc _ _ _ _ _ (fun r σ4 hq=>?_) (uO (σ:=⟨_,_⟩) (nL.frame cD fun i hi=>Q1 i cD) (gr c k) (by rw[me _ _ ab];omega) (hT k ale) (ord (gr c (k+1)) (gr 113 v) (gr c k)) SJ (u:=u) ⟨true,gu⟩ cD (by rw[us];exact hz)))
   obtain⟨rfl,QS,Ym,Ug⟩:=hq
   obtain⟨g4,x4⟩:=σ4
   (try dsimp only at QS Ym Ug)
   refine hN _ _ ?_
   clear hN N
   have TY:=ht k jv
   rw[if_pos oI,YL]at TY
   rw[<-TY]at QS
   (try((repeat(revert hN;revert N;apply Pn.out));refine wk (tw @kZ (tw @a0 (tw @a1 (tw @a2 (tw @a3 (tw @a12 @nQ)))))) ?_;(repeat(refine Pn.mk ?_;intro N hN))))
   exact eF (sd (tw @kZ (tw @a0 (tw @a1 (tw @a2 (tw @a3 (tw @a12 @nQ))))))) (by(try dsimp only);exact⟨QS.frame cD fun i hi=>(by try rfl),ab,fun x hx=>by
    have h1:=Ug x hx
    have h2:=Q1 x cD
    have h3:=(qk x hx).trans (aF x hx)
    (try dsimp only at h1 h2 h3)
    exact h1.trans (h2.trans h3)⟩)
  ·have oI:k+1=m:=ab
   have IH:decide ((k:Int)=(m:Int)-1)=true:=decide_eq_true ab
   have nL:uB n0 st_a.get st_a.next B M (pj (Ls (k+1))) (Ls (k+1)) (Ts k):=by rw[tO k oI];exact aK
   have UU:=Dh true (gr c (k+1))
   (repeat(first|((repeat(revert hN;revert N;apply Pn.out));refine wk (tw @kZ (tw @a0 (tw @a1 (tw @a2 (tw @a3 (tw @a12 (tw @nQ (tw @hk (tw @je (tw @fJ (tw @uq (tw @IH @nA)))))))))))) ?_;(repeat(refine Pn.mk ?_;intro N hN)))|((try apply Or.inl);refine⟨_,az.x (nb0) (sd (tw @kZ (tw @a0 (tw @a1 (tw @a2 (tw @a3 (tw @a12 (tw @nQ (tw @hk (tw @je (tw @fJ (tw @uq (tw @IH @nA))))))))))))),?_⟩;refine hN _ _ ?_;clear hN N)|((try apply Or.inl);refine⟨_,az.x (WU) (sd (tw @kZ (tw @a0 (tw @a1 (tw @a2 (tw @a3 (tw @a12 (tw @nQ (tw @hk (tw @je (tw @fJ (tw @uq (tw @IH @nA))))))))))))),?_⟩;refine hN _ _ ?_;clear hN N)|((try apply Or.inl);refine⟨_,az.x (UU) (sd (tw @kZ (tw @a0 (tw @a1 (tw @a2 (tw @a3 (tw @a12 (tw @nQ (tw @hk (tw @je (tw @fJ (tw @uq (tw @IH @nA))))))))))))),?_⟩;refine hN _ _ ?_;clear hN N)|((try apply Or.inl);refine⟨_,az.x (nbq) (sd (tw @kZ (tw @a0 (tw @a1 (tw @a2 (tw @a3 (tw @a12 (tw @nQ (tw @hk (tw @je (tw @fJ (tw @uq (tw @IH @nA))))))))))))),?_⟩;refine hN _ _ ?_;clear hN N)))
   refine .inr (bc _ _ _ _ _ (fun r σ3 hq=>?_) (hs ⟨#[45]⟩ (gr 113 v) (gr c k) _))
   obtain⟨u,rfl,gu,SJ,us,u0,u1,Ki,Q1⟩:=hq
   obtain⟨g3,x3⟩:=σ3
   (try dsimp only at gu u0 u1 Ki Q1)
   refine hN _ _ ?_
   clear hN N
   (try((repeat(revert hN;revert N;apply Pn.out));refine wk (tw @kZ (tw @a0 (tw @a1 (tw @a2 (tw @a3 (tw @a12 @nQ)))))) ?_;(repeat(refine Pn.mk ?_;intro N hN))))
   refine .inr (bc _ _ _ _ _ (fun r σ4 hq=>?_) (uO (σ:=⟨_,_⟩) (nL.frame cD fun i hi=>Q1 i cD) (gr c k) (by rw[me _ _ ab];omega) (hT k ale) (ord (⟨#[45]⟩) (gr 113 v) (gr c k)) SJ (u:=u) ⟨true,gu⟩ cD (by rw[us];exact hz)))
   obtain⟨rfl,QS,Ym,Ug⟩:=hq
   obtain⟨g4,x4⟩:=σ4
   (try dsimp only at QS Ym Ug)
   refine hN _ _ ?_
   clear hN N
   have TY:=ht k jv
   rw[if_neg ab,YL]at TY
   rw[<-TY]at QS
   (try((repeat(revert hN;revert N;apply Pn.out));refine wk (tw @kZ (tw @a0 (tw @a1 (tw @a2 (tw @a3 (tw @a12 @nQ)))))) ?_;(repeat(refine Pn.mk ?_;intro N hN))))
   exact eF (sd (tw @kZ (tw @a0 (tw @a1 (tw @a2 (tw @a3 (tw @a12 @nQ))))))) (by(try dsimp only);exact⟨QS.frame cD fun i hi=>(by try rfl),ab,fun x hx=>by
    have h1:=Ug x hx
    have h2:=Q1 x cD
    have h3:=aF x hx
    (try dsimp only at h1 h2 h3)
    exact h1.trans (h2.trans h3)⟩)
 ·have WA:k=m:=ab
  subst WA
  (try((repeat(revert hN;revert N;apply Pn.out));refine wk (tw @kZ (tw @a0 (tw @a1 (tw @a2 (tw @a3 (tw @a12 (tw @nQ (tw @hk @fJ)))))))) ?_;(repeat(refine Pn.mk ?_;intro N hN))))
  exact eK (.inr rfl) (vs:=[]) rfl ⟨rfl,aK.frame cD fun i hi=>(by try rfl),cD,fun x hx=>aF x hx⟩
end
theorem Zc:gr 119 0=⟨#[119,48]⟩:=by decide+kernel
theorem Xr:gr 101 0=⟨#[101,48]⟩:=by decide+kernel
theorem Ol (a b:Nat) (ha:a<10) (hb:b<10):(gr 113 a++gr 113 b).size=4:=by rw[tz,me _ _ ha,me _ _ hb]
section
variable {S m l:Nat} {ws ss tb:List Int} (X:GO S m l ws ss tb) (hS:S<5) (hm:m<6) (hn:l<6)
include X hS hm hn
omit hn in
theorem VI {k:Nat} (hk:k<m):iW S m l ws ss tb (1+(k+1))=iW S m l ws ss tb (1+k)++[⟨gr 119 k,((fun a b d=>[a,b,d,(⟨#[45]⟩:ByteArray)]) (if k+1<m then gr 119 (k+1)else⟨#[45]⟩) (gr 113 (ws.getD k 0).toNat) (gr 119 k)).map (tW (pj (nV S (min (k+1) (m-1)) 0)))⟩]:=by
 have hv:=X.ws.at hk
 have q1:=KL S hS (min (k+1) (m-1)) ab 0 ab (ws.getD k 0).toNat ab
 have q2:=RB S hS (min (k+1) (m-1)) ab 0 ab k ab
 have q3:=Rz S hS (min (k+1) (m-1)) ab 0 ab
 have e1:Dx S m l (1+k)=gr 119 k:=by unfold Dx;rw[if_neg ab,if_pos ab,show 1+k-1=k by omega]
 have e2:uw S m l ws ss tb (1+k)=[if k+1<m then wG S (k+1)else 0,ws.getD k 0+1,wG S k,0]:=by
  unfold uw;rw[if_neg ab,if_pos ab,show 1+k-1=k by omega,show 1+k=k+1 by omega]
 rw[<-Nat.add_assoc,Fc,e1,e2]
 simp only[List.map_cons,List.map_nil]
 rw[q1,q2,q3,show(((ws.getD k 0).toNat:Nat):Int)=ws.getD k 0 by omega]
 by_cases h:k+1<m
 ·have q4:=RB S hS (min (k+1) (m-1)) ab 0 ab (k+1) ab
  rw[if_pos h,if_pos h,q4]
 ·rw[if_neg h,if_neg h,q3]
theorem VG {k:Nat} (hk:k<l):iW S m l ws ss tb (1+m+(k+1))=iW S m l ws ss tb (1+m+k)++[⟨gr 101 k,((fun a b d=>[b,a,(⟨#[45]⟩:ByteArray),d]) (if k+1<l then gr 101 (k+1)else⟨#[45]⟩) (gr 113 (ss.getD k 0).toNat) (gr 101 k)).map (tW (pj (nV S (m-1) (min (k+1) (l-1)))))⟩]:=by
 have NA:=X.m1
 have hv:=X.ss.at hk
 have q1:=KL S hS (m-1) ab (min (k+1) (l-1)) ab (ss.getD k 0).toNat ab
 have q2:=RA S hS (m-1) ab (min (k+1) (l-1)) ab k ab
 have q3:=Rz S hS (m-1) ab (min (k+1) (l-1)) ab
 rw[Nat.sub_add_cancel NA]at q2
 have e1:Dx S m l (1+m+k)=gr 101 k:=by unfold Dx;rw[if_neg ab,if_neg ab,if_pos ab,show 1+m+k-1-m=k by omega]
 have e2:uw S m l ws ss tb (1+m+k)=[ss.getD k 0+1,if k+1<l then eG S m (k+1)else 0,0,eG S m k]:=by
  unfold uw;rw[if_neg ab,if_neg ab,if_pos ab,show 1+m+k-1-m=k by omega,show 1+m+k-m=k+1 by omega]
 rw[<-Nat.add_assoc,Fc,e1,e2]
 simp only[List.map_cons,List.map_nil]
 rw[q1,q2,q3,show(((ss.getD k 0).toNat:Nat):Int)=ss.getD k 0 by omega]
 by_cases h:k+1<l
 ·have q4:=RA S hS (m-1) ab (min (k+1) (l-1)) ab (k+1) ab
  rw[Nat.sub_add_cancel NA]at q4
  rw[if_pos h,if_pos h,q4]
 ·rw[if_neg h,if_neg h,q3]
omit hm hn in
theorem VH {a b v:Nat} (hm:m<6) (hn:l<6) (ha:a<S) (hb:b<S) (hv:tb.getD (a*S+b) 0=(v:Int)):iW S m l ws ss tb (1+m+l+(a*S+(b+1)))=iW S m l ws ss tb (1+m+l+(a*S+b))++[⟨gr 113 a++gr 113 b,[gr 113 v,gr 113 v,gr 113 b,gr 113 a].map (tW (pj (nV S (m-1) (l-1))))⟩]:=by
 have NA:=X.m1
 have pn:=X.n1
 have hS0:0<S:=ab
 have hj:a*S+b<S*S:=by
  have:=Nat.mul_le_mul_right S (show a+1<=S by omega)
  rw[Nat.add_mul,Nat.one_mul]at this
  omega
 have hvS:=X.tb.at hj
 rw[hv]at hvS
 have q1:=KL S hS (m-1) ab (l-1) ab v ab
 have q2:=KL S hS (m-1) ab (l-1) ab b ab
 have q3:=KL S hS (m-1) ab (l-1) ab a ab
 have d1:(a*S+b) % S=b:=by rw[Nat.mul_comm,Nat.mul_add_mod,Nat.mod_eq_of_lt hb]
 have d2:(a*S+b) / S=a:=by rw[Nat.mul_comm,Nat.mul_add_div hS0,Nat.div_eq_of_lt hb,Nat.add_zero]
 have e0:1+m+l+(a*S+b)-1-m-l=a*S+b:=ab
 have e1:Dx S m l (1+m+l+(a*S+b))=gr 113 a++gr 113 b:=by unfold Dx;rw[if_neg ab,if_neg ab,if_neg ab,e0,d1,d2]
 have e2:uw S m l ws ss tb (1+m+l+(a*S+b))=[(v:Int)+1,(v:Int)+1,(b:Int)+1,(a:Int)+1]:=by unfold uw;rw[if_neg ab,if_neg ab,if_neg ab,e0,d1,d2,hv]
 rw[show 1+m+l+(a*S+(b+1))=1+m+l+(a*S+b)+1 by omega,Fc,e1,e2]
 simp only[List.map_cons,List.map_nil,q1,q2,q3]
omit X hm hn in
theorem VF:[(⟨rN,[⟨#[119,48]⟩,⟨#[101,48]⟩,⟨#[45]⟩,⟨#[45]⟩].map (tW (pj (nV S 0 0)))⟩:fj)]=iW S m l ws ss tb 1:=by
 have q1:=RB S hS 0 ab 0 ab 0 ab
 have q2:=RA S hS 0 ab 0 ab 0 ab
 have q3:=Rz S hS 0 ab 0 ab
 rw[Zc]at q1
 rw[Xr]at q2
 have e1:Dx S m l 0=rN:=by unfold Dx;rw[if_pos rfl]
 have e2:uw S m l ws ss tb 0=[wG S 0,eG S m 0,0,0]:=by unfold uw;rw[if_pos rfl]
 have e3:eG S (0+1) 0=eG S m 0:=by unfold eG;rw[if_pos rfl,if_pos rfl]
 rw[e3]at q2
 rw[show iW S m l ws ss tb 1=[⟨Dx S m l 0,uw S m l ws ss tb 0⟩]from rfl,e1,e2]
 simp only[List.map_cons,List.map_nil,q1,q2,q3]
theorem zY:az Tryz.prog 12 [.agg [.int .i64 (S:Int),.sl (tb.map ah)],.sl (ws.map ah),.sl (ss.map ah)] (.fN [.agg (eb (gH S m l ws ss tb)),.int .i64 0]):=by
 have NA:=X.m1
 have pn:=X.n1
 have yl:=X.s1
 have XP:S*S<=4*4:=Nat.mul_le_mul ab ab
 have i1:=Db X hS hm hn
 have hd:∀x:Int,decide (x=x)=true:=fun x=>decide_eq_true rfl
 refine az.body fC rfl fun fb n0=>?_
 clear fb
 (repeat(first|((repeat(revert hN;revert N;apply Pn.out));refine wk @hd ?_;(repeat(refine Pn.mk ?_;intro N hN)))|((try apply Or.inl);refine⟨_,az.x (i1) (sd @hd),?_⟩;refine hN _ _ ?_;clear hN N)))
 refine .inr (bc _ _ _ _ _ (fun r σ1 hq=>?_) (EO _))
 obtain⟨B,M,rfl,hK,SN,hf⟩:=hq
 obtain⟨g1,x1⟩:=σ1
 (try dsimp only at hK SN hf)
 refine hN _ _ ?_
 clear hN N
 obtain⟨y0,hy,hK,WS,kc1,SX⟩:∃y0,n0<y0/\uB y0 g1 x1 B M (pj (yu 0)) (yu 0) []/\g1 ⟨12000000,n0⟩=some ⟨true,2,[[.int .i64 (S:Int),.sl (tb.map ah)]]⟩/\g1 ⟨12000001,n0⟩=some ⟨true,4,[[.bP,.bP,.bP,.int .i64 0]]⟩/\y0<=x1:=⟨_,ab,hK,(hf _ cD).trans (sd @Nat.zero_add),(hf _ cD).trans (sd @Nat.zero_add),ab⟩
 clear hf SN
 (try((repeat(revert hN;revert N;apply Pn.out));refine wk @WS ?_;(repeat(refine Pn.mk ?_;intro N hN))))
 refine dc (fun n env st=>∃k:Nat,n=(S)-k/\k<=(S)/\env 26=.int .i64 (k:Int)/\(uB y0 st.get st.next B M (pj (yu k)) (yu k) ([])/\st.get ⟨12000000,n0⟩=some ⟨true,2,[[.int .i64 (S:Int),.sl (tb.map ah)]]⟩/\st.get ⟨12000001,n0⟩=some ⟨true,4,[[.bP,.bP,.bP,.int .i64 0]]⟩/\y0<=st.next)) (S) ⟨0,ab,ab,sl @WS,by(try dsimp only);exact⟨hK.frame cD fun i hi=>(by try rfl),WS,kc1,ab⟩⟩ ?_
 rintro n_a env_a st_a ⟨k,rfl,ale,a26,qM⟩ eR
 have a1:=eR 1 (by kernel_rfl);have a2:=eR 2 (by kernel_rfl);have a3:=eR 3 (by kernel_rfl);have a6:=eR 6 (by kernel_rfl);have a7:=eR 7 (by kernel_rfl);have a9:=eR 9 (by kernel_rfl);have a25:=eR 25 (by kernel_rfl)
 simp only[go_sem, ↓reduceIte,Nat.reduceEqDiff,Nat.reduceAdd,Nat.reduceSub,Nat.reduceLeDiff,reduceCtorEq,WS]at a1 a2 a3 a6 a7 a9 a25
 clear eR
 obtain⟨aK,aB,aC,aY⟩:=qM
 by_cases hk:(k:Int)<(S:Int)
 ·have eF:∀{e:Env} {gg:Rows} {nx:Nat},(e 26=.int .i64 (IntKind.i64.wrap ((k:Int)+1)))->(uB y0 gg nx B M (pj (yu (k+1))) (yu (k+1)) ([])/\gg ⟨12000000,n0⟩=some ⟨true,2,[[.int .i64 (S:Int),.sl (tb.map ah)]]⟩/\gg ⟨12000001,n0⟩=some ⟨true,4,[[.bP,.bP,.bP,.int .i64 0]]⟩/\y0<=nx)->∃m0,m0<(S)-k/\∃k:Nat,m0=(S)-k/\k<=(S)/\e 26=.int .i64 (k:Int)/\(uB y0 gg nx B M (pj (yu k)) (yu k) ([])/\gg ⟨12000000,n0⟩=some ⟨true,2,[[.int .i64 (S:Int),.sl (tb.map ah)]]⟩/\gg ⟨12000001,n0⟩=some ⟨true,4,[[.bP,.bP,.bP,.int .i64 0]]⟩/\y0<=nx):=fun x1 x2=>⟨_,ab,k+1,rfl,ab,(by rw[x1,cE ab]),x2⟩
  have nb:=iT 113 k ab
  (repeat(first|((repeat(revert hN;revert N;apply Pn.out));refine wk (tw @a26 (tw @a1 (tw @a2 (tw @a3 (tw @a6 (tw @a7 (tw @a9 (tw @a25 @hk)))))))) ?_;(repeat(refine Pn.mk ?_;intro N hN)))|((try apply Or.inl);refine⟨_,az.x (nb) (sd (tw @a26 (tw @a1 (tw @a2 (tw @a3 (tw @a6 (tw @a7 (tw @a9 (tw @a25 @hk))))))))),?_⟩;refine hN _ _ ?_;clear hN N)))
  refine .inr (bc _ _ _ _ _ (fun r σ2 hq=>?_) (uN (σ:=⟨_,_⟩) (aK.frame cD fun i hi=>(by try rfl)) (gr 113 k) 1 (by rw[A5];omega) (rM (Vq k ab))))
  obtain⟨rfl,nL,Cp,qk⟩:=hq
  obtain⟨g2,x2⟩:=σ2
  (try dsimp only at nL Cp qk)
  refine hN _ _ ?_
  clear hN N
  have HE:g2 ⟨12000000,n0⟩=some ⟨true,2,[[.int .i64 (S:Int),.sl (tb.map ah)]]⟩:=(qk ⟨12000000,n0⟩ cD).trans (by exact aB)
  have HG:g2 ⟨12000001,n0⟩=some ⟨true,4,[[.bP,.bP,.bP,.int .i64 0]]⟩:=(qk ⟨12000001,n0⟩ cD).trans (by exact aC)
  rw[<-FP (yu k) ⟨gr 113 k,1⟩,<-Vr]at nL
  (try((repeat(revert hN;revert N;apply Pn.out));refine wk (tw @a26 (tw @a1 (tw @a2 (tw @a3 (tw @a6 (tw @a7 (tw @a9 (tw @a25 @hk)))))))) ?_;(repeat(refine Pn.mk ?_;intro N hN))))
  exact eF (sd (tw @a26 (tw @a1 (tw @a2 (tw @a3 (tw @a6 (tw @a7 (tw @a9 @a25)))))))) (by(try dsimp only);exact⟨nL.frame cD fun i hi=>(by try rfl),HE,HG,ab⟩)
 ·have hkS:S=k:=ab
  subst hkS
  (try((repeat(revert hN;revert N;apply Pn.out));refine wk (tw @a26 (tw @a1 (tw @a2 (tw @a3 (tw @a6 (tw @a7 (tw @a9 (tw @a25 @hk)))))))) ?_;(repeat(refine Pn.mk ?_;intro N hN))))
  refine .inr (bc _ _ _ _ _ (fun r σ2 hq=>?_) (uN (σ:=⟨_,_⟩) (aK.frame cD fun i hi=>(by try rfl)) ⟨#[119,48]⟩ 2 (by rw[A5];omega) (by rw[<-Zc];exact rM (L6 S hS).1)))
  obtain⟨rfl,nL,Cp,qk⟩:=hq
  obtain⟨g2,x2⟩:=σ2
  (try dsimp only at nL Cp qk)
  refine hN _ _ ?_
  clear hN N
  have HE:g2 ⟨12000000,n0⟩=some ⟨true,2,[[.int .i64 (S:Int),.sl (tb.map ah)]]⟩:=(qk ⟨12000000,n0⟩ cD).trans (by exact aB)
  have HG:g2 ⟨12000001,n0⟩=some ⟨true,4,[[.bP,.bP,.bP,.int .i64 0]]⟩:=(qk ⟨12000001,n0⟩ cD).trans (by exact aC)
  rw[<-FP (yu S) ⟨⟨#[119,48]⟩,2⟩,<-Zc]at nL
  have TN:=nL
  clear nL qk aK
  have U7:=HE
  have U9:=HG
  clear HE HG
  (try((repeat(revert hN;revert N;apply Pn.out));refine wk (tw @a26 (tw @a1 (tw @a2 (tw @a3 (tw @a6 (tw @a7 (tw @a9 @a25))))))) ?_;(repeat(refine Pn.mk ?_;intro N hN))))
  refine .inr (bc _ _ _ _ _ (fun r σ2 hq=>?_) (uN (σ:=⟨_,_⟩) (TN.frame cD fun i hi=>(by try rfl)) ⟨#[101,48]⟩ 2 (by rw[List.length_append,A5,List.length_singleton];omega) (by rw[<-Xr];exact rM (L6 S hS).2)))
  obtain⟨rfl,nL,Cp,qk⟩:=hq
  obtain⟨g3,x3⟩:=σ2
  (try dsimp only at nL Cp qk)
  refine hN _ _ ?_
  clear hN N
  have HE:g3 ⟨12000000,n0⟩=some ⟨true,2,[[.int .i64 (S:Int),.sl (tb.map ah)]]⟩:=(qk ⟨12000000,n0⟩ cD).trans (by exact U7)
  have HG:g3 ⟨12000001,n0⟩=some ⟨true,4,[[.bP,.bP,.bP,.int .i64 0]]⟩:=(qk ⟨12000001,n0⟩ cD).trans (by exact U9)
  rw[<-FP _ ⟨⟨#[101,48]⟩,2⟩,<-Xr,<-VB]at nL
  clear TN qk U7 U9
  have TN:=nL
  have U7:=HE
  have U9:=HG
  have hx3:=Cp
  clear nL HE HG
  (try((repeat(revert hN;revert N;apply Pn.out));refine wk (tw @a26 (tw @a1 (tw @a2 (tw @a3 (tw @a6 (tw @a7 (tw @a9 @a25))))))) ?_;(repeat(refine Pn.mk ?_;intro N hN))))
  refine .inr (bc _ _ _ _ _ (fun r σ2 hq=>?_) (uO (σ:=⟨_,_⟩) (TN.frame cD fun i hi=>(by have h9:=dF hi;simp only[go_sem, ↓reduceIte,Nat.reduceEqDiff,Nat.reduceAdd,Nat.reduceSub,Nat.reduceLeDiff,reduceCtorEq,h9])) rN (by decide) (by simp) [⟨#[119,48]⟩,⟨#[101,48]⟩,⟨#[45]⟩,⟨#[45]⟩] rfl (u:=⟨12012001,_⟩) ⟨true,sl @Nat.zero_add⟩ cD rfl))
  obtain⟨rfl,nL,Cp,qk⟩:=hq
  obtain⟨g2,x2⟩:=σ2
  (try dsimp only at nL Cp qk)
  refine hN _ _ ?_
  clear hN N
  have HE:g2 ⟨12000000,n0⟩=some ⟨true,2,[[.int .i64 (S:Int),.sl (tb.map ah)]]⟩:=(qk ⟨12000000,n0⟩ cD).trans (by have h9:=dF (i:=⟨12000000,n0⟩) (n:=x3) cD;simp only[go_sem, ↓reduceIte,Nat.reduceEqDiff,Nat.reduceAdd,Nat.reduceSub,Nat.reduceLeDiff,reduceCtorEq,h9,U7])
  have HG:g2 ⟨12000001,n0⟩=some ⟨true,4,[[.bP,.bP,.bP,.int .i64 0]]⟩:=(qk ⟨12000001,n0⟩ cD).trans (by have h9:=dF (i:=⟨12000001,n0⟩) (n:=x3) cD;simp only[go_sem, ↓reduceIte,Nat.reduceEqDiff,Nat.reduceAdd,Nat.reduceSub,Nat.reduceLeDiff,reduceCtorEq,h9,U9])
  rw[List.nil_append,VF (m:=m) (l:=l) (ws:=ws) (ss:=ss) (tb:=tb) hS]at nL
  clear TN qk U7 U9
  (try((repeat(revert hN;revert N;apply Pn.out));refine wk (tw @a26 (tw @a1 (tw @a2 (tw @a3 (tw @a6 (tw @a7 (tw @a9 (tw @a25 (tw @HE @HG))))))))) ?_;(repeat(refine Pn.mk ?_;intro N hN))))
  refine .inr (bc _ _ _ _ _ (fun r σ5 hq=>?_) (FK (σ:=⟨_,_⟩) (n0:=y0) cD 119 38 38001003 _ R6 rfl S ab ws m ab X.ws (fun j=>nV S (min j (m-1)) 0) (fun j=>iW S m l ws ss tb (1+j)) (nL.frame cD fun i hi=>(by try rfl)) (fun j hj=>?_) (fun j hj=>?_) (fun j hj=>VI X hS hm hj) (fun j hj=>by(try dsimp only);rw[Gw];omega) (fun j hj=>by(try dsimp only);rw[kS];omega)))
  rotate_left
  ·(try dsimp only)
   rw[show min (j+1) (m-1)=j+1 by omega,show min j (m-1)=j by omega]
   exact⟨VD S j,VU S hS j ab⟩
  ·(try dsimp only)
   rw[show min (j+1) (m-1)=min j (m-1) by omega]
  obtain⟨rfl,Wr,hn5,Nu⟩:=hq
  obtain⟨g5,x5⟩:=σ5
  (try dsimp only at Wr hn5 Nu)
  have YV:=(Nu ⟨12000000,n0⟩ cD).trans HE
  have YW:=(Nu ⟨12000001,n0⟩ cD).trans HG
  (try dsimp only at YV YW)
  refine hN _ _ ?_
  clear hN N nL Nu HE HG
  rw[show min m (m-1)=m-1 by omega]at Wr
  (try((repeat(revert hN;revert N;apply Pn.out));refine wk (tw @a26 (tw @a1 (tw @a2 (tw @a3 (tw @a6 (tw @a7 (tw @a9 @a25))))))) ?_;(repeat(refine Pn.mk ?_;intro N hN))))
  refine .inr (bc _ _ _ _ _ (fun r σ6 hq=>?_) (FK (σ:=⟨_,_⟩) (n0:=y0) cD 101 39 39001003 _ R4 rfl S ab ss l ab X.ss (fun j=>nV S (m-1) (min j (l-1))) (fun j=>iW S m l ws ss tb (1+m+j)) (Wr.frame cD fun i hi=>(by try rfl)) (fun j hj=>?_) (fun j hj=>?_) (fun j hj=>VG X hS hm hn hj) (fun j hj=>by(try dsimp only);rw[Gw];omega) (fun j hj=>by(try dsimp only);rw[kS];omega)))
  rotate_left
  ·(try dsimp only)
   rw[show min (j+1) (l-1)=j+1 by omega,show min j (l-1)=j by omega]
   exact⟨VE S (m-1) j,Tq S hS (m-1) ab j ab⟩
  ·(try dsimp only)
   rw[show min (j+1) (l-1)=min j (l-1) by omega]
  obtain⟨rfl,TP,hn6,Wy⟩:=hq
  obtain⟨g6,x6⟩:=σ6
  (try dsimp only at TP hn6 Wy)
  have U8:=(Wy ⟨12000000,n0⟩ cD).trans YV
  have kc6:=(Wy ⟨12000001,n0⟩ cD).trans YW
  (try dsimp only at U8 kc6)
  refine hN _ _ ?_
  clear hN N Wr Wy YV YW
  rw[show min l (l-1)=l-1 by omega]at TP
  obtain⟨G,hG⟩:∃G,nV S (m-1) (l-1)=G:=⟨_,rfl⟩
  (try((repeat(revert hN;revert N;apply Pn.out));refine wk (tw @a26 (tw @a1 (tw @a2 (tw @a3 (tw @a6 (tw @a7 (tw @a9 (tw @a25 @U8)))))))) ?_;(repeat(refine Pn.mk ?_;intro N hN))))
  have hG0:iW S m l ws ss tb (1+m+l)=iW S m l ws ss tb (1+m+l+0*S):=by rw[Nat.zero_mul,Nat.add_zero]
  (try dsimp only at TP)
  rw[hG0]at TP
  refine dc (fun n env st=>∃i:Nat,n=(S)-i/\i<=(S)/\env 49=.int .i64 (i:Int)/\(uB y0 st.get st.next B M (pj (nV S (m-1) (l-1))) (nV S (m-1) (l-1)) (iW S m l ws ss tb (1+m+l+i*S))/\st.get ⟨12000000,n0⟩=some ⟨true,2,[[.int .i64 (S:Int),.sl (tb.map ah)]]⟩/\st.get ⟨12000001,n0⟩=some ⟨true,4,[[.bP,.bP,.bP,.int .i64 0]]⟩/\y0<=st.next)) (S) ⟨0,ab,ab,sl (tw @a26 (tw @a1 (tw @a2 (tw @a3 (tw @a6 (tw @a7 (tw @a9 (tw @a25 @U8)))))))),by(try dsimp only);exact⟨TP.frame cD fun i hi=>(by try rfl),U8,kc6,ab⟩⟩ ?_
  rintro n_b env_b st_b ⟨i,rfl,ble,b49,bI0⟩ fG
  have b3:=fG 3 (by kernel_rfl);have b6:=fG 6 (by kernel_rfl);have b7:=fG 7 (by kernel_rfl);have b9:=fG 9 (by kernel_rfl);have lW:=fG 11 (by kernel_rfl);have SC:=fG 48 (by kernel_rfl)
  simp only[go_sem, ↓reduceIte,Nat.reduceEqDiff,Nat.reduceAdd,Nat.reduceSub,Nat.reduceLeDiff,reduceCtorEq,a26,a1,a2,a3,a6,a7,a9,a25,U8]at b3 b6 b7 b9 lW SC
  clear fG
  obtain⟨bK,bB,bC,bY⟩:=bI0
  by_cases hi:(i:Int)<(S:Int)
  ·have gi:∀{e:Env} {gg:Rows} {nx:Nat},(e 49=.int .i64 (IntKind.i64.wrap ((i:Int)+1)))->(uB y0 gg nx B M (pj (nV S (m-1) (l-1))) (nV S (m-1) (l-1)) (iW S m l ws ss tb (1+m+l+(i+1)*S))/\gg ⟨12000000,n0⟩=some ⟨true,2,[[.int .i64 (S:Int),.sl (tb.map ah)]]⟩/\gg ⟨12000001,n0⟩=some ⟨true,4,[[.bP,.bP,.bP,.int .i64 0]]⟩/\y0<=nx)->∃m0,m0<(S)-i/\∃i:Nat,m0=(S)-i/\i<=(S)/\e 49=.int .i64 (i:Int)/\(uB y0 gg nx B M (pj (nV S (m-1) (l-1))) (nV S (m-1) (l-1)) (iW S m l ws ss tb (1+m+l+i*S))/\gg ⟨12000000,n0⟩=some ⟨true,2,[[.int .i64 (S:Int),.sl (tb.map ah)]]⟩/\gg ⟨12000001,n0⟩=some ⟨true,4,[[.bP,.bP,.bP,.int .i64 0]]⟩/\y0<=nx):=fun x1 x2=>⟨_,ab,i+1,rfl,ab,(by rw[x1,cE ab]),x2⟩
   have im:i<S:=ab
   (try((repeat(revert hN;revert N;apply Pn.out));refine wk (tw @b49 (tw @b3 (tw @b6 (tw @b7 (tw @b9 (tw @lW (tw @SC (tw @hi @bB)))))))) ?_;(repeat(refine Pn.mk ?_;intro N hN))))
   have hG1:iW S m l ws ss tb (1+m+l+i*S)=iW S m l ws ss tb (1+m+l+(i*S+0)):=by rw[Nat.add_zero]
   rw[hG1]at bK
   refine dc (fun n env st=>∃j:Nat,n=(S)-j/\j<=(S)/\env 54=.int .i64 (j:Int)/\(uB y0 st.get st.next B M (pj (nV S (m-1) (l-1))) (nV S (m-1) (l-1)) (iW S m l ws ss tb (1+m+l+(i*S+j)))/\st.get ⟨12000000,n0⟩=some ⟨true,2,[[.int .i64 (S:Int),.sl (tb.map ah)]]⟩/\st.get ⟨12000001,n0⟩=some ⟨true,4,[[.bP,.bP,.bP,.int .i64 0]]⟩/\y0<=st.next)) (S) ⟨0,ab,ab,sl (tw @b49 (tw @b3 (tw @b6 (tw @b7 (tw @b9 (tw @lW (tw @SC @bB))))))),by(try dsimp only);exact⟨bK.frame cD fun i hi=>(by try rfl),bB,bC,ab⟩⟩ ?_
   rintro n_d env_d st_d ⟨j,rfl,dle,d54,dI0⟩ dfr
   have d3:=dfr 3 (by kernel_rfl);have d6:=dfr 6 (by kernel_rfl);have d7:=dfr 7 (by kernel_rfl);have d9:=dfr 9 (by kernel_rfl);have d11:=dfr 11 (by kernel_rfl);have d12:=dfr 12 (by kernel_rfl);have d48:=dfr 48 (by kernel_rfl);have d49:=dfr 49 (by kernel_rfl);have d53:=dfr 53 (by kernel_rfl)
   simp only[go_sem, ↓reduceIte,Nat.reduceEqDiff,Nat.reduceAdd,Nat.reduceSub,Nat.reduceLeDiff,reduceCtorEq,b49,b3,b6,b7,b9,lW,SC,bB]at d3 d6 d7 d9 d11 d12 d48 d49 d53
   clear dfr
   obtain⟨dK,dB,dC,dY⟩:=dI0
   by_cases hj:(j:Int)<(S:Int)
   ·have tZ:∀{e:Env} {gg:Rows} {nx:Nat},(e 54=.int .i64 (IntKind.i64.wrap ((j:Int)+1)))->(uB y0 gg nx B M (pj (nV S (m-1) (l-1))) (nV S (m-1) (l-1)) (iW S m l ws ss tb (1+m+l+(i*S+(j+1))))/\gg ⟨12000000,n0⟩=some ⟨true,2,[[.int .i64 (S:Int),.sl (tb.map ah)]]⟩/\gg ⟨12000001,n0⟩=some ⟨true,4,[[.bP,.bP,.bP,.int .i64 0]]⟩/\y0<=nx)->∃m0,m0<(S)-j/\∃j:Nat,m0=(S)-j/\j<=(S)/\e 54=.int .i64 (j:Int)/\(uB y0 gg nx B M (pj (nV S (m-1) (l-1))) (nV S (m-1) (l-1)) (iW S m l ws ss tb (1+m+l+(i*S+j)))/\gg ⟨12000000,n0⟩=some ⟨true,2,[[.int .i64 (S:Int),.sl (tb.map ah)]]⟩/\gg ⟨12000001,n0⟩=some ⟨true,4,[[.bP,.bP,.bP,.int .i64 0]]⟩/\y0<=nx):=fun x1 x2=>⟨_,ab,j+1,rfl,ab,(by rw[x1,cE ab]),x2⟩
    have pO:j<S:=ab
    have yh:i*S+j<S*S:=by
     have:=Nat.mul_le_mul_right S (show i+1<=S by omega)
     rw[Nat.add_mul,Nat.one_mul]at this
     omega
    have pP:=X.tb.at yh
    obtain⟨v,hv⟩:∃v:Nat,tb.getD (i*S+j) 0=(v:Int):=⟨(tb.getD (i*S+j) 0).toNat,ab⟩
    have hTq:=VH X hS hm hn im pO hv
    have o1:=xq S tb hS X.tb i j im pO
    rw[hv]at o1 pP
    have nbv:=iT 113 v ab
    have nbi:=iT 113 i ab
    have nbj:=iT 113 j ab
    have sM:(gr 113 i).size+(gr 113 j).size<=9223372036854775807:=by rw[me _ _ ab,me _ _ ab];decide
    (repeat(first|((repeat(revert hN;revert N;apply Pn.out));refine wk (tw @d54 (tw @d3 (tw @d6 (tw @d7 (tw @d9 (tw @d11 (tw @d12 (tw @d48 (tw @d49 (tw @d53 (tw @hj (tw @dB @sM)))))))))))) ?_;(repeat(refine Pn.mk ?_;intro N hN)))|((try apply Or.inl);refine⟨_,az.x (o1) (sd (tw @d54 (tw @d3 (tw @d6 (tw @d7 (tw @d9 (tw @d11 (tw @d12 (tw @d48 (tw @d49 (tw @d53 (tw @hj (tw @dB @sM))))))))))))),?_⟩;refine hN _ _ ?_;clear hN N)|((try apply Or.inl);refine⟨_,az.x (nbv) (sd (tw @d54 (tw @d3 (tw @d6 (tw @d7 (tw @d9 (tw @d11 (tw @d12 (tw @d48 (tw @d49 (tw @d53 (tw @hj (tw @dB @sM))))))))))))),?_⟩;refine hN _ _ ?_;clear hN N)|((try apply Or.inl);refine⟨_,az.x (nbi) (sd (tw @d54 (tw @d3 (tw @d6 (tw @d7 (tw @d9 (tw @d11 (tw @d12 (tw @d48 (tw @d49 (tw @d53 (tw @hj (tw @dB @sM))))))))))))),?_⟩;refine hN _ _ ?_;clear hN N)|((try apply Or.inl);refine⟨_,az.x (nbj) (sd (tw @d54 (tw @d3 (tw @d6 (tw @d7 (tw @d9 (tw @d11 (tw @d12 (tw @d48 (tw @d49 (tw @d53 (tw @hj (tw @dB @sM))))))))))))),?_⟩;refine hN _ _ ?_;clear hN N)))
    refine .inr (bc _ _ _ _ _ (fun r σ2 hq=>?_) (uO (σ:=⟨_,_⟩) (dK.frame cD fun i hi=>(by have h9:=dF hi;simp only[go_sem, ↓reduceIte,Nat.reduceEqDiff,Nat.reduceAdd,Nat.reduceSub,Nat.reduceLeDiff,reduceCtorEq,h9])) (gr 113 i++gr 113 j) (by rw[Ol _ _ ab ab];omega) (by rw[kS];omega) [gr 113 v,gr 113 v,gr 113 j,gr 113 i] rfl (u:=⟨12022012,_⟩) ⟨true,sl @Nat.zero_add⟩ cD rfl))
    obtain⟨rfl,nL,Cp,qk⟩:=hq
    obtain⟨g2,x2⟩:=σ2
    (try dsimp only at nL Cp qk)
    refine hN _ _ ?_
    clear hN N
    have HE:g2 ⟨12000000,n0⟩=some ⟨true,2,[[.int .i64 (S:Int),.sl (tb.map ah)]]⟩:=(qk ⟨12000000,n0⟩ cD).trans (by have h9:=dF (i:=⟨12000000,n0⟩) (n:=st_d.next) cD;simp only[go_sem, ↓reduceIte,Nat.reduceEqDiff,Nat.reduceAdd,Nat.reduceSub,Nat.reduceLeDiff,reduceCtorEq,h9,dB])
    have HG:g2 ⟨12000001,n0⟩=some ⟨true,4,[[.bP,.bP,.bP,.int .i64 0]]⟩:=(qk ⟨12000001,n0⟩ cD).trans (by have h9:=dF (i:=⟨12000001,n0⟩) (n:=st_d.next) cD;simp only[go_sem, ↓reduceIte,Nat.reduceEqDiff,Nat.reduceAdd,Nat.reduceSub,Nat.reduceLeDiff,reduceCtorEq,h9,dC])
    rw[<-hTq]at nL
    (try((repeat(revert hN;revert N;apply Pn.out));refine wk (tw @d54 (tw @d3 (tw @d6 (tw @d7 (tw @d9 (tw @d11 (tw @d12 (tw @d48 (tw @d49 (tw @d53 @hj)))))))))) ?_;(repeat(refine Pn.mk ?_;intro N hN))))
    exact tZ (sd (tw @d54 (tw @d3 (tw @d6 (tw @d7 (tw @d9 (tw @d11 (tw @d12 (tw @d48 (tw @d49 @d53)))))))))) (by(try dsimp only);exact⟨nL.frame cD fun i hi=>(by try rfl),HE,HG,ab⟩)
   ·have hjS:j=S:=ab
    (try((repeat(revert hN;revert N;apply Pn.out));refine wk (tw @d54 (tw @d3 (tw @d6 (tw @d7 (tw @d9 (tw @d11 (tw @d12 (tw @d48 (tw @d49 (tw @d53 @hj)))))))))) ?_;(repeat(refine Pn.mk ?_;intro N hN))))
    rw[hjS,<-Nat.succ_mul]at dK
    exact gi (sd (tw @d54 (tw @d3 (tw @d6 (tw @d7 (tw @d9 (tw @d11 (tw @d12 (tw @d48 (tw @d49 @d53)))))))))) (by(try dsimp only);exact⟨dK.frame cD fun i hi=>(by try rfl),dB,dC,ab⟩)
  ·have hiS:i=S:=ab
   rw[hiS]at bK
   obtain⟨vg,vt,kB,kG,kT⟩:=bK.row
   have lG:=xp (S:=S) NA pn
   have lT:=kS S m l ws ss tb (1+m+l+S*S)
   rw[Oy]at kG
   rcases kG with⟨k0,_⟩|⟨og,rfl,_,gg0,_,gv0,gv⟩
   ·rw[k0]at lG;simp at lG;omega
   rcases kT with⟨k0,_⟩|⟨ot,rows,rfl,_,gt0,hX,_,tv0,tv⟩
   ·rw[k0]at lT;simp at lT;omega
   have vB:=dF bK.b1
   have vg:=dF gv
   have vt:=dF tv
   have Eo:=bK.b0
   have nB:=dU (a:=⟨12000001,n0⟩) (b:=B) cD
   have vC:=dF (i:=⟨12000001,n0⟩) (n:=st_b.next) cD
   (try((repeat(revert hN;revert N;apply Pn.out));refine wk (tw @b49 (tw @b3 (tw @b6 (tw @b7 (tw @b9 (tw @lW (tw @SC (tw @hi (tw @kB (tw @vB (tw @nB (tw @vC @bC)))))))))))) ?_;(repeat(refine Pn.mk ?_;intro N hN))))
   have ogC:=(dU (a:=⟨12000001,n0⟩) (b:=og) cD).2
   have otC:=(dU (a:=⟨12000001,n0⟩) (b:=ot) cD).2
   obtain⟨gF,Un⟩:∃gF,bz (bz st_b.get ⟨12025007,st_b.next+1⟩ ⟨true,3,[[.int .i64 0,.int .i64 0,.int .i64 ((0:Nat):Int)]]⟩) ⟨12000001,n0⟩ ⟨true,4,[[.own og 0 (oZ S m l).length,.own ot 0 (iW S m l ws ss tb (1+m+l+S*S)).length,.own ⟨12025007,st_b.next+1⟩ 0 1,.int .i64 2]]⟩=gF:=⟨_,rfl⟩
   have q1:gF og=some ⟨true,2,(oZ S m l).map eP⟩:=by rw[<-Un];simp only[go_sem, ↓reduceIte,Nat.reduceEqDiff,Nat.reduceAdd,Nat.reduceSub,Nat.reduceLeDiff,reduceCtorEq,vg,ogC]<;>exact gg0
   have q2:gF ot=some ⟨true,2,rows⟩:=by rw[<-Un];simp only[go_sem, ↓reduceIte,Nat.reduceEqDiff,Nat.reduceAdd,Nat.reduceSub,Nat.reduceLeDiff,reduceCtorEq,vt,otC]<;>exact gt0
   have q3:TX (fun s=>s=36005009) y0 gF st_b.next rows (iW S m l ws ss tb (1+m+l+S*S)):=hX.frame (Nat.le_refl _) fun i _ i0 i1=>by
    have h9:=dF i1
    have h8:=(dU (a:=⟨12000001,n0⟩) (b:=i) cD).2
    rw[<-Un]
    simp only[go_sem, ↓reduceIte,Nat.reduceEqDiff,Nat.reduceAdd,Nat.reduceSub,Nat.reduceLeDiff,reduceCtorEq,h9,h8]
   have nC:=(dU (a:=⟨12000001,n0⟩) (b:=⟨12025007,st_b.next+1⟩) cD).2
   have q4:gF ⟨12025007,st_b.next+1⟩=some ⟨true,3,[ai ⟨⟨0,0⟩,0⟩]⟩:=by rw[<-Un];simp only[go_sem, ↓reduceIte,Nat.reduceEqDiff,Nat.reduceAdd,Nat.reduceSub,Nat.reduceLeDiff,reduceCtorEq,nC]<;>rfl
   have hF:=LS (p:=⟨⟨0,0⟩,0⟩) q1 rfl q2 rfl q3 q4
   exact⟨[.agg [.own og 0 (oZ S m l).length,.own ot 0 (iW S m l ws ss tb (1+m+l+S*S)).length,.own ⟨12025007,st_b.next+1⟩ 0 1,.int .i64 2],.int .i64 0],sd (tw @b49 (tw @b3 (tw @b6 (tw @b7 (tw @b9 (tw @lW @SC)))))),.fN [.agg (eb (gH S m l ws ss tb)),.int .i64 0],by(try dsimp only);rw[Un];simp only[gp,gn,cQ,dD,hF,eV,Option.map_some]<;>rfl,rfl⟩
end
end Go.Proofs.YtalkncaokeaifaaGreatDoor.V

namespace Go.Proofs.YtalkncaokeaifaaGreatDoor.V
open Go.RowKit
end Go.Proofs.YtalkncaokeaifaaGreatDoor.V

namespace Go.Proofs.YtalkncaokeaifaaGreatDoor.V
open Go.RowKit
attribute [local irreducible] dH wpOps eB Call
attribute [local go_sem] ax eo dS ez ev cZ upd bD K.av bR AV.cells AV.cell rowOf rowsOf part ld rowAt eL bz bx cW dj eO bf cC dw er ea cR dq cw cu da db bp aI bZ bj ck cj dn dr dp bW br cz dm bh ar cq bH eM aT bL bq aH cU aQ cX AV.undef aW bd de di cY c6 bJ dv dy bE du dt cm cr List.getD_cons_zero List.getD_cons_succ List.getD_nil List.all_cons List.all_nil Bool.and_true Bool.true_and Bool.and_self Bool.not_true Bool.not_false Option.map_some Option.map_none Option.bind_some Option.bind_none List.length_cons List.length_nil List.take_succ_cons List.take_zero List.take_nil List.drop_succ_cons List.drop_zero List.drop_nil List.head?_cons List.map_cons List.map_nil List.getElem?_cons_zero List.getElem?_cons_succ List.cons_append List.nil_append List.append_nil List.length_map List.set_cons_zero List.set_cons_succ Nat.reduceMul eq_self Int.toNat_natCast Int.natCast_nonneg and_self true_and and_true decide_true decide_false Bool.false_eq_true Nat.zero_add Nat.add_zero List.contains_cons List.contains_nil Bool.or_false Bool.false_or beq_self_eq_true Nat.reduceBEq ne_eq not_true_eq_false not_false_eq_true Id.mk.injEq false_and and_false Nat.reduceLT Int.reduceLE Int.reduceLT Int.reduceToNat Int.reduceNeg Int.reduceAdd Nat.le_refl List.length_append beq_true beq_false Bool.not_eq_eq_eq_not or_false false_or dX ad ae aP aJ bt bI aD aS aA aL bU aZ
end Go.Proofs.YtalkncaokeaifaaGreatDoor.V

namespace Go.Proofs.YtalkncaokeaifaaGreatDoor.V
open Go.RowKit
end Go.Proofs.YtalkncaokeaifaaGreatDoor.V

namespace Go.Proofs.YtalkncaokeaifaaGreatDoor.V
open Go.RowKit
attribute [local irreducible] dH wpOps eB Call
attribute [local go_sem] ax eo dS ez ev cZ upd bD K.av bR AV.cells AV.cell rowOf rowsOf part ld rowAt eL bz bx cW dj eO bf cC dw er ea cR dq cw cu da db bp aI bZ bj ck cj dn dr dp bW br cz dm bh ar cq bH eM aT bL bq aH cU aQ cX AV.undef aW bd de di cY c6 bJ dv dy bE du dt cm cr List.getD_cons_zero List.getD_cons_succ List.getD_nil List.all_cons List.all_nil Bool.and_true Bool.true_and Bool.and_self Bool.not_true Bool.not_false Option.map_some Option.map_none Option.bind_some Option.bind_none List.length_cons List.length_nil List.take_succ_cons List.take_zero List.take_nil List.drop_succ_cons List.drop_zero List.drop_nil List.head?_cons List.map_cons List.map_nil List.getElem?_cons_zero List.getElem?_cons_succ List.cons_append List.nil_append List.append_nil List.length_map List.set_cons_zero List.set_cons_succ Nat.reduceMul eq_self Int.toNat_natCast Int.natCast_nonneg and_self true_and and_true decide_true decide_false Bool.false_eq_true Nat.zero_add Nat.add_zero List.contains_cons List.contains_nil Bool.or_false Bool.false_or beq_self_eq_true Nat.reduceBEq ne_eq not_true_eq_false not_false_eq_true Id.mk.injEq false_and and_false Nat.reduceLT Int.reduceLE Int.reduceLT Int.reduceToNat Int.reduceNeg Int.reduceAdd Nat.le_refl List.length_append beq_true beq_false Bool.not_eq_eq_eq_not or_false false_or dX ad ae aP aJ bt bI aD aS aA aL bU aZ
end Go.Proofs.YtalkncaokeaifaaGreatDoor.V

namespace Go.Proofs.YtalkncaokeaifaaGreatDoor.V
open Go.RowKit
end Go.Proofs.YtalkncaokeaifaaGreatDoor.V

namespace Go.Proofs.YtalkncaokeaifaaGreatDoor.V
end Go.Proofs.YtalkncaokeaifaaGreatDoor.V

namespace Go.Proofs.YtalkncaokeaifaaGreatDoor.V
open Go.RowKit
attribute [local irreducible] dH wpOps eB Call
attribute [local go_sem] ax eo dS ez ev cZ upd bD K.av bR AV.cells AV.cell rowOf rowsOf part ld rowAt eL bz bx cW dj eO bf cC dw er ea cR dq cw cu da db bp aI bZ bj ck cj dn dr dp bW br cz dm bh ar cq bH eM aT bL bq aH cU aQ cX AV.undef aW bd de di cY c6 bJ dv dy bE du dt cm cr List.getD_cons_zero List.getD_cons_succ List.getD_nil List.all_cons List.all_nil Bool.and_true Bool.true_and Bool.and_self Bool.not_true Bool.not_false Option.map_some Option.map_none Option.bind_some Option.bind_none List.length_cons List.length_nil List.take_succ_cons List.take_zero List.take_nil List.drop_succ_cons List.drop_zero List.drop_nil List.head?_cons List.map_cons List.map_nil List.getElem?_cons_zero List.getElem?_cons_succ List.cons_append List.nil_append List.append_nil List.length_map List.set_cons_zero List.set_cons_succ Nat.reduceMul eq_self Int.toNat_natCast Int.natCast_nonneg and_self true_and and_true decide_true decide_false Bool.false_eq_true Nat.zero_add Nat.add_zero List.contains_cons List.contains_nil Bool.or_false Bool.false_or beq_self_eq_true Nat.reduceBEq ne_eq not_true_eq_false not_false_eq_true Id.mk.injEq false_and and_false Nat.reduceLT Int.reduceLE Int.reduceLT Int.reduceToNat Int.reduceNeg Int.reduceAdd Nat.le_refl List.length_append beq_true beq_false Bool.not_eq_eq_eq_not or_false false_or dX ad ae aP aJ bt bI aD aS aA aL bU aZ
end Go.Proofs.YtalkncaokeaifaaGreatDoor.V

namespace Go.Proofs.YtalkncaokeaifaaGreatDoor.V
end Go.Proofs.YtalkncaokeaifaaGreatDoor.V

namespace Go.Proofs.YtalkncaokeaifaaGreatDoor.V
open Go.RowKit
end Go.Proofs.YtalkncaokeaifaaGreatDoor.V

namespace Go.Proofs.YtalkncaokeaifaaGreatDoor.V
open Go.RowKit
attribute [local irreducible] dH wpOps eB Call
attribute [local go_sem] ax eo dS ez ev cZ upd bD K.av bR AV.cells AV.cell rowOf rowsOf part ld rowAt eL bz bx cW dj eO bf cC dw er ea cR dq cw cu da db bp aI bZ bj ck cj dn dr dp bW br cz dm bh ar cq bH eM aT bL bq aH cU aQ cX AV.undef aW bd de di cY c6 bJ dv dy bE du dt cm cr List.getD_cons_zero List.getD_cons_succ List.getD_nil List.all_cons List.all_nil Bool.and_true Bool.true_and Bool.and_self Bool.not_true Bool.not_false Option.map_some Option.map_none Option.bind_some Option.bind_none List.length_cons List.length_nil List.take_succ_cons List.take_zero List.take_nil List.drop_succ_cons List.drop_zero List.drop_nil List.head?_cons List.map_cons List.map_nil List.getElem?_cons_zero List.getElem?_cons_succ List.cons_append List.nil_append List.append_nil List.length_map List.set_cons_zero List.set_cons_succ Nat.reduceMul eq_self Int.toNat_natCast Int.natCast_nonneg and_self true_and and_true decide_true decide_false Bool.false_eq_true Nat.zero_add Nat.add_zero List.contains_cons List.contains_nil Bool.or_false Bool.false_or beq_self_eq_true Nat.reduceBEq ne_eq not_true_eq_false not_false_eq_true Id.mk.injEq false_and and_false Nat.reduceLT Int.reduceLE Int.reduceLT Int.reduceToNat Int.reduceNeg Int.reduceAdd Nat.le_refl List.length_append beq_true beq_false Bool.not_eq_eq_eq_not or_false false_or dX ad ae aP aJ bt bI aD aS aA aL bU aZ
def p2 (d:Nat):Int:=2 ^ d
theorem zD {s:aw} {es:List aa} {i:Nat} (hA:gV s.aq (ei s es i)) (hf:eH s (ei s es i) (cP es i).bQ (cP es i).cK=true):ew (ei s es i) (cP es i).bQ<0:=
 (DM hA _).1 (by simp[eH]at hf;exact hf.1.2)
theorem zE {s:aw} (hP:lE s) {es:List aa}:∀i,i<=es.length->(∀j,j<i->iV s es j=true)->qJ s (es.take i,ei s es i)
 |0,_,_=>⟨fun q=>by simp[ei],by simp[ei]⟩
 |i+1,hi,h=>by
  have ih:=zE hP (es:=es) i ab fun j hj=>h j ab
  have hg:=h i ab
  rw[iV,Bool.and_eq_true,PM,Bool.and_eq_true]at hg
  have hA:=kI hP (es:=es) i ab fun j hj=>h j ab
  have:=ih.put (x:=cP es i) (zD hA hg.1.2)
  rw[ki s es ab,xH ab]
  exact this
end Go.Proofs.YtalkncaokeaifaaGreatDoor.V

namespace Go.Proofs.YtalkncaokeaifaaGreatDoor.V
open Go.RowKit
end Go.Proofs.YtalkncaokeaifaaGreatDoor.V

namespace Go.Proofs.YtalkncaokeaifaaGreatDoor.V
open Go.RowKit
attribute [local irreducible] dH wpOps eB Call
attribute [local go_sem] ax eo dS ez ev cZ upd bD K.av bR AV.cells AV.cell rowOf rowsOf part ld rowAt eL bz bx cW dj eO bf cC dw er ea cR dq cw cu da db bp aI bZ bj ck cj dn dr dp bW br cz dm bh ar cq bH eM aT bL bq aH cU aQ cX AV.undef aW bd de di cY c6 bJ dv dy bE du dt cm cr List.getD_cons_zero List.getD_cons_succ List.getD_nil List.all_cons List.all_nil Bool.and_true Bool.true_and Bool.and_self Bool.not_true Bool.not_false Option.map_some Option.map_none Option.bind_some Option.bind_none List.length_cons List.length_nil List.take_succ_cons List.take_zero List.take_nil List.drop_succ_cons List.drop_zero List.drop_nil List.head?_cons List.map_cons List.map_nil List.getElem?_cons_zero List.getElem?_cons_succ List.cons_append List.nil_append List.append_nil List.length_map List.set_cons_zero List.set_cons_succ Nat.reduceMul eq_self Int.toNat_natCast Int.natCast_nonneg and_self true_and and_true decide_true decide_false Bool.false_eq_true Nat.zero_add Nat.add_zero List.contains_cons List.contains_nil Bool.or_false Bool.false_or beq_self_eq_true Nat.reduceBEq ne_eq not_true_eq_false not_false_eq_true Id.mk.injEq false_and and_false Nat.reduceLT Int.reduceLE Int.reduceLT Int.reduceToNat Int.reduceNeg Int.reduceAdd Nat.le_refl List.length_append beq_true beq_false Bool.not_eq_eq_eq_not or_false false_or dX ad ae aP aJ bt bI aD aS aA aL bU aZ
theorem OD {sch:List Int} {k:Nat} (h:k<sch.length):(sch.map ah)[k]? =some [.int .i64 (sch.getD k 0)]:=getD_map ah h
theorem xJ (a b:Nat):(a:Int).tmod (b:Int)=((a % b:Nat):Int):=by rw[Int.tmod_eq_emod_of_nonneg ab];rfl
end Go.Proofs.YtalkncaokeaifaaGreatDoor.V

namespace Go.Proofs.YtalkncaokeaifaaGreatDoor.V
open Go.RowKit
abbrev iU (s:aw) (K:List aa):aw:=⟨s.aq,⟨K⟩,s.bu⟩
theorem pC {s:aw} (hP:Je s) {es:List aa}:∀i,i<=es.length->(∀j,j<i->iV s es j=true)->gV s.aq (ei s es i)
 |0,_,_=>hP.s6
 |i+1,hi,h=>by
  have ih:=pC hP (es:=es) i ab fun j hj=>h j ab
  have hg:=h i ab
  rw[iV,Bool.and_eq_true,PM,Bool.and_eq_true]at hg
  rw[ki s es ab]
  exact FF ih (of_decide_eq_true hg.2) hg.1.1 hg.1.2 hP.set.xI
theorem xa {s:aw} (hP:Je s) {es:List aa}:∀i,i<=es.length->(∀j,j<i->iV s es j=true)->qJ s (es.take i,ei s es i)
 |0,_,_=>⟨fun q=>by simp[ei],by simp[ei]⟩
 |i+1,hi,h=>by
  have ih:=xa hP (es:=es) i ab fun j hj=>h j ab
  have hg:=h i ab
  rw[iV,Bool.and_eq_true,PM,Bool.and_eq_true]at hg
  have hA:=pC hP (es:=es) i ab fun j hj=>h j ab
  have:=ih.put (x:=cP es i) (zD hA hg.1.2)
  rw[ki s es ab,xH ab]
  exact this
theorem rQ (s:aw) (K l:List aa):iG (iU s K) l=iG s l:=rfl
def nf (w:World) (g t:Nat) (s:ByteArray):Prop:=∃(a:Addr) (c:Array Value) (ty Y5:TypeId),w.heap[g]? =some (.cells #[.iface t (.pointer (some a))] Y5 (0,0))/\w.heap[a.block]? =some (.cells c ty (0,0))/\w.cell? a=some (.string s)
def vL (g t:Nat) (s:ByteArray):Row:=⟨false,1,[[.err g t s]]⟩
def x9 (x y t:Nat) (s u:ByteArray):Rows:=fun id=>if id=oG x then some (vL x t s)else if id=oG y then some (vL y t u)else none
def He (x y:Nat):Names:=fun id=>if id=oG x then some ⟨x,1,1,none⟩else if id=oG y then some ⟨y,1,1,none⟩else none
variable {P:Program} {w:World} {ι:Names}
theorem nf.eE {g t:Nat} {s:ByteArray} (h:nf w g t s):∃v,w.cell? ⟨g,0,none⟩=some v/\jA P w (fun b=>b<w.heap.size) (.err g t s) v:=by
 obtain⟨a,c,ty,Y5,h1,h2,h3⟩:=h
 have hc:w.cell? ⟨g,0,none⟩=some (.iface t (.pointer (some a))):=by simp[World.cell?,h1]
 exact⟨_,hc,.err g t s a c ty (Array.getElem?_eq_some_iff.1 h1).1 hc (Array.getElem?_eq_some_iff.1 h2).1 h2 h3⟩
theorem nf.obj {g t:Nat} {s:ByteArray} (h:nf w g t s):gC P w (fun b=>b<w.heap.size) ι ⟨g,1,1,none⟩ (vL g t s):=by
 obtain⟨v,hv,hi⟩:=h.eE (P:=P)
 obtain⟨a,c,ty,Y5,h1,_⟩:=h
 refine jO.obj ⟨rfl,⟨_,_,h1,rfl⟩,Nat.le_refl _,?_,?_,?_⟩ rfl
 ·intro cs dW
  rw[List.mem_singleton.1 dW];rfl
 ·intro cs dW a ha
  rw[List.mem_singleton.1 dW]at ha
  rw[List.mem_singleton.1 ha];rfl
 ·intro i j cs a hi hj
  cases i with
  |zero=>
   simp[vL]at hi
   subst hi
   cases j with
   |zero=>
    simp at hj
    subst hj
    exact⟨v,by simpa using hv,.eE _ _ hi⟩
   |succ j=>simp at hj
  |succ i=>simp[vL]at hi
theorem QE {x y:Nat} (h:x≠y):oG y≠oG x:=fun e=>by
 have:=congrArg Id.site e
 simp only[oG]at this
 omega
theorem QA {x y t:Nat} {s u:ByteArray} (gZ:x≠y) (h1:nf w x t s) (h2:nf w y t u):fZ P w.heap.size (fun b=>b<w.heap.size) (He x y) (x9 x y t s u) w:=by
 refine⟨Nat.le_refl _,fun _ h=>h,fun id r h=>?_,fun id jR r r' B B' h h' hw=>?_⟩
 ·unfold x9 at h
  unfold He
  split at h
  ·rename_i e
   injection h with h
   subst h
   rw[if_pos e]
   exact⟨_,rfl,h1.obj,fun h=>(by cases h),fun h=>(by cases h)⟩
  ·rename_i e
   rw[if_neg e]
   split at h
   ·rename_i e2
    injection h with h
    subst h
    rw[if_pos e2]
    exact⟨_,rfl,h2.obj,fun h=>(by cases h),fun h=>(by cases h)⟩
   ·cases h
 ·exfalso
  unfold x9 at h
  split at h
  ·injection h with h;subst h;cases hw
  ·split at h
   ·injection h with h;subst h;cases hw
   ·cases h
theorem Nh (x y:Nat):Used (He x y) 1 (fun _=>False):=fun id h=>.inl (by
 unfold He at h
 split at h
 ·rename_i e;rw[e];exact Nat.zero_lt_one
 ·split at h
  ·rename_i e;rw[e];exact Nat.zero_lt_one
  ·exact absurd rfl h)
theorem N1 (hm:P.follows .mixedOrders=true) {f:Nat} {args:List AV} {vs:Array Value} {x y t:Nat} {s u:ByteArray} (gZ:x≠y) (h:Call P f args ⟨x9 x y t s u,1⟩ fun r _=>r=.bool true)
  (h1:nf w x t s) (h2:nf w y t u) (hA:fE P w (fun b=>b<w.heap.size) (fun _=>none) args vs):
  Calls P f vs w fun e w'=>e=.returned (.bool true)/\Below w.heap.size w w':=by
 have hA':fE P w (fun b=>b<w.heap.size) (He x y) args vs:=⟨hA.1,fun j a hj=>by
  obtain⟨v,k1,k2⟩:=hA.2 j a hj
  exact⟨v,k1,k2.frame (fun _ _=>rfl) (fun _ h=>h) fun id B hB=>(by cases hB)⟩⟩
 refine(ij hm h w.heap.size (fun b=>b<w.heap.size) (He x y) w vs (QA gZ h1 h2) (Nh x y) hA').mono ?_
 rintro e w' ⟨r,g',n',D',ι',v,rfl,rfl,ed,hsim,_,_,hZ⟩
 exact⟨by rw[fA hZ],ed.below⟩
theorem Qy (x y t:Nat) (s u:ByteArray):x9 x y t s u (oG x)=some ⟨false,1,[[.err x t s]]⟩:=by unfold x9;rw[if_pos rfl];rfl
theorem Qz {x y:Nat} (h:x≠y) (t:Nat) (s u:ByteArray):x9 x y t s u (oG y)=some ⟨false,1,[[.err y t u]]⟩:=by unfold x9;rw[if_neg (QE h),if_pos rfl];rfl
end Go.Proofs.YtalkncaokeaifaaGreatDoor.V

namespace Go.Proofs.YtalkncaokeaifaaGreatDoor.V
open Go.RowKit Go.ChangeShapes Go.WideShapes Go.ChangeAt
theorem HI {P:Program} {n0 n1 nm:String} {PT PU:List UInt8} {r:List (String×DataW Unit)} {W:World} {g0 g1:Nat} {ti tp te ts:TypeId} {ms:Array (String×TypeId)} {f:Field}
  (h:laidMet P ((n0,.iface nm (.ptr (.agg [.lit (.string PT)])))::(n1,.iface nm (.ptr (.agg [.lit (.string PU)])))::r) W)
  (Mq:P.globalNamed n0=some g0) (US:(P.globals[g0]?).map (·.type)=some ti) (xR:P.globalNamed n1=some g1) (ht1:(P.globals[g1]?).map (·.type)=some ti)
  (hi:P.underlying ti=some (.interface ms)) (fy:∀u,P.typeName? 3 u=some nm->u=tp)
  (hp:P.underlying tp=some (.pointer te)) (he:P.underlying te=some (.struct #[f])) (hft:f.type=ts) (Ka:f.offset=0) (hs:P.underlying ts=some .string) (hc:P.cellsOf te=1) (dW:P.cellsOf ts=1):
  ∃a0 a1:Addr,W.var? P n0=some #[.iface tp (.pointer (some a0))]/\W.var? P n1=some #[.iface tp (.pointer (some a1))]/\nf W g0 tp ⟨PT.toArray⟩/\nf W g1 tp ⟨PU.toArray⟩:=by
 obtain⟨ps,⟨g0',t0',Wb,f0,p0,q0,Uk,YB,pP,hd0,⟨Mo,t1',cs1,f1,p1,q1,Ul,YC,pq,Mp,_,e1⟩,e0⟩,po,j5⟩:=h
 obtain rfl:=Option.some.inj (Mq.symm.trans Uk)
 obtain rfl:=Option.some.inj (xR.symm.trans Ul)
 obtain rfl:=Option.some.inj (US.symm.trans YB)
 obtain rfl:=Option.some.inj (ht1.symm.trans YC)
 subst e1
 subst e0
 obtain⟨l0⟩:=Wb
 obtain⟨l1⟩:=cs1
 have ok0:∀u v,l0=[.iface u v]->Value.okWide P W .any 0 u v:=fun u v e=>by
  subst e
  exact(j5 g0 0 (by simp[MemPlace.row])).2 u v (by simpa using World.var?_cell Uk pP 0)
 have ok1:∀u v,l1=[.iface u v]->Value.okWide P W .any 0 u v:=fun u v e=>by
  subst e
  exact(j5 g1 0 (by simp[MemPlace.row])).2 u v (by simpa using World.var?_cell Ul pq 0)
 obtain⟨a0,s0,rfl,jt,Kq,IQ,rfl⟩:=errorString_of_trod hi fy hp he hft Ka hs hc dW hd0 ok0
 obtain⟨a1,s1,rfl,oH,yl,sM,rfl⟩:=errorString_of_trod hi fy hp he hft Ka hs hc dW Mp ok1
 have k0:=j5 g0 0 (by simp[MemPlace.row])
 have k1:=j5 g1 0 (by simp[MemPlace.row])
 obtain⟨c0,t0,Eo⟩:=(j5 a0.block a0.off (by simp[MemPlace.row])).1
 obtain⟨c1,t1,J3⟩:=(j5 a1.block a1.off (by simp[MemPlace.row])).1
 have TB:∀{n:String} {g:Nat} {v:Value},P.globalNamed n=some g->W.var? P n=some #[v]->(∃c t,W.heap[g]? =some (.cells c t (0,0)))->∃t,W.heap[g]? =some (.cells #[v] t (0,0)):=fun {n g v} hg hv ⟨c,t,hb⟩=>by
  unfold World.var? at hv
  rw[hg]at hv
  simp only[Option.bind_some,hb,Option.some.injEq]at hv
  exact⟨t,by rw[hb,hv]⟩
 obtain⟨y0,z0⟩:=TB Mq pP k0.1
 obtain⟨y1,z1⟩:=TB xR pq k1.1
 have str:∀{s:ByteArray} {l:List UInt8},s.data.toList=l->s=⟨l.toArray⟩:=fun {s l} e=>by
  subst e;cases s;simp
 rw[str Kq]at jt
 rw[str yl]at oH
 exact⟨a0,a1,pP,pq,⟨a0,c0,t0,y0,z0,Eo,jt⟩,⟨a1,c1,t1,y1,z1,J3,oH⟩⟩
theorem var?_below {P:Program} {n:String} {W W':World} {g:Nat} {x:Array Value} (hg:P.globalNamed n=some g) (hv:W.var? P n=some x) (hb:Below W.heap.size W W'):W'.var? P n=some x:=by
 rw[<-hv]
 unfold World.var? at hv ⊢
 rw[hg]at hv ⊢
 simp only[Option.bind_some]at hv ⊢
 have eJ:g<W.heap.size:=by
  rcases Nat.lt_or_ge g W.heap.size with h'|h'
  ·exact h'
  ·rw[Array.getElem?_eq_none h']at hv;cases hv
 rw[hb.block g eJ]
theorem mO {P:Program} {x:String×DataW Unit} {r:List (String×DataW Unit)} {W:World} (h:laidMet P (x::r) W):laidMet P r W:=by
 obtain⟨ps,hv,hn,hr⟩:=h
 obtain⟨n,d⟩:=x
 obtain⟨g,t,cs,fuel,p,q,_,_,_,_,hq,rfl⟩:=hv
 exact⟨q,hq,(List.nodup_append.1 hn).2.1,fun b off hm=>hr b off (List.mem_append_right _ hm)⟩
def gT:Nat:=0
def gN:Nat:=1
def tE:Nat:=313
def sT:ByteArray:=⟨#[110,111,32,116,105,108,101,32,99,97,110,32,97,116,116,97,99,104]⟩
def sN:ByteArray:=⟨#[116,111,111,32,109,97,110,121,32,116,105,108,101,115]⟩
theorem sTN:sT≠sN:=by decide
theorem JW:Tryz.prog.globalNamed "loop.example/g01081/impl.errTerminal" =some gT:=by kernel_rfl
theorem JV:Tryz.prog.globalNamed "loop.example/g01081/impl.errNoSpace" =some gN:=by kernel_rfl
theorem Pe:(Tryz.prog.globals[gT]?).map (·.type)=some 148:=by kernel_rfl
theorem Pd:(Tryz.prog.globals[gN]?).map (·.type)=some 148:=by kernel_rfl
theorem R9:Tryz.prog.cellsOf 341=1:=by kernel_rfl
theorem Sb:Tryz.prog.cellsOf 9=1:=by kernel_rfl
theorem GA: "*" ++ "errors.errorString" = "*errors.errorString" :=by decide
theorem Sa (u:TypeId) (h:Tryz.prog.typeName? 3 u=some "*errors.errorString"):u=313:=
 typeName_ptr_named (nm:= "errors.errorString") (by rw[GA];kernel_rfl) (by kernel_rfl) (by decide) u (by rw[GA];exact h)
theorem HJ {W:World} {r:List (String×DataW Unit)} (h:laidMet Tryz.prog (("loop.example/g01081/impl.errTerminal",Rows.laid_loop_example_g01081_impl_errTerminal)::("loop.example/g01081/impl.errNoSpace",Rows.laid_loop_example_g01081_impl_errNoSpace)::r) W):
  ∃a0 a1:Addr,W.var? Tryz.prog "loop.example/g01081/impl.errTerminal" =some #[.iface tE (.pointer (some a0))]/\W.var? Tryz.prog "loop.example/g01081/impl.errNoSpace" =some #[.iface tE (.pointer (some a1))]/\nf W gT tE sT/\nf W gN tE sN:=
 HI h JW Pe JV Pd Tryz.underlying148 Sa Tryz.underlying313 Tryz.underlying341 rfl rfl Tryz.underlying9 R9 Sb
end Go.Proofs.YtalkncaokeaifaaGreatDoor.V
