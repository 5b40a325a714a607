/- Flows and cuts: plain facts. -/
import Derived.Test.YtgoljkjaameagaaGreatRxA
import Derived.Test.YtgoljkjaameagaaGreatRxB
import Derived.Test.YtgoljkjaameagaaGreatRxC
import Derived.Shelf.SlSortCmp.WholeK
import Derived.Shelf.SlSortCmp.NoneTotal
import Derived.Ground.SlsfProg
import Derived.Test.YtgoljkjaameagaaGreatProg
import Derived.Maps.RangeRun
import Derived.Test.YtgoljkjaameagaaGreatChecked
set_option linter.unusedVariables false
set_option linter.unusedSimpArgs false
set_option maxRecDepth 100000
set_option maxHeartbeats 16000000
namespace Go.Proofs.YtgoljkjaameagaaGreat.V
def bi (b:Bool):Int:=if b then 1 else 0
def lq (f:Nat->Int):Nat->Int
 |0=>0
 |n+1=>lq f n+f n
theorem gT {f g:Nat->Int}:∀{n:Nat},(∀i,i<n->f i=g i)->lq f n=lq g n
 |0,_=>rfl
 |n+1,h=>by
  simp only[lq]
  rw[gT fun i hi=>h i (by omega),h n (by omega)]
theorem qL {f g:Nat->Int}:∀{n:Nat},(∀i,i<n->f i<=g i)->lq f n<=lq g n
 |0,_=>Int.le_refl _
 |n+1,h=>by
  simp only[lq]
  have:=qL (n:=n) fun i hi=>h i (by omega)
  have:=h n (by omega)
  omega
theorem jD:∀{n:Nat} {f:Nat->Int},(∀i,i<n->f i=0)->lq f n=0
 |0,_,_=>rfl
 |n+1,f,h=>by
  simp only[lq]
  rw[jD fun i hi=>h i (by omega),h n (by omega)];rfl
theorem oL {f:Nat->Int} {a:Nat} {d:Int}:∀n,lq (fun i=>f i+if i=a then d else 0) n=lq f n+if a<n then d else 0
 |0=>by simp[lq]
 |n+1=>by
  simp only[lq]
  rw[oL n]
  by_cases h:n=a
  ·subst h;simp;omega
  ·rw[if_neg h]
   by_cases h2:a<n
   ·rw[if_pos h2,if_pos (by omega)];omega
   ·rw[if_neg h2,if_neg (by omega)];omega
def lH (n:Nat) (S:Nat->Bool) (f:Nat->Nat->Int):Int:=lq (fun u=>lq (fun v=>if S u&& !S v then f u v else 0) n) n
def bump (f:Nat->Nat->Int) (a b:Nat) (d:Int):Nat->Nat->Int:=fun u v=>f u v+if u=a/\v=b then d else 0
theorem oz {n:Nat} {S:Nat->Bool} {f:Nat->Nat->Int} {a b:Nat} {d:Int} (ha:a<n) (hb:b<n):lH n S (bump f a b d)=lH n S f+if S a&& !S b then d else 0:=by
 unfold lH
 have h1:∀u,u<n->lq (fun v=>if S u&& !S v then bump f a b d u v else 0) n=lq (fun v=>if S u&& !S v then f u v else 0) n+if u=a then(if S a&& !S b then d else 0)else 0:=by
  intro u hu
  by_cases h:u=a
  ·subst h
   have h2:∀v,v<n->(if S u&& !S v then bump f u b d u v else 0)=(fun v=>if S u&& !S v then f u v else 0) v+if v=b then(if S u&& !S b then d else 0)else 0:=by
    intro v hv
    unfold bump
    by_cases h3:v=b
    ·subst h3;simp only[and_self,if_true];split<;>omega
    ·simp only[h3,and_false,if_false];split<;>omega
   rw[gT h2,oL,if_pos hb,if_pos rfl]
  ·rw[if_neg h,Int.add_zero]
   refine gT fun v hv=>?_
   unfold bump
   simp[h]
 rw[gT h1,oL,if_pos ha]
theorem JP {n:Nat} {S:Nat->Bool} {f c:Nat->Nat->Int} (h:∀u v,u<n->v<n->f u v<=c u v):lH n S f<=lH n S c:=
 qL fun u hu=>qL fun v hv=>by split;exact h u v hu hv;exact Int.le_refl _
theorem JO {n:Nat} {S:Nat->Bool} {f c:Nat->Nat->Int} (h:∀u v,u<n->v<n->S u=true->S v=false->f u v=c u v):lH n S f=lH n S c:=
 gT fun u hu=>gT fun v hv=>by
  split
  ·rename_i hc
   simp only[Bool.and_eq_true,Bool.not_eq_true']at hc
   exact h u v hu hv hc.1 hc.2
  ·rfl
def j3 (f:Nat->Nat->Int) (a b:Nat):Nat->Nat->Int:=bump (bump f a b 1) b a (-1)
theorem EY {n:Nat} {S:Nat->Bool} {f:Nat->Nat->Int} {a b:Nat} (ha:a<n) (hb:b<n):lH n S (j3 f a b)=lH n S f+bi (S a)-bi (S b):=by
 unfold j3
 rw[oz hb ha,oz ha hb]
 cases S a<;>cases S b<;>simp[bi]<;>omega
def lE (f:Nat->Nat->Int):List Nat->Nat->Nat->Int
 |a::b::r=>lE (j3 f a b) (b::r)
 |_=>f
def pW (f c:Nat->Nat->Int):List Nat->Prop
 |a::b::r=>f a b<c a b/\pW f c (b::r)
 |_=>True
theorem zH {n:Nat} {S:Nat->Bool}:∀(r:List Nat) (a:Nat) (f:Nat->Nat->Int),(∀x∈a::r,x<n)->lH n S (lE f (a::r))=lH n S f+bi (S a)-bi (S ((a::r).getLast (by simp)))
 |[],a,f,_=>by simp[lE]
 |b::r,a,f,h=>by
  rw[lE,zH r b (j3 f a b) fun x hx=>h x (List.mem_cons_of_mem _ hx),EY (h a (by simp)) (h b (by simp)),List.getLast_cons_cons]
  generalize bi (S b)=q
  omega
theorem pW.less {f g c:Nat->Nat->Int}:∀{p:List Nat},pW f c p->(∀u,u∈p->∀v,g u v<=f u v)->pW g c p
 |[],_,_=>trivial
 |[_],_,_=>trivial
 |a::b::r,h,hl=>⟨Int.lt_of_le_of_lt (hl a (by simp) b) h.1,pW.less (p:=b::r) h.2 fun u hu=>hl u (List.mem_cons_of_mem _ hu)⟩
theorem DM {n:Nat} {c:Nat->Nat->Int}:∀(p:List Nat) (f:Nat->Nat->Int),p.Nodup->pW f c p->(∀u v,u<n->v<n->f u v<=c u v)->∀u v,u<n->v<n->lE f p u v<=c u v
 |[],f,_,_,h=>h
 |[_],f,_,_,h=>h
 |a::b::r,f,hn,hr,h=>by
  rw[lE]
  have qk:a∉b::r:=(List.nodup_cons.1 hn).1
  refine DM (b::r) _ (List.nodup_cons.1 hn).2 (hr.2.less fun u hu v=>?_) fun u v hu hv=>?_
  ·unfold j3 bump
   have:u≠a:=by rintro rfl;exact qk hu
   simp only[this,false_and,if_false]
   split<;>omega
  ·have h0:=h u v hu hv
   have h1:=hr.1
   unfold j3 bump
   by_cases e:u=a/\v=b
   ·obtain⟨rfl,rfl⟩:=e
    rw[if_pos ⟨rfl,rfl⟩];split<;>omega
   ·rw[if_neg e];split<;>omega
structure nu (n:Nat) (c f:Nat->Nat->Int) (x y:Nat) (val:Int):Prop where
 le:∀u v,u<n->v<n->f u v<=c u v
 cut:∀S:Nat->Bool,S x=true->S y=false->lH n S f=val
theorem nu.zero {n:Nat} {c:Nat->Nat->Int} {x y:Nat} (h:∀u v,u<n->v<n->0<=c u v):nu n c (fun _ _=>0) x y 0:=
 ⟨h,fun S _ _=>jD fun u hu=>jD fun v hv=>by split<;>rfl⟩
theorem nu.aug {n:Nat} {c f:Nat->Nat->Int} {x y:Nat} {val:Int} (h:nu n c f x y val) {r:List Nat} (hl:(x::r).getLast (by simp)=y) (hn:(x::r).Nodup) (hr:pW f c (x::r)) (hb:∀v∈x::r,v<n):nu n c (lE f (x::r)) x y (val+1):=
 ⟨DM _ _ hn hr h.le,fun S hx hy=>by rw[zH r x f hb,hl,h.cut S hx hy,hx,hy];simp[bi]⟩
theorem nu.bound {n:Nat} {c f:Nat->Nat->Int} {x y:Nat} {val:Int} (h:nu n c f x y val) {S:Nat->Bool} (hx:S x=true) (hy:S y=false):val<=lH n S c:=by
 rw[<-h.cut S hx hy];exact JP h.le
theorem nu.full {n:Nat} {c f:Nat->Nat->Int} {x y:Nat} {val:Int} (h:nu n c f x y val) {S:Nat->Bool} (hx:S x=true) (hy:S y=false) (hS:∀u v,u<n->v<n->S u=true->S v=false->¬f u v<c u v):val=lH n S c:=by
 rw[<-h.cut S hx hy]
 exact JO fun u v hu hv h1 h2=>by have:=hS u v hu hv h1 h2;have:=h.le u v hu hv;omega
structure PB where
 a:Nat
 b:Nat
 s:Int
 deriving Inhabited
def cH (bs:List PB) (i:Nat):PB:=bs.getD i default
def iO (S:Nat->Bool) (bs:List PB):Int:=(bs.map fun b=>if S b.a=S b.b then 0 else b.s).sum
def mQ (c:Nat->Nat->Int) (b:PB):Nat->Nat->Int:=bump (bump c b.a b.b b.s) b.b b.a b.s
def kz (bs:List PB):Nat->Nat->Int:=bs.foldl mQ fun _ _=>0
theorem Dd (bs:List PB) (b:PB):kz (bs++[b])=mQ (kz bs) b:=by simp[kz]
theorem zR {n:Nat} {S:Nat->Bool}:∀(bs:List PB) (c:Nat->Nat->Int),(∀b∈bs,b.a<n/\b.b<n)->lH n S (bs.foldl mQ c)=lH n S c+iO S bs
 |[],c,_=>by simp[iO]
 |b::bs,c,h=>by
  have hb:=h b (by simp)
  rw[List.foldl_cons,zR bs _ fun x hx=>h x (List.mem_cons_of_mem _ hx)]
  unfold mQ iO
  rw[oz hb.2 hb.1,oz hb.1 hb.2,List.map_cons,List.sum_cons]
  cases S b.a<;>cases S b.b<;>simp<;>omega
theorem zS {n:Nat} {S:Nat->Bool} {bs:List PB} (h:∀b∈bs,b.a<n/\b.b<n):lH n S (kz bs)=iO S bs:=by
 rw[kz,zR bs _ h]
 have:lH n S (fun _ _=>0)=0:=jD fun u hu=>jD fun v hv=>by split<;>rfl
 omega
theorem y6:∀(bs:List PB) (c:Nat->Nat->Int),(∀b∈bs,0<=b.s)->(∀u v,0<=c u v)->∀u v,0<=bs.foldl mQ c u v
 |[],c,_,h=>h
 |b::bs,c,hb,h=>by
  rw[List.foldl_cons]
  refine y6 bs _ (fun x hx=>hb x (List.mem_cons_of_mem _ hx)) fun u v=>?_
  have:=hb b (by simp);have:=h u v
  unfold mQ bump
  split<;>split<;>omega
theorem room_le:∀(bs:List PB) (c:Nat->Nat->Int) (m:Int),(∀b∈bs,b.s<=4)->(∀u v,c u v<=m)->0<=m->∀u v,bs.foldl mQ c u v<=m+8*bs.length
 |[],c,m,_,h,_=>fun u v=>by have:=h u v;simp;omega
 |b::bs,c,m,hb,h,h0=>fun u v=>by
  rw[List.foldl_cons]
  have:=room_le bs (mQ c b) (m+8) (fun x hx=>hb x (List.mem_cons_of_mem _ hx)) (fun u v=>by
   have:=hb b (by simp);have:=h u v
   unfold mQ bump
   split<;>split<;>omega) (by omega) u v
  simp only[List.length_cons];omega
def j9 (n:Nat) (bs:List PB) (t:Int):Prop:=∀S:Nat->Bool,S 0=true->(∃y,y<n/\S y=false)->t<=iO S bs
def EW (S:Nat->Bool) (bs:List PB) (f:Nat->Int):Int:=lq (fun i=>f i*(bi (S (cH bs i).a)-bi (S (cH bs i).b))) bs.length
structure jJ (bs:List PB) (f:Nat->Int) (x y:Nat) (val:Int):Prop where
 le:∀i,i<bs.length->f i<=(cH bs i).s/\-(cH bs i).s<=f i
 cut:∀S:Nat->Bool,S x=true->S y=false->EW S bs f=val
theorem tZ (S:Nat->Bool):∀bs:List PB,iO S bs=lq (fun i=>if S (cH bs i).a=S (cH bs i).b then 0 else(cH bs i).s) bs.length:=by
 intro bs
 have key:∀n,n<=bs.length->iO S (bs.take n)=lq (fun i=>if S (cH bs i).a=S (cH bs i).b then 0 else(cH bs i).s) n:=by
  intro n
  induction n with
  |zero=>intro _;rfl
  |succ n ih=>
   intro h
   have e:cH bs n=bs[n]:=by simp[cH,List.getD_eq_getElem?_getD,List.getElem?_eq_getElem (show n<bs.length by omega)]
   rw[List.take_succ_eq_append_getElem (by omega),lq,<-ih (by omega),e]
   unfold iO
   rw[List.map_append,List.sum_append]
   simp only[List.map_cons,List.map_nil,List.sum_cons,List.sum_nil,Int.add_zero]
 have:=key bs.length (Nat.le_refl _)
 rwa [List.take_length]at this
theorem jJ.bound {bs:List PB} {f:Nat->Int} {x y:Nat} {val:Int} (h:jJ bs f x y val) {S:Nat->Bool} (hx:S x=true) (hy:S y=false):val<=iO S bs:=by
 rw[<-h.cut S hx hy,tZ]
 refine qL fun i hi=>?_
 have:=h.le i hi
 cases S (cH bs i).a<;>cases S (cH bs i).b<;>simp[bi]<;>omega
def fw (bs:List PB) (f:Nat->Int) (i u:Nat):Int:=if (cH bs i).a=u then(cH bs i).s-f i else(cH bs i).s+f i
def bS (bs:List PB) (i u:Nat):Nat:=if (cH bs i).a=u then(cH bs i).b else(cH bs i).a
theorem jJ.full {bs:List PB} {f:Nat->Int} {x y:Nat} {val:Int} (h:jJ bs f x y val) {S:Nat->Bool} (hx:S x=true) (hy:S y=false)
  (hS:∀i,i<bs.length->((cH bs i).a≠(cH bs i).b->(S (cH bs i).a=true->S (cH bs i).b=false->¬0<fw bs f i (cH bs i).a)/\(S (cH bs i).b=true->S (cH bs i).a=false->¬0<fw bs f i (cH bs i).b))):val=iO S bs:=by
 rw[<-h.cut S hx hy,tZ]
 refine gT fun i hi=>?_
 have h1:=h.le i hi
 by_cases qk:(cH bs i).a=(cH bs i).b
 ·rw[qk];simp
 ·have h2:=hS i hi qk
  unfold fw at h2
  rw[if_pos rfl,if_neg qk]at h2
  cases ha:S (cH bs i).a<;>cases hb:S (cH bs i).b<;>rw[ha,hb]at h2<;>simp[bi]at h2 ⊢ <;>omega
def sI (bs:List PB) (f:Nat->Int) (i u:Nat):Nat->Int:=fun j=>f j+if j=i then(if (cH bs i).a=u then 1 else -1)else 0
theorem EX {S:Nat->Bool} {bs:List PB} {f:Nat->Int} {i u:Nat} (hi:i<bs.length) (hu:(cH bs i).a=u∨(cH bs i).b=u):EW S bs (sI bs f i u)=EW S bs f+bi (S u)-bi (S (bS bs i u)):=by
 unfold EW sI
 have e:∀j,j<bs.length->(f j+if j=i then(if (cH bs i).a=u then 1 else -1)else 0)*(bi (S (cH bs j).a)-bi (S (cH bs j).b))=(fun j=>f j*(bi (S (cH bs j).a)-bi (S (cH bs j).b))) j+if j=i then(if (cH bs i).a=u then 1 else -1)*(bi (S (cH bs i).a)-bi (S (cH bs i).b))else 0:=by
  intro j hj
  by_cases h:j=i
  ·subst h;simp only[if_true];rw[Int.add_mul]
  ·simp only[h,if_false];simp
 rw[gT e,oL,if_pos hi]
 unfold bS
 by_cases ha:(cH bs i).a=u
 ·rw[if_pos ha,if_pos ha,ha];omega
 ·rw[if_neg ha,if_neg ha]
  rcases hu with hu|hu
  ·exact absurd hu ha
  ·rw[hu];omega
theorem nV:∀(n:Nat) (l:List Nat),l.Nodup->(∀x∈l,x<n)->l.length<=n
 |0,l,_,h=>by
  cases l with
  |nil=>simp
  |cons x l=>exact absurd (h x (by simp)) (by omega)
 |n+1,l,hn,h=>by
  have h1:=nV n (l.erase n) (hn.erase _) fun x hx=>by
   have h2:=(hn.mem_erase_iff).1 hx
   have h3:=h x h2.2
   have h4:=h2.1
   omega
  rw[List.length_erase]at h1
  split at h1<;>omega
def eB (L:Nat->Nat) (b:PB):Nat->Nat:=fun k=>if L k=max (L b.a) (L b.b)then min (L b.a) (L b.b)else L k
def ei (bs:List PB):Nat->Nat:=bs.foldl eB id
theorem uE (bs:List PB) (b:PB):ei (bs++[b])=eB (ei bs) b:=by simp[ei]
structure jn (L:Nat->Nat):Prop where
 le:∀k,L k<=k
 idem:∀k,L (L k)=L k
theorem jn.step {L:Nat->Nat} (h:jn L) (b:PB):jn (eB L b):=by
 have ha:=h.idem b.a
 have hb:=h.idem b.b
 refine⟨fun k=>?_,fun k=>?_⟩
 ·have:=h.le k
  unfold eB
  split<;>omega
 ·have hk:=h.idem k
  have hm:L (min (L b.a) (L b.b))=min (L b.a) (L b.b):=by
   rcases Nat.le_total (L b.a) (L b.b)with h1|h1
   ·rw[Nat.min_eq_left h1,ha]
   ·rw[Nat.min_eq_right h1,hb]
  unfold eB
  by_cases h1:L k=max (L b.a) (L b.b)
  ·rw[if_pos h1,hm];split<;>rfl
  ·rw[if_neg h1,hk,if_neg h1]
theorem uF:∀(bs:List PB) (L:Nat->Nat),jn L->jn (bs.foldl eB L)
 |[],_,h=>h
 |b::bs,L,h=>uF bs _ (h.step b)
theorem sF (bs:List PB):jn (ei bs):=uF bs id ⟨fun _=>Nat.le_refl _,fun _=>rfl⟩
def leads (n:Nat) (L:Nat->Nat):List Nat:=(List.range n).filter fun i=>L i==i
def members (n:Nat) (L:Nat->Nat) (i:Nat):List Nat:=(List.range n).filter fun k=>L k==i
def fh (n:Nat) (L:Nat->Nat):List (List Nat):=(leads n L).map (members n L)
def bR (L:Nat->Nat) (k:Nat):Nat:=(leads (L k) L).length
theorem gy (n:Nat) (L:Nat->Nat):leads (n+1) L=leads n L++if L n=n then[n]else[]:=by
 unfold leads
 rw[List.range_succ,List.filter_append]
 congr 1
 by_cases h:L n=n<;>simp[h]
theorem ja (n:Nat) (L:Nat->Nat) (i:Nat):members (n+1) L i=members n L i++if L n=i then[n]else[]:=by
 unfold members
 rw[List.range_succ,List.filter_append]
 congr 1
 by_cases h:L n=i<;>simp[h]
theorem mi {L:Nat->Nat} (h:jn L) {n i:Nat} (hn:n<=i):members n L i=[]:=by
 unfold members
 rw[List.filter_eq_nil_iff]
 intro k hk
 have:=h.le k
 have:=List.mem_range.1 hk
 simp;omega
theorem sG (n:Nat) (L:Nat->Nat):(leads n L).Nodup:=List.nodup_range.filter _
theorem xp {n:Nat} {L:Nat->Nat} {i:Nat}:i∈leads n L↔i<n/\L i=i:=by simp[leads]
theorem k6 {n:Nat} {L:Nat->Nat} {i k:Nat}:k∈members n L i↔k<n/\L k=i:=by simp[members]
theorem FO {L:Nat->Nat} {m n:Nat} (h:m<=n):∃r,leads n L=leads m L++r:=by
 obtain⟨d,rfl⟩:=Nat.le.dest h
 clear h
 induction d with
 |zero=>exact⟨[],by simp⟩
 |succ d ih=>
  obtain⟨r,hr⟩:=ih
  exact⟨r++if L (m+d)=m+d then[m+d]else[],by rw[<-Nat.add_assoc,gy,hr,List.append_assoc]⟩
theorem oB {L:Nat->Nat} (h:jn L) {n k:Nat} (hk:k<n):(leads n L)[bR L k]? =some (L k):=by
 have h1:=h.le k
 obtain⟨r,hr⟩:=FO (L:=L) (show L k+1<=n by omega)
 rw[hr,gy,if_pos (h.idem k),List.append_assoc]
 unfold bR
 rw[List.getElem?_append_right (Nat.le_refl _),Nat.sub_self];rfl
theorem jP {L:Nat->Nat} (h:jn L) {n k:Nat} (hk:k<n):bR L k<(leads n L).length:=(List.getElem?_eq_some_iff.1 (oB h hk)).1
theorem rT {L:Nat->Nat} (h:jn L) {n k i:Nat} (hk:k<n) (hi:i<(leads n L).length):k∈members n L (leads n L)[i]↔bR L k=i:=by
 rw[k6]
 have h1:=oB h hk
 rw[List.getElem?_eq_getElem (jP h hk)]at h1
 injection h1 with h1
 constructor
 ·rintro⟨_,h2⟩
  rw[<-h1]at h2
  exact(List.getElem_inj (sG n L)).1 h2
 ·rintro rfl
  exact⟨hk,h1.symm⟩
def dm (L:Nat->Nat) (bs:List PB):List PB:=bs.filterMap fun b=>if bR L b.a=bR L b.b then none else some ⟨bR L b.a,bR L b.b,b.s⟩
def eM (L:Nat->Nat) (bs:List PB):List PB:=bs.filterMap fun b=>if bR L b.a=bR L b.b then none else some ⟨min (bR L b.a) (bR L b.b),max (bR L b.a) (bR L b.b),b.s⟩
theorem y8 (L:Nat->Nat) (bs:List PB) (b:PB):dm L (bs++[b])=dm L bs++if bR L b.a=bR L b.b then[]else[⟨bR L b.a,bR L b.b,b.s⟩]:=by
 unfold dm
 rw[List.filterMap_append]
 congr 1
 by_cases h:bR L b.a=bR L b.b<;>simp[h]
theorem y9 (L:Nat->Nat) (bs:List PB) (b:PB):eM L (bs++[b])=eM L bs++if bR L b.a=bR L b.b then[]else[⟨min (bR L b.a) (bR L b.b),max (bR L b.a) (bR L b.b),b.s⟩]:=by
 unfold eM
 rw[List.filterMap_append]
 congr 1
 by_cases h:bR L b.a=bR L b.b<;>simp[h]
theorem rl (S:Nat->Bool) (b:PB) (bs:List PB):iO S (b::bs)=(if S b.a=S b.b then 0 else b.s)+iO S bs:=by simp[iO]
theorem wP (S:Nat->Bool) (L:Nat->Nat):∀bs:List PB,iO S (eM L bs)=iO S (dm L bs)
 |[]=>rfl
 |b::bs=>by
  have ih:=wP S L bs
  unfold eM dm at ih ⊢
  rw[List.filterMap_cons,List.filterMap_cons]
  by_cases h:bR L b.a=bR L b.b
  ·simp only[h,if_true];exact ih
  ·simp only[h,if_false]
   rw[rl,rl,ih]
   congr 1
   simp only
   rcases Nat.le_total (bR L b.a) (bR L b.b)with h1|h1
   ·rw[Nat.min_eq_left h1,Nat.max_eq_right h1]
   ·rw[Nat.min_eq_right h1,Nat.max_eq_left h1]
    cases S (bR L b.a)<;>cases S (bR L b.b)<;>rfl
theorem Dh {L:Nat->Nat} (h:jn L) {n:Nat} {bs:List PB} (hb:∀b∈bs,b.a<n/\b.b<n):∀b∈dm L bs,b.a<(leads n L).length/\b.b<(leads n L).length/\b.a≠b.b/\∃c∈bs,b.s=c.s:=by
 intro b hm
 unfold dm at hm
 obtain⟨c,hc,he⟩:=List.mem_filterMap.1 hm
 split at he
 ·cases he
 ·rename_i gF
  simp only[Option.some.injEq]at he
  subst he
  exact⟨jP h (hb c hc).1,jP h (hb c hc).2,gF,c,hc,rfl⟩
theorem Di {L:Nat->Nat} (h:jn L) {n:Nat} {bs:List PB} (hb:∀b∈bs,b.a<n/\b.b<n):∀b∈eM L bs,b.a<(leads n L).length/\b.b<(leads n L).length/\b.a≠b.b/\∃c∈bs,b.s=c.s:=by
 intro b hm
 unfold eM at hm
 obtain⟨c,hc,he⟩:=List.mem_filterMap.1 hm
 split at he
 ·cases he
 ·rename_i gF
  simp only[Option.some.injEq]at he
  subst he
  have h1:=jP h (hb c hc).1
  have h2:=jP h (hb c hc).2
  refine⟨by simp only;omega,by simp only;omega,by simp only;omega,c,hc,rfl⟩
theorem mo (L:Nat->Nat) (bs:List PB):(dm L bs).length<=bs.length/\(eM L bs).length<=bs.length:=⟨List.length_filterMap_le ..,List.length_filterMap_le ..⟩
theorem jw (n:Nat) (L:Nat->Nat):(leads n L).length<=n:=by
 have:=List.length_filter_le (fun i=>L i==i) (List.range n)
 simpa[leads]using this
def aI (t:Int) (bs:List PB):List PB:=bs.filter fun b=>decide (t<=b.s)
def ow (n:Nat) (bs:List PB) (t:Int):Prop:=
 (leads n (ei (aI t bs))).length<=64/\j9 (leads n (ei (aI t bs))).length (dm (ei (aI t bs)) bs) t
theorem CE {n:Nat} {L:Nat->Nat} {bs:List PB} {t:Int}:j9 n (eM L bs) t↔j9 n (dm L bs) t:=by
 unfold j9
 constructor<;>intro h S h0 hy<;>have:=h S h0 hy<;>rw[wP]at *<;>exact this
end Go.Proofs.YtgoljkjaameagaaGreat.V

namespace Go.Proofs.YtgoljkjaameagaaGreat.V
open Go.RowKit
attribute [local irreducible] dL wpOps fu Call
attribute [local go_sem] az eQ ec eY eW cJ upd bJ K.av b4 AV.cells AV.cell rowOf rowsOf part ld rowAt bH bG cX dr fR bo cE dD e6 eF cQ dx cC cz db dc br aJ ck bq cq cm dv dy dw cj bx cD dt bp aA cu bQ fQ bd bY bt aH cW aX cY AV.undef bj bl de dn da dj bV dC dE bK dB dz cr cw List.getD_cons_zero List.getD_cons_succ List.getD_nil List.all_cons List.all_nil Bool.and_true Bool.true_and Bool.and_self Bool.not_true Bool.not_false Option.map_some Option.map_none Option.bind_some Option.bind_none List.length_cons List.length_nil List.take_succ_cons List.take_zero List.take_nil List.drop_succ_cons List.drop_zero List.drop_nil List.head?_cons List.map_cons List.map_nil List.getElem?_cons_zero List.getElem?_cons_succ List.cons_append List.nil_append List.append_nil List.length_map List.set_cons_zero List.set_cons_succ Nat.reduceMul eq_self Int.toNat_natCast Int.natCast_nonneg and_self true_and and_true decide_true decide_false Bool.false_eq_true Nat.zero_add Nat.add_zero List.contains_cons List.contains_nil Bool.or_false Bool.false_or beq_self_eq_true Nat.reduceBEq ne_eq not_true_eq_false not_false_eq_true Id.mk.injEq false_and and_false Nat.reduceLT Int.reduceLE Int.reduceLT Int.reduceToNat Int.reduceNeg Int.reduceAdd Nat.le_refl List.length_append beq_true beq_false Bool.not_eq_eq_eq_not or_false false_or dd ae ai ay bh bD aG aM aD aL bZ bm
def aw (b:PB):List AV:=[.int .i64 b.a,.int .i64 b.b,.int .i64 b.s]
theorem Ma:∀b:PB,(aw b).length=3/\(aw b).all AV.cell=true:=fun _=>⟨rfl,rfl⟩
theorem yd (g:Rows) (n:Nat) (b:PB):cI g (n+1) (aw b)=some (aw b):=by simp[aw,ae,ai,ay]
theorem tj (g:Rows) (n:Nat) (b:PB):dR g (n+1) (aw b)=some (aw b):=by simp[aw,bC,cG,ek]
theorem He:O6 aw (fun c=>.agg (aw c)) 3 true:=⟨fun _=>rfl,fun _=>rfl,fun x g=>by simp only[aw,ae,ai,aM,ay,Option.map_some]⟩
def l7 (s:aq) (l:List ad) (i:Nat) (d:Int):List PB:=
 if 0<=eG l (dM (bc l i).aW d)/\0<gD s (bc l i).aZ d (bc l (eG l (dM (bc l i).aW d)).toNat).aZ then
  [⟨i,(eG l (dM (bc l i).aW d)).toNat,gD s (bc l i).aZ d (bc l (eG l (dM (bc l i).aW d)).toNat).aZ⟩]else[]
def fU (s:aq) (l:List ad) (i m:Nat):List PB:=(List.range m).flatMap fun j:Nat=>l7 s l i (1-(j:Int))
def gu (s:aq) (l:List ad) (n:Nat):List PB:=(List.range n).flatMap fun i=>fU s l i 2
def cL (s:aq) (l:List ad):List PB:=gu s l l.length
theorem oZ (s:aq) (l:List ad) (i m:Nat):fU s l i (m+1)=fU s l i m++l7 s l i (1-(m:Int)):=by simp[fU,List.range_succ]
theorem qa (s:aq) (l:List ad) (n:Nat):gu s l (n+1)=gu s l n++fU s l n 2:=by simp[gu,List.range_succ]
theorem B4 (s:aq) (l:List ad) (i:Nat) (d:Int):(l7 s l i d).length<=1:=by unfold l7;split<;>simp
theorem p9 (s:aq) (l:List ad) (i m:Nat):(fU s l i m).length<=m:=by
 induction m with
 |zero=>simp[fU]
 |succ m ih=>rw[oZ,List.length_append];have:=B4 s l i (1-(m:Int));omega
theorem si (s:aq) (l:List ad) (n:Nat):(gu s l n).length<=2*n:=by
 induction n with
 |zero=>simp[gu]
 |succ n ih=>rw[qa,List.length_append];have:=p9 s l n 2;omega
def sB:Id->Prop:=fun o=>o.site=124001000∨o.site=124012006
theorem CQ (s:aq) (l:List ad) (hS:j8 s) (hA:gN s l):ak Tryz.prog 124 [.cN (ab s),.cN [.sl (l.map aa)]] (.sl ((cL s l).map aw)):=by
 refine ak.body eb rfl fun hl n0=>?_
 clear hl
 have hF:=hA.1
 have Fk:=hF.sU
 (try((repeat(revert hN;revert N;apply Pn.out));refine wk @Nat.zero_add ?_;(repeat(refine Pn.mk ?_;intro N hN))))
 refine aY (fun n env st=>∃k:Nat,n=(l.length)-k/\k<=(l.length)/\env 6=.int .i64 (k:Int)/\(lZ aw 3 (env 5) st.get sB (gu s l k))) (l.length) ⟨0,by omega,by omega,sl @Nat.zero_add,⟨⟨124001000,n0+1⟩,.inl rfl,by simp only[go_sem, ↓reduceIte,Nat.reduceEqDiff,Nat.reduceAdd,Nat.reduceSub,Nat.reduceLeDiff,reduceCtorEq];rfl,by simp only[go_sem, ↓reduceIte,Nat.reduceEqDiff,Nat.reduceAdd,Nat.reduceSub,Nat.reduceLeDiff,reduceCtorEq];rfl⟩⟩ ?_
 rintro n_a env_a st_a ⟨k,rfl,ale,a6,mJ⟩ dU
 have a0:=dU 0 (by kernel_rfl);have a1:=dU 1 (by kernel_rfl)
 simp only[go_sem, ↓reduceIte,Nat.reduceEqDiff,Nat.reduceAdd,Nat.reduceSub,Nat.reduceLeDiff,reduceCtorEq]at a0 a1
 clear dU
 by_cases hk:(k:Int)<(l.length:Int)
 ·have cK:∀{e:Env} {gg:Rows},(e 6=.int .i64 (IntKind.i64.wrap ((k:Int)+1)))->(lZ aw 3 (e 5) gg sB (gu s l (k+1)))->∃m0,m0<(l.length)-k/\∃k:Nat,m0=(l.length)-k/\k<=(l.length)/\e 6=.int .i64 (k:Int)/\(lZ aw 3 (e 5) gg sB (gu s l k)):=fun x1 x2=>⟨_,by omega,k+1,rfl,by omega,(by rw[x1,ax (by omega)]),x2⟩
  have eU:k<l.length:=by omega
  have ea:=fH eU
  have hul:=si s l k
  (try((repeat(revert hN;revert N;apply Pn.out));refine wk (tw @a6 (tw @a0 (tw @a1 @hk))) ?_;(repeat(refine Pn.mk ?_;intro N hN))))
  refine aY (fun n env st=>∃m:Nat,n=(2)-m/\m<=(2)/\env 7=(.int .i64 (1-(m:Int)))/\(lZ aw 3 (env 5) st.get sB (gu s l k++fU s l k m))) (2) ⟨0,by omega,by omega,sl (tw @a6 (tw @a0 @a1)),by(simp only[go_sem, ↓reduceIte,Nat.reduceEqDiff,Nat.reduceAdd,Nat.reduceSub,Nat.reduceLeDiff,reduceCtorEq];exact mJ.cast (by simp[fU]))⟩ ?_
  rintro n_b env_b st_b ⟨m,rfl,ble,b7,bI0⟩ bfr
  have b0:=bfr 0 (by kernel_rfl);have b1:=bfr 1 (by kernel_rfl);have b6:=bfr 6 (by kernel_rfl)
  simp only[go_sem, ↓reduceIte,Nat.reduceEqDiff,Nat.reduceAdd,Nat.reduceSub,Nat.reduceLeDiff,reduceCtorEq,a6,a0,a1]at b0 b1 b6
  clear bfr
  have Rv:=p9 s l k m
  have kY:=oZ s l k m
  by_cases hm:(m:Int)<2
  ·have gK:∀{e:Env} {gg:Rows},(e 7=(.int .i64 (1-((m+1):Int))))->(lZ aw 3 (e 5) gg sB (gu s l k++fU s l k (m+1)))->∃m0,m0<(2)-m/\∃m:Nat,m0=(2)-m/\m<=(2)/\e 7=(.int .i64 (1-(m:Int)))/\(lZ aw 3 (e 5) gg sB (gu s l k++fU s l k m)):=fun x1 x2=>⟨_,by omega,m+1,rfl,by omega,x1,x2⟩
   have oA:(0:Int)<=1-(m:Int):=by omega
   have hd:iI (1-(m:Int)) 0 3=true:=mh (by omega)
   have hw:IntKind.i64.wrap (1-(m:Int)-1)=1-((m:Int)+1):=by rw[bE (by omega)];omega
   have RJ:=wh l hF k (1-(m:Int)) eU hd
   unfold l7 at kY
   have hT:=hA.2 _ (iy eU)
   generalize yu:eG l (dM (bc l k).aW (1-(m:Int)))=ix at *
   by_cases hi:ix<0
   ·rw[if_neg (by omega),List.append_nil]at kY
    (repeat(first|((repeat(revert hN;revert N;apply Pn.out));refine wk (tw @b7 (tw @b0 (tw @b1 (tw @b6 (tw @oA (tw @hw @hi)))))) ?_;(repeat(refine Pn.mk ?_;intro N hN)))|((try apply Or.inl);refine⟨_,ak.x (RJ) (sd (tw @b7 (tw @b0 (tw @b1 (tw @b6 (tw @oA (tw @hw @hi))))))),?_⟩;refine hN _ _ ?_;clear hN N)))
    exact gK (sd (tw @b7 (tw @b0 (tw @b1 (tw @b6 @hw))))) (by(simp only[go_sem, ↓reduceIte,Nat.reduceEqDiff,Nat.reduceAdd,Nat.reduceSub,Nat.reduceLeDiff,reduceCtorEq];exact bI0.cast (by rw[kY])))
   ·have Ec:0<=ix:=by omega
    have Ng:=me (l:=l) (p:=dM (bc l k).aW (1-(m:Int))) (by omega)
    rw[yu]at Ng
    have mW:=fH Ng.1
    have rH:=xl s hS (bc l k).aZ (1-(m:Int)) (bc l ix.toNat).aZ hT (hA.2 _ (iy Ng.1)) hd
    generalize Rt:gD s (bc l k).aZ (1-(m:Int)) (bc l ix.toNat).aZ=bv at *
    by_cases hb:0<bv
    ·rw[if_pos ⟨Ec,hb⟩]at kY
     (repeat(first|((repeat(revert hN;revert N;apply Pn.out));refine wa (tw @b7 (tw @b0 (tw @b1 (tw @b6 (tw @oA (tw @hw (tw @hi (tw @Ec (tw @ea (tw @mW (tw @hb @aa.eq_1))))))))))) ?_;(repeat(refine Pn.mk ?_;intro N hN)))|((try apply Or.inl);refine⟨_,ak.x (RJ) (sd (tw @b7 (tw @b0 (tw @b1 (tw @b6 (tw @oA (tw @hw (tw @hi (tw @Ec (tw @ea (tw @mW (tw @hb @aa.eq_1)))))))))))),?_⟩;refine hN _ _ ?_;clear hN N)|((try apply Or.inl);refine⟨_,ak.x (rH) (sd (tw @b7 (tw @b0 (tw @b1 (tw @b6 (tw @oA (tw @hw (tw @hi (tw @Ec (tw @ea (tw @mW (tw @hb @aa.eq_1)))))))))))),?_⟩;refine hN _ _ ?_;clear hN N)))
     refine Oa (enc:=aw) (S:=sB) (L:=gu s l k++fU s l k m) (xv:=env_b 5) [⟨k,ix.toNat,bv⟩] rfl rfl (sd @Nat.zero_add) (bI0.frame fun o ho=>by rcases ho with ho|ho<;>simp only[go_sem, ↓reduceIte,Nat.reduceEqDiff,Nat.reduceAdd,Nat.reduceSub,Nat.reduceLeDiff,reduceCtorEq,za ho]) (sd (tw @aw.eq_1 (Int.toNat_of_nonneg Ec))) Ma (.inr rfl) (by simp only[cY,List.length_append,List.length_cons,List.length_nil];omega) fun v g' hO jY=>?_
     rw[List.append_assoc,<-kY]at hO
     clear jY
     (try((repeat(revert hN;revert N;apply Pn.out));refine wk (tw @b7 (tw @b0 (tw @b1 (tw @b6 @hw)))) ?_;(repeat(refine Pn.mk ?_;intro N hN))))
     exact gK (sd (tw @b7 (tw @b0 (tw @b1 (tw @b6 @hw))))) (by(simp only[go_sem, ↓reduceIte,Nat.reduceEqDiff,Nat.reduceAdd,Nat.reduceSub,Nat.reduceLeDiff,reduceCtorEq];exact hO))
    ·rw[if_neg fun h=>hb h.2,List.append_nil]at kY
     (repeat(first|((repeat(revert hN;revert N;apply Pn.out));refine wk (tw @b7 (tw @b0 (tw @b1 (tw @b6 (tw @oA (tw @hw (tw @hi (tw @Ec (tw @ea (tw @mW (tw @hb @aa.eq_1))))))))))) ?_;(repeat(refine Pn.mk ?_;intro N hN)))|((try apply Or.inl);refine⟨_,ak.x (RJ) (sd (tw @b7 (tw @b0 (tw @b1 (tw @b6 (tw @oA (tw @hw (tw @hi (tw @Ec (tw @ea (tw @mW (tw @hb @aa.eq_1)))))))))))),?_⟩;refine hN _ _ ?_;clear hN N)|((try apply Or.inl);refine⟨_,ak.x (rH) (sd (tw @b7 (tw @b0 (tw @b1 (tw @b6 (tw @oA (tw @hw (tw @hi (tw @Ec (tw @ea (tw @mW (tw @hb @aa.eq_1)))))))))))),?_⟩;refine hN _ _ ?_;clear hN N)))
     exact gK (sd (tw @b7 (tw @b0 (tw @b1 (tw @b6 @hw))))) (by(simp only[go_sem, ↓reduceIte,Nat.reduceEqDiff,Nat.reduceAdd,Nat.reduceSub,Nat.reduceLeDiff,reduceCtorEq];exact bI0.cast (by rw[kY])))
  ·have LH:m=2:=by omega
   subst LH
   have dV:¬(0:Int)<=1-((2:Nat):Int):=by omega
   (try((repeat(revert hN;revert N;apply Pn.out));refine wk (tw @b7 (tw @b0 (tw @b1 (tw @b6 @dV)))) ?_;(repeat(refine Pn.mk ?_;intro N hN))))
   exact cK (sd (tw @a6 (tw @a0 (tw @a1 (tw @b7 (tw @b0 (tw @b1 @b6))))))) (by(simp only[go_sem, ↓reduceIte,Nat.reduceEqDiff,Nat.reduceAdd,Nat.reduceSub,Nat.reduceLeDiff,reduceCtorEq];exact bI0.cast (by rw[qa])))
 ·have kJ:k=l.length:=by omega
  (try((repeat(revert hN;revert N;apply Pn.out));refine wk (tw @a6 (tw @a0 (tw @a1 @hk))) ?_;(repeat(refine Pn.mk ?_;intro N hN))))
  exact uV (.inl rfl) (by simp only[go_sem, ↓reduceIte,Nat.reduceEqDiff,Nat.reduceAdd,Nat.reduceSub,Nat.reduceLeDiff,reduceCtorEq];rfl) (by rw[kJ]at mJ;exact mJ.ga fun b=>tj _ _ b)
theorem AG (a b:Nat):ak Tryz.prog 192 [.int .i64 a,.int .i64 b] (.int .i64 (min a b:Nat)):=by
 refine ak.body eb rfl fun hl n0=>?_
 clear hl
 by_cases h:(a:Int)<(b:Int)
 ·(try((repeat(revert hN;revert N;apply Pn.out));refine wk @h ?_;(repeat(refine Pn.mk ?_;intro N hN))))
  exact bL (b:=(a:Int)) (.inl rfl) (sd @Nat.zero_add) (by omega)
 ·(try((repeat(revert hN;revert N;apply Pn.out));refine wk @h ?_;(repeat(refine Pn.mk ?_;intro N hN))))
  exact bL (b:=(b:Int)) (.inl rfl) (sd @Nat.zero_add) (by omega)
theorem AF (a b:Nat):ak Tryz.prog 191 [.int .i64 a,.int .i64 b] (.int .i64 (max a b:Nat)):=by
 refine ak.body eb rfl fun hl n0=>?_
 clear hl
 by_cases h:(b:Int)<(a:Int)
 ·(try((repeat(revert hN;revert N;apply Pn.out));refine wk @h ?_;(repeat(refine Pn.mk ?_;intro N hN))))
  exact bL (b:=(a:Int)) (.inl rfl) (sd @Nat.zero_add) (by omega)
 ·(try((repeat(revert hN;revert N;apply Pn.out));refine wk @h ?_;(repeat(refine Pn.mk ?_;intro N hN))))
  exact bL (b:=(b:Int)) (.inl rfl) (sd @Nat.zero_add) (by omega)
def dI (f:Nat->Nat) (n:Nat):List (List AV):=(List.range n).map fun i=>eN (f i)
theorem fW (f:Nat->Nat) (n:Nat):(dI f n).length=n:=by simp[dI]
theorem fa {f:Nat->Nat} {n i:Nat} (h:i<n):(dI f n)[i]? =some (eN (f i)):=by simp[dI,h]
theorem gG {f g:Nat->Nat} {n:Nat} (h:∀i,i<n->f i=g i):dI f n=dI g n:=List.map_congr_left fun i hi=>by rw[h i (List.mem_range.1 hi)]
theorem oM {f g:Nat->Nat} {n k v:Nat} (hk:k<n) (hv:g k=v) (h:∀i,i<n->i≠k->g i=f i):(dI f n).set k (eN v)=dI g n:=by
 refine List.ext_getElem? fun i=>?_
 rw[List.getElem?_set]
 by_cases hi:k=i
 ·subst hi
  rw[if_pos rfl,fW,if_pos hk,fa hk,hv]
 ·rw[if_neg hi]
  by_cases fJ:i<n
  ·rw[fa fJ,fa fJ,h i fJ (fun h=>hi h.symm)]
  ·rw[List.getElem?_eq_none (by rw[fW];omega),List.getElem?_eq_none (by rw[fW];omega)]
theorem AI (cnt:Nat) (hn:cnt<=1048576) (bs:List PB) (hb:∀b∈bs,b.a<cnt/\b.b<cnt) (nk:bs.length<=1048576):ak Tryz.prog 125 [.int .i64 cnt,.sl (bs.map aw)] (.sl ((fh cnt (ei bs)).map zr)):=by
 refine ak.body eb rfl fun hl n0=>?_
 clear hl
 (try((repeat(revert hN;revert N;apply Pn.out));refine wk @Nat.zero_add ?_;(repeat(refine Pn.mk ?_;intro N hN))))
 refine aY (fun n env st=>∃k:Nat,n=(cnt)-k/\k<=(cnt)/\env 6=.int .i64 (k:Int)/\(∃o:Id,env 5=.own o 0 k/\st.get o=some ⟨true,1,dI id k⟩/\o.bW<st.next)) (cnt) ⟨0,by omega,by omega,sl @Nat.zero_add,⟨⟨125001000,n0+1⟩,sd @Nat.zero_add,by simp only[go_sem, ↓reduceIte,Nat.reduceEqDiff,Nat.reduceAdd,Nat.reduceSub,Nat.reduceLeDiff,reduceCtorEq];rfl,by(try dsimp only);omega⟩⟩ ?_
 rintro n_a env_a st_a ⟨k,rfl,ale,a6,mJ⟩ dU
 have a0:=dU 0 (by kernel_rfl);have a1:=dU 1 (by kernel_rfl)
 simp only[go_sem, ↓reduceIte,Nat.reduceEqDiff,Nat.reduceAdd,Nat.reduceSub,Nat.reduceLeDiff,reduceCtorEq]at a0 a1
 clear dU
 obtain⟨o,a5,ag,s4⟩:=mJ
 have tl:=fW id k
 have qW:=ef s4
 by_cases hk:(k:Int)<(cnt:Int)
 ·have cK:∀{e:Env} {gg:Rows} {nx:Nat},(e 6=.int .i64 (IntKind.i64.wrap ((k:Int)+1)))->(∃o:Id,e 5=.own o 0 (k+1)/\gg o=some ⟨true,1,dI id (k+1)⟩/\o.bW<nx)->∃m0,m0<(cnt)-k/\∃k:Nat,m0=(cnt)-k/\k<=(cnt)/\e 6=.int .i64 (k:Int)/\(∃o:Id,e 5=.own o 0 k/\gg o=some ⟨true,1,dI id k⟩/\o.bW<nx):=fun x1 x2=>⟨_,by omega,k+1,rfl,by omega,(by rw[x1,ax (by omega)]),x2⟩
  have eU:k<cnt:=by omega
  have e1:k+1<=16777216:=by omega
  have rL:dI id k++[[.int .i64 (k:Int)]]=dI id (k+1):=by simp[dI,List.range_succ,eN]
  (try((repeat(revert hN;revert N;apply Pn.out));refine wk (tw @a6 (tw @a0 (tw @a1 (tw @a5 (tw @ag (tw @qW (tw @hk (tw @tl (tw @e1 @rL))))))))) ?_;(repeat(refine Pn.mk ?_;intro N hN))))
  exact cK (sd (tw @a6 (tw @a0 @a1))) (⟨⟨125005003,st_a.next+1⟩,sd @Nat.zero_add,sd @rL,by(try dsimp only);omega⟩)
 have kJ:k=cnt:=by omega
 subst kJ
 have Tm:st_a.get o=some ⟨true,1,dI (ei (bs.take 0)) k⟩:=ag
 clear ag
 (try((repeat(revert hN;revert N;apply Pn.out));refine wk (tw @a6 (tw @a0 (tw @a1 @hk))) ?_;(repeat(refine Pn.mk ?_;intro N hN))))
 refine aY (fun n env st=>∃j:Nat,n=(bs.length)-j/\j<=(bs.length)/\env 7=.int .i64 (j:Int)/\st.get o=some ⟨true,1,dI (ei (bs.take j)) k⟩/\(o.bW<st.next)) (bs.length) ⟨0,by omega,by omega,sl (tw @a6 (tw @a0 (tw @a1 (tw @a5 @Tm)))),sl (tw @a6 (tw @a0 (tw @a1 (tw @a5 @Tm)))),(by(try dsimp only);omega)⟩ ?_
 rintro n_b env_b st_b ⟨j,rfl,ble,b7,bg0,bI0⟩ bfr
 have b0:=bfr 0 (by kernel_rfl);have b1:=bfr 1 (by kernel_rfl);have b5:=bfr 5 (by kernel_rfl)
 simp only[go_sem, ↓reduceIte,Nat.reduceEqDiff,Nat.reduceAdd,Nat.reduceSub,Nat.reduceLeDiff,reduceCtorEq,a6,a0,a1,a5,Tm]at b0 b1 b5
 clear bfr
 by_cases hj:(j:Int)<(bs.length:Int)
 ·have gK:∀{e:Env} {gg:Rows} {nx:Nat},(e 7=.int .i64 (IntKind.i64.wrap ((j:Int)+1)))->(gg o=some ⟨true,1,dI (ei (bs.take (j+1))) k⟩)->(o.bW<nx)->∃m0,m0<(bs.length)-j/\∃j:Nat,m0=(bs.length)-j/\j<=(bs.length)/\e 7=.int .i64 (j:Int)/\gg o=some ⟨true,1,dI (ei (bs.take j)) k⟩/\(o.bW<nx):=fun x1 x2 x3=>⟨_,by omega,j+1,rfl,by omega,(by rw[x1,ax (by omega)]),x2,x3⟩
  have iH:j<bs.length:=by omega
  have D9:(bs.map aw)[j]? =some (aw bs[j]):=by simp[iH]
  have Lv:=hb _ (List.getElem_mem iH)
  have nq:bs.take (j+1)=bs.take j++[bs[j]]:=List.take_succ_eq_append_getElem iH
  have kY:ei (bs.take (j+1))=eB (ei (bs.take j)) bs[j]:=by rw[nq,uE]
  generalize ei (bs.take j)=L at *
  generalize bs[j]=b at *
  have hA:=fa (f:=L) Lv.1
  have hB:=fa (f:=L) Lv.2
  have Rm:=AG (L b.a) (L b.b)
  have Rn:=AF (L b.a) (L b.b)
  have tl:=fW L k
  have gq:(b.a:Int)<(k:Int):=by omega
  have fM:(b.b:Int)<(k:Int):=by omega
  (try((repeat(revert hN;revert N;apply Pn.out));refine wk (tw @b7 (tw @bg0 (tw @b0 (tw @b1 (tw @b5 (tw @hj (tw @D9 (tw @aw.eq_1 (tw @hA (tw @hB (tw @gq (tw @fM (tw @tl @eN.eq_1))))))))))))) ?_;(repeat(refine Pn.mk ?_;intro N hN))))
  refine aY (fun n env st=>∃i:Nat,n=(k)-i/\i<=(k)/\env 10=.int .i64 (i:Int)/\st.get o=some ⟨true,1,dI (fun x=>if x<i then eB L b x else L x) k⟩/\(o.bW<st.next)) (k) ⟨0,by omega,by omega,sl (tw @b7 (tw @bg0 (tw @b0 (tw @b1 (tw @b5 @Nat.not_lt_zero))))),sl (tw @b7 (tw @bg0 (tw @b0 (tw @b1 (tw @b5 @Nat.not_lt_zero))))),(by(try dsimp only);omega)⟩ ?_
  rintro n_c env_c st_c ⟨i,rfl,cle,jh,cg0,cI0⟩ cfr
  have c0:=cfr 0 (by kernel_rfl);have c1:=cfr 1 (by kernel_rfl);have c5:=cfr 5 (by kernel_rfl);have c7:=cfr 7 (by kernel_rfl);have c8:=cfr 8 (by kernel_rfl);have c9:=cfr 9 (by kernel_rfl)
  simp only[go_sem, ↓reduceIte,Nat.reduceEqDiff,Nat.reduceAdd,Nat.reduceSub,Nat.reduceLeDiff,reduceCtorEq,b7,bg0,b0,b1,b5,Nat.not_lt_zero]at c0 c1 c5 c7 c8 c9
  clear cfr
  have hC:=fa (f:=fun x=>if x<i then eB L b x else L x) (n:=k) (i:=i)
  have tc:=fW (fun x=>if x<i then eB L b x else L x) k
  by_cases hi:(i:Int)<(k:Int)
  ·have gL:∀{e:Env} {gg:Rows} {nx:Nat},(e 10=.int .i64 (IntKind.i64.wrap ((i:Int)+1)))->(gg o=some ⟨true,1,dI (fun x=>if x<(i+1)then eB L b x else L x) k⟩)->(o.bW<nx)->∃m0,m0<(k)-i/\∃i:Nat,m0=(k)-i/\i<=(k)/\e 10=.int .i64 (i:Int)/\gg o=some ⟨true,1,dI (fun x=>if x<i then eB L b x else L x) k⟩/\(o.bW<nx):=fun x1 x2 x3=>⟨_,by omega,i+1,rfl,by omega,(by rw[x1,ax (by omega)]),x2,x3⟩
   have fJ:i<k:=by omega
   replace hC:=hC fJ
   rw[if_neg (Nat.lt_irrefl i)]at hC
   by_cases he:L i=max (L b.a) (L b.b)
   ·have vE:decide ((L i:Int)=((max (L b.a) (L b.b):Nat):Int))=true:=decide_eq_true (by rw[he])
    have eo:(dI (fun x=>if x<i then eB L b x else L x) k).set i (eN (min (L b.a) (L b.b)))=dI (fun x=>if x<i+1 then eB L b x else L x) k:=oM fJ (by rw[if_pos (by omega),eB,if_pos he]) fun x hx BH=>by
     by_cases h:x<i
     ·rw[if_pos h,if_pos (by omega)]
     ·rw[if_neg h,if_neg (by omega)]
    rw[eN]at eo hC
    (repeat(first|((repeat(revert hN;revert N;apply Pn.out));refine wk (tw @jh (tw @cg0 (tw @c0 (tw @c1 (tw @c5 (tw @c7 (tw @c8 (tw @c9 (tw @hi (tw @hC (tw @tc (tw @vE @eo)))))))))))) ?_;(repeat(refine Pn.mk ?_;intro N hN)))|((try apply Or.inl);refine⟨_,ak.x (Rm) (sd (tw @jh (tw @cg0 (tw @c0 (tw @c1 (tw @c5 (tw @c7 (tw @c8 (tw @c9 (tw @hi (tw @hC (tw @tc (tw @vE @eo))))))))))))),?_⟩;refine hN _ _ ?_;clear hN N)|((try apply Or.inl);refine⟨_,ak.x (Rn) (sd (tw @jh (tw @cg0 (tw @c0 (tw @c1 (tw @c5 (tw @c7 (tw @c8 (tw @c9 (tw @hi (tw @hC (tw @tc (tw @vE @eo))))))))))))),?_⟩;refine hN _ _ ?_;clear hN N)))
    refine gL ?_ ?_ (by(try dsimp only);omega)
    all_goals simp only[go_sem, ↓reduceIte,Nat.reduceEqDiff,Nat.reduceAdd,Nat.reduceSub,Nat.reduceLeDiff,reduceCtorEq,jh,cg0,c0,c1,c5,c7,c8,c9]
   ·have vE:decide ((L i:Int)=((max (L b.a) (L b.b):Nat):Int))=false:=decide_eq_false fun h=>he (by omega)
    have lJ:dI (fun x=>if x<i then eB L b x else L x) k=dI (fun x=>if x<i+1 then eB L b x else L x) k:=gG fun x hx=>by
     by_cases h:x<i
     ·rw[if_pos h,if_pos (by omega)]
     ·by_cases BH:x=i
      ·subst BH;rw[if_neg h,if_pos (by omega),eB,if_neg he]
      ·rw[if_neg h,if_neg (by omega)]
    rw[eN]at hC
    (repeat(first|((repeat(revert hN;revert N;apply Pn.out));refine wk (tw @jh (tw @cg0 (tw @c0 (tw @c1 (tw @c5 (tw @c7 (tw @c8 (tw @c9 (tw @hi (tw @hC (tw @tc @vE))))))))))) ?_;(repeat(refine Pn.mk ?_;intro N hN)))|((try apply Or.inl);refine⟨_,ak.x (Rm) (sd (tw @jh (tw @cg0 (tw @c0 (tw @c1 (tw @c5 (tw @c7 (tw @c8 (tw @c9 (tw @hi (tw @hC (tw @tc @vE)))))))))))),?_⟩;refine hN _ _ ?_;clear hN N)|((try apply Or.inl);refine⟨_,ak.x (Rn) (sd (tw @jh (tw @cg0 (tw @c0 (tw @c1 (tw @c5 (tw @c7 (tw @c8 (tw @c9 (tw @hi (tw @hC (tw @tc @vE)))))))))))),?_⟩;refine hN _ _ ?_;clear hN N)))
    rw[lJ]at cg0
    refine gL ?_ ?_ (by(try dsimp only);omega)
    all_goals simp only[go_sem, ↓reduceIte,Nat.reduceEqDiff,Nat.reduceAdd,Nat.reduceSub,Nat.reduceLeDiff,reduceCtorEq,jh,cg0,c0,c1,c5,c7,c8,c9]
  ·have w8:i=k:=by omega
   subst w8
   have dH:dI (fun x=>if x<i then eB L b x else L x) i=dI (eB L b) i:=gG fun x hx=>if_pos hx
   rw[dH]at cg0
   rw[<-kY]at cg0
   (try((repeat(revert hN;revert N;apply Pn.out));refine wk (tw @jh (tw @cg0 (tw @c0 (tw @c1 (tw @c5 (tw @c7 (tw @c8 (tw @c9 (tw @hi @tc))))))))) ?_;(repeat(refine Pn.mk ?_;intro N hN))))
   refine gK ?_ ?_ (by(try dsimp only);omega)
   all_goals simp only[go_sem, ↓reduceIte,Nat.reduceEqDiff,Nat.reduceAdd,Nat.reduceSub,Nat.reduceLeDiff,reduceCtorEq,b7,bg0,b0,b1,b5,jh,cg0,c0,c1,c5,c7,c8,c9]
 have gC:j=bs.length:=by omega
 subst gC
 rw[List.take_length]at bg0
 have hL:=sF bs
 generalize ei bs=L at *
 have tl:=fW L k
 (try((repeat(revert hN;revert N;apply Pn.out));refine wk (tw @b7 (tw @bg0 (tw @b0 (tw @b1 (tw @b5 @hj))))) ?_;(repeat(refine Pn.mk ?_;intro N hN))))
 have Tn:o.bW<st_b.next:=bI0
 refine aY (fun n env st=>∃i:Nat,n=(k)-i/\i<=(k)/\env 12=.int .i64 (i:Int)/\st.get o=some ⟨true,1,dI L k⟩/\(∃oo rows ids,env 11=.own oo 0 rows.length/\st.get oo=some ⟨true,1,rows⟩/\ev Oz st.get rows ((leads i L).map (members k L)) ids/\(∀x∈oo::ids,st_b.next<=x.bW/\x.bW<st.next)/\st_b.next<=st.next/\oo∉ids)) (k) ⟨0,by omega,by omega,sl (tw @b7 (tw @bg0 (tw @b0 (tw @b1 (tw @b5 (ef Tn)))))),sl (tw @b7 (tw @bg0 (tw @b0 (tw @b1 (tw @b5 (ef Tn)))))),⟨⟨125016000,st_b.next+1⟩,[],[],by(simp only[go_sem, ↓reduceIte,Nat.reduceEqDiff,Nat.reduceAdd,Nat.reduceSub,Nat.reduceLeDiff,reduceCtorEq])<;>rfl,sd @Nat.zero_add,.nil,fun x hx=>by rw[List.mem_singleton.1 hx];(try dsimp only);omega,by(try dsimp only);omega,by simp⟩⟩ ?_
 rintro n_d env_d st_d ⟨i,rfl,dle,d12,dg0,dI0⟩ dfr
 have d0:=dfr 0 (by kernel_rfl);have d5:=dfr 5 (by kernel_rfl)
 simp only[go_sem, ↓reduceIte,Nat.reduceEqDiff,Nat.reduceAdd,Nat.reduceSub,Nat.reduceLeDiff,reduceCtorEq,b7,bg0,b0,b1,b5,ef Tn]at d0 d5
 clear dfr
 obtain⟨oo,rows,ids,d11,dg,hR,nh,hle,HI⟩:=dI0
 have rL:=gy i L
 have mb:=hR.len
 by_cases hi:(i:Int)<(k:Int)
 ·have sH:∀{e:Env} {gg:Rows} {nx:Nat},(e 12=.int .i64 (IntKind.i64.wrap ((i:Int)+1)))->(gg o=some ⟨true,1,dI L k⟩)->(∃oo rows ids,e 11=.own oo 0 rows.length/\gg oo=some ⟨true,1,rows⟩/\ev Oz gg rows ((leads (i+1) L).map (members k L)) ids/\(∀x∈oo::ids,st_b.next<=x.bW/\x.bW<nx)/\st_b.next<=nx/\oo∉ids)->∃m0,m0<(k)-i/\∃i:Nat,m0=(k)-i/\i<=(k)/\e 12=.int .i64 (i:Int)/\gg o=some ⟨true,1,dI L k⟩/\(∃oo rows ids,e 11=.own oo 0 rows.length/\gg oo=some ⟨true,1,rows⟩/\ev Oz gg rows ((leads i L).map (members k L)) ids/\(∀x∈oo::ids,st_b.next<=x.bW/\x.bW<nx)/\st_b.next<=nx/\oo∉ids):=fun x1 x2 x3=>⟨_,by omega,i+1,rfl,by omega,(by rw[x1,ax (by omega)]),x2,x3⟩
  have fJ:i<k:=by omega
  have hC:=fa (f:=L) fJ
  have mN:=ef (i:=o) (n:=st_d.next) (by omega)
  have Qs:=ef (i:=oo) (n:=st_d.next) (nh oo (by simp)).2
  by_cases he:L i=i
  ·rw[if_pos he]at rL
   have vE:decide ((L i:Int)=(i:Int))=true:=decide_eq_true (by rw[he])
   rw[eN]at hC
   (try((repeat(revert hN;revert N;apply Pn.out));refine wk (tw @d12 (tw @dg0 (tw @d0 (tw @d5 (tw @d11 (tw @dg (tw @hi (tw @hC (tw @tl (tw @vE (tw @mN @Qs))))))))))) ?_;(repeat(refine Pn.mk ?_;intro N hN))))
   refine aY (fun n env st=>∃m:Nat,n=((k-i))-m/\m<=((k-i))/\env 14=(.int .i64 ((i+m:Nat):Int))/\(∃pp:Id,env 13=.own pp 0 (members (i+m) L i).length/\st.get pp=some ⟨true,1,(members (i+m) L i).map eN⟩/\st_d.next<=pp.bW/\pp.bW<st.next/\(∀x:Id,x.bW<st_d.next->st.get x=st_d.get x)/\st_d.next<=st.next)) ((k-i)) ⟨0,by omega,by omega,sl (tw @d12 (tw @dg0 (tw @d0 (tw @d5 @d11)))),⟨⟨125021000,st_d.next+1+1⟩,by rw[show members (i+0) L i=[]from mi hL (Nat.le_refl i)];(simp only[go_sem, ↓reduceIte,Nat.reduceEqDiff,Nat.reduceAdd,Nat.reduceSub,Nat.reduceLeDiff,reduceCtorEq])<;>rfl,by rw[show members (i+0) L i=[]from mi hL (Nat.le_refl i)];(simp only[go_sem, ↓reduceIte,Nat.reduceEqDiff,Nat.reduceAdd,Nat.reduceSub,Nat.reduceLeDiff,reduceCtorEq])<;>rfl,by(try dsimp only);omega,by(try dsimp only);omega,fun x hx=>sd (ef hx),by(try dsimp only);omega⟩⟩ ?_
   rintro n_f env_f st_f ⟨m,rfl,fle,f14,fI0⟩ ffr
   have f0:=ffr 0 (by kernel_rfl);have f5:=ffr 5 (by kernel_rfl);have f11:=ffr 11 (by kernel_rfl);have f12:=ffr 12 (by kernel_rfl)
   simp only[go_sem, ↓reduceIte,Nat.reduceEqDiff,Nat.reduceAdd,Nat.reduceSub,Nat.reduceLeDiff,reduceCtorEq,d12,dg0,d0,d5,d11]at f0 f5 f11 f12
   clear ffr
   obtain⟨pp,f13,fg,Np,LK,jY,vG⟩:=fI0
   have vY:st_f.get o=some ⟨true,1,dI L k⟩:=(jY o (by omega)).trans dg0
   have S3:st_f.get oo=some ⟨true,1,rows⟩:=(jY oo (nh oo (by simp)).2).trans dg
   have zw:=ef LK
   have Aw:=ef (i:=o) (n:=st_f.next) (by omega)
   have Qt:=ef (i:=oo) (n:=st_f.next) (by have:=(nh oo (by simp)).2;omega)
   have Nk:members (i+(m+1)) L i=members (i+m) L i++if L (i+m)=i then[i+m]else[]:=ja (i+m) L i
   have Tg:(members (i+m) L i).length<=i+m:=by
    have:=List.length_filter_le (fun k=>L k==i) (List.range (i+m))
    simpa[members]using this
   have x1:=du (a:=o) (b:=pp) (by omega)
   have x2:=du (a:=oo) (b:=pp) (by have:=(nh oo (by simp)).2;omega)
   have x3:=du (a:=o) (b:=oo) (by have:=(nh oo (by simp)).1;omega)
   by_cases hm:m<k-i
   ·have qz:∀{e:Env} {gg:Rows} {nx:Nat},(e 14=(.int .i64 ((i+(m+1):Nat):Int)))->(∃pp:Id,e 13=.own pp 0 (members (i+(m+1)) L i).length/\gg pp=some ⟨true,1,(members (i+(m+1)) L i).map eN⟩/\st_d.next<=pp.bW/\pp.bW<nx/\(∀x:Id,x.bW<st_d.next->gg x=st_d.get x)/\st_d.next<=nx)->∃m0,m0<((k-i))-m/\∃m:Nat,m0=((k-i))-m/\m<=((k-i))/\e 14=(.int .i64 ((i+m:Nat):Int))/\(∃pp:Id,e 13=.own pp 0 (members (i+m) L i).length/\gg pp=some ⟨true,1,(members (i+m) L i).map eN⟩/\st_d.next<=pp.bW/\pp.bW<nx/\(∀x:Id,x.bW<st_d.next->gg x=st_d.get x)/\st_d.next<=nx):=fun x1 x2=>⟨_,by omega,m+1,rfl,by omega,x1,x2⟩
    have Qe:((i+m:Nat):Int)<(k:Int):=by omega
    have Sw:=fa (f:=L) (show i+m<k by omega)
    have hw:IntKind.i64.wrap (((i+m:Nat):Int)+1)=((i+(m+1):Nat):Int):=by rw[bE (by omega)];omega
    rw[eN]at Sw
    by_cases hq:L (i+m)=i
    ·have sY:decide ((L (i+m):Int)=(i:Int))=true:=decide_eq_true (by rw[hq])
     rw[if_pos hq]at Nk
     have e1:(members (i+m) L i).length+1<=16777216:=by omega
     have gR:((members (i+m) L i).map eN).length=(members (i+m) L i).length:=by simp
     (try((repeat(revert hN;revert N;apply Pn.out));refine wk (tw @f14 (tw @f0 (tw @f5 (tw @f11 (tw @f12 (tw @f13 (tw @fg (tw @vY (tw @Qe (tw @Sw (tw @tl (tw @sY (tw @zw (tw @Aw (tw @x1 (tw @e1 @gR)))))))))))))))) ?_;(repeat(refine Pn.mk ?_;intro N hN))))
     exact qz (sd (tw @f14 (tw @f0 (tw @f5 (tw @f11 (tw @f12 (tw @vY (tw @hw (tw @Aw @x1))))))))) (⟨⟨125026003,st_f.next+1+1⟩,by rw[Nk,List.length_append];simp only[go_sem, ↓reduceIte,Nat.reduceEqDiff,Nat.reduceAdd,Nat.reduceSub,Nat.reduceLeDiff,reduceCtorEq,List.length_cons,List.length_nil],by rw[Nk,List.map_append,List.map_cons,List.map_nil];simp only[go_sem, ↓reduceIte,Nat.reduceEqDiff,Nat.reduceAdd,Nat.reduceSub,Nat.reduceLeDiff,reduceCtorEq,eN],by(try dsimp only);omega,by(try dsimp only);omega,fun x hx=>by
      have y1:=jY x hx
      have y2:=du (a:=x) (b:=pp) (by omega)
      simp only[go_sem, ↓reduceIte,Nat.reduceEqDiff,Nat.reduceAdd,Nat.reduceSub,Nat.reduceLeDiff,reduceCtorEq,ef (show x.bW<st_f.next by omega),y1,y2],by(try dsimp only);omega⟩)
    ·have sY:decide ((L (i+m):Int)=(i:Int))=false:=decide_eq_false fun h=>hq (by omega)
     rw[if_neg hq,List.append_nil]at Nk
     (try((repeat(revert hN;revert N;apply Pn.out));refine wk (tw @f14 (tw @f0 (tw @f5 (tw @f11 (tw @f12 (tw @f13 (tw @fg (tw @vY (tw @Qe (tw @Sw (tw @tl (tw @sY (tw @zw (tw @Aw @x1)))))))))))))) ?_;(repeat(refine Pn.mk ?_;intro N hN))))
     exact qz (sd (tw @f14 (tw @f0 (tw @f5 (tw @f11 (tw @f12 (tw @vY @hw))))))) (⟨pp,by rw[Nk];simp only[go_sem, ↓reduceIte,Nat.reduceEqDiff,Nat.reduceAdd,Nat.reduceSub,Nat.reduceLeDiff,reduceCtorEq,f13],by rw[Nk];simp only[go_sem, ↓reduceIte,Nat.reduceEqDiff,Nat.reduceAdd,Nat.reduceSub,Nat.reduceLeDiff,reduceCtorEq,fg],Np,by(try dsimp only);omega,jY,by(try dsimp only);omega⟩)
   ·have hmk:i+m=k:=by omega
    have Qe:¬((i+m:Nat):Int)<(k:Int):=by omega
    rw[hmk]at f13 fg Tg
    have e1:rows.length+1<=16777216:=by
     have:=jw i L
     rw[mb,List.length_map];omega
    (try((repeat(revert hN;revert N;apply Pn.out));refine wk (tw @f14 (tw @f0 (tw @f5 (tw @f11 (tw @f12 (tw @f13 (tw @fg (tw @vY (tw @S3 (tw @Qe (tw @zw (tw @Aw (tw @Qt (tw @x1 (tw @x2 @e1))))))))))))))) ?_;(repeat(refine Pn.mk ?_;intro N hN))))
    refine sH ?_ ?_ (⟨⟨125027003,st_f.next+1⟩,rows++[[.own pp 0 (members k L i).length]],ids++[pp],by rw[List.length_append];simp only[go_sem, ↓reduceIte,Nat.reduceEqDiff,Nat.reduceAdd,Nat.reduceSub,Nat.reduceLeDiff,reduceCtorEq,List.length_cons,List.length_nil],sd @Nat.zero_add,by
      rw[rL,List.map_append]
      refine(hR.frame NM fun x hx=>?_).app (.one ⟨pp,rfl,?_,rfl⟩)
      ·have h1:=nh x (by simp[hx])
       have y1:=jY x h1.2
       have y2:=du (a:=x) (b:=pp) (by omega)
       have y3:(x=oo)=False:=by
        simp only[eq_iff_iff,iff_false]
        rintro rfl
        exact HI hx
       simp only[go_sem, ↓reduceIte,Nat.reduceEqDiff,Nat.reduceAdd,Nat.reduceSub,Nat.reduceLeDiff,reduceCtorEq,ef (show x.bW<st_f.next by omega),y1,y2,y3]
      ·simp only[go_sem, ↓reduceIte,Nat.reduceEqDiff,Nat.reduceAdd,Nat.reduceSub,Nat.reduceLeDiff,reduceCtorEq,zw,x2,fg],fun x hx=>by
      rcases List.mem_cons.1 hx with rfl|hx
      ·(try dsimp only);omega
      ·rcases List.mem_append.1 hx with hx|hx
       ·have:=nh x (by simp[hx]);(try dsimp only);omega
       ·rw[List.mem_singleton.1 hx];(try dsimp only);omega,by(try dsimp only);omega,fun hc=>by
      rcases List.mem_append.1 hc with hc|hc
      ·have:=(nh _ (List.mem_cons_of_mem _ hc)).2;(try dsimp only at this);omega
      ·have:=List.mem_singleton.1 hc;rw[<-this]at LK;(try dsimp only at LK);omega⟩)
    all_goals simp only[go_sem, ↓reduceIte,Nat.reduceEqDiff,Nat.reduceAdd,Nat.reduceSub,Nat.reduceLeDiff,reduceCtorEq,f14,f0,f5,f11,f12,vY,Aw,x3]
  ·rw[if_neg he,List.append_nil]at rL
   have vE:decide ((L i:Int)=(i:Int))=false:=decide_eq_false fun h=>he (by omega)
   rw[eN]at hC
   (try((repeat(revert hN;revert N;apply Pn.out));refine wk (tw @d12 (tw @dg0 (tw @d0 (tw @d5 (tw @d11 (tw @dg (tw @hi (tw @hC (tw @tl (tw @vE (tw @mN @Qs))))))))))) ?_;(repeat(refine Pn.mk ?_;intro N hN))))
   refine sH ?_ ?_ (⟨oo,rows,ids,sd @d11,sd @dg,by rw[rL];exact hR,fun x hx=>by have:=nh x hx;(try dsimp only);omega,by(try dsimp only);omega,HI⟩)
   all_goals simp only[go_sem, ↓reduceIte,Nat.reduceEqDiff,Nat.reduceAdd,Nat.reduceSub,Nat.reduceLeDiff,reduceCtorEq,d12,dg0,d0,d5]
 ·have w8:i=k:=by omega
  (try((repeat(revert hN;revert N;apply Pn.out));refine wk (tw @d12 (tw @dg0 (tw @d0 (tw @d5 (tw @d11 (tw @dg @hi)))))) ?_;(repeat(refine Pn.mk ?_;intro N hN))))
  refine uV (.inl rfl) (by simp only[go_sem, ↓reduceIte,Nat.reduceEqDiff,Nat.reduceAdd,Nat.reduceSub,Nat.reduceLeDiff,reduceCtorEq];rfl) ?_
  rw[qi dg (by simp) (rows':=(fh k L).map zr) (by rw[List.drop_zero,List.take_of_length_le (Nat.le_refl _)];rw[w8]at hR;exact H9 3 hR)]
theorem vn (n:Nat):List.replicate n [AV.int .i64 0]=dI (fun _=>0) n:=by
 refine List.ext_getElem? fun i=>?_
 by_cases h:i<n
 ·rw[fa h,List.getElem?_replicate,if_pos h];rfl
 ·rw[List.getElem?_eq_none (by simp;omega),List.getElem?_eq_none (by rw[fW];omega)]
def cP (cnt:Nat) (L:Nat->Nat) (i m:Nat):Nat->Nat:=fun x=>if bR L x<i then bR L x else if x∈(members cnt L ((leads cnt L).getD i 0)).take m then i else 0
theorem nU (cnt:Nat) (L:Nat->Nat):cP cnt L 0 0=fun _=>0:=by funext x;simp[cP]
theorem sL (t:Int) (bs:List PB) (k:Nat) (h:k<bs.length):aI t (bs.take (k+1))=aI t (bs.take k)++if t<=(bs[k]).s then[bs[k]]else[]:=by
 unfold aI
 rw[List.take_succ_eq_append_getElem h,List.filter_append]
 congr 1
 by_cases h:t<=bs[k].s<;>simp[h]
theorem ve {t:Int} {bs:List PB} {b:PB} (h:b∈aI t bs):b∈bs:=(List.mem_filter.1 h).1
theorem mu (t:Int) (bs:List PB):(aI t bs).length<=bs.length:=List.length_filter_le _ _
theorem AK (cnt:Nat) (hn:cnt<=1048576) (bs:List PB) (hb:∀b∈bs,b.a<cnt/\b.b<cnt) (nk:bs.length<=1048576) (t:Int):ak Tryz.prog 240 [.int .i64 cnt,.sl (bs.map aw),.int .i64 t] (.ij [.int .i64 (leads cnt (ei (aI t bs))).length,.sl ((eM (ei (aI t bs)) bs).map aw)]):=by
 refine ak.body eb rfl fun hl n0=>?_
 clear hl
 (try((repeat(revert hN;revert N;apply Pn.out));refine wk @Nat.zero_add ?_;(repeat(refine Pn.mk ?_;intro N hN))))
 refine aY (fun n env st=>∃k:Nat,n=(bs.length)-k/\k<=(bs.length)/\env 9=.int .i64 (k:Int)/\(∃o:Id,env 8=.own o 0 (aI t (bs.take k)).length/\st.get o=some ⟨true,3,(aI t (bs.take k)).map aw⟩/\o.bW<st.next)) (bs.length) ⟨0,by omega,by omega,sl @Nat.zero_add,⟨⟨240001000,n0+1⟩,by(simp only[go_sem, ↓reduceIte,Nat.reduceEqDiff,Nat.reduceAdd,Nat.reduceSub,Nat.reduceLeDiff,reduceCtorEq])<;>rfl,by(simp only[go_sem, ↓reduceIte,Nat.reduceEqDiff,Nat.reduceAdd,Nat.reduceSub,Nat.reduceLeDiff,reduceCtorEq])<;>rfl,by(try dsimp only);omega⟩⟩ ?_
 rintro n_a env_a st_a ⟨k,rfl,ale,a9,mJ⟩ dU
 have a0:=dU 0 (by kernel_rfl);have a1:=dU 1 (by kernel_rfl);have a2:=dU 2 (by kernel_rfl)
 simp only[go_sem, ↓reduceIte,Nat.reduceEqDiff,Nat.reduceAdd,Nat.reduceSub,Nat.reduceLeDiff,reduceCtorEq]at a0 a1 a2
 clear dU
 obtain⟨o,a8,ag,s4⟩:=mJ
 have qW:=ef s4
 by_cases hk:(k:Int)<(bs.length:Int)
 ·have cK:∀{e:Env} {gg:Rows} {nx:Nat},(e 9=.int .i64 (IntKind.i64.wrap ((k:Int)+1)))->(∃o:Id,e 8=.own o 0 (aI t (bs.take (k+1))).length/\gg o=some ⟨true,3,(aI t (bs.take (k+1))).map aw⟩/\o.bW<nx)->∃m0,m0<(bs.length)-k/\∃k:Nat,m0=(bs.length)-k/\k<=(bs.length)/\e 9=.int .i64 (k:Int)/\(∃o:Id,e 8=.own o 0 (aI t (bs.take k)).length/\gg o=some ⟨true,3,(aI t (bs.take k)).map aw⟩/\o.bW<nx):=fun x1 x2=>⟨_,by omega,k+1,rfl,by omega,(by rw[x1,ax (by omega)]),x2⟩
  have eU:k<bs.length:=by omega
  have ea:(bs.map aw)[k]? =some (aw bs[k]):=by simp[eU]
  have hs:=sL t bs k eU
  have sC:=mu t (bs.take k)
  rw[List.length_take]at sC
  by_cases hc:t<=(bs[k]).s
  ·rw[if_pos hc]at hs
   have e1:(aI t (bs.take k)).length+1<=16777216:=by omega
   have gR:((aI t (bs.take k)).map aw).length=(aI t (bs.take k)).length:=by simp
   generalize bs[k]=b at *
   (try((repeat(revert hN;revert N;apply Pn.out));refine wk (tw @a9 (tw @a0 (tw @a1 (tw @a2 (tw @a8 (tw @ag (tw @qW (tw @hk (tw @ea (tw @hc (tw @e1 (tw @gR @aw.eq_1)))))))))))) ?_;(repeat(refine Pn.mk ?_;intro N hN))))
   exact cK (sd (tw @a9 (tw @a0 (tw @a1 @a2)))) (⟨⟨240006006,st_a.next+1+1⟩,by rw[hs,List.length_append];simp only[go_sem, ↓reduceIte,Nat.reduceEqDiff,Nat.reduceAdd,Nat.reduceSub,Nat.reduceLeDiff,reduceCtorEq,List.length_cons,List.length_nil],by rw[hs,List.map_append,List.map_cons,List.map_nil];simp only[go_sem, ↓reduceIte,Nat.reduceEqDiff,Nat.reduceAdd,Nat.reduceSub,Nat.reduceLeDiff,reduceCtorEq,aw],by(try dsimp only);omega⟩)
  ·rw[if_neg hc,List.append_nil]at hs
   generalize bs[k]=b at *
   (try((repeat(revert hN;revert N;apply Pn.out));refine wk (tw @a9 (tw @a0 (tw @a1 (tw @a2 (tw @a8 (tw @ag (tw @qW (tw @hk (tw @ea (tw @hc @aw.eq_1)))))))))) ?_;(repeat(refine Pn.mk ?_;intro N hN))))
   exact cK (sd (tw @a9 (tw @a0 (tw @a1 @a2)))) (⟨o,by rw[hs];simp only[go_sem, ↓reduceIte,Nat.reduceEqDiff,Nat.reduceAdd,Nat.reduceSub,Nat.reduceLeDiff,reduceCtorEq,a8],by rw[hs];simp only[go_sem, ↓reduceIte,Nat.reduceEqDiff,Nat.reduceAdd,Nat.reduceSub,Nat.reduceLeDiff,reduceCtorEq,ag],by(try dsimp only);omega⟩)
 have kJ:k=bs.length:=by omega
 subst kJ
 rw[List.take_length]at a8 ag
 have Ea:=AI cnt hn (aI t bs) (fun b h=>hb b (ve h)) (by have:=mu t bs;omega)
 have hL:=sF (aI t bs)
 have tr:fz (dd st_a.get) 6 (.own o 0 (aI t bs).length)=some (.sl ((aI t bs).map aw)):=gx (sz:=3) (by simp[dd,ag]) rfl fun b=>yd _ 4 b
 have SY:∀x,cI (dd st_a.get) 6 [.int .i64 x,.own o 0 (aI t bs).length]=some [.int .i64 x,.sl ((aI t bs).map aw)]:=fun x=>by simp only[ae,ai,ay,tr,Option.map_some]
 (try((repeat(revert hN;revert N;apply Pn.out));refine wk (tw @a9 (tw @a0 (tw @a1 (tw @a2 (tw @a8 @hk))))) ?_;(repeat(refine Pn.mk ?_;intro N hN))))
 refine .inl ⟨_,ak.x Ea (SY _),?_⟩
 refine hN _ _ ?_
 clear hN N
 generalize ei (aI t bs)=L at *
 have qm:((fh cnt L).map zr).length=(leads cnt L).length:=by simp[fh]
 have RH:=jw cnt L
 have jr:(0:Int)<=(cnt:Int):=by omega
 have o6:(cnt:Int)<=((16777216:Nat):Int):=by omega
 have gH:List.replicate cnt [AV.int .i64 0]=dI (cP cnt L 0 0) cnt:=by rw[vn,nU]
 (try((repeat(revert hN;revert N;apply Pn.out));refine wk (tw @a9 (tw @a0 (tw @a1 (tw @a2 (tw @jr (tw @o6 @Int.le_refl)))))) ?_;(repeat(refine Pn.mk ?_;intro N hN))))
 refine aY (fun n env st=>∃i:Nat,n=((leads cnt L).length)-i/\i<=((leads cnt L).length)/\env 12=.int .i64 (i:Int)/\st.get ⟨240008001,st_a.next+1+1⟩=some ⟨true,1,dI (cP cnt L i 0) cnt⟩/\(st_a.next+1+1<st.next)) ((leads cnt L).length) ⟨0,by omega,by omega,sl (tw @a9 (tw @a0 (tw @a1 (tw @a2 @gH)))),sl (tw @a9 (tw @a0 (tw @a1 (tw @a2 @gH)))),(by(try dsimp only);omega)⟩ ?_
 rintro n_c env_c st_c ⟨i,rfl,cle,xS,cg0,cI0⟩ cfr
 have c1:=cfr 1 (by kernel_rfl);have jh:=cfr 10 (by kernel_rfl);have mU:=cfr 11 (by kernel_rfl)
 simp only[go_sem, ↓reduceIte,Nat.reduceEqDiff,Nat.reduceAdd,Nat.reduceSub,Nat.reduceLeDiff,reduceCtorEq,a9,a0,a1,a2,gH]at c1 jh mU
 clear cfr
 by_cases hi:(i:Int)<((leads cnt L).length:Int)
 ·have gL:∀{e:Env} {gg:Rows} {nx:Nat},(e 12=.int .i64 (IntKind.i64.wrap ((i:Int)+1)))->(gg ⟨240008001,st_a.next+1+1⟩=some ⟨true,1,dI (cP cnt L (i+1) 0) cnt⟩)->(st_a.next+1+1<nx)->∃m0,m0<((leads cnt L).length)-i/\∃i:Nat,m0=((leads cnt L).length)-i/\i<=((leads cnt L).length)/\e 12=.int .i64 (i:Int)/\gg ⟨240008001,st_a.next+1+1⟩=some ⟨true,1,dI (cP cnt L i 0) cnt⟩/\(st_a.next+1+1<nx):=fun x1 x2 x3=>⟨_,by omega,i+1,rfl,by omega,(by rw[x1,ax (by omega)]),x2,x3⟩
  have fJ:i<(leads cnt L).length:=by omega
  have mW:((fh cnt L).map zr)[i]? =some (zr (members cnt L (leads cnt L)[i])):=by simp[fh,fJ]
  have tt:(leads cnt L).getD i 0=(leads cnt L)[i]:=by simp[List.getD_eq_getElem?_getD,fJ]
  have wc:∀m,cP cnt L i m=fun x=>if bR L x<i then bR L x else if x∈(members cnt L (leads cnt L)[i]).take m then i else 0:=fun m=>by unfold cP;rw[tt]
  have qn:=fun x (hx:x<cnt)=>rT hL (n:=cnt) (k:=x) (i:=i) hx fJ
  have lY:(members cnt L (leads cnt L)[i]).Nodup:=List.nodup_range.filter _
  have BC:∀x∈members cnt L (leads cnt L)[i],x<cnt:=fun x hx=>(k6.1 hx).1
  have hMc:(members cnt L (leads cnt L)[i]).length<=cnt:=by
   have:=List.length_filter_le (fun k=>L k==(leads cnt L)[i]) (List.range cnt)
   simpa[members]using this
  generalize members cnt L (leads cnt L)[i]=M at *
  have BA:(M.map eN).length=M.length:=by simp
  (try((repeat(revert hN;revert N;apply Pn.out));refine wk (tw @xS (tw @cg0 (tw @c1 (tw @jh (tw @mU (tw @hi @qm)))))) ?_;(repeat(refine Pn.mk ?_;intro N hN))))
  refine aY (fun n env st=>∃m:Nat,n=(M.length)-m/\m<=(M.length)/\env 13=.int .i64 (m:Int)/\st.get ⟨240008001,st_a.next+1+1⟩=some ⟨true,1,dI (cP cnt L i m) cnt⟩/\(st_a.next+1+1<st.next)) (M.length) ⟨0,by omega,by omega,sl (tw @xS (tw @cg0 (tw @c1 (tw @jh @mU)))),sl (tw @xS (tw @cg0 (tw @c1 (tw @jh @mU)))),(by(try dsimp only);omega)⟩ ?_
  rintro n_d env_d st_d ⟨m,rfl,dle,d13,dg0,dI0⟩ dfr
  have d1:=dfr 1 (by kernel_rfl);have d10:=dfr 10 (by kernel_rfl);have d11:=dfr 11 (by kernel_rfl);have d12:=dfr 12 (by kernel_rfl)
  simp only[go_sem, ↓reduceIte,Nat.reduceEqDiff,Nat.reduceAdd,Nat.reduceSub,Nat.reduceLeDiff,reduceCtorEq,xS,cg0,c1,jh,mU]at d1 d10 d11 d12
  clear dfr
  have tl:=fW (cP cnt L i m) cnt
  by_cases hm:(m:Int)<(M.length:Int)
  ·have sH:∀{e:Env} {gg:Rows} {nx:Nat},(e 13=.int .i64 (IntKind.i64.wrap ((m:Int)+1)))->(gg ⟨240008001,st_a.next+1+1⟩=some ⟨true,1,dI (cP cnt L i (m+1)) cnt⟩)->(st_a.next+1+1<nx)->∃m0,m0<(M.length)-m/\∃m:Nat,m0=(M.length)-m/\m<=(M.length)/\e 13=.int .i64 (m:Int)/\gg ⟨240008001,st_a.next+1+1⟩=some ⟨true,1,dI (cP cnt L i m) cnt⟩/\(st_a.next+1+1<nx):=fun x1 x2 x3=>⟨_,by omega,m+1,rfl,by omega,(by rw[x1,ax (by omega)]),x2,x3⟩
   have yv:m<M.length:=by omega
   have ur:(M.map eN)[m]? =some (eN M[m]):=by simp[yv]
   have uz:=BC _ (List.getElem_mem yv)
   have BH:(M[m]:Int)<(cnt:Int):=by omega
   have BG:=fa (f:=cP cnt L i m) uz
   have eo:(dI (cP cnt L i m) cnt).set M[m] (eN i)=dI (cP cnt L i (m+1)) cnt:=oM uz (by
    have h1:=(qn _ uz).1 (List.getElem_mem yv)
    rw[wc]
    simp only[]
    rw[if_neg (by omega),if_pos (by rw[List.take_succ_eq_append_getElem yv];exact List.mem_append_right _ (List.mem_singleton.2 rfl))]) fun x hx gF=>by
    rw[wc,wc]
    simp only[]
    rw[List.take_succ_eq_append_getElem yv]
    simp only[List.mem_append,List.mem_singleton,gF,or_false]
   rw[eN]at eo BG
   generalize M[m]=xm at *
   (try((repeat(revert hN;revert N;apply Pn.out));refine wk (tw @d13 (tw @dg0 (tw @d1 (tw @d10 (tw @d11 (tw @d12 (tw @hm (tw @hi (tw @mW (tw @qm (tw @ur (tw @BA (tw @BH (tw @BG (tw @tl (tw @eo (tw @zr.eq_1 @eN.eq_1))))))))))))))))) ?_;(repeat(refine Pn.mk ?_;intro N hN))))
   refine sH ?_ ?_ (by(try dsimp only);omega)
   all_goals simp only[go_sem, ↓reduceIte,Nat.reduceEqDiff,Nat.reduceAdd,Nat.reduceSub,Nat.reduceLeDiff,reduceCtorEq,d13,dg0,d1,d10,d11,d12,eo]
  ·have gR:m=M.length:=by omega
   subst gR
   have vG:dI (cP cnt L i M.length) cnt=dI (cP cnt L (i+1) 0) cnt:=gG fun x hx=>by
    rw[wc,List.take_length]
    simp only[cP,List.take_zero,List.not_mem_nil,if_false]
    have h1:=qn x hx
    by_cases h2:bR L x<i
    ·rw[if_pos h2,if_pos (by omega)]
    ·rw[if_neg h2]
     by_cases h3:x∈M
     ·rw[if_pos h3,if_pos (by have:=h1.1 h3;omega),h1.1 h3]
     ·rw[if_neg h3,if_neg fun h4=>h3 (h1.2 (by omega))]
   (try((repeat(revert hN;revert N;apply Pn.out));refine wk (tw @d13 (tw @dg0 (tw @d1 (tw @d10 (tw @d11 (tw @d12 (tw @hm (tw @hi (tw @mW (tw @qm (tw @BA @zr.eq_1))))))))))) ?_;(repeat(refine Pn.mk ?_;intro N hN))))
   refine gL ?_ ?_ (by(try dsimp only);omega)
   all_goals simp only[go_sem, ↓reduceIte,Nat.reduceEqDiff,Nat.reduceAdd,Nat.reduceSub,Nat.reduceLeDiff,reduceCtorEq,xS,cg0,c1,jh,mU,d13,dg0,d1,d10,d11,d12,vG]
 have o7:i=(leads cnt L).length:=by omega
 subst o7
 have HI:dI (cP cnt L (leads cnt L).length 0) cnt=dI (bR L) cnt:=gG fun x hx=>by rw[cP,if_pos (jP hL hx)]
 rw[HI]at cg0
 have tl:=fW (bR L) cnt
 (try((repeat(revert hN;revert N;apply Pn.out));refine wk (tw @xS (tw @cg0 (tw @c1 (tw @jh (tw @mU (tw @hi @qm)))))) ?_;(repeat(refine Pn.mk ?_;intro N hN))))
 have OL:st_a.next+1+1<st_c.next:=cI0
 refine aY (fun n env st=>∃j:Nat,n=(bs.length)-j/\j<=(bs.length)/\env 15=.int .i64 (j:Int)/\st.get ⟨240008001,st_a.next+1+1⟩=some ⟨true,1,dI (bR L) cnt⟩/\(∃p:Id,env 14=.own p 0 (eM L (bs.take j)).length/\st.get p=some ⟨true,3,(eM L (bs.take j)).map aw⟩/\st_c.next<=p.bW/\p.bW<st.next)) (bs.length) ⟨0,by omega,by omega,sl (tw @xS (tw @cg0 (tw @c1 (tw @jh @mU)))),sl (tw @xS (tw @cg0 (tw @c1 (tw @jh @mU)))),⟨⟨240016000,st_c.next+1⟩,by(simp only[go_sem, ↓reduceIte,Nat.reduceEqDiff,Nat.reduceAdd,Nat.reduceSub,Nat.reduceLeDiff,reduceCtorEq])<;>rfl,by(simp only[go_sem, ↓reduceIte,Nat.reduceEqDiff,Nat.reduceAdd,Nat.reduceSub,Nat.reduceLeDiff,reduceCtorEq])<;>rfl,by(try dsimp only);omega,by(try dsimp only);omega⟩⟩ ?_
 rintro n_f env_f st_f ⟨j,rfl,fle,f15,fg0,fI0⟩ ffr
 have f1:=ffr 1 (by kernel_rfl);have f10:=ffr 10 (by kernel_rfl);have f11:=ffr 11 (by kernel_rfl)
 simp only[go_sem, ↓reduceIte,Nat.reduceEqDiff,Nat.reduceAdd,Nat.reduceSub,Nat.reduceLeDiff,reduceCtorEq,xS,cg0,c1,jh,mU]at f1 f10 f11
 clear ffr
 obtain⟨p,f14,fg,Np,LK⟩:=fI0
 have x1:=du (a:=⟨240008001,st_a.next+1+1⟩) (b:=p) (by(try dsimp only);omega)
 have zw:=ef LK
 have hvn:st_a.next+1+1<st_f.next:=by omega
 have HS:=ef (i:=⟨240008001,st_a.next+1+1⟩) (n:=st_f.next) hvn
 have sC:=(mo L (bs.take j)).2
 rw[List.length_take]at sC
 by_cases hj:(j:Int)<(bs.length:Int)
 ·have qz:∀{e:Env} {gg:Rows} {nx:Nat},(e 15=.int .i64 (IntKind.i64.wrap ((j:Int)+1)))->(gg ⟨240008001,st_a.next+1+1⟩=some ⟨true,1,dI (bR L) cnt⟩)->(∃p:Id,e 14=.own p 0 (eM L (bs.take (j+1))).length/\gg p=some ⟨true,3,(eM L (bs.take (j+1))).map aw⟩/\st_c.next<=p.bW/\p.bW<nx)->∃m0,m0<(bs.length)-j/\∃j:Nat,m0=(bs.length)-j/\j<=(bs.length)/\e 15=.int .i64 (j:Int)/\gg ⟨240008001,st_a.next+1+1⟩=some ⟨true,1,dI (bR L) cnt⟩/\(∃p:Id,e 14=.own p 0 (eM L (bs.take j)).length/\gg p=some ⟨true,3,(eM L (bs.take j)).map aw⟩/\st_c.next<=p.bW/\p.bW<nx):=fun x1 x2 x3=>⟨_,by omega,j+1,rfl,by omega,(by rw[x1,ax (by omega)]),x2,x3⟩
  have iH:j<bs.length:=by omega
  have D9:(bs.map aw)[j]? =some (aw bs[j]):=by simp[iH]
  have Lv:=hb _ (List.getElem_mem iH)
  have hs:=y9 L (bs.take j) bs[j]
  rw[<-List.take_succ_eq_append_getElem iH]at hs
  generalize bs[j]=b at *
  have hA:=fa (f:=bR L) Lv.1
  have hB:=fa (f:=bR L) Lv.2
  have gq:(b.a:Int)<(cnt:Int):=by omega
  have fM:(b.b:Int)<(cnt:Int):=by omega
  have Rm:=AG (bR L b.a) (bR L b.b)
  have Rn:=AF (bR L b.a) (bR L b.b)
  rw[eN]at hA hB
  by_cases he:bR L b.a=bR L b.b
  ·rw[if_pos he,List.append_nil]at hs
   have vE:decide ((bR L b.a:Int)=(bR L b.b:Int))=true:=decide_eq_true (by rw[he])
   (try((repeat(revert hN;revert N;apply Pn.out));refine wk (tw @f15 (tw @fg0 (tw @f1 (tw @f10 (tw @f11 (tw @f14 (tw @fg (tw @hj (tw @D9 (tw @hA (tw @hB (tw @gq (tw @fM (tw @tl (tw @vE (tw @x1 (tw @zw @aw.eq_1))))))))))))))))) ?_;(repeat(refine Pn.mk ?_;intro N hN))))
   refine qz ?_ ?_ (⟨p,by rw[hs];simp only[go_sem, ↓reduceIte,Nat.reduceEqDiff,Nat.reduceAdd,Nat.reduceSub,Nat.reduceLeDiff,reduceCtorEq,f14],by rw[hs];simp only[go_sem, ↓reduceIte,Nat.reduceEqDiff,Nat.reduceAdd,Nat.reduceSub,Nat.reduceLeDiff,reduceCtorEq,fg],Np,by(try dsimp only);omega⟩)
   all_goals simp only[go_sem, ↓reduceIte,Nat.reduceEqDiff,Nat.reduceAdd,Nat.reduceSub,Nat.reduceLeDiff,reduceCtorEq,f15,fg0,f1,f10,f11]
  ·rw[if_neg he]at hs
   have vE:decide ((bR L b.a:Int)=(bR L b.b:Int))=false:=decide_eq_false fun h=>he (by omega)
   have e1:(eM L (bs.take j)).length+1<=16777216:=by omega
   have gR:((eM L (bs.take j)).map aw).length=(eM L (bs.take j)).length:=by simp
   (repeat(first|((repeat(revert hN;revert N;apply Pn.out));refine wk (tw @f15 (tw @fg0 (tw @f1 (tw @f10 (tw @f11 (tw @f14 (tw @fg (tw @hj (tw @D9 (tw @hA (tw @hB (tw @gq (tw @fM (tw @tl (tw @vE (tw @x1 (tw @zw (tw @HS (tw @e1 (tw @gR @aw.eq_1)))))))))))))))))))) ?_;(repeat(refine Pn.mk ?_;intro N hN)))|((try apply Or.inl);refine⟨_,ak.x (Rm) (sd (tw @f15 (tw @fg0 (tw @f1 (tw @f10 (tw @f11 (tw @f14 (tw @fg (tw @hj (tw @D9 (tw @hA (tw @hB (tw @gq (tw @fM (tw @tl (tw @vE (tw @x1 (tw @zw (tw @HS (tw @e1 (tw @gR @aw.eq_1))))))))))))))))))))),?_⟩;refine hN _ _ ?_;clear hN N)|((try apply Or.inl);refine⟨_,ak.x (Rn) (sd (tw @f15 (tw @fg0 (tw @f1 (tw @f10 (tw @f11 (tw @f14 (tw @fg (tw @hj (tw @D9 (tw @hA (tw @hB (tw @gq (tw @fM (tw @tl (tw @vE (tw @x1 (tw @zw (tw @HS (tw @e1 (tw @gR @aw.eq_1))))))))))))))))))))),?_⟩;refine hN _ _ ?_;clear hN N)))
   refine qz ?_ ?_ (⟨⟨240023014,st_f.next+1+1+1+1⟩,by rw[hs,List.length_append];simp only[go_sem, ↓reduceIte,Nat.reduceEqDiff,Nat.reduceAdd,Nat.reduceSub,Nat.reduceLeDiff,reduceCtorEq,List.length_cons,List.length_nil],by rw[hs,List.map_append,List.map_cons,List.map_nil];simp only[go_sem, ↓reduceIte,Nat.reduceEqDiff,Nat.reduceAdd,Nat.reduceSub,Nat.reduceLeDiff,reduceCtorEq,aw],by(try dsimp only);omega,by(try dsimp only);omega⟩)
   all_goals simp only[go_sem, ↓reduceIte,Nat.reduceEqDiff,Nat.reduceAdd,Nat.reduceSub,Nat.reduceLeDiff,reduceCtorEq,f15,fg0,f1,f10,f11,x1,HS]
 ·have gC:j=bs.length:=by omega
  subst gC
  rw[List.take_length]at f14 fg
  (try((repeat(revert hN;revert N;apply Pn.out));refine wk (tw @f15 (tw @fg0 (tw @f1 (tw @f10 (tw @f11 (tw @f14 (tw @hj @qm))))))) ?_;(repeat(refine Pn.mk ?_;intro N hN))))
  refine jf (.inl rfl) (r1:=.int .i64 ((leads cnt L).length:Int)) (sd @Nat.zero_add) (by simp only[go_sem, ↓reduceIte,Nat.reduceEqDiff,Nat.reduceAdd,Nat.reduceSub,Nat.reduceLeDiff,reduceCtorEq];rfl) ?_
  have h1:ga st_f.get 5 (.own p 0 (eM L bs).length)=some (.sl ((eM L bs).map aw)):=eS (sz:=3) fg rfl fun b=>tj _ 3 b
  simp only[eR,bC,cG,ek,h1,Option.map_some]
end Go.Proofs.YtgoljkjaameagaaGreat.V

namespace Go.Proofs.YtgoljkjaameagaaGreat.V
def DH (bs:List PB) (e v:Nat):Prop:=(cH bs e).a=v∨(cH bs e).b=v
def iJ (bs:List PB) (m v:Nat):List Nat:=(List.range m).filter fun i=>(cH bs i).a==v||(cH bs i).b==v
theorem qu {bs:List PB} {m v e:Nat}:e∈iJ bs m v↔e<m/\DH bs e v:=by simp[iJ,DH]
theorem FA (bs:List PB) (m v:Nat):iJ bs (m+1) v=iJ bs m v++if (cH bs m).a=v∨(cH bs m).b=v then[m]else[]:=by
 unfold iJ
 rw[List.range_succ,List.filter_append]
 congr 1
 by_cases h:(cH bs m).a=v<;>by_cases h2:(cH bs m).b=v<;>simp[h,h2]
theorem qt (bs:List PB) (m v:Nat):(iJ bs m v).length<=m:=by
 have:=List.length_filter_le (fun i=>(cH bs i).a==v||(cH bs i).b==v) (List.range m)
 simpa[iJ]using this
def mD (cnt:Nat) (bs:List PB):Prop:=∀e,e<bs.length->(cH bs e).a<cnt/\(cH bs e).b<cnt/\(cH bs e).a≠(cH bs e).b
theorem nX {cnt:Nat} {bs:List PB} (h:mD cnt bs) {e v:Nat} (he:e<bs.length):bS bs e v<cnt:=by
 have:=h e he;unfold bS;split;exact this.2.1;exact this.1
theorem Iq {cnt:Nat} {bs:List PB} (h:mD cnt bs) {e v:Nat} (he:e<bs.length) (hi:DH bs e v):bS bs e v≠v:=by
 have h1:=(h e he).2.2
 unfold bS
 split
 ·rename_i ha;rw[<-ha];exact fun h=>h1 h.symm
 ·rename_i ha;rcases hi with hi|hi
  ·exact absurd hi ha
  ·rw[<-hi];exact h1
theorem xw {bs:List PB} {e v:Nat}:DH bs e (bS bs e v):=by
 unfold bS DH;split
 ·exact .inr rfl
 ·exact .inl rfl
theorem nY {cnt:Nat} {bs:List PB} (h:mD cnt bs) {e v:Nat} (he:e<bs.length) (hi:DH bs e v):bS bs e (bS bs e v)=v:=by
 have h1:=(h e he).2.2
 unfold bS
 by_cases ha:(cH bs e).a=v
 ·rw[if_pos ha,if_neg h1];exact ha
 ·rw[if_neg ha,if_pos rfl]
  rcases hi with hi|hi
  ·exact absurd hi ha
  ·exact hi
structure xM (cnt:Nat) (bs:List PB) (f:Nat->Int) (y:Nat) (out:Nat->Int):Prop where
 lo:∀v,v<cnt->-1<=out v/\out v<=cnt
 first:out y=0
 zero:∀v,v<cnt->out v=0->v=y
 down:∀v,v<cnt->0<out v->∃e,e<bs.length/\DH bs e v/\0<fw bs f e v/\out (bS bs e v)=out v-1
 shut:∀e v,e<bs.length->DH bs e v->0<=out (bS bs e v)->0<fw bs f e v->0<=out v
structure zq (cnt:Nat) (bs:List PB) (f:Nat->Int) (y:Nat) (out:Nat->Int) (Q:List Nat) (i:Nat):Prop where
 nd:Q.Nodup
 lt:∀x∈Q,x<cnt
 iff:∀v,v<cnt->(0<=out v↔v∈Q)
 lo:∀v,v<cnt->-1<=out v
 first:out y=0
 up:∀j (h:j<Q.length),out Q[j]<=j
 zero:∀v,v<cnt->out v=0->v=y
 down:∀v,v<cnt->0<out v->∃e,e<bs.length/\DH bs e v/\0<fw bs f e v/\out (bS bs e v)=out v-1
 shut:∀j (h:j<Q.length),j<i->∀e,e<bs.length->DH bs e Q[j]->0<fw bs f e (bS bs e Q[j])->0<=out (bS bs e Q[j])
section
variable {cnt:Nat} {bs:List PB} {f:Nat->Int} {y:Nat} {out:Nat->Int} {Q:List Nat} {i:Nat}
theorem zq.start (hy:y<cnt):zq cnt bs f y (fun v=>if v=y then 0 else -1) [y] 0 where
 nd:=by simp
 lt:=fun x hx=>by rw[List.mem_singleton.1 hx];exact hy
 iff:=fun v _=>by
  by_cases h:v=y<;>simp[h]
 lo:=fun v _=>by split<;>omega
 first:=if_pos rfl
 up:=fun j h=>by
  have:j=0:=by simp at h;omega
  subst this;simp
 zero:=fun v _ h=>by
  by_cases hv:v=y
  ·exact hv
  ·rw[if_neg hv]at h;omega
 down:=fun v _ h=>by
  by_cases hv:v=y
  ·rw[if_pos hv]at h;omega
  ·rw[if_neg hv]at h;omega
 shut:=fun j h hj=>by omega
theorem zq.len (h:zq cnt bs f y out Q i):Q.length<=cnt:=nV cnt Q h.nd h.lt
theorem zq.visit (h:zq cnt bs f y out Q i) (ok:mD cnt bs) (hi:i<Q.length) {e:Nat} (he:e<bs.length) (oV:DH bs e Q[i]) (jO:out (bS bs e Q[i])<0) (fN:0<fw bs f e (bS bs e Q[i])):
  zq cnt bs f y (fun v=>if v=bS bs e Q[i]then out Q[i]+1 else out v) (Q++[bS bs e Q[i]]) i:=by
 have LO:0<=out Q[i]:=(h.iff _ (h.lt _ (List.getElem_mem hi))).2 (List.getElem_mem hi)
 have hq:=nX ok (v:=Q[i]) he
 have gF:=Iq ok he oV
 have RL:=nY ok he oV
 have Tk:bS bs e Q[i]∉Q:=fun hm=>by have:=(h.iff _ hq).2 hm;omega
 have wc:=h.up i hi
 generalize hw:bS bs e Q[i]=w at *
 have rP:∀v,0<=out v->(if v=w then out Q[i]+1 else out v)=out v:=fun v hv=>by
  rw[if_neg];rintro rfl;omega
 have mono:∀v,0<=out v->0<=(if v=w then out Q[i]+1 else out v):=fun v hv=>by rw[rP v hv];exact hv
 refine⟨?_,?_,?_,?_,?_,?_,?_,?_,?_⟩
 ·rw[List.nodup_append]
  exact⟨h.nd,by simp,fun a ha b hb=>by rw[List.mem_singleton.1 hb];rintro rfl;exact Tk ha⟩
 ·intro x hx
  rcases List.mem_append.1 hx with hx|hx
  ·exact h.lt x hx
  ·rw[List.mem_singleton.1 hx];exact hq
 ·intro v hv
  by_cases GD:v=w
  ·subst GD;simp;omega
  ·rw[if_neg GD,h.iff v hv];simp[GD]
 ·intro v hv
  by_cases GD:v=w
  ·rw[if_pos GD];omega
  ·rw[if_neg GD];exact h.lo v hv
 ·rw[rP y (by rw[h.first];exact Int.le_refl _)];exact h.first
 ·intro j hj
  by_cases gC:j<Q.length
  ·rw[List.getElem_append_left gC,rP _ ((h.iff _ (h.lt _ (List.getElem_mem gC))).2 (List.getElem_mem gC))]
   exact h.up j gC
  ·have J7:j=Q.length:=by simp at hj;omega
   subst J7
   simp
   omega
 ·intro v hv h0
  by_cases GD:v=w
  ·rw[if_pos GD]at h0;omega
  ·rw[if_neg GD]at h0;exact h.zero v hv h0
 ·intro v hv h0
  by_cases GD:v=w
  ·subst GD
   rw[if_pos rfl]
   refine⟨e,he,by rw[<-hw];exact xw,fN,?_⟩
   rw[RL,rP _ LO];omega
  ·rw[if_neg GD]at h0 ⊢
   obtain⟨e',h1,h2,h3,h4⟩:=h.down v hv h0
   exact⟨e',h1,h2,h3,by rw[rP _ (by omega)];exact h4⟩
 ·intro j hj lX e' J1 LD hr
  have gC:j<Q.length:=by omega
  rw[List.getElem_append_left gC]at LD hr ⊢
  exact mono _ (h.shut j gC lX e' J1 LD hr)
theorem zq.next (h:zq cnt bs f y out Q i) (hi:i<Q.length) (hs:∀e∈iJ bs bs.length Q[i],0<fw bs f e (bS bs e Q[i])->0<=out (bS bs e Q[i])):zq cnt bs f y out Q (i+1):=
 ⟨h.nd,h.lt,h.iff,h.lo,h.first,h.up,h.zero,h.down,fun j hj lX e he oV hr=>by
  by_cases J7:j=i
  ·subst J7;exact hs e (qu.2 ⟨he,oV⟩) hr
  ·exact h.shut j hj (by omega) e he oV hr⟩
theorem zq.done (h:zq cnt bs f y out Q i) (ok:mD cnt bs) (hi:Q.length<=i):xM cnt bs f y out where
 lo:=fun v hv=>⟨h.lo v hv,by
  by_cases h0:0<=out v
  ·obtain⟨j,hj,rfl⟩:=List.getElem_of_mem ((h.iff v hv).1 h0)
   have:=h.up j hj
   have:=h.len
   omega
  ·omega⟩
 first:=h.first
 zero:=h.zero
 down:=h.down
 shut:=fun e v he oV h0 hr=>by
  obtain⟨j,hj,OO⟩:=List.getElem_of_mem ((h.iff _ (nX ok he)).1 h0)
  have h2:=h.shut j hj (by omega) e he (by rw[OO];exact xw)
  rw[OO,nY ok he oV]at h2
  exact h2 hr
end
end Go.Proofs.YtgoljkjaameagaaGreat.V

namespace Go.Proofs.YtgoljkjaameagaaGreat.V
open Go.RowKit
attribute [local irreducible] dL wpOps fu Call
attribute [local go_sem] az eQ ec eY eW cJ upd bJ K.av b4 AV.cells AV.cell rowOf rowsOf part ld rowAt bH bG cX dr fR bo cE dD e6 eF cQ dx cC cz db dc br aJ ck bq cq cm dv dy dw cj bx cD dt bp aA cu bQ fQ bd bY bt aH cW aX cY AV.undef bj bl de dn da dj bV dC dE bK dB dz cr cw List.getD_cons_zero List.getD_cons_succ List.getD_nil List.all_cons List.all_nil Bool.and_true Bool.true_and Bool.and_self Bool.not_true Bool.not_false Option.map_some Option.map_none Option.bind_some Option.bind_none List.length_cons List.length_nil List.take_succ_cons List.take_zero List.take_nil List.drop_succ_cons List.drop_zero List.drop_nil List.head?_cons List.map_cons List.map_nil List.getElem?_cons_zero List.getElem?_cons_succ List.cons_append List.nil_append List.append_nil List.length_map List.set_cons_zero List.set_cons_succ Nat.reduceMul eq_self Int.toNat_natCast Int.natCast_nonneg and_self true_and and_true decide_true decide_false Bool.false_eq_true Nat.zero_add Nat.add_zero List.contains_cons List.contains_nil Bool.or_false Bool.false_or beq_self_eq_true Nat.reduceBEq ne_eq not_true_eq_false not_false_eq_true Id.mk.injEq false_and and_false Nat.reduceLT Int.reduceLE Int.reduceLT Int.reduceToNat Int.reduceNeg Int.reduceAdd Nat.le_refl List.length_append beq_true beq_false Bool.not_eq_eq_eq_not or_false false_or dd ae ai ay bh bD aG aM aD aL bZ bm
def mC (P:Program) (f:Nat) (args:List AV) (R:AV->Prop):Prop:=∀n:Nat,Call P f args ⟨fun _=>none,n⟩ fun r0 σ'=>∃r',ga σ'.get 6 r0=some r'/\R r'
theorem Fb {P:Program} {f:Nat} {args eD:List AV} {g:Rows} {n:Nat} {R:AV->Prop} (hv:cI (dd g) 6 args=some eD) (h:Sound P f eD ⟨fun _=>none,n⟩ fun r0 σ'=>∃r',ga σ'.get 6 r0=some r'/\R r'):Sound P f args ⟨g,n⟩ fun r σ'=>R r/\σ'=⟨g,n⟩:=by
 intro hs D ι w vs S U A
 refine(wD (g0:=g) (K:=R) ⟨eD,hv,h⟩ (fun _ _ h=>h) S U A).mono ?_
 rintro e w' ⟨r,D',u,rfl,hR,T,S',hr⟩
 exact⟨r,g,n,D',ι,u,rfl,⟨hR,rfl⟩,T,S',U,Nat.le_refl _,hr⟩
theorem mC.x {P:Program} (hm:P.follows .mixedOrders=true) {f:Nat} {args eD:List AV} {R:AV->Prop} (h:mC P f eD R) {σ:ar} (hv:cI (dd σ.get) 6 args=some eD):Call P f args σ fun r σ'=>R r/\σ'=σ:=
 gr (Fb hv (gP hm (h σ.next)))
theorem mC.body {P:Program} {f:Nat} {args:List AV} {R:AV->Prop} {nt na:Nat} {body:VC} {res:List oP} (hf:lx P f=some ⟨nt,na,body,res⟩) (ha:na=args.length) (h:(∀a∈args,eC a)->∀n:Nat,dL (Call P) body (lk res fun r0 σ'=>∃r',ga σ'.get 6 r0=some r'/\R r') (bJ args) ⟨fun _=>none,n⟩):mC P f args R:=fun n=>lz hf ha fun hl=>h hl n
def dS (f:Nat->Int) (n:Nat):List (List AV):=(List.range n).map fun i=>aT (f i)
theorem dG (f:Nat->Int) (n:Nat):(dS f n).length=n:=by simp[dS]
theorem dO {f:Nat->Int} {n i:Nat} (h:i<n):(dS f n)[i]? =some (aT (f i)):=by simp[dS,h]
theorem kE {f g:Nat->Int} {n k:Nat} {v:Int} (hk:k<n) (hv:g k=v) (h:∀i,i<n->i≠k->g i=f i):(dS f n).set k (aT v)=dS g n:=by
 refine List.ext_getElem? fun i=>?_
 rw[List.getElem?_set]
 by_cases hi:k=i
 ·subst hi
  rw[if_pos rfl,dG,if_pos hk,dO hk,hv]
 ·rw[if_neg hi]
  by_cases fJ:i<n
  ·rw[dO fJ,dO fJ,h i fJ (fun h=>hi h.symm)]
  ·rw[List.getElem?_eq_none (by rw[dG];omega),List.getElem?_eq_none (by rw[dG];omega)]
theorem Gh (f:Nat->Int) (n:Nat):dS f (n+1)=dS f n++[aT (f n)]:=by simp[dS,List.range_succ]
theorem fzI (g:Rows) (n:Nat) (a:Int):cI g (n+1) (aT a)=some (aT a):=by simp[aT,ae,ai,ay]
theorem Sr (g:Rows) (n:Nat) (a:Int):dR g (n+1) (aT a)=some (aT a):=by simp[aT,bC,cG,ek]
theorem IT {g:Rows} {f:Nat->Int} {n m:Nat}:gJ g (m+1) (dS f n)=some (dS f n):=by
 have:dS f n=((List.range n).map f).map aT:=by simp[dS]
 rw[this];exact nM fun x=>Sr g m x
theorem zi {g:Rows} {f:Nat->Int} {n m:Nat}:dQ g (m+1) (dS f n)=some (dS f n):=by
 have:dS f n=((List.range n).map f).map aT:=by simp[dS]
 rw[this];exact kd fun x=>fzI g m x
def NY (l:List Nat):AV:=if l=[]then .bP else .sl (l.map eN)
def pe (cnt:Nat) (bs:List PB) (m:Nat):List (List AV):=(List.range cnt).map fun v=>[NY (iJ bs m v)]
theorem BX {cnt:Nat} {bs:List PB} {m v:Nat} (h:v<cnt):(pe cnt bs m)[v]? =some [NY (iJ bs m v)]:=by simp[pe,h]
def fK (cnt:Nat) (bs:List PB) (f:Nat->Int):List AV:=[.int .i64 cnt,.sl (bs.map aw),.sl (pe cnt bs bs.length),.sl (dS f bs.length)]
theorem tb {bs:List PB} {e:Nat} (h:e<bs.length):(bs.map aw)[e]? =some (aw (cH bs e)):=getD_map aw h
def Small (bs:List PB) (f:Nat->Int):Prop:=∀e,e<bs.length->(0<=(cH bs e).s/\(cH bs e).s<=4)/\-4<=f e/\f e<=4
theorem IA (cnt:Nat) (bs:List PB) (f:Nat->Int) (hs:Small bs f) (e v:Nat) (he:e<bs.length):ak Tryz.prog 297 [.cN (fK cnt bs f),.int .i64 v,.int .i64 e] (.ij [.int .i64 (fw bs f e v),.int .i64 (bS bs e v)]):=by
 refine ak.body eb rfl fun hl n0=>?_
 clear hl
 have hb:=tb he
 have hf:=dO (f:=f) he
 obtain⟨⟨s0,s1⟩,s2,s3⟩:=hs e he
 have w1:IntKind.i64.wrap ((cH bs e).s-f e)=(cH bs e).s-f e:=bE (by omega)
 have w2:IntKind.i64.wrap ((cH bs e).s+f e)=(cH bs e).s+f e:=bE (by omega)
 unfold fw bS
 generalize cH bs e=b at *
 by_cases h:b.a=v
 ·have hd:decide ((b.a:Int)=(v:Int))=true:=decide_eq_true (by rw[h])
  (try((repeat(revert hN;revert N;apply Pn.out));refine wk (tw @fK.eq_1 (tw @hb (tw @hf (tw @aw.eq_1 (tw @aT.eq_1 (tw @hd (tw @w1 @w2))))))) ?_;(repeat(refine Pn.mk ?_;intro N hN))))
  refine jf (.inl rfl) (by simp only[go_sem, ↓reduceIte,Nat.reduceEqDiff,Nat.reduceAdd,Nat.reduceSub,Nat.reduceLeDiff,reduceCtorEq];rfl) (by simp only[go_sem, ↓reduceIte,Nat.reduceEqDiff,Nat.reduceAdd,Nat.reduceSub,Nat.reduceLeDiff,reduceCtorEq];rfl) ?_
  simp only[eR,bC,cG,ek,Option.map_some,if_pos h]
 ·have hd:decide ((b.a:Int)=(v:Int))=false:=decide_eq_false fun hc=>h (by omega)
  (try((repeat(revert hN;revert N;apply Pn.out));refine wk (tw @fK.eq_1 (tw @hb (tw @hf (tw @aw.eq_1 (tw @aT.eq_1 (tw @hd (tw @w1 @w2))))))) ?_;(repeat(refine Pn.mk ?_;intro N hN))))
  refine jf (.inl rfl) (by simp only[go_sem, ↓reduceIte,Nat.reduceEqDiff,Nat.reduceAdd,Nat.reduceSub,Nat.reduceLeDiff,reduceCtorEq];rfl) (by simp only[go_sem, ↓reduceIte,Nat.reduceEqDiff,Nat.reduceAdd,Nat.reduceSub,Nat.reduceLeDiff,reduceCtorEq];rfl) ?_
  simp only[eR,bC,cG,ek,Option.map_some,if_neg h]
theorem Ez (cnt:Nat) (hn:cnt<=1048576) (bs:List PB) (ok:mD cnt bs) (nk:bs.length<=1048576) (f:Nat->Int) (hs:Small bs f) (y:Nat) (hy:y<cnt):
  mC Tryz.prog 253 [.cN (fK cnt bs f),.int .i64 y] fun r=>∃out,r=.sl (dS out cnt)/\xM cnt bs f y out:=by
 refine mC.body eb rfl fun hl n0=>?_
 clear hl
 (try((repeat(revert hN;revert N;apply Pn.out));refine wk @fK.eq_1 ?_;(repeat(refine Pn.mk ?_;intro N hN))))
 refine aY (fun n env st=>∃k:Nat,n=(cnt)-k/\k<=(cnt)/\env 6=.int .i64 (k:Int)/\(∃o:Id,env 5=.own o 0 k/\st.get o=some ⟨true,1,dS (fun _=>-1) k⟩/\o.bW<st.next)) (cnt) ⟨0,by omega,by omega,sl @fK.eq_1,⟨⟨253001000,n0+1⟩,by(simp only[go_sem, ↓reduceIte,Nat.reduceEqDiff,Nat.reduceAdd,Nat.reduceSub,Nat.reduceLeDiff,reduceCtorEq])<;>rfl,by(simp only[go_sem, ↓reduceIte,Nat.reduceEqDiff,Nat.reduceAdd,Nat.reduceSub,Nat.reduceLeDiff,reduceCtorEq])<;>rfl,by(try dsimp only);omega⟩⟩ ?_
 rintro n_a env_a st_a ⟨k,rfl,ale,a6,mJ⟩ dU
 have a0:=dU 0 (by kernel_rfl);have a1:=dU 1 (by kernel_rfl)
 simp only[go_sem, ↓reduceIte,Nat.reduceEqDiff,Nat.reduceAdd,Nat.reduceSub,Nat.reduceLeDiff,reduceCtorEq,fK]at a0 a1
 clear dU
 obtain⟨o,a5,ag,s4⟩:=mJ
 have tl:=dG (fun _=>-1) k
 have qW:=ef s4
 by_cases hk:(k:Int)<(cnt:Int)
 ·have cK:∀{e:Env} {gg:Rows} {nx:Nat},(e 6=.int .i64 (IntKind.i64.wrap ((k:Int)+1)))->(∃o:Id,e 5=.own o 0 (k+1)/\gg o=some ⟨true,1,dS (fun _=>-1) (k+1)⟩/\o.bW<nx)->∃m0,m0<(cnt)-k/\∃k:Nat,m0=(cnt)-k/\k<=(cnt)/\e 6=.int .i64 (k:Int)/\(∃o:Id,e 5=.own o 0 k/\gg o=some ⟨true,1,dS (fun _=>-1) k⟩/\o.bW<nx):=fun x1 x2=>⟨_,by omega,k+1,rfl,by omega,(by rw[x1,ax (by omega)]),x2⟩
  have e1:k+1<=16777216:=by omega
  have rL:dS (fun _=>-1) k++[[.int .i64 (-1)]]=dS (fun _=>-1) (k+1):=(Gh _ _).symm
  (try((repeat(revert hN;revert N;apply Pn.out));refine wk (tw @a6 (tw @a0 (tw @a1 (tw @a5 (tw @ag (tw @qW (tw @hk (tw @tl (tw @e1 (tw @rL @fK.eq_1)))))))))) ?_;(repeat(refine Pn.mk ?_;intro N hN))))
  exact cK (sd (tw @a6 (tw @a0 (tw @a1 @fK.eq_1)))) (⟨⟨253005002,st_a.next+1⟩,sd @Nat.zero_add,sd @rL,by(try dsimp only);omega⟩)
 have kJ:k=cnt:=by omega
 subst kJ
 have RU:(y:Int)<(k:Int):=by omega
 have hym:=dO (f:=fun _=>-1) hy
 have Au:(dS (fun _=>-1) k).set y (aT 0)=dS (fun v=>if v=y then 0 else -1) k:=kE hy (if_pos rfl) fun i _ hi=>if_neg hi
 rw[aT]at Au hym
 (try((repeat(revert hN;revert N;apply Pn.out));refine wk (tw @a6 (tw @a0 (tw @a1 (tw @a5 (tw @ag (tw @qW (tw @hk (tw @tl (tw @RU (tw @hym (tw @Au @fK.eq_1))))))))))) ?_;(repeat(refine Pn.mk ?_;intro N hN))))
 refine aY (fun m env st=>∃(i:Nat) (out:Nat->Int) (Q:List Nat) (p:Id),m=k-i/\env 8=.int .i64 (i:Int)/\env 7=.own p 0 Q.length/\st.get p=some ⟨true,1,Q.map eN⟩/\st.get o=some ⟨true,1,dS out k⟩/\o.bW<p.bW/\p.bW<st.next/\zq k bs f y out Q i/\i<=Q.length) k ⟨0,_,[y],⟨253007001,st_a.next+1+1⟩,by omega,by(simp only[go_sem, ↓reduceIte,Nat.reduceEqDiff,Nat.reduceAdd,Nat.reduceSub,Nat.reduceLeDiff,reduceCtorEq])<;>rfl,by(simp only[go_sem, ↓reduceIte,Nat.reduceEqDiff,Nat.reduceAdd,Nat.reduceSub,Nat.reduceLeDiff,reduceCtorEq])<;>rfl,by(simp only[go_sem, ↓reduceIte,Nat.reduceEqDiff,Nat.reduceAdd,Nat.reduceSub,Nat.reduceLeDiff,reduceCtorEq])<;>rfl,sd @qW,by(try dsimp only);omega,by(try dsimp only);omega,zq.start hy,by simp⟩ ?_
 rintro n env_b st_b ⟨i,out,Q,p,rfl,b8,b7,bgp,bgo,dZ,hpn,hB,hiq⟩ bfr
 have b0:=bfr 0 (by kernel_rfl)
 have b5:=bfr 5 (by kernel_rfl)
 simp only[go_sem, ↓reduceIte,Nat.reduceEqDiff,Nat.reduceAdd,Nat.reduceSub,Nat.reduceLeDiff,reduceCtorEq,a6,a0,a1,a5,fK]at b0 b5
 clear bfr
 have hql:=hB.len
 have RX:=dG out k
 have hqm:(Q.map eN).length=Q.length:=by simp
 have zw:=ef hpn
 have mN:=ef (i:=o) (n:=st_b.next) (by omega)
 by_cases hi:(i:Int)<(Q.length:Int)
 ·have fJ:i<Q.length:=by omega
  have mW:(Q.map eN)[i]? =some (eN Q[i]):=by simp[fJ]
  have LO:=hB.lt _ (List.getElem_mem fJ)
  obtain⟨vt,NA⟩:∃vt,vt=Q[i]:=⟨_,rfl⟩
  rw[<-NA]at mW LO
  have hA:=BX (cnt:=k) (bs:=bs) (m:=bs.length) LO
  have Kh:(vt:Int)<(k:Int):=by omega
  have o7:=qt bs bs.length vt
  have hme:∀x,x<(iJ bs bs.length vt).length->(iJ bs bs.length vt).getD x 0<bs.length/\DH bs ((iJ bs bs.length vt).getD x 0) vt:=fun x hx=>by
   rw[List.getD_eq_getElem?_getD,List.getElem?_eq_getElem hx]
   exact qu.1 (List.getElem_mem hx)
  have Qf:∀e∈iJ bs bs.length vt,∃x,x<(iJ bs bs.length vt).length/\(iJ bs bs.length vt).getD x 0=e:=fun e he=>by
   obtain⟨x,hx,rfl⟩:=List.getElem_of_mem he
   exact⟨x,hx,by rw[List.getD_eq_getElem?_getD,List.getElem?_eq_getElem hx];rfl⟩
  generalize hIn:iJ bs bs.length vt=I at *
  unfold NY at hA
  by_cases PH:I=[]
  ·rw[if_pos PH]at hA
   have hI1:I.length=0:=by rw[PH];rfl
   (try((repeat(revert hN;revert N;apply Pn.out));refine wk (tw @b0 (tw @b5 (tw @b7 (tw @b8 (tw @bgp (tw @hi (tw @mW (tw @hqm (tw @eN.eq_1 @fK.eq_1))))))))) ?_;(repeat(refine Pn.mk ?_;intro N hN))))
   refine aY (fun n env st=>∃x:Nat,n=(I.length)-x/\x<=(I.length)/\env 10=.int .i64 (x:Int)/\(∃(iw:Nat->Int) (Q':List Nat) (p':Id),env 7=.own p' 0 Q'.length/\st.get p'=some ⟨true,1,Q'.map eN⟩/\st.get o=some ⟨true,1,dS iw k⟩/\o.bW<p'.bW/\p'.bW<st.next/\zq k bs f y iw Q' i/\(∃h:i<Q'.length,Q'[i]=vt)/\(∀z,z<x->0<fw bs f (I.getD z 0) (bS bs (I.getD z 0) vt)->0<=iw (bS bs (I.getD z 0) vt)))) (I.length) ⟨0,by omega,by omega,sl (tw @b0 (tw @b5 (tw @b8 @fK.eq_1))),⟨out,Q,p,sd @b7,sd @bgp,sd @bgo,dZ,by(try dsimp only);omega,hB,⟨fJ,NA.symm⟩,fun z hz=>by omega⟩⟩ ?_
   rintro n_c env_c st_c ⟨x,rfl,cle,jh,cI0⟩ cfr
   have c0:=cfr 0 (by kernel_rfl);have c5:=cfr 5 (by kernel_rfl);have c8:=cfr 8 (by kernel_rfl);have c9:=cfr 9 (by kernel_rfl)
   simp only[go_sem, ↓reduceIte,Nat.reduceEqDiff,Nat.reduceAdd,Nat.reduceSub,Nat.reduceLeDiff,reduceCtorEq,b0,b5,b8,fK]at c0 c5 c8 c9
   clear cfr
   obtain⟨iw,Q',p',c7,G8,wQ,CF,Nq,dJ,⟨vZ,pE⟩,Jo⟩:=cI0
   have Tv:=dJ.len
   have N5:=dG iw k
   have Nr:(Q'.map eN).length=Q'.length:=by simp
   have yy:=ef Nq
   have lK:=ef (i:=o) (n:=st_c.next) (by omega)
   have x1:=du CF
   have hx:¬(x:Int)<((0:Nat):Int):=by omega
   have hxe:x=I.length:=by omega
   have hw:IntKind.i64.wrap ((i:Int)+1)=((i+1:Nat):Int):=ax (by omega)
   (try((repeat(revert hN;revert N;apply Pn.out));refine wk (tw @jh (tw @c0 (tw @c5 (tw @c8 (tw @c9 (tw @c7 (tw @hx (tw @hA (tw @Kh @fK.eq_1))))))))) ?_;(repeat(refine Pn.mk ?_;intro N hN))))
   refine⟨_,?_,i+1,iw,Q',p',rfl,sd (tw @jh (tw @c0 (tw @c5 (tw @c8 (tw @c9 @hw))))),sd @c7,sd @G8,sd @wQ,CF,by(try dsimp only);omega,dJ.next vZ fun e he hr=>?_,by omega⟩
   ·omega
   ·rw[pE,hIn]at he
    rw[pE]at hr ⊢
    obtain⟨z,hz,rfl⟩:=Qf e he
    exact Jo z (by omega) hr
  ·rw[if_neg PH]at hA
   have pD:(I.map eN).length=I.length:=by simp
   (try((repeat(revert hN;revert N;apply Pn.out));refine wk (tw @b0 (tw @b5 (tw @b7 (tw @b8 (tw @bgp (tw @hi (tw @mW (tw @hqm (tw @eN.eq_1 @fK.eq_1))))))))) ?_;(repeat(refine Pn.mk ?_;intro N hN))))
   refine aY (fun n env st=>∃x:Nat,n=(I.length)-x/\x<=(I.length)/\env 10=.int .i64 (x:Int)/\(∃(iw:Nat->Int) (Q':List Nat) (p':Id),env 7=.own p' 0 Q'.length/\st.get p'=some ⟨true,1,Q'.map eN⟩/\st.get o=some ⟨true,1,dS iw k⟩/\o.bW<p'.bW/\p'.bW<st.next/\zq k bs f y iw Q' i/\(∃h:i<Q'.length,Q'[i]=vt)/\(∀z,z<x->0<fw bs f (I.getD z 0) (bS bs (I.getD z 0) vt)->0<=iw (bS bs (I.getD z 0) vt)))) (I.length) ⟨0,by omega,by omega,sl (tw @b0 (tw @b5 (tw @b8 @fK.eq_1))),⟨out,Q,p,sd @b7,sd @bgp,sd @bgo,dZ,by(try dsimp only);omega,hB,⟨fJ,NA.symm⟩,fun z hz=>by omega⟩⟩ ?_
   rintro n_c env_c st_c ⟨x,rfl,cle,jh,cI0⟩ cfr
   have c0:=cfr 0 (by kernel_rfl);have c5:=cfr 5 (by kernel_rfl);have c8:=cfr 8 (by kernel_rfl);have c9:=cfr 9 (by kernel_rfl)
   simp only[go_sem, ↓reduceIte,Nat.reduceEqDiff,Nat.reduceAdd,Nat.reduceSub,Nat.reduceLeDiff,reduceCtorEq,b0,b5,b8,fK]at c0 c5 c8 c9
   clear cfr
   obtain⟨iw,Q',p',c7,G8,wQ,CF,Nq,dJ,⟨vZ,pE⟩,Jo⟩:=cI0
   have Tv:=dJ.len
   have N5:=dG iw k
   have Nr:(Q'.map eN).length=Q'.length:=by simp
   have yy:=ef Nq
   have lK:=ef (i:=o) (n:=st_c.next) (by omega)
   have x1:=du CF
   by_cases hx:(x:Int)<(I.length:Int)
   ·have gL:∀{e:Env} {gg:Rows} {nx:Nat},(e 10=.int .i64 (IntKind.i64.wrap ((x:Int)+1)))->(∃(iw:Nat->Int) (Q':List Nat) (p':Id),e 7=.own p' 0 Q'.length/\gg p'=some ⟨true,1,Q'.map eN⟩/\gg o=some ⟨true,1,dS iw k⟩/\o.bW<p'.bW/\p'.bW<nx/\zq k bs f y iw Q' i/\(∃h:i<Q'.length,Q'[i]=vt)/\(∀z,z<(x+1)->0<fw bs f (I.getD z 0) (bS bs (I.getD z 0) vt)->0<=iw (bS bs (I.getD z 0) vt)))->∃m0,m0<(I.length)-x/\∃x:Nat,m0=(I.length)-x/\x<=(I.length)/\e 10=.int .i64 (x:Int)/\(∃(iw:Nat->Int) (Q':List Nat) (p':Id),e 7=.own p' 0 Q'.length/\gg p'=some ⟨true,1,Q'.map eN⟩/\gg o=some ⟨true,1,dS iw k⟩/\o.bW<p'.bW/\p'.bW<nx/\zq k bs f y iw Q' i/\(∃h:i<Q'.length,Q'[i]=vt)/\(∀z,z<x->0<fw bs f (I.getD z 0) (bS bs (I.getD z 0) vt)->0<=iw (bS bs (I.getD z 0) vt))):=fun x1 x2=>⟨_,by omega,x+1,rfl,by omega,(by rw[x1,ax (by omega)]),x2⟩
    have O1:x<I.length:=by omega
    have MM:(I.map eN)[x]? =some (eN (I.getD x 0)):=getD_map eN O1
    obtain⟨he,oV⟩:=hme x O1
    obtain⟨e,Rw⟩:∃e,e=I.getD x 0:=⟨_,rfl⟩
    rw[<-Rw]at MM he oV
    have iu:=tb he
    have hq:=nX ok (v:=vt) he
    have RL:=nY ok he oV
    have Nu:=IA k bs f hs e (bS bs e vt) he
    have PV:=ok e he
    have mc:IntKind.i64.wrap (((cH bs e).a:Int)+((cH bs e).b:Int))=((cH bs e).a:Int)+((cH bs e).b:Int):=bE (by omega)
    have pG:IntKind.i64.wrap (((cH bs e).a:Int)+((cH bs e).b:Int)-(vt:Int))=(bS bs e vt:Int):=by
     rw[bE (by omega)]
     unfold bS
     rcases oV with h1|h1
     ·rw[if_pos h1];omega
     ·rw[if_neg fun h2=>PV.2.2 (h2.trans h1.symm)];omega
    have OV:(bS bs e vt:Int)<(k:Int):=by omega
    have M9:=dO (f:=iw) hq
    have J5:=dO (f:=iw) LO
    rw[fK]at Nu
    have wc:=dJ.up i vZ
    rw[pE]at wc
    have iv:=dJ.lo vt LO
    have HT:IntKind.i64.wrap (iw vt+1)=iw vt+1:=bE (by omega)
    rw[aT]at M9 J5
    generalize rH:cH bs e=b at *
    by_cases jO:iw (bS bs e vt)<0
    ·by_cases fN:0<fw bs f e (bS bs e vt)
     ·have hV:=dJ.visit ok vZ (e:=e) he (by rw[pE];exact oV) (by rw[pE];exact jO) (by rw[pE];exact fN)
      rw[pE]at hV
      have eo:(dS iw k).set (bS bs e vt) (aT (iw vt+1))=dS (fun v=>if v=bS bs e vt then iw vt+1 else iw v) k:=kE hq (if_pos rfl) fun v _ hv=>if_neg hv
      rw[aT]at eo
      have e1:Q'.length+1<=16777216:=by omega
      (repeat(first|((repeat(revert hN;revert N;apply Pn.out));refine wk (tw @jh (tw @c0 (tw @c5 (tw @c8 (tw @c9 (tw @c7 (tw @G8 (tw @wQ (tw @hx (tw @hA (tw @pD (tw @MM (tw @Kh (tw @iu (tw @mc (tw @pG (tw @OV (tw @M9 (tw @J5 (tw @jO (tw @fN (tw @HT (tw @eo (tw @Nr (tw @N5 (tw @yy (tw @lK (tw @x1 (tw @e1 (tw @eN.eq_1 (tw @aw.eq_1 @fK.eq_1))))))))))))))))))))))))))))))) ?_;(repeat(refine Pn.mk ?_;intro N hN)))|((try apply Or.inl);refine⟨_,ak.x (Nu) (sd (tw @jh (tw @c0 (tw @c5 (tw @c8 (tw @c9 (tw @c7 (tw @G8 (tw @wQ (tw @hx (tw @hA (tw @pD (tw @MM (tw @Kh (tw @iu (tw @mc (tw @pG (tw @OV (tw @M9 (tw @J5 (tw @jO (tw @fN (tw @HT (tw @eo (tw @Nr (tw @N5 (tw @yy (tw @lK (tw @x1 (tw @e1 (tw @eN.eq_1 (tw @aw.eq_1 @fK.eq_1)))))))))))))))))))))))))))))))),?_⟩;refine hN _ _ ?_;clear hN N)))
      exact gL (sd (tw @jh (tw @c0 (tw @c5 (tw @c8 @c9))))) (⟨_,Q'++[bS bs e vt],⟨253020003,st_c.next+1+1+1+1+1+1⟩,by rw[List.length_append];simp only[go_sem, ↓reduceIte,Nat.reduceEqDiff,Nat.reduceAdd,Nat.reduceSub,Nat.reduceLeDiff,reduceCtorEq,List.length_cons,List.length_nil],by rw[List.map_append,List.map_cons,List.map_nil];simp only[go_sem, ↓reduceIte,Nat.reduceEqDiff,Nat.reduceAdd,Nat.reduceSub,Nat.reduceLeDiff,reduceCtorEq,eN],sd (tw @lK @x1),by(try dsimp only);omega,by(try dsimp only);omega,hV,⟨by simp;omega,by rw[List.getElem_append_left vZ];exact pE⟩,fun z hz hr=>by
       by_cases QA:z=x
       ·subst QA
        rw[<-Rw,if_pos rfl]
        have:=(dJ.iff vt LO).2 (by rw[<-pE];exact List.getElem_mem vZ)
        omega
       ·have:=Jo z (by omega) hr
        split
        ·have:=(dJ.iff vt LO).2 (by rw[<-pE];exact List.getElem_mem vZ)
         omega
        ·exact this⟩)
     ·(repeat(first|((repeat(revert hN;revert N;apply Pn.out));refine wk (tw @jh (tw @c0 (tw @c5 (tw @c8 (tw @c9 (tw @c7 (tw @G8 (tw @wQ (tw @hx (tw @hA (tw @pD (tw @MM (tw @Kh (tw @iu (tw @mc (tw @pG (tw @OV (tw @M9 (tw @jO (tw @fN (tw @N5 (tw @yy (tw @lK (tw @x1 (tw @eN.eq_1 (tw @aw.eq_1 @fK.eq_1)))))))))))))))))))))))))) ?_;(repeat(refine Pn.mk ?_;intro N hN)))|((try apply Or.inl);refine⟨_,ak.x (Nu) (sd (tw @jh (tw @c0 (tw @c5 (tw @c8 (tw @c9 (tw @c7 (tw @G8 (tw @wQ (tw @hx (tw @hA (tw @pD (tw @MM (tw @Kh (tw @iu (tw @mc (tw @pG (tw @OV (tw @M9 (tw @jO (tw @fN (tw @N5 (tw @yy (tw @lK (tw @x1 (tw @eN.eq_1 (tw @aw.eq_1 @fK.eq_1))))))))))))))))))))))))))),?_⟩;refine hN _ _ ?_;clear hN N)))
      exact gL (sd (tw @jh (tw @c0 (tw @c5 (tw @c8 @c9))))) (⟨iw,Q',p',sd @c7,sd (tw @G8 @yy),sd (tw @wQ @lK),CF,by(try dsimp only);omega,dJ,⟨vZ,pE⟩,fun z hz hr=>by
       by_cases QA:z=x
       ·subst QA;rw[<-Rw]at hr;exact absurd hr fN
       ·exact Jo z (by omega) hr⟩)
    ·(repeat(first|((repeat(revert hN;revert N;apply Pn.out));refine wk (tw @jh (tw @c0 (tw @c5 (tw @c8 (tw @c9 (tw @c7 (tw @G8 (tw @wQ (tw @hx (tw @hA (tw @pD (tw @MM (tw @Kh (tw @iu (tw @mc (tw @pG (tw @OV (tw @M9 (tw @jO (tw @N5 (tw @yy (tw @lK (tw @x1 (tw @eN.eq_1 (tw @aw.eq_1 @fK.eq_1))))))))))))))))))))))))) ?_;(repeat(refine Pn.mk ?_;intro N hN)))|((try apply Or.inl);refine⟨_,ak.x (Nu) (sd (tw @jh (tw @c0 (tw @c5 (tw @c8 (tw @c9 (tw @c7 (tw @G8 (tw @wQ (tw @hx (tw @hA (tw @pD (tw @MM (tw @Kh (tw @iu (tw @mc (tw @pG (tw @OV (tw @M9 (tw @jO (tw @N5 (tw @yy (tw @lK (tw @x1 (tw @eN.eq_1 (tw @aw.eq_1 @fK.eq_1)))))))))))))))))))))))))),?_⟩;refine hN _ _ ?_;clear hN N)))
     exact gL (sd (tw @jh (tw @c0 (tw @c5 (tw @c8 @c9))))) (⟨iw,Q',p',sd @c7,sd (tw @G8 @yy),sd (tw @wQ @lK),CF,by(try dsimp only);omega,dJ,⟨vZ,pE⟩,fun z hz hr=>by
      by_cases QA:z=x
      ·subst QA;rw[<-Rw];omega
      ·exact Jo z (by omega) hr⟩)
   ·have hxe:x=I.length:=by omega
    have hw:IntKind.i64.wrap ((i:Int)+1)=((i+1:Nat):Int):=ax (by omega)
    (try((repeat(revert hN;revert N;apply Pn.out));refine wk (tw @jh (tw @c0 (tw @c5 (tw @c8 (tw @c9 (tw @c7 (tw @hx (tw @hA (tw @pD (tw @Kh @fK.eq_1)))))))))) ?_;(repeat(refine Pn.mk ?_;intro N hN))))
    refine⟨_,?_,i+1,iw,Q',p',rfl,sd (tw @jh (tw @c0 (tw @c5 (tw @c8 (tw @c9 @hw))))),sd @c7,sd @G8,sd @wQ,CF,by(try dsimp only);omega,dJ.next vZ fun e he hr=>?_,by omega⟩
    ·omega
    ·rw[pE,hIn]at he
     rw[pE]at hr ⊢
     obtain⟨z,hz,rfl⟩:=Qf e he
     exact Jo z (by omega) hr
 ·(try((repeat(revert hN;revert N;apply Pn.out));refine wk (tw @b0 (tw @b5 (tw @b7 (tw @b8 (tw @hi @fK.eq_1))))) ?_;(repeat(refine Pn.mk ?_;intro N hN))))
  have rJ:ga st_b.get 6 (.own o 0 k)=some (.sl (dS out k)):=qi bgo (by rw[RX];omega) (by rw[List.drop_zero,List.take_of_length_le (by rw[RX];omega)];exact IT)
  exact⟨_,rfl,_,by simp only[go_sem, ↓reduceIte,Nat.reduceEqDiff,Nat.reduceAdd,Nat.reduceSub,Nat.reduceLeDiff,reduceCtorEq,eL];exact rJ,out,rfl,hB.done ok (by omega)⟩
end Go.Proofs.YtgoljkjaameagaaGreat.V

namespace Go.Proofs.YtgoljkjaameagaaGreat.V
open Go.RowKit
attribute [local irreducible] dL wpOps fu Call
attribute [local go_sem] az eQ ec eY eW cJ upd bJ K.av b4 AV.cells AV.cell rowOf rowsOf part ld rowAt bH bG cX dr fR bo cE dD e6 eF cQ dx cC cz db dc br aJ ck bq cq cm dv dy dw cj bx cD dt bp aA cu bQ fQ bd bY bt aH cW aX cY AV.undef bj bl de dn da dj bV dC dE bK dB dz cr cw List.getD_cons_zero List.getD_cons_succ List.getD_nil List.all_cons List.all_nil Bool.and_true Bool.true_and Bool.and_self Bool.not_true Bool.not_false Option.map_some Option.map_none Option.bind_some Option.bind_none List.length_cons List.length_nil List.take_succ_cons List.take_zero List.take_nil List.drop_succ_cons List.drop_zero List.drop_nil List.head?_cons List.map_cons List.map_nil List.getElem?_cons_zero List.getElem?_cons_succ List.cons_append List.nil_append List.append_nil List.length_map List.set_cons_zero List.set_cons_succ eq_self Int.toNat_natCast Int.natCast_nonneg and_self true_and and_true decide_true decide_false Bool.false_eq_true Nat.zero_add Nat.add_zero List.contains_cons List.contains_nil Bool.or_false Bool.false_or beq_self_eq_true ne_eq not_true_eq_false not_false_eq_true Id.mk.injEq false_and and_false Nat.le_refl List.length_append beq_true beq_false Bool.not_eq_eq_eq_not or_false false_or dd ae ai ay bh bD aG aM aD aL bZ bm
def Oy:Bv (List Nat):=fun g cs x ids=>(x=[]/\cs=[.bP]/\ids=[])∨∃id,cs=[.own id 0 x.length]/\0<x.length/\g id=some ⟨true,1,x.map eN⟩/\ids=[id]
theorem LW:vI Oy 1 where
 frame:=fun h hf=>by
  rcases h with h|⟨id,h1,h0,h2,h3⟩
  ·exact .inl h
  ·subst h3;exact .inr ⟨id,h1,h0,(hf id (by simp)).trans h2,rfl⟩
 len:=fun h=>by rcases h with⟨_,h,_⟩|⟨id,h,_⟩<;>subst h<;>rfl
 cell:=fun h=>by rcases h with⟨_,h,_⟩|⟨id,h,_⟩<;>subst h<;>rfl
 live:=fun h i hi=>by
  rcases h with⟨_,_,h⟩|⟨id,h1,h0,h2,h3⟩
  ·subst h;cases hi
  ·subst h3
   have:i=id:=by simpa using hi
   subst this
   exact⟨_,h2,rfl,by simp[s6]⟩
 small:=by simp[s6]
theorem NN {g:Rows} {rows:List (List AV)} {xs:List (List Nat)} {ids:List Id} (n:Nat) (h:ev Oy g rows xs ids):dQ (dd g) (n+2) rows=some (xs.map fun l=>[NY l]):=
 h.fz (fun {cs x ids} h=>by
  rcases h with⟨h0,h1,_⟩|⟨id,h1,h0,h2,_⟩
  ·subst h0 h1;rw[ae,ai,aG];rfl
  ·have gF:x≠[]:=by rintro rfl;simp at h0
   subst h1
   rw[ae,ai,gx (e:=eN) (sz:=1) (by simp[dd,h2]) rfl fun a=>fzN _ n a]
   simp[NY,gF])
theorem ev.QO {α:Type} {R:Bv α} {sz:Nat} {g:Rows} {rows:List (List AV)} {xs:List α} {ids:List Id} (ok:vI R sz) (h:ev R g rows xs ids) (lY:ids.Nodup) (k:Nat) (hk:k<xs.length):
  ∃cs ic,rows[k]? =some cs/\R g cs xs[k] ic/\(∀i∈ic,i∈ids)/\∀(g':Rows) o5 x' O3,R g' o5 x' O3->(∀i∈ids,i∉ic->g' i=g i)->O3.Nodup->(∀i∈O3,i∉ids)->∃CK,ev R g' (rows.set k o5) (xs.set k x') CK/\CK.Nodup/\∀i∈CK,i∈O3∨i∈ids:=by
 obtain⟨r1,cs,r2,i1,ic,i2,rfl,rfl,rfl,h3,h4,h5⟩:=h.split k hk
 obtain⟨n1,n2,n3⟩:=List.nodup_append.1 lY
 obtain⟨nc,n5,n4⟩:=List.nodup_append.1 n2
 refine⟨cs,ic,by simp,h4,fun i hi=>by simp[hi],fun g' o5 x' O3 hR hf hn' kh=>⟨i1++(O3++i2),?_,?_,fun i hi=>?_⟩⟩
 ·have e:xs.set r1.length x'=xs.take r1.length++x'::xs.drop (r1.length+1):=by rw[List.set_eq_take_append_cons_drop,if_pos hk]
  have e2:(r1++cs::r2).set r1.length o5=r1++o5::r2:=by simp
  rw[e,e2]
  refine(h3.frame ok fun i hi=>hf i (by simp[hi]) fun hc=>n3 i hi i (by simp[hc]) rfl).app (.cons hR (h5.frame ok fun i hi=>hf i (by simp[hi]) fun hc=>n4 i hc i hi rfl))
 ·rw[List.nodup_append,List.nodup_append]
  refine⟨n1,⟨hn',n5,fun x hx y hy he=>?_⟩,fun x hx y hy he=>?_⟩
  ·subst he;exact kh x hx (by simp[hy])
  ·subst he
   rcases List.mem_append.1 hy with hy|hy
   ·exact kh x hy (by simp[hx])
   ·exact n3 x hx x (by simp[hy]) rfl
 ·rcases List.mem_append.1 hi with hi|hi
  ·exact .inr (by simp[hi])
  ·rcases List.mem_append.1 hi with hi|hi
   ·exact .inl hi
   ·exact .inr (by simp[hi])
def pV (A:Id) (lo:Nat) (L:List (List Nat)) (g:Rows) (nx:Nat):Prop:=∃rows ids,g A=some ⟨true,1,rows⟩/\ev Oy g rows L ids/\ids.Nodup/\∀i∈ids,lo<i.bW/\i.bW<nx
def bF (cnt:Nat) (bs:List PB) (A F:Id):List AV:=[.int .i64 cnt,.sl (bs.map aw),.own A 0 cnt,.own F 0 bs.length]
def kO (cnt:Nat) (bs:List PB) (m:Nat):List (List Nat):=(List.range cnt).map fun v=>iJ bs m v
theorem iY (cnt:Nat) (bs:List PB) (m:Nat):(kO cnt bs m).length=cnt:=by simp[kO]
structure nv (cnt:Nat) (bs:List PB) (f:Nat->Int) (X A F:Id) (g:Rows) (nx:Nat):Prop where
 x:g X=some ⟨true,4,[bF cnt bs A F]⟩
 a:pV A F.bW (kO cnt bs bs.length) g nx
 f:g F=some ⟨true,1,dS f bs.length⟩
 xa:X.bW<A.bW
 af:A.bW<F.bW
 fn:F.bW<nx
theorem pV.fz {A:Id} {lo cnt:Nat} {bs:List PB} {m nx n:Nat} {g:Rows} (h:pV A lo (kO cnt bs m) g nx):V.fz (dd g) (n+3) (.own A 0 cnt)=some (.sl (pe cnt bs m)):=by
 obtain⟨rows,ids,h1,h2,_,_⟩:=h
 have hl:=h2.len
 rw[iY]at hl
 rw[gi]
 simp only[dd,h1,Option.map_some,if_true]
 rw[if_pos (by omega),List.drop_zero,List.take_of_length_le (by omega)]
 have:=NN n h2
 rw[this]
 simp[kO,pe]
theorem nv.fz {cnt:Nat} {bs:List PB} {f:Nat->Int} {X A F:Id} {g:Rows} {nx:Nat} (h:nv cnt bs f X A F g nx):V.fz (dd g) 6 (.ptr X 0 0)=some (.cN (fK cnt bs f)):=by
 have hF:dd g F=some ⟨true,1,dS f bs.length⟩:=by simp[dd,h.f]
 have hX:dd g X=some ⟨true,4,[bF cnt bs A F]⟩:=by simp[dd,h.x]
 have hf:V.fz (dd g) 5 (.own F 0 bs.length)=some (.sl (dS f bs.length)):=by
  rw[gi]
  simp only[hF,if_true]
  rw[if_pos (by rw[dG];omega),List.drop_zero,List.take_of_length_le (by rw[dG];omega),zi];rfl
 have ha:=h.a.fz (n:=2)
 rw[aL]
 simp only[hX,if_true,List.getElem?_cons_zero,List.drop_zero,bF,ae,ai,ay,bD,ha,hf,Option.map_some,fK]
theorem Fz (cnt:Nat) (bs:List PB):kO cnt bs 0=List.replicate cnt []:=by
 refine List.ext_getElem? fun i=>?_
 simp only[kO,List.getElem?_map,List.getElem?_replicate]
 by_cases h:i<cnt
 ·rw[List.getElem?_range h,if_pos h];rfl
 ·rw[List.getElem?_eq_none (by simpa using h),if_neg h];rfl
theorem xD (g:Rows):∀n:Nat,ev Oy g (List.replicate n [.bP]) (List.replicate n []) []
 |0=>.nil
 |n+1=>.cons (i1:=[]) (.inl ⟨rfl,rfl,rfl⟩) (xD g n)
def we (cnt:Nat) (bs:List PB) (m:Nat):List (List Nat):=(kO cnt bs m).set (cH bs m).a (iJ bs m (cH bs m).a++[m])
theorem AB {cnt:Nat} {bs:List PB} {m v:Nat} (hv:v<cnt) (gF:(cH bs m).a≠v):(we cnt bs m)[v]? =some (iJ bs m v):=by
 unfold we
 rw[List.getElem?_set_ne gF]
 simp[kO,hv]
theorem Fy {cnt:Nat} {bs:List PB} {m:Nat} (ha:(cH bs m).a<cnt) (hb:(cH bs m).b<cnt) (gF:(cH bs m).a≠(cH bs m).b):(we cnt bs m).set (cH bs m).b (iJ bs m (cH bs m).b++[m])=kO cnt bs (m+1):=by
 refine List.ext_getElem? fun i=>?_
 by_cases hi:i<cnt
 ·have hr:(kO cnt bs (m+1))[i]? =some (iJ bs (m+1) i):=by simp[kO,hi]
  rw[hr,FA]
  by_cases h1:(cH bs m).b=i
  ·rw[List.getElem?_set,if_pos h1,if_pos (by simp[we,iY];omega),if_pos (.inr h1),h1]
  ·rw[List.getElem?_set_ne h1]
   by_cases h2:(cH bs m).a=i
   ·unfold we
    rw[List.getElem?_set,if_pos h2,if_pos (by rw[iY];omega),if_pos (.inl h2),h2]
   ·rw[AB hi h2,if_neg (fun h=>h.elim h2 h1),List.append_nil]
 ·rw[List.getElem?_eq_none (by simp[we,iY];omega),List.getElem?_eq_none (by rw[iY];omega)]
theorem ke {α:Type} {l:List α} {k:Nat} {x:α} (h:l[k]? =some x) (hk:k<l.length):l[k]=x:=by
 rw[List.getElem?_eq_getElem hk]at h;exact Option.some.inj h
theorem Ep {A K:Id} {lo QK nx k j:Nat} {L:List (List Nat)} {La:List Nat} {g:Rows} {rows:List (List AV)} {ids:List Id} (hR:ev Oy g rows L ids) (lY:ids.Nodup) (nh:∀i∈ids,lo<i.bW/\i.bW<QK) (hA:A.bW<=lo) (hL:L[k]? =some La) (hK1:QK<=K.bW) (tp:K.bW<nx) (iv:lo<QK):
  ∃cs,rows[k]? =some cs/\((La=[]/\cs=[.bP])∨∃id:Id,cs=[.own id 0 La.length]/\0<La.length/\g id=some ⟨true,1,La.map eN⟩/\id.bW<QK/\lo<id.bW)/\
   ∀g':Rows,g' A=some ⟨true,1,rows.set k [.own K 0 (La.length+1)]⟩->g' K=some ⟨true,1,La.map eN++[[.int .i64 j]]⟩->(∀i:Id,i.bW<QK->(i=A)=False->(∀id,cs=[.own id 0 La.length]->(i=id)=False)->g' i=g i)->pV A lo (L.set k (La++[j])) g' nx:=by
 have hk:k<L.length:=(List.getElem?_eq_some_iff.1 hL).1
 have SF:=ke hL hk
 obtain⟨cs,ic,di,OJ,P6,uv⟩:=hR.QO LW lY k hk
 rw[SF]at OJ
 refine⟨cs,di,?_,fun g' h1 h2 h3=>?_⟩
 ·rcases OJ with⟨h1,h2,_⟩|⟨id,h1,h2,h3,h4⟩
  ·exact .inl ⟨h1,h2⟩
  ·subst h4
   have:=nh id (P6 id (by simp))
   exact .inr ⟨id,h1,h2,h3,this.2,this.1⟩
 ·obtain⟨CK,q1,q2,q3⟩:=uv g' [.own K 0 (La.length+1)] (La++[j]) [K] (.inr ⟨K,by simp,by simp,by rw[h2];simp[eN],rfl⟩) (fun i hi RK=>by
   refine h3 i (nh i hi).2 ?_ fun id hid=>?_
   ·simp only[eq_iff_iff,iff_false];rintro rfl;have:=nh _ hi;omega
   ·simp only[eq_iff_iff,iff_false]
    rintro rfl
    rcases OJ with⟨_,h4,_⟩|⟨ki,h4,_,_,h5⟩
    ·rw[hid]at h4;cases h4
    ·rw[hid]at h4
     simp only[List.cons.injEq,AV.own.injEq,and_true]at h4
     rw[h5,h4]at RK
     exact RK (by simp)) (by simp) fun i hi hc=>by
   rw[List.mem_singleton.1 hi]at hc;have:=nh _ hc;omega
  refine⟨_,CK,h1,q1,q2,fun i hi=>?_⟩
  rcases q3 i hi with h|h
  ·rw[List.mem_singleton.1 h];omega
  ·have:=nh i h;omega
theorem Lc {P:Program} {Q:Ex->Env->ar->Prop} {c:VC} {env:Env} {σ:ar} (I:Env->ar->Prop) (h2:∀e s,I e s->Q .normal e s) (h1:∀N':Env->ar->Prop,(∀e s,I e s->N' e s)->dL (Call P) c (cW N' Q) env σ):dL (Call P) c Q env σ:=by
 refine kH (fun _ _ _ _ h=>h) aE c _ _ env σ (fun x e s h=>?_) (h1 I fun _ _ h=>h)
 cases x with
 |normal=>exact h2 e s h
 |exit id=>exact h
 |ret=>exact h
end Go.Proofs.YtgoljkjaameagaaGreat.V

namespace Go.Proofs.YtgoljkjaameagaaGreat.V
open Go.RowKit
attribute [local irreducible] dL wpOps fu Call
attribute [local go_sem] az eQ ec eY eW cJ upd bJ K.av b4 AV.cells AV.cell rowOf rowsOf part ld rowAt bH bG cX dr fR bo cE dD e6 eF cQ dx cC cz db dc br aJ ck bq cq cm dv dy dw cj bx cD dt bp aA cu bQ fQ bd bY bt aH cW aX cY AV.undef bj bl de dn da dj bV dC dE bK dB dz cr cw List.getD_cons_zero List.getD_cons_succ List.getD_nil List.all_cons List.all_nil Bool.and_true Bool.true_and Bool.and_self Bool.not_true Bool.not_false Option.map_some Option.map_none Option.bind_some Option.bind_none List.length_cons List.length_nil List.take_succ_cons List.take_zero List.take_nil List.drop_succ_cons List.drop_zero List.drop_nil List.head?_cons List.map_cons List.map_nil List.getElem?_cons_zero List.getElem?_cons_succ List.cons_append List.nil_append List.append_nil List.length_map List.set_cons_zero List.set_cons_succ Nat.reduceMul eq_self Int.toNat_natCast Int.natCast_nonneg and_self true_and and_true decide_true decide_false Bool.false_eq_true Nat.zero_add Nat.add_zero List.contains_cons List.contains_nil Bool.or_false Bool.false_or beq_self_eq_true Nat.reduceBEq ne_eq not_true_eq_false not_false_eq_true Id.mk.injEq false_and and_false Nat.reduceLT Int.reduceLE Int.reduceLT Int.reduceToNat Int.reduceNeg Int.reduceAdd Nat.le_refl List.length_append beq_true beq_false Bool.not_eq_eq_eq_not or_false false_or dd ae ai ay bh bD aG aM aD aL bZ bm
theorem H3 (cnt:Nat) (hn:cnt<=1048576) (bs:List PB) (ok:mD cnt bs) (nk:bs.length<=1048576) (σ:ar):
  Call Tryz.prog 251 [.int .i64 cnt,.sl (bs.map aw)] σ fun r σ'=>∃X A F,r=.ptr X 0 0/\σ.next<=X.bW/\nv cnt bs (fun _=>0) X A F σ'.get σ'.next:=by
 refine tK Ms rfl fun hl=>?_
 try simp only[q]
 clear hl
 have jr:(0:Int)<=(cnt:Int):=by omega
 have o6:(cnt:Int)<=((16777216:Nat):Int):=by omega
 have PM:(0:Int)<=(bs.length:Int):=by omega
 have Gy:(bs.length:Int)<=((16777216:Nat):Int):=by omega
 have hz:List.replicate bs.length [AV.int .i64 0]=dS (fun _=>0) bs.length:=by
  refine List.ext_getElem? fun i=>?_
  by_cases h:i<bs.length
  ·rw[dO h,List.getElem?_replicate,if_pos h];rfl
  ·rw[List.getElem?_eq_none (by simp;omega),List.getElem?_eq_none (by rw[dG];omega)]
 (try((repeat(revert hN;revert N;apply Pn.out));refine wk (tw @jr (tw @o6 (tw @PM (tw @Gy (tw @Int.le_refl @hz))))) ?_;(repeat(refine Pn.mk ?_;intro N hN))))
 obtain⟨X,hX⟩:∃X:Id,X=⟨251001003,σ.next+1⟩:=⟨_,rfl⟩
 obtain⟨A,hA⟩:∃X:Id,X=⟨251002002,σ.next+1+1⟩:=⟨_,rfl⟩
 obtain⟨F,hF⟩:∃X:Id,X=⟨251003003,σ.next+1+1+1⟩:=⟨_,rfl⟩
 have hXA:X.bW<A.bW:=by rw[hX,hA];(try dsimp only);omega
 have hAF:A.bW<F.bW:=by rw[hA,hF];(try dsimp only);omega
 have hXs:σ.next<=X.bW:=by rw[hX];(try dsimp only);omega
 refine aY (fun n env st=>∃j:Nat,n=(bs.length)-j/\j<=(bs.length)/\env 6=.int .i64 (j:Int)/\env 5=(.ptr X 0 0)/\st.get X=some ⟨true,4,[bF cnt bs A F]⟩/\st.get F=some ⟨true,1,dS (fun _=>0) bs.length⟩/\(pV A F.bW (kO cnt bs j) st.get st.next/\F.bW<st.next)) (bs.length) ⟨0,by omega,by omega,by(try simp only[go_sem, ↓reduceIte,Nat.reduceEqDiff,Nat.reduceAdd,Nat.reduceSub,Nat.reduceLeDiff,reduceCtorEq,hX,hF,hA,bF,hz]);try rfl,by(try simp only[go_sem, ↓reduceIte,Nat.reduceEqDiff,Nat.reduceAdd,Nat.reduceSub,Nat.reduceLeDiff,reduceCtorEq,hX,hF,hA,bF,hz]);try rfl,by(try simp only[go_sem, ↓reduceIte,Nat.reduceEqDiff,Nat.reduceAdd,Nat.reduceSub,Nat.reduceLeDiff,reduceCtorEq,hX,hF,hA,bF,hz]);try rfl,by(try simp only[go_sem, ↓reduceIte,Nat.reduceEqDiff,Nat.reduceAdd,Nat.reduceSub,Nat.reduceLeDiff,reduceCtorEq,hX,hF,hA,bF,hz]);try rfl,⟨⟨List.replicate cnt [.bP],[],by rw[hA];(simp only[go_sem, ↓reduceIte,Nat.reduceEqDiff,Nat.reduceAdd,Nat.reduceSub,Nat.reduceLeDiff,reduceCtorEq])<;>rfl,by rw[Fz];exact xD _ _,List.nodup_nil,fun i hi=>by cases hi⟩,by rw[hF];(try dsimp only);omega⟩⟩ ?_
 rintro n_a env_a st_a ⟨j,rfl,ale,a6,a5,ag0,ag1,mJ⟩ dU
 have a0:=dU 0 (by kernel_rfl);have a1:=dU 1 (by kernel_rfl)
 simp only[go_sem, ↓reduceIte,Nat.reduceEqDiff,Nat.reduceAdd,Nat.reduceSub,Nat.reduceLeDiff,reduceCtorEq,hX,hF,hA,bF,hz]at a0 a1
 clear dU
 obtain⟨⟨rows,ids,ag,hR,lY,nh⟩,hFn⟩:=mJ
 have x1:=du hXA
 have x2:=du hAF
 have x3:=du (a:=X) (b:=F) (by omega)
 have vX:=ef (i:=X) (n:=st_a.next) (by omega)
 have vA:=ef (i:=A) (n:=st_a.next) (by omega)
 have vF:=ef (i:=F) (n:=st_a.next) (by omega)
 by_cases hj:(j:Int)<(bs.length:Int)
 ·have cK:∀{e:Env} {gg:Rows} {nx:Nat},(e 6=.int .i64 (IntKind.i64.wrap ((j:Int)+1)))->(e 5=(.ptr X 0 0))->(gg X=some ⟨true,4,[bF cnt bs A F]⟩)->(gg F=some ⟨true,1,dS (fun _=>0) bs.length⟩)->(pV A F.bW (kO cnt bs (j+1)) gg nx/\F.bW<nx)->∃m0,m0<(bs.length)-j/\∃j:Nat,m0=(bs.length)-j/\j<=(bs.length)/\e 6=.int .i64 (j:Int)/\e 5=(.ptr X 0 0)/\gg X=some ⟨true,4,[bF cnt bs A F]⟩/\gg F=some ⟨true,1,dS (fun _=>0) bs.length⟩/\(pV A F.bW (kO cnt bs j) gg nx/\F.bW<nx):=fun x1 x2 x3 x4 x5=>⟨_,by omega,j+1,rfl,by omega,(by rw[x1,ax (by omega)]),x2,x3,x4,x5⟩
  have iH:j<bs.length:=by omega
  have iu:=tb iH
  obtain⟨ha1,PN,gF⟩:=ok j iH
  have gq:((cH bs j).a:Int)<(cnt:Int):=by omega
  have fM:((cH bs j).b:Int)<(cnt:Int):=by omega
  have vG:=Fy (m:=j) ha1 PN gF
  have e1:=qt bs j (cH bs j).a
  have e2:=qt bs j (cH bs j).b
  have P3:(we cnt bs j)[(cH bs j).b]? =some (iJ bs j (cH bs j).b):=AB PN gF
  have P0:(kO cnt bs j)[(cH bs j).a]? =some (iJ bs j (cH bs j).a):=by simp[kO,ha1]
  have Su:we cnt bs j=(kO cnt bs j).set (cH bs j).a (iJ bs j (cH bs j).a++[j]):=rfl
  have OK:(we cnt bs j).length=cnt:=by rw[Su,List.length_set,iY]
  have iP:=hR.len
  rw[iY]at iP
  obtain⟨cs7,iW,Hw,HK⟩:=Ep (A:=A) (K:=⟨251007022,st_a.next+1⟩) (nx:=st_a.next+1+1) (j:=j) hR lY nh (by omega) P0 (by(try dsimp only);omega) (by(try dsimp only);omega) hFn
  rw[<-Su]at HK
  obtain⟨c7,rfl⟩:∃c,cs7=[c]:=by
   rcases Hw with⟨_,h⟩|⟨id,h,_⟩<;>exact⟨_,h⟩
  generalize iJ bs j (cH bs j).a=La at *
  generalize iJ bs j (cH bs j).b=Lb at *
  generalize cH bs j=b at *
  generalize we cnt bs j=LA at *
  clear Su
  (try((repeat(revert hN;revert N;apply Pn.out));refine wk (tw @a6 (tw @a5 (tw @ag0 (tw @ag1 (tw @a0 (tw @a1 (tw @hj (tw @iu (tw @aw.eq_1 (tw @ag (tw @iW (tw @gq (tw @fM (tw @iP (tw @x1 (tw @x2 (tw @x3 (tw @vX (tw @vA (tw @vF @bF.eq_1)))))))))))))))))))) ?_;(repeat(refine Pn.mk ?_;intro N hN))))
  refine I5 (fun e s=>e 0=.int .i64 cnt/\e 1=.sl (bs.map aw)/\e 5=.ptr X 0 0/\e 6=.int .i64 j/\s.get X=some ⟨true,4,[bF cnt bs A F]⟩/\s.get F=some ⟨true,1,dS (fun _=>0) bs.length⟩/\pV A F.bW LA s.get s.next/\F.bW<s.next) ?_ ?_
  ·rintro e1 s1 ⟨m0,m1,m5,m6,mX,mF,⟨rows1,ids1,mg,mR,mnd,mver⟩,mn⟩
   refine hN _ _ ?_
   clear hN N
   have iQ:=mR.len
   rw[OK]at iQ
   have wX:=ef (i:=X) (n:=s1.next) (by omega)
   have wA:=ef (i:=A) (n:=s1.next) (by omega)
   have wF:=ef (i:=F) (n:=s1.next) (by omega)
   obtain⟨cs8,iX,Hx,HL⟩:=Ep (A:=A) (K:=⟨251008022,s1.next⟩) (nx:=s1.next+1) (j:=j) mR mnd mver (by omega) P3 (by(try dsimp only);omega) (by(try dsimp only);omega) mn
   rw[vG]at HL
   obtain⟨c8,rfl⟩:∃c,cs8=[c]:=by
    rcases Hx with⟨_,h⟩|⟨id,h,_⟩<;>exact⟨_,h⟩
   (try((repeat(revert hN;revert N;apply Pn.out));refine wk (tw @m0 (tw @m1 (tw @m5 (tw @m6 (tw @mX (tw @mF (tw @hj (tw @iu (tw @aw.eq_1 (tw @mg (tw @iX (tw @gq (tw @fM (tw @iQ (tw @x1 (tw @x2 (tw @x3 (tw @wX (tw @wA (tw @wF @bF.eq_1)))))))))))))))))))) ?_;(repeat(refine Pn.mk ?_;intro N hN))))
   refine Lc (fun e s=>e 0=.int .i64 cnt/\e 1=.sl (bs.map aw)/\e 5=.ptr X 0 0/\e 6=.int .i64 j/\s.get X=some ⟨true,4,[bF cnt bs A F]⟩/\s.get F=some ⟨true,1,dS (fun _=>0) bs.length⟩/\pV A F.bW (kO cnt bs (j+1)) s.get s.next/\F.bW<s.next) ?_ ?_
   ·rintro e2 s2 ⟨p0,p1,p5,p6,pX,pF,pL,pn⟩
    simp only[cW,aX]
    refine hN _ _ ?_
    clear hN N
    (try((repeat(revert hN;revert N;apply Pn.out));refine wk (tw @p0 (tw @p1 (tw @p5 @p6))) ?_;(repeat(refine Pn.mk ?_;intro N hN))))
    refine cK ?_ ?_ ?_ ?_ (⟨by obtain⟨r,i,q1,q2,q3,q4⟩:=pL;exact⟨r,i,sd @q1,q2,q3,fun x hx=>by have:=q4 x hx;(try dsimp only);omega⟩,by(try dsimp only);omega⟩)
    all_goals simp only[go_sem, ↓reduceIte,Nat.reduceEqDiff,Nat.reduceAdd,Nat.reduceSub,Nat.reduceLeDiff,reduceCtorEq,p0,p1,p5,p6,pX,pF]
   ·intro N hN
    rcases Hx with⟨PI,yn⟩|⟨id,yn,hLp,hid,J6,w7⟩
    ·simp only[List.cons.injEq,and_true]at yn
     subst yn
     subst PI
     refine eK ?_ ?_<;>(try((repeat(revert hN;revert N;apply Pn.out));refine wk (tw @m0 (tw @m1 (tw @m5 (tw @m6 (tw @mX (tw @mF (tw @hj (tw @iu (tw @aw.eq_1 (tw @mg (tw @iX (tw @gq (tw @fM (tw @iQ (tw @x1 (tw @x2 (tw @x3 (tw @wX (tw @wA (tw @wF @bF.eq_1)))))))))))))))))))) ?_;(repeat(refine Pn.mk ?_;intro N hN))))<;>(try refine eK ?_ ?_)<;>(try((repeat(revert hN;revert N;apply Pn.out));refine wk (tw @m0 (tw @m1 (tw @m5 (tw @m6 (tw @mX (tw @mF (tw @hj (tw @iu (tw @aw.eq_1 (tw @mg (tw @iX (tw @gq (tw @fM (tw @iQ (tw @x1 (tw @x2 (tw @x3 (tw @wX (tw @wA (tw @wF @bF.eq_1)))))))))))))))))))) ?_;(repeat(refine Pn.mk ?_;intro N hN))))<;>(try refine eK ?_ ?_)<;>(try((repeat(revert hN;revert N;apply Pn.out));refine wk (tw @m0 (tw @m1 (tw @m5 (tw @m6 (tw @mX (tw @mF (tw @hj (tw @iu (tw @aw.eq_1 (tw @mg (tw @iX (tw @gq (tw @fM (tw @iQ (tw @x1 (tw @x2 (tw @x3 (tw @wX (tw @wA (tw @wF @bF.eq_1)))))))))))))))))))) ?_;(repeat(refine Pn.mk ?_;intro N hN))))<;>(try refine eK ?_ ?_)<;>(try((repeat(revert hN;revert N;apply Pn.out));refine wk (tw @m0 (tw @m1 (tw @m5 (tw @m6 (tw @mX (tw @mF (tw @hj (tw @iu (tw @aw.eq_1 (tw @mg (tw @iX (tw @gq (tw @fM (tw @iQ (tw @x1 (tw @x2 (tw @x3 (tw @wX (tw @wA (tw @wF @bF.eq_1)))))))))))))))))))) ?_;(repeat(refine Pn.mk ?_;intro N hN))))<;>(try refine eK ?_ ?_)<;>(try((repeat(revert hN;revert N;apply Pn.out));refine wk (tw @m0 (tw @m1 (tw @m5 (tw @m6 (tw @mX (tw @mF (tw @hj (tw @iu (tw @aw.eq_1 (tw @mg (tw @iX (tw @gq (tw @fM (tw @iQ (tw @x1 (tw @x2 (tw @x3 (tw @wX (tw @wA (tw @wF @bF.eq_1)))))))))))))))))))) ?_;(repeat(refine Pn.mk ?_;intro N hN))))<;>(try refine eK ?_ ?_)<;>(try((repeat(revert hN;revert N;apply Pn.out));refine wk (tw @m0 (tw @m1 (tw @m5 (tw @m6 (tw @mX (tw @mF (tw @hj (tw @iu (tw @aw.eq_1 (tw @mg (tw @iX (tw @gq (tw @fM (tw @iQ (tw @x1 (tw @x2 (tw @x3 (tw @wX (tw @wA (tw @wF @bF.eq_1)))))))))))))))))))) ?_;(repeat(refine Pn.mk ?_;intro N hN))))
     all_goals
      refine⟨by simp only[go_sem, ↓reduceIte,Nat.reduceEqDiff,Nat.reduceAdd,Nat.reduceSub,Nat.reduceLeDiff,reduceCtorEq,m0,m1,m5,m6,mX,mF,hj,iu,aw,mg,iX,gq,fM,iQ,x1,x2,x3,wX,wA,wF,bF],by simp only[go_sem, ↓reduceIte,Nat.reduceEqDiff,Nat.reduceAdd,Nat.reduceSub,Nat.reduceLeDiff,reduceCtorEq,m0,m1,m5,m6,mX,mF,hj,iu,aw,mg,iX,gq,fM,iQ,x1,x2,x3,wX,wA,wF,bF],by simp only[go_sem, ↓reduceIte,Nat.reduceEqDiff,Nat.reduceAdd,Nat.reduceSub,Nat.reduceLeDiff,reduceCtorEq,m0,m1,m5,m6,mX,mF,hj,iu,aw,mg,iX,gq,fM,iQ,x1,x2,x3,wX,wA,wF,bF],by simp only[go_sem, ↓reduceIte,Nat.reduceEqDiff,Nat.reduceAdd,Nat.reduceSub,Nat.reduceLeDiff,reduceCtorEq,m0,m1,m5,m6,mX,mF,hj,iu,aw,mg,iX,gq,fM,iQ,x1,x2,x3,wX,wA,wF,bF],by simp only[go_sem, ↓reduceIte,Nat.reduceEqDiff,Nat.reduceAdd,Nat.reduceSub,Nat.reduceLeDiff,reduceCtorEq,m0,m1,m5,m6,mX,mF,hj,iu,aw,mg,iX,gq,fM,iQ,x1,x2,x3,wX,wA,wF,bF],by simp only[go_sem, ↓reduceIte,Nat.reduceEqDiff,Nat.reduceAdd,Nat.reduceSub,Nat.reduceLeDiff,reduceCtorEq,m0,m1,m5,m6,mX,mF,hj,iu,aw,mg,iX,gq,fM,iQ,x1,x2,x3,wX,wA,wF,bF],HL _ (by simp only[go_sem, ↓reduceIte,Nat.reduceEqDiff,Nat.reduceAdd,Nat.reduceSub,Nat.reduceLeDiff,reduceCtorEq,m0,m1,m5,m6,mX,mF,hj,iu,aw,mg,iX,gq,fM,iQ,x1,x2,x3,wX,wA,wF,bF,List.length_nil]) (by simp only[go_sem, ↓reduceIte,Nat.reduceEqDiff,Nat.reduceAdd,Nat.reduceSub,Nat.reduceLeDiff,reduceCtorEq,m0,m1,m5,m6,mX,mF,hj,iu,aw,mg,iX,gq,fM,iQ,x1,x2,x3,wX,wA,wF,bF,List.map_nil,List.nil_append]) (fun i hi Nc fJ=>?_),by(try dsimp only);omega⟩
      clear fJ
      simp only[go_sem, ↓reduceIte,Nat.reduceEqDiff,Nat.reduceAdd,Nat.reduceSub,Nat.reduceLeDiff,reduceCtorEq,wX,wA,wF,ef hi,Nc]
    ·simp only[List.cons.injEq,and_true]at yn
     subst yn
     have qR:=ef J6
     have y1:=du (a:=A) (b:=id) (by omega)
     have y2:=du (a:=F) (b:=id) w7
     have y3:=du (a:=X) (b:=id) (by omega)
     have e3:Lb.length+1<=16777216:=by omega
     have z1:(Lb.map eN).length=Lb.length:=by simp
     refine eK ?_ ?_<;>(try((repeat(revert hN;revert N;apply Pn.out));refine wk (tw @m0 (tw @m1 (tw @m5 (tw @m6 (tw @mX (tw @mF (tw @hj (tw @iu (tw @aw.eq_1 (tw @mg (tw @iX (tw @gq (tw @fM (tw @iQ (tw @x1 (tw @x2 (tw @x3 (tw @wX (tw @wA (tw @wF (tw @bF.eq_1 (tw @hid (tw @qR (tw @y1 (tw @y2 (tw @y3 (tw @e3 @z1))))))))))))))))))))))))))) ?_;(repeat(refine Pn.mk ?_;intro N hN))))<;>(try refine eK ?_ ?_)<;>(try((repeat(revert hN;revert N;apply Pn.out));refine wk (tw @m0 (tw @m1 (tw @m5 (tw @m6 (tw @mX (tw @mF (tw @hj (tw @iu (tw @aw.eq_1 (tw @mg (tw @iX (tw @gq (tw @fM (tw @iQ (tw @x1 (tw @x2 (tw @x3 (tw @wX (tw @wA (tw @wF (tw @bF.eq_1 (tw @hid (tw @qR (tw @y1 (tw @y2 (tw @y3 (tw @e3 @z1))))))))))))))))))))))))))) ?_;(repeat(refine Pn.mk ?_;intro N hN))))<;>(try refine eK ?_ ?_)<;>(try((repeat(revert hN;revert N;apply Pn.out));refine wk (tw @m0 (tw @m1 (tw @m5 (tw @m6 (tw @mX (tw @mF (tw @hj (tw @iu (tw @aw.eq_1 (tw @mg (tw @iX (tw @gq (tw @fM (tw @iQ (tw @x1 (tw @x2 (tw @x3 (tw @wX (tw @wA (tw @wF (tw @bF.eq_1 (tw @hid (tw @qR (tw @y1 (tw @y2 (tw @y3 (tw @e3 @z1))))))))))))))))))))))))))) ?_;(repeat(refine Pn.mk ?_;intro N hN))))<;>(try refine eK ?_ ?_)<;>(try((repeat(revert hN;revert N;apply Pn.out));refine wk (tw @m0 (tw @m1 (tw @m5 (tw @m6 (tw @mX (tw @mF (tw @hj (tw @iu (tw @aw.eq_1 (tw @mg (tw @iX (tw @gq (tw @fM (tw @iQ (tw @x1 (tw @x2 (tw @x3 (tw @wX (tw @wA (tw @wF (tw @bF.eq_1 (tw @hid (tw @qR (tw @y1 (tw @y2 (tw @y3 (tw @e3 @z1))))))))))))))))))))))))))) ?_;(repeat(refine Pn.mk ?_;intro N hN))))<;>(try refine eK ?_ ?_)<;>(try((repeat(revert hN;revert N;apply Pn.out));refine wk (tw @m0 (tw @m1 (tw @m5 (tw @m6 (tw @mX (tw @mF (tw @hj (tw @iu (tw @aw.eq_1 (tw @mg (tw @iX (tw @gq (tw @fM (tw @iQ (tw @x1 (tw @x2 (tw @x3 (tw @wX (tw @wA (tw @wF (tw @bF.eq_1 (tw @hid (tw @qR (tw @y1 (tw @y2 (tw @y3 (tw @e3 @z1))))))))))))))))))))))))))) ?_;(repeat(refine Pn.mk ?_;intro N hN))))<;>(try refine eK ?_ ?_)<;>(try((repeat(revert hN;revert N;apply Pn.out));refine wk (tw @m0 (tw @m1 (tw @m5 (tw @m6 (tw @mX (tw @mF (tw @hj (tw @iu (tw @aw.eq_1 (tw @mg (tw @iX (tw @gq (tw @fM (tw @iQ (tw @x1 (tw @x2 (tw @x3 (tw @wX (tw @wA (tw @wF (tw @bF.eq_1 (tw @hid (tw @qR (tw @y1 (tw @y2 (tw @y3 (tw @e3 @z1))))))))))))))))))))))))))) ?_;(repeat(refine Pn.mk ?_;intro N hN))))
     all_goals
      refine⟨by simp only[go_sem, ↓reduceIte,Nat.reduceEqDiff,Nat.reduceAdd,Nat.reduceSub,Nat.reduceLeDiff,reduceCtorEq,m0,m1,m5,m6,mX,mF,hj,iu,aw,mg,iX,gq,fM,iQ,x1,x2,x3,wX,wA,wF,bF,hid,qR,y1,y2,y3,e3,z1],by simp only[go_sem, ↓reduceIte,Nat.reduceEqDiff,Nat.reduceAdd,Nat.reduceSub,Nat.reduceLeDiff,reduceCtorEq,m0,m1,m5,m6,mX,mF,hj,iu,aw,mg,iX,gq,fM,iQ,x1,x2,x3,wX,wA,wF,bF,hid,qR,y1,y2,y3,e3,z1],by simp only[go_sem, ↓reduceIte,Nat.reduceEqDiff,Nat.reduceAdd,Nat.reduceSub,Nat.reduceLeDiff,reduceCtorEq,m0,m1,m5,m6,mX,mF,hj,iu,aw,mg,iX,gq,fM,iQ,x1,x2,x3,wX,wA,wF,bF,hid,qR,y1,y2,y3,e3,z1],by simp only[go_sem, ↓reduceIte,Nat.reduceEqDiff,Nat.reduceAdd,Nat.reduceSub,Nat.reduceLeDiff,reduceCtorEq,m0,m1,m5,m6,mX,mF,hj,iu,aw,mg,iX,gq,fM,iQ,x1,x2,x3,wX,wA,wF,bF,hid,qR,y1,y2,y3,e3,z1],by simp only[go_sem, ↓reduceIte,Nat.reduceEqDiff,Nat.reduceAdd,Nat.reduceSub,Nat.reduceLeDiff,reduceCtorEq,m0,m1,m5,m6,mX,mF,hj,iu,aw,mg,iX,gq,fM,iQ,x1,x2,x3,wX,wA,wF,bF,hid,qR,y1,y2,y3,e3,z1],by simp only[go_sem, ↓reduceIte,Nat.reduceEqDiff,Nat.reduceAdd,Nat.reduceSub,Nat.reduceLeDiff,reduceCtorEq,m0,m1,m5,m6,mX,mF,hj,iu,aw,mg,iX,gq,fM,iQ,x1,x2,x3,wX,wA,wF,bF,hid,qR,y1,y2,y3,e3,z1],HL _ (by simp only[go_sem, ↓reduceIte,Nat.reduceEqDiff,Nat.reduceAdd,Nat.reduceSub,Nat.reduceLeDiff,reduceCtorEq,m0,m1,m5,m6,mX,mF,hj,iu,aw,mg,iX,gq,fM,iQ,x1,x2,x3,wX,wA,wF,bF,hid,qR,y1,y2,y3,e3,z1,List.length_nil]) (by simp only[go_sem, ↓reduceIte,Nat.reduceEqDiff,Nat.reduceAdd,Nat.reduceSub,Nat.reduceLeDiff,reduceCtorEq,m0,m1,m5,m6,mX,mF,hj,iu,aw,mg,iX,gq,fM,iQ,x1,x2,x3,wX,wA,wF,bF,hid,qR,y1,y2,y3,e3,z1,List.map_nil,List.nil_append]) (fun i hi Nc fJ=>?_),by(try dsimp only);omega⟩
      have gF:=fJ id rfl
      simp only[go_sem, ↓reduceIte,Nat.reduceEqDiff,Nat.reduceAdd,Nat.reduceSub,Nat.reduceLeDiff,reduceCtorEq,wX,wA,wF,ef hi,Nc,gF]
  ·intro N hN
   rcases Hw with⟨PI,yn⟩|⟨id,yn,hLp,hid,J6,w7⟩
   ·simp only[List.cons.injEq,and_true]at yn
    subst yn
    subst PI
    refine eK ?_ ?_<;>(try((repeat(revert hN;revert N;apply Pn.out));refine wk (tw @a6 (tw @a5 (tw @ag0 (tw @ag1 (tw @a0 (tw @a1 (tw @hj (tw @iu (tw @aw.eq_1 (tw @ag (tw @iW (tw @gq (tw @fM (tw @iP (tw @x1 (tw @x2 (tw @x3 (tw @vX (tw @vA (tw @vF @bF.eq_1)))))))))))))))))))) ?_;(repeat(refine Pn.mk ?_;intro N hN))))<;>(try refine eK ?_ ?_)<;>(try((repeat(revert hN;revert N;apply Pn.out));refine wk (tw @a6 (tw @a5 (tw @ag0 (tw @ag1 (tw @a0 (tw @a1 (tw @hj (tw @iu (tw @aw.eq_1 (tw @ag (tw @iW (tw @gq (tw @fM (tw @iP (tw @x1 (tw @x2 (tw @x3 (tw @vX (tw @vA (tw @vF @bF.eq_1)))))))))))))))))))) ?_;(repeat(refine Pn.mk ?_;intro N hN))))<;>(try refine eK ?_ ?_)<;>(try((repeat(revert hN;revert N;apply Pn.out));refine wk (tw @a6 (tw @a5 (tw @ag0 (tw @ag1 (tw @a0 (tw @a1 (tw @hj (tw @iu (tw @aw.eq_1 (tw @ag (tw @iW (tw @gq (tw @fM (tw @iP (tw @x1 (tw @x2 (tw @x3 (tw @vX (tw @vA (tw @vF @bF.eq_1)))))))))))))))))))) ?_;(repeat(refine Pn.mk ?_;intro N hN))))<;>(try refine eK ?_ ?_)<;>(try((repeat(revert hN;revert N;apply Pn.out));refine wk (tw @a6 (tw @a5 (tw @ag0 (tw @ag1 (tw @a0 (tw @a1 (tw @hj (tw @iu (tw @aw.eq_1 (tw @ag (tw @iW (tw @gq (tw @fM (tw @iP (tw @x1 (tw @x2 (tw @x3 (tw @vX (tw @vA (tw @vF @bF.eq_1)))))))))))))))))))) ?_;(repeat(refine Pn.mk ?_;intro N hN))))<;>(try refine eK ?_ ?_)<;>(try((repeat(revert hN;revert N;apply Pn.out));refine wk (tw @a6 (tw @a5 (tw @ag0 (tw @ag1 (tw @a0 (tw @a1 (tw @hj (tw @iu (tw @aw.eq_1 (tw @ag (tw @iW (tw @gq (tw @fM (tw @iP (tw @x1 (tw @x2 (tw @x3 (tw @vX (tw @vA (tw @vF @bF.eq_1)))))))))))))))))))) ?_;(repeat(refine Pn.mk ?_;intro N hN))))<;>(try refine eK ?_ ?_)<;>(try((repeat(revert hN;revert N;apply Pn.out));refine wk (tw @a6 (tw @a5 (tw @ag0 (tw @ag1 (tw @a0 (tw @a1 (tw @hj (tw @iu (tw @aw.eq_1 (tw @ag (tw @iW (tw @gq (tw @fM (tw @iP (tw @x1 (tw @x2 (tw @x3 (tw @vX (tw @vA (tw @vF @bF.eq_1)))))))))))))))))))) ?_;(repeat(refine Pn.mk ?_;intro N hN))))
    all_goals
     refine⟨by simp only[go_sem, ↓reduceIte,Nat.reduceEqDiff,Nat.reduceAdd,Nat.reduceSub,Nat.reduceLeDiff,reduceCtorEq,a6,a5,ag0,ag1,a0,a1,hj,iu,aw,ag,iW,gq,fM,iP,x1,x2,x3,vX,vA,vF,bF],by simp only[go_sem, ↓reduceIte,Nat.reduceEqDiff,Nat.reduceAdd,Nat.reduceSub,Nat.reduceLeDiff,reduceCtorEq,a6,a5,ag0,ag1,a0,a1,hj,iu,aw,ag,iW,gq,fM,iP,x1,x2,x3,vX,vA,vF,bF],by simp only[go_sem, ↓reduceIte,Nat.reduceEqDiff,Nat.reduceAdd,Nat.reduceSub,Nat.reduceLeDiff,reduceCtorEq,a6,a5,ag0,ag1,a0,a1,hj,iu,aw,ag,iW,gq,fM,iP,x1,x2,x3,vX,vA,vF,bF],by simp only[go_sem, ↓reduceIte,Nat.reduceEqDiff,Nat.reduceAdd,Nat.reduceSub,Nat.reduceLeDiff,reduceCtorEq,a6,a5,ag0,ag1,a0,a1,hj,iu,aw,ag,iW,gq,fM,iP,x1,x2,x3,vX,vA,vF,bF],by simp only[go_sem, ↓reduceIte,Nat.reduceEqDiff,Nat.reduceAdd,Nat.reduceSub,Nat.reduceLeDiff,reduceCtorEq,a6,a5,ag0,ag1,a0,a1,hj,iu,aw,ag,iW,gq,fM,iP,x1,x2,x3,vX,vA,vF,bF],by simp only[go_sem, ↓reduceIte,Nat.reduceEqDiff,Nat.reduceAdd,Nat.reduceSub,Nat.reduceLeDiff,reduceCtorEq,a6,a5,ag0,ag1,a0,a1,hj,iu,aw,ag,iW,gq,fM,iP,x1,x2,x3,vX,vA,vF,bF],HK _ (by simp only[go_sem, ↓reduceIte,Nat.reduceEqDiff,Nat.reduceAdd,Nat.reduceSub,Nat.reduceLeDiff,reduceCtorEq,a6,a5,ag0,ag1,a0,a1,hj,iu,aw,ag,iW,gq,fM,iP,x1,x2,x3,vX,vA,vF,bF,List.length_nil]) (by simp only[go_sem, ↓reduceIte,Nat.reduceEqDiff,Nat.reduceAdd,Nat.reduceSub,Nat.reduceLeDiff,reduceCtorEq,a6,a5,ag0,ag1,a0,a1,hj,iu,aw,ag,iW,gq,fM,iP,x1,x2,x3,vX,vA,vF,bF,List.map_nil,List.nil_append]) (fun i hi Nc fJ=>?_),by(try dsimp only);omega⟩
     clear fJ
     simp only[go_sem, ↓reduceIte,Nat.reduceEqDiff,Nat.reduceAdd,Nat.reduceSub,Nat.reduceLeDiff,reduceCtorEq,vX,vA,vF,ef hi,Nc]
   ·simp only[List.cons.injEq,and_true]at yn
    subst yn
    have qR:=ef J6
    have y1:=du (a:=A) (b:=id) (by omega)
    have y2:=du (a:=F) (b:=id) w7
    have y3:=du (a:=X) (b:=id) (by omega)
    have e3:La.length+1<=16777216:=by omega
    have z1:(La.map eN).length=La.length:=by simp
    refine eK ?_ ?_<;>(try((repeat(revert hN;revert N;apply Pn.out));refine wk (tw @a6 (tw @a5 (tw @ag0 (tw @ag1 (tw @a0 (tw @a1 (tw @hj (tw @iu (tw @aw.eq_1 (tw @ag (tw @iW (tw @gq (tw @fM (tw @iP (tw @x1 (tw @x2 (tw @x3 (tw @vX (tw @vA (tw @vF (tw @bF.eq_1 (tw @hid (tw @qR (tw @y1 (tw @y2 (tw @y3 (tw @e3 @z1))))))))))))))))))))))))))) ?_;(repeat(refine Pn.mk ?_;intro N hN))))<;>(try refine eK ?_ ?_)<;>(try((repeat(revert hN;revert N;apply Pn.out));refine wk (tw @a6 (tw @a5 (tw @ag0 (tw @ag1 (tw @a0 (tw @a1 (tw @hj (tw @iu (tw @aw.eq_1 (tw @ag (tw @iW (tw @gq (tw @fM (tw @iP (tw @x1 (tw @x2 (tw @x3 (tw @vX (tw @vA (tw @vF (tw @bF.eq_1 (tw @hid (tw @qR (tw @y1 (tw @y2 (tw @y3 (tw @e3 @z1))))))))))))))))))))))))))) ?_;(repeat(refine Pn.mk ?_;intro N hN))))<;>(try refine eK ?_ ?_)<;>(try((repeat(revert hN;revert N;apply Pn.out));refine wk (tw @a6 (tw @a5 (tw @ag0 (tw @ag1 (tw @a0 (tw @a1 (tw @hj (tw @iu (tw @aw.eq_1 (tw @ag (tw @iW (tw @gq (tw @fM (tw @iP (tw @x1 (tw @x2 (tw @x3 (tw @vX (tw @vA (tw @vF (tw @bF.eq_1 (tw @hid (tw @qR (tw @y1 (tw @y2 (tw @y3 (tw @e3 @z1))))))))))))))))))))))))))) ?_;(repeat(refine Pn.mk ?_;intro N hN))))<;>(try refine eK ?_ ?_)<;>(try((repeat(revert hN;revert N;apply Pn.out));refine wk (tw @a6 (tw @a5 (tw @ag0 (tw @ag1 (tw @a0 (tw @a1 (tw @hj (tw @iu (tw @aw.eq_1 (tw @ag (tw @iW (tw @gq (tw @fM (tw @iP (tw @x1 (tw @x2 (tw @x3 (tw @vX (tw @vA (tw @vF (tw @bF.eq_1 (tw @hid (tw @qR (tw @y1 (tw @y2 (tw @y3 (tw @e3 @z1))))))))))))))))))))))))))) ?_;(repeat(refine Pn.mk ?_;intro N hN))))<;>(try refine eK ?_ ?_)<;>(try((repeat(revert hN;revert N;apply Pn.out));refine wk (tw @a6 (tw @a5 (tw @ag0 (tw @ag1 (tw @a0 (tw @a1 (tw @hj (tw @iu (tw @aw.eq_1 (tw @ag (tw @iW (tw @gq (tw @fM (tw @iP (tw @x1 (tw @x2 (tw @x3 (tw @vX (tw @vA (tw @vF (tw @bF.eq_1 (tw @hid (tw @qR (tw @y1 (tw @y2 (tw @y3 (tw @e3 @z1))))))))))))))))))))))))))) ?_;(repeat(refine Pn.mk ?_;intro N hN))))<;>(try refine eK ?_ ?_)<;>(try((repeat(revert hN;revert N;apply Pn.out));refine wk (tw @a6 (tw @a5 (tw @ag0 (tw @ag1 (tw @a0 (tw @a1 (tw @hj (tw @iu (tw @aw.eq_1 (tw @ag (tw @iW (tw @gq (tw @fM (tw @iP (tw @x1 (tw @x2 (tw @x3 (tw @vX (tw @vA (tw @vF (tw @bF.eq_1 (tw @hid (tw @qR (tw @y1 (tw @y2 (tw @y3 (tw @e3 @z1))))))))))))))))))))))))))) ?_;(repeat(refine Pn.mk ?_;intro N hN))))
    all_goals
     refine⟨by simp only[go_sem, ↓reduceIte,Nat.reduceEqDiff,Nat.reduceAdd,Nat.reduceSub,Nat.reduceLeDiff,reduceCtorEq,a6,a5,ag0,ag1,a0,a1,hj,iu,aw,ag,iW,gq,fM,iP,x1,x2,x3,vX,vA,vF,bF,hid,qR,y1,y2,y3,e3,z1],by simp only[go_sem, ↓reduceIte,Nat.reduceEqDiff,Nat.reduceAdd,Nat.reduceSub,Nat.reduceLeDiff,reduceCtorEq,a6,a5,ag0,ag1,a0,a1,hj,iu,aw,ag,iW,gq,fM,iP,x1,x2,x3,vX,vA,vF,bF,hid,qR,y1,y2,y3,e3,z1],by simp only[go_sem, ↓reduceIte,Nat.reduceEqDiff,Nat.reduceAdd,Nat.reduceSub,Nat.reduceLeDiff,reduceCtorEq,a6,a5,ag0,ag1,a0,a1,hj,iu,aw,ag,iW,gq,fM,iP,x1,x2,x3,vX,vA,vF,bF,hid,qR,y1,y2,y3,e3,z1],by simp only[go_sem, ↓reduceIte,Nat.reduceEqDiff,Nat.reduceAdd,Nat.reduceSub,Nat.reduceLeDiff,reduceCtorEq,a6,a5,ag0,ag1,a0,a1,hj,iu,aw,ag,iW,gq,fM,iP,x1,x2,x3,vX,vA,vF,bF,hid,qR,y1,y2,y3,e3,z1],by simp only[go_sem, ↓reduceIte,Nat.reduceEqDiff,Nat.reduceAdd,Nat.reduceSub,Nat.reduceLeDiff,reduceCtorEq,a6,a5,ag0,ag1,a0,a1,hj,iu,aw,ag,iW,gq,fM,iP,x1,x2,x3,vX,vA,vF,bF,hid,qR,y1,y2,y3,e3,z1],by simp only[go_sem, ↓reduceIte,Nat.reduceEqDiff,Nat.reduceAdd,Nat.reduceSub,Nat.reduceLeDiff,reduceCtorEq,a6,a5,ag0,ag1,a0,a1,hj,iu,aw,ag,iW,gq,fM,iP,x1,x2,x3,vX,vA,vF,bF,hid,qR,y1,y2,y3,e3,z1],HK _ (by simp only[go_sem, ↓reduceIte,Nat.reduceEqDiff,Nat.reduceAdd,Nat.reduceSub,Nat.reduceLeDiff,reduceCtorEq,a6,a5,ag0,ag1,a0,a1,hj,iu,aw,ag,iW,gq,fM,iP,x1,x2,x3,vX,vA,vF,bF,hid,qR,y1,y2,y3,e3,z1,List.length_nil]) (by simp only[go_sem, ↓reduceIte,Nat.reduceEqDiff,Nat.reduceAdd,Nat.reduceSub,Nat.reduceLeDiff,reduceCtorEq,a6,a5,ag0,ag1,a0,a1,hj,iu,aw,ag,iW,gq,fM,iP,x1,x2,x3,vX,vA,vF,bF,hid,qR,y1,y2,y3,e3,z1,List.map_nil,List.nil_append]) (fun i hi Nc fJ=>?_),by(try dsimp only);omega⟩
     have gF:=fJ id rfl
     simp only[go_sem, ↓reduceIte,Nat.reduceEqDiff,Nat.reduceAdd,Nat.reduceSub,Nat.reduceLeDiff,reduceCtorEq,vX,vA,vF,ef hi,Nc,gF]
 ·have gC:j=bs.length:=by omega
  subst gC
  (try((repeat(revert hN;revert N;apply Pn.out));refine wk (tw @a6 (tw @a5 (tw @ag0 (tw @ag1 (tw @a0 (tw @a1 @hj)))))) ?_;(repeat(refine Pn.mk ?_;intro N hN))))
  exact fI (.inl rfl) (by simp only[eX,gM,go_sem, ↓reduceIte,Nat.reduceEqDiff,Nat.reduceAdd,Nat.reduceSub,Nat.reduceLeDiff,reduceCtorEq];rfl) ⟨X,A,F,rfl,hXs,⟨ag0,⟨rows,ids,ag,hR,lY,fun x hx=>by have:=nh x hx;(try dsimp only);omega⟩,ag1,hXA,hAF,by(try dsimp only);omega⟩⟩
theorem pV.frame {A:Id} {lo nx wj:Nat} {L:List (List Nat)} {g g':Rows} (h:pV A lo L g nx) (hA:A.bW<nx) (hf:∀i:Id,i.bW<nx->lo<i.bW∨i=A->g' i=g i) (hn:nx<=wj):pV A lo L g' wj:=by
 obtain⟨rows,ids,h1,h2,h3,h4⟩:=h
 refine⟨rows,ids,(hf A hA (.inr rfl)).trans h1,h2.frame LW fun i hi=>hf i (h4 i hi).2 (.inl (h4 i hi).1),h3,fun i hi=>?_⟩
 have:=h4 i hi;omega
theorem nv.frame {cnt:Nat} {bs:List PB} {f:Nat->Int} {X A F:Id} {g g':Rows} {nx wj:Nat} (h:nv cnt bs f X A F g nx) (hf:∀i:Id,i.bW<nx->g' i=g i) (hn:nx<=wj):nv cnt bs f X A F g' wj:=by
 have h1:=h.xa;have h2:=h.af;have h3:=h.fn
 exact⟨(hf X (by omega)).trans h.x,h.a.frame (by omega) (fun i hi _=>hf i hi) hn,(hf F h3).trans h.f,h1,h2,by omega⟩
theorem nv.Px {cnt:Nat} {bs:List PB} {f f':Nat->Int} {X A F:Id} {g g':Rows} {nx wj:Nat} (h:nv cnt bs f X A F g nx) (hF:g' F=some ⟨true,1,dS f' bs.length⟩) (hf:∀i:Id,i.bW<nx->(i=F)=False->g' i=g i) (hn:nx<=wj):nv cnt bs f' X A F g' wj:=by
 have h1:=h.xa;have h2:=h.af;have h3:=h.fn
 refine⟨(hf X (by omega) (du (by omega)).1).trans h.x,h.a.frame (by omega) (fun i hi iv=>hf i hi ?_) hn,hF,h1,h2,by omega⟩
 rcases iv with iv|rfl
 ·exact(du iv).2
 ·exact(du h2).1
theorem NS (cnt:Nat) (bs:List PB) (f:Nat->Int) (hs:Small bs f) (e v:Nat) (he:e<bs.length) (X A F:Id) (σ:ar) (nx:Nat) (hS:nv cnt bs f X A F σ.get nx) (hn:nx<=σ.next):
  Call Tryz.prog 298 [.ptr X 0 0,.int .i64 v,.int .i64 e] σ fun r σ'=>nv cnt bs (sI bs f e v) X A F σ'.get nx/\σ.next<=σ'.next/\∀i:Id,(i=F)=False->σ'.get i=σ.get i:=by
 refine eO eb rfl fun hl=>?_
 clear hl
 have hX:=hS.x
 have hF:=hS.f
 have hb:=tb he
 have SV:=dO (f:=f) he
 have tl:=dG f bs.length
 obtain⟨⟨s0,s1⟩,s2,s3⟩:=hs e he
 have hei:(e:Int)<(bs.length:Int):=by omega
 have w1:IntKind.i64.wrap (f e+1)=f e+1:=bE (by omega)
 have w2:IntKind.i64.wrap (f e-1)=f e+-1:=by rw[bE (by omega)];omega
 rw[aT]at SV
 unfold sI
 by_cases h:(cH bs e).a=v
 ·have eo:(dS f bs.length).set e (aT (f e+1))=dS (fun j=>f j+if j=e then(if (cH bs e).a=v then 1 else -1)else 0) bs.length:=kE he (by rw[if_pos rfl,if_pos h]) fun i _ hi=>by rw[if_neg hi,Int.add_zero]
  rw[aT]at eo
  generalize Rt:cH bs e=b at *
  have hd:decide ((b.a:Int)=(v:Int))=true:=decide_eq_true (by rw[h])
  (try((repeat(revert hN;revert N;apply Pn.out));refine wk (tw @hX (tw @hF (tw @hb (tw @SV (tw @tl (tw @hei (tw @w1 (tw @eo (tw @hd (tw @aw.eq_1 @bF.eq_1)))))))))) ?_;(repeat(refine Pn.mk ?_;intro N hN))))
  exact fI (.inr rfl) (vs:=[]) rfl ⟨hS.Px (sd @Nat.zero_add) (fun i hi gF=>sd @gF) (Nat.le_refl _),by(try dsimp only);omega,fun i gF=>sd @gF⟩
 ·have eo:(dS f bs.length).set e (aT (f e+-1))=dS (fun j=>f j+if j=e then(if (cH bs e).a=v then 1 else -1)else 0) bs.length:=kE he (by rw[if_pos rfl,if_neg h]) fun i _ hi=>by rw[if_neg hi,Int.add_zero]
  rw[aT]at eo
  generalize Rt:cH bs e=b at *
  have hd:decide ((b.a:Int)=(v:Int))=false:=decide_eq_false fun hc=>h (by omega)
  (try((repeat(revert hN;revert N;apply Pn.out));refine wk (tw @hX (tw @hF (tw @hb (tw @SV (tw @tl (tw @hei (tw @w2 (tw @eo (tw @hd (tw @aw.eq_1 @bF.eq_1)))))))))) ?_;(repeat(refine Pn.mk ?_;intro N hN))))
  exact fI (.inr rfl) (vs:=[]) rfl ⟨hS.Px (sd @Nat.zero_add) (fun i hi gF=>sd @gF) (Nat.le_refl _),by(try dsimp only);omega,fun i gF=>sd @gF⟩
structure nw (bs:List PB) (out:Nat->Int) (f f':Nat->Int) (x v:Nat):Prop where
 le:∀i,i<bs.length->f' i<=(cH bs i).s/\-(cH bs i).s<=f' i
 cut:∀S:Nat->Bool,EW S bs f'=EW S bs f+bi (S x)-bi (S v)
 A6:∀e,e<bs.length->out (cH bs e).a<=out v->out (cH bs e).b<=out v->f' e=f e
section
variable {cnt:Nat} {bs:List PB} {out:Nat->Int} {f f':Nat->Int} {x v y:Nat}
theorem nw.start (h:∀i,i<bs.length->f i<=(cH bs i).s/\-(cH bs i).s<=f i):nw bs out f f x x:=⟨h,fun S=>by omega,fun _ _ _ _=>rfl⟩
theorem nw.step (h:nw bs out f f' x v) {e:Nat} (he:e<bs.length) (hi:DH bs e v) (hr:0<fw bs f' e v) (hd:out (bS bs e v)=out v-1):nw bs out f (sI bs f' e v) x (bS bs e v):=by
 refine⟨fun i o7=>?_,fun S=>?_,fun i o7 ha hb=>?_⟩
 ·have h1:=h.le i o7
  unfold sI
  by_cases GA:i=e
  ·subst GA
   rw[if_pos rfl]
   unfold fw at hr
   split at hr<;>rename_i hc
   ·rw[if_pos hc];omega
   ·rw[if_neg hc];omega
  ·rw[if_neg GA];omega
 ·rw[EX he hi,h.cut S];omega
 ·have GA:i≠e:=by
   rintro rfl
   rcases hi with hi|hi
   ·rw[hi]at ha;omega
   ·rw[hi]at hb;omega
  unfold sI
  rw[if_neg GA,Int.add_zero]
  exact h.A6 i o7 (by omega) (by omega)
theorem nw.goes (h:nw bs out f f' x v) (hs:xM cnt bs f y out) (hv:v<cnt) (h0:0<out v):∃e∈iJ bs bs.length v,0<fw bs f' e v/\out (bS bs e v)=out v-1:=by
 obtain⟨e,h1,h2,h3,h4⟩:=hs.down v hv h0
 refine⟨e,qu.2 ⟨h1,h2⟩,?_,h4⟩
 have hf:f' e=f e:=by
  refine h.A6 e h1 ?_ ?_
  ·unfold bS at h4
   split at h4
   ·rename_i ha;rw[ha];exact Int.le_refl _
   ·omega
  ·unfold bS at h4
   rcases h2 with h2|h2
   ·rw[if_pos h2]at h4;omega
   ·rw[h2];exact Int.le_refl _
 unfold fw at h3 ⊢
 rw[hf];exact h3
theorem nw.done {val:Int} (h:nw bs out f f' x y) (hf:jJ bs f x y val):jJ bs f' x y (val+1):=
 ⟨h.le,fun S hx hy=>by rw[h.cut S,hf.cut S hx hy,hx,hy];simp[bi]⟩
theorem Dp {val:Int} (hs:xM cnt bs f y out) (ok:mD cnt bs) (hf:jJ bs f x y val) (hx:out x<0):∃S:Nat->Bool,S x=true/\S y=false/\val=iO S bs:=by
 refine⟨fun v=>decide (out v<0),decide_eq_true hx,decide_eq_false (by rw[hs.first];omega),hf.full (decide_eq_true hx) (decide_eq_false (by rw[hs.first];omega)) fun i hi qk=>⟨fun h1 h2 hr=>?_,fun h1 h2 hr=>?_⟩⟩
 ·have PA:=of_decide_eq_true h1
  have Bz:=of_decide_eq_false h2
  have:=hs.shut i (cH bs i).a hi (.inl rfl) (by unfold bS;rw[if_pos rfl];omega) hr
  omega
 ·have PA:=of_decide_eq_true h1
  have Bz:=of_decide_eq_false h2
  have:=hs.shut i (cH bs i).b hi (.inr rfl) (by unfold bS;rw[if_neg qk];omega) hr
  omega
end
theorem vd {bs:List PB} {f:Nat->Int} (er:∀e,e<bs.length->0<=(cH bs e).s/\(cH bs e).s<=4) (h:∀i,i<bs.length->f i<=(cH bs i).s/\-(cH bs i).s<=f i):Small bs f:=fun e he=>by
 have:=er e he;have:=h e he;omega
theorem pV.at_ {A:Id} {lo nx v:Nat} {L:List (List Nat)} {l:List Nat} {g:Rows} (h:pV A lo L g nx) (hv:L[v]? =some l) (hl:0<l.length):∃(rows:List (List AV)) (id:Id),g A=some ⟨true,1,rows⟩/\rows.length=L.length/\rows[v]? =some [.own id 0 l.length]/\g id=some ⟨true,1,l.map eN⟩/\lo<id.bW/\id.bW<nx:=by
 obtain⟨rows,ids,h1,h2,h3,h4⟩:=h
 have hk:v<L.length:=(List.getElem?_eq_some_iff.1 hv).1
 obtain⟨cs,ic,di,hR,P6⟩:=h2.at_ v hk
 rw[ke hv hk]at hR
 rcases hR with⟨h5,_⟩|⟨id,rfl,_,h6,rfl⟩
 ·subst h5;simp at hl
 ·have:=h4 id (P6 id (by simp))
  exact⟨rows,id,h1,h2.len,di,h6,this.1,this.2⟩
theorem ML (cnt:Nat) (hn:cnt<=1048576) (bs:List PB) (ok:mD cnt bs) (nk:bs.length<=1048576) (er:∀e,e<bs.length->0<=(cH bs e).s/\(cH bs e).s<=4) (f:Nat->Int) (x y:Nat) (hx:x<cnt) (hy:y<cnt) (Qx:x≠y) (val:Int) (hf:jJ bs f x y val)
  (X A F:Id) (σ:ar) (nb:Nat) (hS:nv cnt bs f X A F σ.get nb) (vG:nb<=σ.next):
  Call Tryz.prog 252 [.ptr X 0 0,.int .i64 x,.int .i64 y] σ fun r σ'=>∃b f',r=.bool b/\nv cnt bs f' X A F σ'.get nb/\σ.next<=σ'.next/\(∀i:Id,i.bW<nb->(i=F)=False->σ'.get i=σ.get i)/\
   (b=false->f'=f/\∃S:Nat->Bool,S x=true/\S y=false/\val=iO S bs)/\(b=true->jJ bs f' x y (val+1)):=by
 refine eO eb rfl fun hl=>?_
 clear hl
 have BH:(x:Int)<(cnt:Int):=by omega
 have hz:∀(g:Rows),(∀i:Id,i.bW<nb->g i=σ.get i)->cI (dd g) 6 [.ptr X 0 0,.int .i64 (y:Int)]=some [.cN (fK cnt bs f),.int .i64 y]:=fun g hg=>by
  have:=(hS.frame hg (Nat.le_refl _)).fz
  simp only[ae,ai,this,ay,Option.map_some]
 (try((repeat(revert hN;revert N;apply Pn.out));refine wk @Nat.zero_add ?_;(repeat(refine Pn.mk ?_;intro N hN))))
 refine .inr (aE _ _ _ _ _ (fun r σ1 hq=>?_) ((Ez cnt hn bs ok nk f (vd er hf.le) y hy).x mixed (hz _ (fun i hi=>rfl))))
 obtain⟨⟨out,rfl,Nw⟩,rfl⟩:=hq
 refine hN _ _ ?_
 clear hN N
 have hox:=dO (f:=out) hx
 have tl:=dG out cnt
 by_cases jO:out x<0
 ·(try((repeat(revert hN;revert N;apply Pn.out));refine wk (tw @hox (tw @jO (tw @BH (tw @tl @aT.eq_1)))) ?_;(repeat(refine Pn.mk ?_;intro N hN))))
  exact fI (.inl rfl) (vs:=[.bool false]) (sd @Nat.zero_add) ⟨false,f,rfl,hS.frame (fun i hi=>rfl) (Nat.le_refl _),by(try dsimp only);omega,fun i _ _=>rfl,fun _=>⟨rfl,Dp Nw ok hf jO⟩,fun h=>by cases h⟩
 (try((repeat(revert hN;revert N;apply Pn.out));refine wk (tw @hox (tw @jO (tw @BH (tw @tl @aT.eq_1)))) ?_;(repeat(refine Pn.mk ?_;intro N hN))))
 refine aY (fun m env st=>∃(v:Nat) (f':Nat->Int),m=(out v).toNat/\v<cnt/\0<=out v/\env 8=.int .i64 (v:Int)/\nw bs out f f' x v/\nv cnt bs f' X A F st.get nb/\(∀i:Id,i.bW<nb->(i=F)=False->st.get i=σ.get i)/\σ.next<=st.next) (out x).toNat ⟨x,f,rfl,hx,by omega,by(simp only[go_sem, ↓reduceIte,Nat.reduceEqDiff,Nat.reduceAdd,Nat.reduceSub,Nat.reduceLeDiff,reduceCtorEq]),nw.start hf.le,hS.frame (fun i hi=>rfl) (Nat.le_refl _),fun i _ _=>rfl,by(try dsimp only);omega⟩ ?_
 rintro m env_b st_b ⟨v,f',rfl,hv,qW,b8,hW,hN1,jY,hle⟩ bfr
 have b0:=bfr 0 (by kernel_rfl)
 have b2:=bfr 2 (by kernel_rfl)
 have b7:=bfr 7 (by kernel_rfl)
 simp only[go_sem, ↓reduceIte,Nat.reduceEqDiff,Nat.reduceAdd,Nat.reduceSub,Nat.reduceLeDiff,reduceCtorEq]at b0 b2 b7
 clear bfr
 by_cases RT:v=y
 ·have hd:decide ((v:Int)=(y:Int))=true:=decide_eq_true (by rw[RT])
  subst RT
  (try((repeat(revert hN;revert N;apply Pn.out));refine wk (tw @b0 (tw @b2 (tw @b7 (tw @b8 @hd)))) ?_;(repeat(refine Pn.mk ?_;intro N hN))))
  exact fI (.inl rfl) (vs:=[.bool true]) (sd @Nat.zero_add) ⟨true,f',rfl,hN1,by(try dsimp only);omega,jY,fun h=>(by cases h),fun _=>hW.done hf⟩
 have hd:decide ((v:Int)=(y:Int))=false:=decide_eq_false fun h=>RT (by omega)
 have zw:0<out v:=by
  have:=Nw.zero v hv
  rcases Int.lt_or_eq_of_le qW with h|h
  ·exact h
  ·exact absurd (this h.symm) RT
 have LB:=hW.goes Nw hv zw
 have hIm:∀ed∈iJ bs bs.length v,ed<bs.length/\DH bs ed v:=fun ed h=>qu.1 h
 have hIL:(kO cnt bs bs.length)[v]? =some (iJ bs bs.length v):=by simp[kO,hv]
 have hIl:=qt bs bs.length v
 generalize iJ bs bs.length v=I at *
 have hIp:0<I.length:=by
  obtain⟨ed,h,_⟩:=LB
  exact List.length_pos_of_mem h
 obtain⟨rows,id,Rz,mb,kW,hid,hid1,hid2⟩:=hN1.a.at_ hIL hIp
 rw[iY]at mb
 have hgX:=hN1.x
 have CH:(v:Int)<(cnt:Int):=by omega
 have s4:=dO (f:=out) hv
 have mc:IntKind.i64.wrap (out v-1)=out v-1:=bE (by have:=Nw.lo v hv;omega)
 have pD:(I.map eN).length=I.length:=by simp
 have BE:=vd er hW.le
 have kK:∀(g:Rows),(∀i:Id,i.bW<nb->g i=st_b.get i)->∀ed:Nat,cI (dd g) 6 [.ptr X 0 0,.int .i64 (v:Int),.int .i64 (ed:Int)]=some [.cN (fK cnt bs f'),.int .i64 v,.int .i64 ed]:=fun g hg ed=>by
  have:=(hN1.frame hg (Nat.le_refl _)).fz
  simp only[ae,ai,this,ay,Option.map_some]
 rw[aT]at s4
 (try((repeat(revert hN;revert N;apply Pn.out));refine wk (tw @b0 (tw @b2 (tw @b7 (tw @b8 @hd)))) ?_;(repeat(refine Pn.mk ?_;intro N hN))))
 refine aY (fun n env st=>∃k:Nat,n=(I.length)-k/\k<=(I.length)/\env 11=.int .i64 (k:Int)/\(∃(xu DO:Int),env 9=.int .i64 xu/\env 10=.int .i64 DO/\((xu<0/\∀z,z<k->¬(0<fw bs f' (I.getD z 0) v/\out (bS bs (I.getD z 0) v)=out v-1))∨∃ed:Nat,ed∈I/\DO=(ed:Int)/\xu=(bS bs ed v:Int)/\0<fw bs f' ed v/\out (bS bs ed v)=out v-1))/\((∀i:Id,st.get i=st_b.get i)/\st_b.next<=st.next)) (I.length) ⟨0,by omega,by omega,sl (tw @b0 (tw @b2 (tw @b7 @b8))),⟨-1,0,by(simp only[go_sem, ↓reduceIte,Nat.reduceEqDiff,Nat.reduceAdd,Nat.reduceSub,Nat.reduceLeDiff,reduceCtorEq]),by(simp only[go_sem, ↓reduceIte,Nat.reduceEqDiff,Nat.reduceAdd,Nat.reduceSub,Nat.reduceLeDiff,reduceCtorEq]),.inl ⟨by omega,fun z hz=>by omega⟩⟩,⟨fun i=>rfl,by(try dsimp only);omega⟩⟩ ?_
 rintro n_c env_c st_c ⟨k,rfl,cle,mU,cI0,cI1⟩ cfr
 have c0:=cfr 0 (by kernel_rfl);have c2:=cfr 2 (by kernel_rfl);have c7:=cfr 7 (by kernel_rfl);have c8:=cfr 8 (by kernel_rfl)
 simp only[go_sem, ↓reduceIte,Nat.reduceEqDiff,Nat.reduceAdd,Nat.reduceSub,Nat.reduceLeDiff,reduceCtorEq,b0,b2,b7,b8]at c0 c2 c7 c8
 clear cfr
 obtain⟨xu,DO,c9,jh,Hv⟩:=cI0
 obtain⟨lJ,OL⟩:=cI1
 have CA:=(lJ X).trans hgX
 have Cz:=(lJ A).trans Rz
 have CC:=(lJ id).trans hid
 by_cases hk:(k:Int)<(I.length:Int)
 ·have gL:∀{e:Env} {gg:Rows} {nx:Nat},(e 11=.int .i64 (IntKind.i64.wrap ((k:Int)+1)))->(∃(xu DO:Int),e 9=.int .i64 xu/\e 10=.int .i64 DO/\((xu<0/\∀z,z<(k+1)->¬(0<fw bs f' (I.getD z 0) v/\out (bS bs (I.getD z 0) v)=out v-1))∨∃ed:Nat,ed∈I/\DO=(ed:Int)/\xu=(bS bs ed v:Int)/\0<fw bs f' ed v/\out (bS bs ed v)=out v-1))->((∀i:Id,gg i=st_b.get i)/\st_b.next<=nx)->∃m0,m0<(I.length)-k/\∃k:Nat,m0=(I.length)-k/\k<=(I.length)/\e 11=.int .i64 (k:Int)/\(∃(xu DO:Int),e 9=.int .i64 xu/\e 10=.int .i64 DO/\((xu<0/\∀z,z<k->¬(0<fw bs f' (I.getD z 0) v/\out (bS bs (I.getD z 0) v)=out v-1))∨∃ed:Nat,ed∈I/\DO=(ed:Int)/\xu=(bS bs ed v:Int)/\0<fw bs f' ed v/\out (bS bs ed v)=out v-1))/\((∀i:Id,gg i=st_b.get i)/\st_b.next<=nx):=fun x1 x2 x3=>⟨_,by omega,k+1,rfl,by omega,(by rw[x1,ax (by omega)]),x2,x3⟩
  have eU:k<I.length:=by omega
  have ea:(I.map eN)[k]? =some (eN (I.getD k 0)):=getD_map eN eU
  have v7:I.getD k 0∈I:=by rw[List.getD_eq_getElem?_getD,List.getElem?_eq_getElem eU];exact List.getElem_mem eU
  obtain⟨he,oV⟩:=hIm _ v7
  have Nu:=IA cnt bs f' BE (I.getD k 0) v he
  have sD:=kK st_c.get (fun i _=>lJ i) (I.getD k 0)
  have hq:=nX ok (v:=v) he
  have OT:=dO (f:=out) hq
  obtain⟨ed,hed⟩:∃ed,ed=I.getD k 0:=⟨_,rfl⟩
  rw[<-hed]at ea he oV Nu sD hq OT v7
  rw[aT]at OT
  rw[eN]at ea
  (try((repeat(revert hN;revert N;apply Pn.out));refine wk (tw @mU (tw @c0 (tw @c2 (tw @c7 (tw @c8 (tw @c9 (tw @jh (tw @hk (tw @CA (tw @Cz (tw @CC (tw @kW (tw @mb (tw @CH (tw @ea (tw @pD @bF.eq_1)))))))))))))))) ?_;(repeat(refine Pn.mk ?_;intro N hN))))
  refine .inl ⟨_,ak.x Nu sD,?_⟩
  refine hN _ _ ?_
  clear hN N
  have stay:∀k',k'=k+1->(¬(0<fw bs f' ed v/\out (bS bs ed v)=out v-1))->((xu<0/\∀z,z<k'->¬(0<fw bs f' (I.getD z 0) v/\out (bS bs (I.getD z 0) v)=out v-1))∨∃ed:Nat,ed∈I/\DO=(ed:Int)/\xu=(bS bs ed v:Int)/\0<fw bs f' ed v/\out (bS bs ed v)=out v-1):=fun k' Ed lg=>by
   rcases Hv with⟨h1,h2⟩|h
   ·refine .inl ⟨h1,fun z hz=>?_⟩
    by_cases CJ:z=k
    ·subst CJ;rw[<-hed];exact lg
    ·exact h2 z (by omega)
   ·exact .inr h
  by_cases hr:0<fw bs f' ed v
  ·by_cases OM:out (bS bs ed v)=out v-1
   ·have sY:decide (out (bS bs ed v)=out v-1)=true:=decide_eq_true OM
    have found:∃Pm:Nat,Pm∈I/\(ed:Int)=(Pm:Int)/\(bS bs ed v:Int)=(bS bs Pm v:Int)/\0<fw bs f' Pm v/\out (bS bs Pm v)=out v-1:=⟨ed,v7,rfl,rfl,hr,OM⟩
    by_cases GB:xu<0
    ·(try((repeat(revert hN;revert N;apply Pn.out));refine wk (tw @mU (tw @c0 (tw @c2 (tw @c7 (tw @c8 (tw @c9 (tw @jh (tw @hk (tw @CA (tw @Cz (tw @CC (tw @kW (tw @mb (tw @CH (tw @ea (tw @pD (tw @hr (tw @OT (tw @s4 (tw @mc (tw @sY (tw @GB @bF.eq_1)))))))))))))))))))))) ?_;(repeat(refine Pn.mk ?_;intro N hN))))
     exact gL (sd (tw @mU (tw @c0 (tw @c2 (tw @c7 @c8))))) (⟨_,_,sd @Nat.zero_add,sd @Nat.zero_add,.inr found⟩) (⟨lJ,by(try dsimp only);omega⟩)
    ·by_cases dV:(bS bs ed v:Int)<xu
     ·(try((repeat(revert hN;revert N;apply Pn.out));refine wk (tw @mU (tw @c0 (tw @c2 (tw @c7 (tw @c8 (tw @c9 (tw @jh (tw @hk (tw @CA (tw @Cz (tw @CC (tw @kW (tw @mb (tw @CH (tw @ea (tw @pD (tw @hr (tw @OT (tw @s4 (tw @mc (tw @sY (tw @GB (tw @dV @bF.eq_1))))))))))))))))))))))) ?_;(repeat(refine Pn.mk ?_;intro N hN))))
      exact gL (sd (tw @mU (tw @c0 (tw @c2 (tw @c7 @c8))))) (⟨_,_,sd @Nat.zero_add,sd @Nat.zero_add,.inr found⟩) (⟨lJ,by(try dsimp only);omega⟩)
     ·(try((repeat(revert hN;revert N;apply Pn.out));refine wk (tw @mU (tw @c0 (tw @c2 (tw @c7 (tw @c8 (tw @c9 (tw @jh (tw @hk (tw @CA (tw @Cz (tw @CC (tw @kW (tw @mb (tw @CH (tw @ea (tw @pD (tw @hr (tw @OT (tw @s4 (tw @mc (tw @sY (tw @GB (tw @dV @bF.eq_1))))))))))))))))))))))) ?_;(repeat(refine Pn.mk ?_;intro N hN))))
      exact gL (sd (tw @mU (tw @c0 (tw @c2 (tw @c7 @c8))))) (⟨xu,DO,sd @c9,sd @jh,by
       rcases Hv with⟨h1,_⟩|h
       ·exact absurd h1 GB
       ·exact .inr h⟩) (⟨lJ,by(try dsimp only);omega⟩)
   ·have sY:decide (out (bS bs ed v)=out v-1)=false:=decide_eq_false OM
    (try((repeat(revert hN;revert N;apply Pn.out));refine wk (tw @mU (tw @c0 (tw @c2 (tw @c7 (tw @c8 (tw @c9 (tw @jh (tw @hk (tw @CA (tw @Cz (tw @CC (tw @kW (tw @mb (tw @CH (tw @ea (tw @pD (tw @hr (tw @OT (tw @s4 (tw @mc (tw @sY @bF.eq_1))))))))))))))))))))) ?_;(repeat(refine Pn.mk ?_;intro N hN))))
    exact gL (sd (tw @mU (tw @c0 (tw @c2 (tw @c7 @c8))))) (⟨xu,DO,sd @c9,sd @jh,stay _ rfl fun h=>OM h.2⟩) (⟨lJ,by(try dsimp only);omega⟩)
  ·(try((repeat(revert hN;revert N;apply Pn.out));refine wk (tw @mU (tw @c0 (tw @c2 (tw @c7 (tw @c8 (tw @c9 (tw @jh (tw @hk (tw @CA (tw @Cz (tw @CC (tw @kW (tw @mb (tw @CH (tw @ea (tw @pD (tw @hr @bF.eq_1))))))))))))))))) ?_;(repeat(refine Pn.mk ?_;intro N hN))))
   exact gL (sd (tw @mU (tw @c0 (tw @c2 (tw @c7 @c8))))) (⟨xu,DO,sd @c9,sd @jh,stay _ rfl fun h=>hr h.1⟩) (⟨lJ,by(try dsimp only);omega⟩)
 ·have kJ:k=I.length:=by omega
  have SX:∃ed:Nat,ed∈I/\DO=(ed:Int)/\xu=(bS bs ed v:Int)/\0<fw bs f' ed v/\out (bS bs ed v)=out v-1:=by
   rcases Hv with⟨h1,h2⟩|h
   ·exfalso
    obtain⟨ed,he,hq⟩:=LB
    obtain⟨z,hz,rfl⟩:=List.getElem_of_mem he
    refine h2 z (by omega) ?_
    rw[List.getD_eq_getElem?_getD,List.getElem?_eq_getElem hz];exact hq
   ·exact h
  obtain⟨ed,v7,rfl,rfl,hr,OM⟩:=SX
  obtain⟨he,oV⟩:=hIm _ v7
  (try((repeat(revert hN;revert N;apply Pn.out));refine wk (tw @mU (tw @c0 (tw @c2 (tw @c7 (tw @c8 (tw @c9 (tw @jh (tw @hk (tw @CA (tw @Cz (tw @CC (tw @kW (tw @mb (tw @CH (tw @pD @bF.eq_1))))))))))))))) ?_;(repeat(refine Pn.mk ?_;intro N hN))))
  refine .inr (aE _ _ _ _ _ (fun r σ1 hq=>?_) (NS cnt bs f' BE ed v he X A F ⟨st_c.get,_⟩ nb (hN1.frame (fun i _=>lJ i) (Nat.le_refl _)) (by(try dsimp only);omega)))
  obtain⟨Ro,lf,HB⟩:=hq
  (try dsimp only at lf HB)
  refine hN _ _ ?_
  clear hN N
  (try((repeat(revert hN;revert N;apply Pn.out));refine wk (tw @mU (tw @c0 (tw @c2 (tw @c7 (tw @c8 @c9))))) ?_;(repeat(refine Pn.mk ?_;intro N hN))))
  refine⟨_,?_,bS bs ed v,sI bs f' ed v,rfl,nX ok he,by omega,sd @Nat.zero_add,hW.step he oV hr OM,Ro,fun i hi hF=>by rw[HB i hF,lJ i,jY i hi hF],by(try dsimp only);omega⟩
  omega
def sb (P:Program) (f:Nat) (args:List AV) (R:AV->Prop):Prop:=∀σ:ar,Call P f args ⟨V.ro σ.get,σ.next⟩ fun r0 σ'=>∃r',V.fz σ'.get 6 r0=some r'/\R r'
theorem Co {P:Program} {f:Nat} {args:List AV} {g:Rows} {n:Nat} {R:AV->Prop} (h:Sound P f args ⟨V.ro g,n⟩ fun r0 σ'=>∃r',V.fz σ'.get 6 r0=some r'/\R r'):Sound P f args ⟨g,n⟩ fun r σ'=>R r/\σ'=⟨g,n⟩:=by
 intro hs D ι w vs S U A
 refine(zA (g0:=g) (K:=R) h (fun _ _ h=>h) S U A).mono ?_
 rintro e w' ⟨r,D',u,rfl,hR,T,S',hr⟩
 exact⟨r,g,n,D',ι,u,rfl,⟨hR,rfl⟩,T,S',U,Nat.le_refl _,hr⟩
theorem sb.x {P:Program} (hm:P.follows .mixedOrders=true) {f:Nat} {args:List AV} {R:AV->Prop} (h:sb P f args R) {σ:ar}:Call P f args σ fun r σ'=>R r/\σ'=σ:=
 gr (Co (gP hm (h σ)))
theorem sb.body {P:Program} {f:Nat} {args:List AV} {R:AV->Prop} {nt na:Nat} {body:VC} {res:List oP} (hf:lx P f=some ⟨nt,na,body,res⟩) (ha:na=args.length) (h:(∀a∈args,eC a)->∀σ:ar,dL (Call P) body (lk res fun r0 σ'=>∃r',V.fz σ'.get 6 r0=some r'/\R r') (bJ args) ⟨V.ro σ.get,σ.next⟩):sb P f args R:=fun σ=>lz hf ha fun hl=>h hl σ
theorem Kz {g:Rows} {rows:List (List AV)} {xs:List (List Nat)} {ids:List Id} (n:Nat) (h:ev Oy g rows xs ids):dQ g (n+2) rows=some (xs.map fun l=>[NY l]):=by
 induction h with
 |nil=>rw[dQ];rfl
 |cons h1 _ ih=>
  rename_i x _ _ _ _ _
  rcases h1 with⟨h0,h1,_⟩|⟨id,h1,h0,h2,_⟩
  ·subst h0 h1;rw[dQ,ih,ae,ai,aG];rfl
  ·have gF:x≠[]:=by rintro rfl;simp at h0
   subst h1
   rw[dQ,ih,ae,ai,gx (e:=eN) (sz:=1) h2 rfl fun a=>fzN _ n a]
   simp[NY,gF]
theorem nv.fz0 {cnt:Nat} {bs:List PB} {f:Nat->Int} {X A F:Id} {g:Rows} {nx:Nat} (h:nv cnt bs f X A F g nx):V.fz g 5 (.ptr X 0 0)=some (.cN (fK cnt bs f)):=by
 have hf:V.fz g 4 (.own F 0 bs.length)=some (.sl (dS f bs.length)):=by
  rw[gi]
  simp only[h.f,if_true]
  rw[if_pos (by rw[dG];omega),List.drop_zero,List.take_of_length_le (by rw[dG];omega),zi];rfl
 have ha:V.fz g 4 (.own A 0 cnt)=some (.sl (pe cnt bs bs.length)):=by
  obtain⟨rows,ids,h1,h2,_,_⟩:=h.a
  have hl:=h2.len
  rw[iY]at hl
  rw[gi]
  simp only[h1,if_true]
  rw[if_pos (by omega),List.drop_zero,List.take_of_length_le (by omega),Kz 1 h2]
  simp[kO,pe]
 rw[aL]
 simp only[h.x,if_true,List.getElem?_cons_zero,List.drop_zero,bF,ae,ai,ay,bD,ha,hf,Option.map_some,fK]
theorem DP {S:Nat->Bool}:∀bs:List PB,(∀b∈bs,b.s<=4)->iO S bs<=4*bs.length
 |[],_=>by simp[iO]
 |b::bs,h=>by
  rw[rl]
  have:=DP (S:=S) bs fun x hx=>h x (List.mem_cons_of_mem _ hx)
  have:=h b (by simp)
  simp only[List.length_cons]
  split<;>omega
theorem jJ.zero {bs:List PB} {x y:Nat} (h:∀e,e<bs.length->0<=(cH bs e).s/\(cH bs e).s<=4):jJ bs (fun _=>0) x y 0:=
 ⟨fun i hi=>by have:=h i hi;omega,fun S _ _=>jD fun i _=>by simp⟩
theorem JG {bs:List PB} {b:PB} (h:b∈bs):∃e,e<bs.length/\cH bs e=b:=by
 obtain⟨e,he,rfl⟩:=List.getElem_of_mem h
 exact⟨e,he,by simp[cH,List.getD_eq_getElem?_getD,he]⟩
theorem FJ (cnt:Nat) (hn:cnt<=1048576) (bs:List PB) (ok:mD cnt bs) (nk:bs.length<=1048576) (er:∀e,e<bs.length->0<=(cH bs e).s/\(cH bs e).s<=4) (x y:Nat) (hx:x<cnt) (hy:y<cnt) (Qx:x≠y):
  sb Tryz.prog 193 [.int .i64 cnt,.sl (bs.map aw),.int .i64 x,.int .i64 y] fun r=>∃f val,r=.ij [.cN (fK cnt bs f),.int .i64 val]/\jJ bs f x y val/\∃S:Nat->Bool,S x=true/\S y=false/\val=iO S bs:=by
 refine sb.body eb rfl fun hl σ=>?_
 clear hl
 (try((repeat(revert hN;revert N;apply Pn.out));refine wk @Nat.zero_add ?_;(repeat(refine Pn.mk ?_;intro N hN))))
 refine .inr (aE _ _ _ _ _ (fun r σ1 hq=>?_) (H3 cnt hn bs ok nk _))
 obtain⟨X,A,F,rfl,hX,hS⟩:=hq
 refine hN _ _ ?_
 clear hN N
 have hS0:∀f val,jJ bs f x y val->val<=iO (fun v=>decide (v=x)) bs:=fun f val hf=>hf.bound (decide_eq_true rfl) (decide_eq_false fun h=>Qx h.symm)
 have htot:=DP (S:=fun v=>decide (v=x)) bs fun b hb=>by
  obtain⟨e,he,rfl⟩:=JG hb
  exact(er e he).2
 generalize iO (fun v=>decide (v=x)) bs=T at *
 (try((repeat(revert hN;revert N;apply Pn.out));refine wk @Nat.zero_add ?_;(repeat(refine Pn.mk ?_;intro N hN))))
 refine aY (fun m env st=>∃(f:Nat->Int) (val:Int),m=(T-val).toNat/\0<=val/\env 10=.ptr X 0 0/\env 11=.int .i64 val/\jJ bs f x y val/\nv cnt bs f X A F st.get σ1.next/\σ1.next<=st.next) T.toNat ⟨_,0,by simp,by omega,by(simp only[go_sem, ↓reduceIte,Nat.reduceEqDiff,Nat.reduceAdd,Nat.reduceSub,Nat.reduceLeDiff,reduceCtorEq]),by(simp only[go_sem, ↓reduceIte,Nat.reduceEqDiff,Nat.reduceAdd,Nat.reduceSub,Nat.reduceLeDiff,reduceCtorEq]),jJ.zero er,hS.frame (fun i hi=>rfl) (Nat.le_refl _),by(try dsimp only);omega⟩ ?_
 rintro m env_b st_b ⟨f,val,rfl,qW,By,b11,hf,hN1,hle⟩ bfr
 have b2:=bfr 2 (by kernel_rfl)
 have b3:=bfr 3 (by kernel_rfl)
 simp only[go_sem, ↓reduceIte,Nat.reduceEqDiff,Nat.reduceAdd,Nat.reduceSub,Nat.reduceLeDiff,reduceCtorEq]at b2 b3
 clear bfr
 (try((repeat(revert hN;revert N;apply Pn.out));refine wk (tw @b2 (tw @b3 @By)) ?_;(repeat(refine Pn.mk ?_;intro N hN))))
 refine .inr (aE _ _ _ _ _ (fun r σ2 hq=>?_) (ML cnt hn bs ok nk er f x y hx hy Qx val hf X A F ⟨st_b.get,_⟩ σ1.next hN1 (by(try dsimp only);omega)))
 obtain⟨b,f',rfl,Ro,lf,_,lg,TH⟩:=hq
 (try dsimp only at lf)
 refine hN _ _ ?_
 clear hN N
 cases b with
 |true=>
  have ly:=TH rfl
  have Gy:=hS0 _ _ hf
  have Gz:=hS0 _ _ ly
  have hw:IntKind.i64.wrap (val+1)=val+1:=bE (by omega)
  (try((repeat(revert hN;revert N;apply Pn.out));refine wk (tw @By (tw @b11 @hw)) ?_;(repeat(refine Pn.mk ?_;intro N hN))))
  exact⟨_,by omega,f',val+1,rfl,by omega,sd @By,sd (tw @b11 @hw),ly,Ro,by(try dsimp only);omega⟩
 |false=>
  obtain⟨rfl,S,h1,h2,h3⟩:=lg rfl
  (try((repeat(revert hN;revert N;apply Pn.out));refine wk (tw @By @b11) ?_;(repeat(refine Pn.mk ?_;intro N hN))))
  have hz:=Ro.fz0
  exact⟨[.ptr X 0 0,.int .i64 val],sd @Nat.zero_add,.ij [.cN (fK cnt bs f'),.int .i64 val],by simp only[eL,bm,ae,ai,hz,ay,Option.map_some],f',val,rfl,hf,S,h1,h2,h3⟩
theorem FK (cnt:Nat) (hn:cnt<=1048576) (bs:List PB) (ok:mD cnt bs) (nk:bs.length<=1048576) (f:Nat->Int) (hs:Small bs f) (y:Nat) (hy:y<cnt):
  mC Tryz.prog 194 [.cN (fK cnt bs f),.int .i64 y] fun r=>∃l:List Nat,r=.sl (l.map eN)/\l.length<=cnt:=by
 refine mC.body eb rfl fun hl n0=>?_
 clear hl
 have hz:∀g:Rows,cI (dd g) 6 [.cN (fK cnt bs f),.int .i64 (y:Int)]=some [.cN (fK cnt bs f),.int .i64 y]:=fun g=>by simp only[ae,ai,aD,ay,Option.map_some]
 (try((repeat(revert hN;revert N;apply Pn.out));refine wk @Nat.zero_add ?_;(repeat(refine Pn.mk ?_;intro N hN))))
 refine .inr (aE _ _ _ _ _ (fun r σ1 hq=>?_) ((Ez cnt hn bs ok nk f hs y hy).x mixed (hz _)))
 obtain⟨⟨out,rfl,Nw⟩,rfl⟩:=hq
 refine hN _ _ ?_
 clear hN N
 (try((repeat(revert hN;revert N;apply Pn.out));refine wk @fK.eq_1 ?_;(repeat(refine Pn.mk ?_;intro N hN))))
 refine aY (fun n env st=>∃k:Nat,n=(cnt)-k/\k<=(cnt)/\env 7=.int .i64 (k:Int)/\(∃(o:Id) (l:List Nat),env 6=.own o 0 l.length/\st.get o=some ⟨true,1,l.map eN⟩/\o.bW<st.next/\l.length<=k)) (cnt) ⟨0,by omega,by omega,sl @fK.eq_1,⟨⟨194002000,n0+1+1+1⟩,[],by(simp only[go_sem, ↓reduceIte,Nat.reduceEqDiff,Nat.reduceAdd,Nat.reduceSub,Nat.reduceLeDiff,reduceCtorEq])<;>rfl,by(simp only[go_sem, ↓reduceIte,Nat.reduceEqDiff,Nat.reduceAdd,Nat.reduceSub,Nat.reduceLeDiff,reduceCtorEq])<;>rfl,by(try dsimp only);omega,by simp⟩⟩ ?_
 rintro n_a env_a st_a ⟨k,rfl,ale,a7,mJ⟩ dU
 have a0:=dU 0 (by kernel_rfl);have a5:=dU 5 (by kernel_rfl)
 simp only[go_sem, ↓reduceIte,Nat.reduceEqDiff,Nat.reduceAdd,Nat.reduceSub,Nat.reduceLeDiff,reduceCtorEq,fK]at a0 a5
 clear dU
 obtain⟨o,l,a6,ag,s4,Al⟩:=mJ
 have qW:=ef s4
 have gR:(l.map eN).length=l.length:=by simp
 by_cases hk:(k:Int)<(cnt:Int)
 ·have cK:∀{e:Env} {gg:Rows} {nx:Nat},(e 7=.int .i64 (IntKind.i64.wrap ((k:Int)+1)))->(∃(o:Id) (l:List Nat),e 6=.own o 0 l.length/\gg o=some ⟨true,1,l.map eN⟩/\o.bW<nx/\l.length<=(k+1))->∃m0,m0<(cnt)-k/\∃k:Nat,m0=(cnt)-k/\k<=(cnt)/\e 7=.int .i64 (k:Int)/\(∃(o:Id) (l:List Nat),e 6=.own o 0 l.length/\gg o=some ⟨true,1,l.map eN⟩/\o.bW<nx/\l.length<=k):=fun x1 x2=>⟨_,by omega,k+1,rfl,by omega,(by rw[x1,ax (by omega)]),x2⟩
  have qo:=dO (f:=out) (show k<cnt by omega)
  rw[aT]at qo
  have e1:l.length+1<=16777216:=by omega
  by_cases h0:0<=out k
  ·(try((repeat(revert hN;revert N;apply Pn.out));refine wk (tw @a7 (tw @a0 (tw @a5 (tw @a6 (tw @ag (tw @qW (tw @hk (tw @qo (tw @h0 (tw @e1 (tw @gR @fK.eq_1))))))))))) ?_;(repeat(refine Pn.mk ?_;intro N hN))))
   exact cK (sd (tw @a7 (tw @a0 (tw @a5 @fK.eq_1)))) (⟨⟨194007003,st_a.next+1+1⟩,l++[k],by rw[List.length_append];simp only[go_sem, ↓reduceIte,Nat.reduceEqDiff,Nat.reduceAdd,Nat.reduceSub,Nat.reduceLeDiff,reduceCtorEq,List.length_cons,List.length_nil],by rw[List.map_append,List.map_cons,List.map_nil];simp only[go_sem, ↓reduceIte,Nat.reduceEqDiff,Nat.reduceAdd,Nat.reduceSub,Nat.reduceLeDiff,reduceCtorEq,eN],by(try dsimp only);omega,by simp;omega⟩)
  ·(try((repeat(revert hN;revert N;apply Pn.out));refine wk (tw @a7 (tw @a0 (tw @a5 (tw @a6 (tw @ag (tw @qW (tw @hk (tw @qo (tw @h0 (tw @gR @fK.eq_1)))))))))) ?_;(repeat(refine Pn.mk ?_;intro N hN))))
   exact cK (sd (tw @a7 (tw @a0 (tw @a5 @fK.eq_1)))) (⟨o,l,sd @a6,sd @ag,by(try dsimp only);omega,by omega⟩)
 ·(try((repeat(revert hN;revert N;apply Pn.out));refine wk (tw @a7 (tw @a0 (tw @a5 (tw @a6 (tw @hk @fK.eq_1))))) ?_;(repeat(refine Pn.mk ?_;intro N hN))))
  have rJ:ga st_a.get 6 (.own o 0 l.length)=some (.sl (l.map eN)):=eS ag rfl fun b=>MI _ 4 b
  exact⟨_,rfl,_,by simp only[go_sem, ↓reduceIte,Nat.reduceEqDiff,Nat.reduceAdd,Nat.reduceSub,Nat.reduceLeDiff,reduceCtorEq,eL];exact rJ,l,rfl,by omega⟩
theorem AJ (v1 v2:Int) (l1 l2:List Nat) (h1:l1.length<=1048576) (h2:l2.length<=1048576):
  mC Tryz.prog 195 [.int .i64 v1,.sl (l1.map eN),.int .i64 v2,.sl (l2.map eN)] fun r=>∃b,r=.bool b/\(v1<v2->b=true)/\(v2<v1->b=false):=by
 refine mC.body eb rfl fun hl n0=>?_
 clear hl
 have ret:∀{t:Nat} {env:Env} {σ:ar} {b:Bool} {x:Ex},(x=.ret∨x=.normal)->env t=.bool b->((v1<v2->b=true)/\(v2<v1->b=false))->lk [.tmp t] (fun r0 σ'=>∃r',ga σ'.get 6 r0=some r'/\∃b,r'=.bool b/\(v1<v2->b=true)/\(v2<v1->b=false)) x env σ:=by
  intro t env σ b x hx he hb
  have:∃vs,eX env σ.get [.tmp t]=some vs/\∃r',ga σ.get 6 (eL vs)=some r'/\∃b,r'=.bool b/\(v1<v2->b=true)/\(v2<v1->b=false):=⟨[env t],rfl,.bool b,by rw[he];exact fe _ _ _,b,rfl,hb⟩
  rcases hx with rfl|rfl
  ·exact this
  ·exact this
 have m1:(l1.map eN).length=l1.length:=by simp
 have m2:(l2.map eN).length=l2.length:=by simp
 by_cases hv:v1=v2
 ·have hd:decide (v1=v2)=true:=decide_eq_true hv
  by_cases Al:(l1.length:Int)=(l2.length:Int)
  ·have sY:decide ((l1.length:Int)=(l2.length:Int))=true:=decide_eq_true Al
   have SN:decide (l1.length=l2.length)=true:=decide_eq_true (by omega)
   (try((repeat(revert hN;revert N;apply Pn.out));refine wk (tw @hd (tw @sY (tw @SN (tw @m1 @m2)))) ?_;(repeat(refine Pn.mk ?_;intro N hN))))
   refine aY (fun n env st=>∃k:Nat,n=(l1.length)-k/\k<=(l1.length)/\env 9=.int .i64 (k:Int)) (l1.length) ⟨0,by omega,by omega,sl @Nat.zero_add⟩ ?_
   rintro n_a env_a st_a ⟨k,rfl,ale,a9⟩ dU
   have a1:=dU 1 (by kernel_rfl);have a3:=dU 3 (by kernel_rfl)
   simp only[go_sem, ↓reduceIte,Nat.reduceEqDiff,Nat.reduceAdd,Nat.reduceSub,Nat.reduceLeDiff,reduceCtorEq]at a1 a3
   clear dU
   by_cases hk:(k:Int)<(l1.length:Int)
   ·have cK:∀{e:Env},(e 9=.int .i64 (IntKind.i64.wrap ((k:Int)+1)))->∃m0,m0<(l1.length)-k/\∃k:Nat,m0=(l1.length)-k/\k<=(l1.length)/\e 9=.int .i64 (k:Int):=fun x1=>⟨_,by omega,k+1,rfl,by omega,(by rw[x1,ax (by omega)])⟩
    have g1:(l1.map eN)[k]? =some (eN (l1.getD k 0)):=getD_map eN (by omega)
    have g2:(l2.map eN)[k]? =some (eN (l2.getD k 0)):=getD_map eN (by omega)
    rw[eN]at g1 g2
    by_cases he:((l1.getD k 0:Nat):Int)=((l2.getD k 0:Nat):Int)
    ·have SO:decide (((l1.getD k 0:Nat):Int)=((l2.getD k 0:Nat):Int))=true:=decide_eq_true he
     have SP:decide (l1.getD k 0=l2.getD k 0)=true:=decide_eq_true (by omega)
     (try((repeat(revert hN;revert N;apply Pn.out));refine wk (tw @a9 (tw @a1 (tw @a3 (tw @hk (tw @m1 (tw @g1 (tw @g2 (tw @SO @SP)))))))) ?_;(repeat(refine Pn.mk ?_;intro N hN))))
     exact cK (sd (tw @a9 (tw @a1 @a3)))
    ·have SO:decide (((l1.getD k 0:Nat):Int)=((l2.getD k 0:Nat):Int))=false:=decide_eq_false he
     have SP:decide (l1.getD k 0=l2.getD k 0)=false:=decide_eq_false (by omega)
     (try((repeat(revert hN;revert N;apply Pn.out));refine wk (tw @a9 (tw @a1 (tw @a3 (tw @hk (tw @m1 (tw @g1 (tw @g2 (tw @SO @SP)))))))) ?_;(repeat(refine Pn.mk ?_;intro N hN))))
     exact ret (.inl rfl) (by simp only[go_sem, ↓reduceIte,Nat.reduceEqDiff,Nat.reduceAdd,Nat.reduceSub,Nat.reduceLeDiff,reduceCtorEq];rfl) ⟨fun h=>by omega,fun h=>by omega⟩
   ·(try((repeat(revert hN;revert N;apply Pn.out));refine wk (tw @a9 (tw @a1 (tw @a3 (tw @hk @m1)))) ?_;(repeat(refine Pn.mk ?_;intro N hN))))
    exact ret (b:=false) (.inl rfl) (sd @Nat.zero_add) ⟨fun h=>by omega,fun h=>by omega⟩
  ·have sY:decide ((l1.length:Int)=(l2.length:Int))=false:=decide_eq_false Al
   have SN:decide (l1.length=l2.length)=false:=decide_eq_false (by omega)
   (try((repeat(revert hN;revert N;apply Pn.out));refine wk (tw @hd (tw @sY (tw @SN (tw @m1 @m2)))) ?_;(repeat(refine Pn.mk ?_;intro N hN))))
   exact ret (.inl rfl) (by simp only[go_sem, ↓reduceIte,Nat.reduceEqDiff,Nat.reduceAdd,Nat.reduceSub,Nat.reduceLeDiff,reduceCtorEq];rfl) ⟨fun h=>by omega,fun h=>by omega⟩
 ·have hd:decide (v1=v2)=false:=decide_eq_false hv
  (try((repeat(revert hN;revert N;apply Pn.out));refine wk @hd ?_;(repeat(refine Pn.mk ?_;intro N hN))))
  exact ret (b:=decide (v1<v2)) (.inl rfl) (sd @Nat.zero_add) ⟨fun h=>decide_eq_true h,fun h=>decide_eq_false (by omega)⟩
def tJ (bs:List PB) (cnt:Nat) (iT:Int) (k:Nat):Prop:=(k=1/\iT= -1)∨(0<=iT/\(∀z,1<=z->z<k->∀S:Nat->Bool,S 0=true->S z=false->iT<=iO S bs)/\∃S:Nat->Bool,S 0=true/\(∃z,z<cnt/\S z=false)/\iT=iO S bs)
theorem jJ.nn {bs:List PB} {val:Int} {S:Nat->Bool} (er:∀e,e<bs.length->0<=(cH bs e).s/\(cH bs e).s<=4) (h:val=iO S bs):0<=val:=by
 rw[h,tZ]
 have:=qL (f:=fun _=>0) (g:=fun i=>if S (cH bs i).a=S (cH bs i).b then 0 else(cH bs i).s) (n:=bs.length) fun i hi=>by
  have:=er i hi
  split<;>omega
 rw[jD fun _ _=>rfl]at this
 exact this
theorem tJ.done {bs:List PB} {cnt:Nat} {iT:Int} (hc:2<=cnt) (h:tJ bs cnt iT cnt) (t:Int):t<=iT↔j9 cnt bs t:=by
 rcases h with⟨h,_⟩|⟨_,h1,S,h2,⟨z,hz,kK⟩,h3⟩
 ·omega
 ·constructor
  ·intro ht S h0 ⟨y,hy,hy2⟩
   have:y≠0:=by rintro rfl;rw[h0]at hy2;cases hy2
   have:=h1 y (by omega) hy S h0 hy2
   omega
  ·intro hH
   rw[h3];exact hH S h2 ⟨z,hz,kK⟩
theorem yI (cnt:Nat) (h2:2<=cnt) (hn:cnt<=1048576) (bs:List PB) (ok:mD cnt bs) (nk:bs.length<=1048576) (er:∀e,e<bs.length->0<=(cH bs e).s/\(cH bs e).s<=4):
  sb Tryz.prog 126 [.int .i64 cnt,.sl (bs.map aw)] fun r=>∃iT p,r=.ij [.int .i64 iT,p]/\∀t:Int,t<=iT↔j9 cnt bs t:=by
 refine sb.body eb rfl fun hl σ=>?_
 clear hl
 (try((repeat(revert hN;revert N;apply Pn.out));refine wk @Nat.zero_add ?_;(repeat(refine Pn.mk ?_;intro N hN))))
 have z0:∀(g:Rows) (id:Id),g id=some ⟨true,1,[]⟩->V.fz (dd g) 6 (.own id 0 0)=some (.sl (([]:List Nat).map eN))/\V.fz g 5 (.own id 0 0)=some (.sl (([]:List Nat).map eN)):=fun g id h=>by
  have h':dd g id=some ⟨true,1,[]⟩:=by simp[dd,h]
  constructor
  ·rw[gi];simp only[h',if_true];rw[if_pos (by simp)];simp[nL]
  ·rw[gi];simp only[h,if_true];rw[if_pos (by simp)];simp[nL]
 refine aY (fun m env st=>∃(k:Nat) (iT:Int) (l:List Nat) (p:AV),m=cnt-k/\1<=k/\k<=cnt/\env 8=.int .i64 (k:Int)/\env 6=.int .i64 iT/\env 7=p/\V.fz (dd st.get) 6 p=some (.sl (l.map eN))/\V.fz st.get 5 p=some (.sl (l.map eN))/\l.length<=cnt/\tJ bs cnt iT k) (cnt-1) ⟨1,-1,[],.own ⟨126002000,σ.next+1+1⟩ 0 0,rfl,by omega,by omega,by(simp only[go_sem, ↓reduceIte,Nat.reduceEqDiff,Nat.reduceAdd,Nat.reduceSub,Nat.reduceLeDiff,reduceCtorEq])<;>rfl,by(simp only[go_sem, ↓reduceIte,Nat.reduceEqDiff,Nat.reduceAdd,Nat.reduceSub,Nat.reduceLeDiff,reduceCtorEq])<;>rfl,by(simp only[go_sem, ↓reduceIte,Nat.reduceEqDiff,Nat.reduceAdd,Nat.reduceSub,Nat.reduceLeDiff,reduceCtorEq])<;>rfl,(z0 _ _ (sd @Nat.zero_add)).1,(z0 _ _ (sd @Nat.zero_add)).2,by simp,.inl ⟨rfl,rfl⟩⟩ ?_
 rintro m env_b st_b ⟨k,iT,l,p,rfl,tx,sZ,b8,b6,b7,xf,kK,hl,hB⟩ bfr
 have b0:=bfr 0 (by kernel_rfl)
 have b1:=bfr 1 (by kernel_rfl)
 simp only[go_sem, ↓reduceIte,Nat.reduceEqDiff,Nat.reduceAdd,Nat.reduceSub,Nat.reduceLeDiff,reduceCtorEq]at b0 b1
 clear bfr z0
 by_cases hk:(k:Int)<(cnt:Int)
 ·have eU:k<cnt:=by omega
  have hFl:=FJ cnt hn bs ok nk er 0 k (by omega) eU (by omega)
  rw[show(((0:Nat):Int))=0 from rfl]at hFl
  (try((repeat(revert hN;revert N;apply Pn.out));refine wk (tw @b0 (tw @b1 (tw @b6 (tw @b7 (tw @b8 @hk))))) ?_;(repeat(refine Pn.mk ?_;intro N hN))))
  refine .inr (aE _ _ _ _ _ (fun r σ1 hq=>?_) (hFl.x mixed))
  obtain⟨⟨f,val,rfl,hf,S,M3,M4,Rq⟩,rfl⟩:=hq
  refine hN _ _ ?_
  clear hN N
  have BE:=vd er hf.le
  have rM:=jJ.nn (val:=val) er Rq
  (try((repeat(revert hN;revert N;apply Pn.out));refine wk (tw @b0 (tw @b1 (tw @b6 (tw @b7 @b8)))) ?_;(repeat(refine Pn.mk ?_;intro N hN))))
  refine .inr (aE _ _ _ _ _ (fun r σ1 hq=>?_) ((FK cnt hn bs ok nk f BE k eU).x mixed (by simp only[ae,ai,aD,ay,Option.map_some])))
  obtain⟨⟨l',rfl,Jl⟩,rfl⟩:=hq
  refine hN _ _ ?_
  clear hN N
  have hw:IntKind.i64.wrap ((k:Int)+1)=((k+1:Nat):Int):=ax (by omega)
  have QS:(∀z,1<=z->z<k->∀S:Nat->Bool,S 0=true->S z=false->val<=iO S bs)->tJ bs cnt val (k+1):=fun h=>.inr ⟨rM,fun z xf kK S' h0 h1=>by
   by_cases sD:z=k
   ·subst sD;exact hf.bound h0 h1
   ·exact h z xf (by omega) S' h0 h1,S,M3,⟨k,eU,M4⟩,Rq⟩
  by_cases jO:iT<0
  ·have Af:k=1:=by
    rcases hB with⟨h,_⟩|⟨h,_⟩
    ·exact h
    ·omega
   (try((repeat(revert hN;revert N;apply Pn.out));refine wk (tw @b0 (tw @b1 (tw @b6 (tw @b7 (tw @b8 (tw @jO @hw)))))) ?_;(repeat(refine Pn.mk ?_;intro N hN))))
   refine⟨_,?_,k+1,val,l',.sl (l'.map eN),rfl,by omega,by omega,sd (tw @b8 @hw),sd @Nat.zero_add,sd @Nat.zero_add,bD _ _ _,bD _ _ _,Jl,QS fun z h1 h2=>by omega⟩
   omega
  ·have Af:(∀z,1<=z->z<k->∀S:Nat->Bool,S 0=true->S z=false->iT<=iO S bs)/\∃S:Nat->Bool,S 0=true/\(∃z,z<cnt/\S z=false)/\iT=iO S bs:=by
    rcases hB with⟨_,h⟩|⟨_,h⟩
    ·omega
    ·exact h
   (try((repeat(revert hN;revert N;apply Pn.out));refine wk (tw @b0 (tw @b1 (tw @b6 (tw @b7 (tw @b8 (tw @jO @hw)))))) ?_;(repeat(refine Pn.mk ?_;intro N hN))))
   refine .inr (aE _ _ _ _ _ (fun r σ1 hq=>?_) ((AJ val iT l' l (by omega) (by omega)).x mixed (by simp only[ae,ai,bD,ay,xf,Option.map_some])))
   obtain⟨⟨b,rfl,Gy,Gz⟩,rfl⟩:=hq
   refine hN _ _ ?_
   clear hN N
   cases b with
   |true=>
    have TD:val<=iT:=by
     rcases Int.lt_or_le iT val with h|h
     ·exact absurd (Gz h) (by simp)
     ·exact h
    (try((repeat(revert hN;revert N;apply Pn.out));refine wk (tw @b0 (tw @b1 (tw @b6 (tw @b7 (tw @b8 @hw))))) ?_;(repeat(refine Pn.mk ?_;intro N hN))))
    refine⟨_,?_,k+1,val,l',.sl (l'.map eN),rfl,by omega,by omega,sd (tw @b8 @hw),sd @Nat.zero_add,sd @Nat.zero_add,bD _ _ _,bD _ _ _,Jl,QS fun z h1 h2 S' h3 h4=>by have:=Af.1 z h1 h2 S' h3 h4;omega⟩
    omega
   |false=>
    have TD:iT<=val:=by
     rcases Int.lt_or_le val iT with h|h
     ·exact absurd (Gy h) (by simp)
     ·exact h
    (try((repeat(revert hN;revert N;apply Pn.out));refine wk (tw @b0 (tw @b1 (tw @b6 (tw @b7 (tw @b8 @hw))))) ?_;(repeat(refine Pn.mk ?_;intro N hN))))
    refine⟨_,?_,k+1,iT,l,p,rfl,by omega,by omega,sd (tw @b8 @hw),sd @b6,sd @b7,xf,kK,hl,.inr ⟨by omega,fun z h1 h2 S' h3 h4=>?_,Af.2⟩⟩
    ·omega
    ·by_cases sD:z=k
     ·subst sD;have:=hf.bound h3 h4;omega
     ·exact Af.1 z h1 (by omega) S' h3 h4
 ·have kJ:k=cnt:=by omega
  (try((repeat(revert hN;revert N;apply Pn.out));refine wk (tw @b0 (tw @b1 (tw @b6 (tw @b7 (tw @b8 @hk))))) ?_;(repeat(refine Pn.mk ?_;intro N hN))))
  exact⟨[.int .i64 iT,p],sd @Nat.zero_add,.ij [.int .i64 iT,.sl (l.map eN)],by simp only[eL,bm,ae,ai,kK,ay,Option.map_some],iT,_,rfl,tJ.done h2 (kJ▸hB)⟩
theorem K4 {s:aq} (hS:iD s) (a d:Int):r4 s (dp (dq s a) d)<=4:=by
 have hF:=hS.form
 have fJ:dp (dq s a) d=0∨(0<=dp (dq s a) d/\dp (dq s a) d<=s.au.length):=by
  unfold dp dq
  rw[List.getD_eq_getElem?_getD,List.getD_eq_getElem?_getD]
  rcases ht:s.ah[a.toNat]? with _|t
  ·exact .inl (by simp[yS])
  ·have Ty:=List.mem_of_getElem? ht
   simp only[Option.getD_some]
   rcases hg:t.bB[d.toNat]? with _|g
   ·exact .inl rfl
   ·exact .inr (hF.uk t Ty g (List.mem_of_getElem? hg))
 unfold r4
 by_cases h0:dp (dq s a) d=0
 ·rw[if_pos h0];omega
 ·rw[if_neg h0]
  have hk:(dp (dq s a) d-1).toNat<s.au.length:=by omega
  have:=ew (hS.Rh _ hk).2.1
  unfold oR at this
  unfold pB
  omega
theorem zJ {s:aq} (hS:iD s) (a d b:Int):gD s a d b<=4:=by
 unfold gD
 split
 ·exact K4 hS a d
 ·omega
theorem EP {s:aq} {l:List ad} (hS:iD s) {i:Nat} (hi:i<l.length) {d:Int}:∀b∈l7 s l i d,b.a<l.length/\b.b<l.length/\0<=b.s/\b.s<=4:=by
 intro b hb
 unfold l7 at hb
 split at hb
 ·rename_i h
  simp only[List.mem_singleton]at hb
  subst hb
  exact⟨hi,(me h.1).1,by simp only;omega,zJ hS ..⟩
 ·cases hb
theorem wM {s:aq} {l:List ad} (hS:iD s):∀b∈cL s l,b.a<l.length/\b.b<l.length/\0<=b.s/\b.s<=4:=by
 intro b hb
 simp only[cL,gu,fU,List.mem_flatMap,List.mem_range]at hb
 obtain⟨i,hi,j,_,hb⟩:=hb
 exact EP hS hi b hb
theorem pf {s:aq} {l:List ad} (hF:jm l):(cL s l).length<=1000:=by
 have:=si s l l.length
 have:=hF.sU
 rw[cL];omega
theorem GY {bs:List PB} {e:Nat} (h:e<bs.length):cH bs e∈bs:=by
 rw[cH,List.getD_eq_getElem?_getD,List.getElem?_eq_getElem h];exact List.getElem_mem h
theorem Fs {n:Nat} {bs:List PB} {t:Int} (h:n<2):j9 n bs t:=fun S h0 ⟨y,hy,hf⟩=>by
 have:y=0:=by omega
 subst this;rw[h0]at hf;cases hf
def gU (s:aq) (l:List ad) (t:Int):Nat:=(leads l.length (ei (aI t (cL s l)))).length
noncomputable def mO (s:aq) (l:List ad) (t:Int):Bool:=@decide (ow l.length (cL s l) t) (Classical.propDecidable _)
def rz (s:aq) (l:List ad) (t:Int):Int:=if 64<gU s l t then 4 else 0
theorem lS {s:aq} {l:List ad} {t:Int} {p:Prop} [Decidable p] (h:p↔ow l.length (cL s l) t):decide p=mO s l t:=by
 letI:=Classical.propDecidable (ow l.length (cL s l) t)
 unfold mO
 by_cases hp:p
 ·rw[decide_eq_true hp];exact(decide_eq_true (h.1 hp)).symm
 ·rw[decide_eq_false hp];exact(decide_eq_false fun k=>hp (h.2 k)).symm
theorem AL (s:aq) (l:List ad) (t:Int) (hS:iD s) (hA:gN s l):ak Tryz.prog 168 [.cN (ab s),.cN [.sl (l.map aa)],.int .i64 t] (.ij [.bool (mO s l t),.int .i64 (rz s l t)]):=by
 refine ak.body eb rfl fun hl n0=>?_
 clear hl
 have hb:=wM (l:=l) hS
 have nk:=pf (s:=s) hA.1
 have Fk:=hA.1.sU
 have rH:=CQ s l hS.form hA
 have Jo:=AK l.length (by omega) (cL s l) (fun b h=>⟨(hb b h).1,(hb b h).2.1⟩) (by omega) t
 have hL:=sF (aI t (cL s l))
 have fJ:=Di hL (fun b h=>⟨(hb b h).1,(hb b h).2.1⟩)
 have hlen:=(mo (ei (aI t (cL s l))) (cL s l)).2
 have lI:=jw l.length (ei (aI t (cL s l)))
 have fV:(l.map aa).length=l.length:=by simp
 by_cases sV:(64:Int)<(gU s l t:Int)
 ·have sW:64<gU s l t:=by omega
  have hd:mO s l t=false:=(lS (p:=False) ⟨False.elim,fun h=>by have:=h.1;unfold gU at sW;omega⟩).symm.trans (by simp)
  rw[gU]at sV
  (repeat(first|((repeat(revert hN;revert N;apply Pn.out));refine wk (tw @ab.eq_1 (tw @sV @fV)) ?_;(repeat(refine Pn.mk ?_;intro N hN)))|((try apply Or.inl);refine⟨_,ak.x (rH) (sd (tw @ab.eq_1 (tw @sV @fV))),?_⟩;refine hN _ _ ?_;clear hN N)|((try apply Or.inl);refine⟨_,ak.x (Jo) (sd (tw @ab.eq_1 (tw @sV @fV))),?_⟩;refine hN _ _ ?_;clear hN N)))
  exact jf (.inl rfl) (r1:=.bool false) (r2:=.int .i64 4) (sd @Nat.zero_add) (sd @Nat.zero_add) (by rw[hd,rz,if_pos sW];simp only[eR,bC,cG,fe,ek,Option.map_some])
 have sW:¬64<gU s l t:=by omega
 have hf:rz s l t=0:=by rw[rz,if_neg sW]
 by_cases h2:(gU s l t:Int)<2
 ·have hd:mO s l t=true:=(lS (p:=True) ⟨fun _=>⟨by unfold gU at sW;omega,Fs (by unfold gU at h2;omega)⟩,fun _=>trivial⟩).symm.trans (by simp)
  rw[gU]at sV h2
  (repeat(first|((repeat(revert hN;revert N;apply Pn.out));refine wk (tw @ab.eq_1 (tw @sV (tw @h2 @fV))) ?_;(repeat(refine Pn.mk ?_;intro N hN)))|((try apply Or.inl);refine⟨_,ak.x (rH) (sd (tw @ab.eq_1 (tw @sV (tw @h2 @fV)))),?_⟩;refine hN _ _ ?_;clear hN N)|((try apply Or.inl);refine⟨_,ak.x (Jo) (sd (tw @ab.eq_1 (tw @sV (tw @h2 @fV)))),?_⟩;refine hN _ _ ?_;clear hN N)))
  exact jf (.inl rfl) (r1:=.bool true) (r2:=.int .i64 0) (sd @Nat.zero_add) (sd @Nat.zero_add) (by rw[hd,hf];simp only[eR,bC,cG,fe,ek,Option.map_some])
 have Kk:=yI (gU s l t) (by omega) (by unfold gU;omega) (eM (ei (aI t (cL s l))) (cL s l)) (fun e he=>by have:=fJ _ (GY he);exact⟨this.1,this.2.1,this.2.2.1⟩) (by omega) (fun e he=>by
  obtain⟨_,_,_,c,hc,di⟩:=fJ _ (GY he)
  rw[di];have:=hb c hc;omega)
 rw[gU]at sV h2 Kk
 (repeat(first|((repeat(revert hN;revert N;apply Pn.out));refine wk (tw @ab.eq_1 (tw @sV (tw @h2 @fV))) ?_;(repeat(refine Pn.mk ?_;intro N hN)))|((try apply Or.inl);refine⟨_,ak.x (rH) (sd (tw @ab.eq_1 (tw @sV (tw @h2 @fV)))),?_⟩;refine hN _ _ ?_;clear hN N)|((try apply Or.inl);refine⟨_,ak.x (Jo) (sd (tw @ab.eq_1 (tw @sV (tw @h2 @fV)))),?_⟩;refine hN _ _ ?_;clear hN N)))
 refine .inr (aE _ _ _ _ _ (fun r σ1 hq=>?_) (Kk.x mixed))
 obtain⟨⟨iT,p,rfl,PO⟩,rfl⟩:=hq
 refine hN _ _ ?_
 clear hN N
 (try((repeat(revert hN;revert N;apply Pn.out));refine wk @Nat.zero_add ?_;(repeat(refine Pn.mk ?_;intro N hN))))
 exact jf (.inl rfl) (r1:=.bool (decide (t<=iT))) (r2:=.int .i64 0) (sd @Nat.zero_add) (sd @Nat.zero_add) (by
  rw[hf,lS (s:=s) (l:=l) (t:=t) (p:=t<=iT) ((PO t).trans (CE.trans ⟨fun h=>⟨by unfold gU at sW;omega,h⟩,fun h=>h.2⟩))]
  simp only[eR,bC,cG,fe,ek,Option.map_some])
theorem rQ (t:Int):ak Tryz.prog 123 [.int .i64 t] (.bool (iI t 1 16)):=by
 refine ak.body eb rfl fun hl n0=>?_
 clear hl
 have h:=kZ t 1 16
 (repeat(first|((repeat(revert hN;revert N;apply Pn.out));refine wk @Nat.zero_add ?_;(repeat(refine Pn.mk ?_;intro N hN)))|((try apply Or.inl);refine⟨_,ak.x (h) (sd @Nat.zero_add),?_⟩;refine hN _ _ ?_;clear hN N)))
 exact aQ (b:=iI t 1 16) (.inl rfl) (sd @Nat.zero_add) rfl
structure BT (s:aU):Prop where
 set:iD s.aV
 s8:gN s.aV s.bf.ah
 some:1<=s.bf.ah.length
 K6:iI s.aB 1 16=true
 holds:ow s.bf.ah.length (cL s.aV s.bf.ah) s.aB
noncomputable def mv (s:aU):Bool:=@decide (BT s) (Classical.propDecidable _)
theorem vh {s:aU}:mv s=true↔BT s:=by simp[mv]
theorem jH {s:aU} (h:¬BT s):false=mv s:=by simp[mv,h]
theorem Bj {s:aU} (h:BT s):true=mv s:=by simp[mv,h]
theorem oK {s:aq} {l:List ad} {t:Int}:mO s l t=true↔ow l.length (cL s l) t:=by simp[mO]
theorem Kv (s:aU) (hn:fm s.aV) (hg:s.aV.au.length<=1048576) (ht:s.aV.ah.length<=1048576):ak Tryz.prog 94 [.cN (ao s)] (.bool (mv s)):=by
 refine ak.body eb rfl fun hl n0=>?_
 clear hl
 have h1:=(Ku s.aV hn hg ht).cut mixed (.ptr _ [.sl (s.bf.ah.map aa),.int .i64 s.aB] .nil)
 by_cases hS:iD s.aV
 ·rw[lR.2 hS]at h1
  have h2:=(Em s.aV s.bf.ah).cut mixed (.ptr _ [.sl (s.bf.ah.map aa),.int .i64 s.aB] (.ptr _ [.int .i64 s.aB] .nil))
  by_cases hA:gN s.aV s.bf.ah
  ·rw[lD.2 hA]at h2
   by_cases h0:(s.bf.ah.length:Int)=0
   ·have hd:decide ((s.bf.ah.length:Int)=0)=true:=decide_eq_true h0
    have lg:false=mv s:=jH fun h=>by have:=h.some;omega
    generalize fV:(s.bf.ah.map aa).length=len at *
    (repeat(first|((repeat(revert hN;revert N;apply Pn.out));refine wk (tw @ao.eq_1 (tw @ab.eq_1 @hd)) ?_;(repeat(refine Pn.mk ?_;intro N hN)))|((try apply Or.inl);refine⟨_,ak.x (h1) (sd (tw @ao.eq_1 (tw @ab.eq_1 @hd))),?_⟩;refine hN _ _ ?_;clear hN N)|((try apply Or.inl);refine⟨_,ak.x (h2) (sd (tw @ao.eq_1 (tw @ab.eq_1 @hd))),?_⟩;refine hN _ _ ?_;clear hN N)))
    exact aQ (b:=false) (.inl rfl) (sd @Nat.zero_add) lg
   ·have hd:decide ((s.bf.ah.length:Int)=0)=false:=decide_eq_false h0
    have h3:=rQ s.aB
    cases hT:iI s.aB 1 16
    ·rw[hT]at h3
     (repeat(first|((repeat(revert hN;revert N;apply Pn.out));refine wk (tw @ao.eq_1 (tw @ab.eq_1 @hd)) ?_;(repeat(refine Pn.mk ?_;intro N hN)))|((try apply Or.inl);refine⟨_,ak.x (h1) (sd (tw @ao.eq_1 (tw @ab.eq_1 @hd))),?_⟩;refine hN _ _ ?_;clear hN N)|((try apply Or.inl);refine⟨_,ak.x (h2) (sd (tw @ao.eq_1 (tw @ab.eq_1 @hd))),?_⟩;refine hN _ _ ?_;clear hN N)|((try apply Or.inl);refine⟨_,ak.x (h3) (sd (tw @ao.eq_1 (tw @ab.eq_1 @hd))),?_⟩;refine hN _ _ ?_;clear hN N)))
     exact aQ (b:=false) (.inl rfl) (sd @Nat.zero_add) (jH fun h=>by have:=h.K6;rw[hT]at this;cases this)
    ·rw[hT]at h3
     have h4:=(AL s.aV s.bf.ah s.aB hS hA).cut mixed (.ptr _ [.sl (s.bf.ah.map aa),.int .i64 s.aB] (.ptr _ [.int .i64 s.aB] (.same _ .nil)))
     cases hB:mO s.aV s.bf.ah s.aB
     ·rw[hB]at h4
      (repeat(first|((repeat(revert hN;revert N;apply Pn.out));refine wk (tw @ao.eq_1 (tw @ab.eq_1 @hd)) ?_;(repeat(refine Pn.mk ?_;intro N hN)))|((try apply Or.inl);refine⟨_,ak.x (h1) (sd (tw @ao.eq_1 (tw @ab.eq_1 @hd))),?_⟩;refine hN _ _ ?_;clear hN N)|((try apply Or.inl);refine⟨_,ak.x (h2) (sd (tw @ao.eq_1 (tw @ab.eq_1 @hd))),?_⟩;refine hN _ _ ?_;clear hN N)|((try apply Or.inl);refine⟨_,ak.x (h3) (sd (tw @ao.eq_1 (tw @ab.eq_1 @hd))),?_⟩;refine hN _ _ ?_;clear hN N)|((try apply Or.inl);refine⟨_,ak.x (h4) (sd (tw @ao.eq_1 (tw @ab.eq_1 @hd))),?_⟩;refine hN _ _ ?_;clear hN N)))
      exact aQ (b:=false) (.inl rfl) (sd @Nat.zero_add) (jH fun h=>by have:=oK.2 h.holds;rw[hB]at this;cases this)
     ·have hP:=oK.1 hB
      have hf:rz s.aV s.bf.ah s.aB=0:=by
       have:=hP.1
       rw[rz,if_neg (by unfold gU;omega)]
      rw[hB,hf]at h4
      (repeat(first|((repeat(revert hN;revert N;apply Pn.out));refine wk (tw @ao.eq_1 (tw @ab.eq_1 @hd)) ?_;(repeat(refine Pn.mk ?_;intro N hN)))|((try apply Or.inl);refine⟨_,ak.x (h1) (sd (tw @ao.eq_1 (tw @ab.eq_1 @hd))),?_⟩;refine hN _ _ ?_;clear hN N)|((try apply Or.inl);refine⟨_,ak.x (h2) (sd (tw @ao.eq_1 (tw @ab.eq_1 @hd))),?_⟩;refine hN _ _ ?_;clear hN N)|((try apply Or.inl);refine⟨_,ak.x (h3) (sd (tw @ao.eq_1 (tw @ab.eq_1 @hd))),?_⟩;refine hN _ _ ?_;clear hN N)|((try apply Or.inl);refine⟨_,ak.x (h4) (sd (tw @ao.eq_1 (tw @ab.eq_1 @hd))),?_⟩;refine hN _ _ ?_;clear hN N)))
      exact aQ (b:=true) (.inl rfl) (sd @Nat.zero_add) (Bj ⟨hS,hA,by omega,hT,hP⟩)
  ·have hb:oQ s.aV s.bf.ah=false:=Bool.eq_false_iff.2 fun h=>hA (lD.1 h)
   rw[hb]at h2
   (repeat(first|((repeat(revert hN;revert N;apply Pn.out));refine wk (tw @ao.eq_1 @ab.eq_1) ?_;(repeat(refine Pn.mk ?_;intro N hN)))|((try apply Or.inl);refine⟨_,ak.x (h1) (sd (tw @ao.eq_1 @ab.eq_1)),?_⟩;refine hN _ _ ?_;clear hN N)|((try apply Or.inl);refine⟨_,ak.x (h2) (sd (tw @ao.eq_1 @ab.eq_1)),?_⟩;refine hN _ _ ?_;clear hN N)))
   exact aQ (b:=false) (.inl rfl) (sd @Nat.zero_add) (jH fun h=>hA h.s8)
 ·have hb:pQ s.aV=false:=Bool.eq_false_iff.2 fun h=>hS (lR.1 h)
  rw[hb]at h1
  (repeat(first|((repeat(revert hN;revert N;apply Pn.out));refine wk (tw @ao.eq_1 @ab.eq_1) ?_;(repeat(refine Pn.mk ?_;intro N hN)))|((try apply Or.inl);refine⟨_,ak.x (h1) (sd (tw @ao.eq_1 @ab.eq_1)),?_⟩;refine hN _ _ ?_;clear hN N)))
  exact aQ (b:=false) (.inl rfl) (sd @Nat.zero_add) (jH fun h=>hS h.set)
theorem K3 {s:aq} (hS:iD s) (a d:Int):0<=r4 s (dp (dq s a) d):=by
 have hF:=hS.form
 have fJ:dp (dq s a) d=0∨(0<=dp (dq s a) d/\dp (dq s a) d<=s.au.length):=by
  unfold dp dq
  rw[List.getD_eq_getElem?_getD,List.getD_eq_getElem?_getD]
  rcases ht:s.ah[a.toNat]? with _|t
  ·exact .inl (by simp[yS])
  ·have Ty:=List.mem_of_getElem? ht
   simp only[Option.getD_some]
   rcases hg:t.bB[d.toNat]? with _|g
   ·exact .inl rfl
   ·exact .inr (hF.uk t Ty g (List.mem_of_getElem? hg))
 unfold r4
 by_cases h0:dp (dq s a) d=0
 ·rw[if_pos h0];omega
 ·rw[if_neg h0]
  have hk:(dp (dq s a) d-1).toNat<s.au.length:=by omega
  have:=ew (hS.Rh _ hk).2.1
  unfold oR at this
  unfold pB
  omega
theorem tU {s:aq} (hS:iD s) (a d b:Int):0<=gD s a d b/\gD s a d b<=4:=by
 refine⟨?_,zJ hS a d b⟩
 unfold gD
 split
 ·exact K3 hS a d
 ·omega
def dP (s:aq) (f:aP->Int) (p:aP) (t:Int):Nat->Int
 |0=>0
 |d+1=>dP s f p t d+if 0<=f (dM p d)then gD s t d (f (dM p d))else 0
def sg (s:aq) (f:aP->Int) (p:aP) (t:Int):Int:=dP s f p t 4
theorem nC {s:aq} (hS:iD s) (f:aP->Int) (p:aP) (t:Int):∀d,0<=dP s f p t d/\dP s f p t d<=4*(d:Int)
 |0=>⟨Int.le_refl _,Int.le_refl _⟩
 |d+1=>by
  have:=nC hS f p t d
  have hb:=tU hS t d (f (dM p d))
  simp only[dP]
  split<;>omega
theorem zF {s:aq} {l:List ad} (hA:gN s l) {p:aP} (h:0<=iE l p):fP s (iE l p)=true:=by
 unfold iE at h ⊢
 split at h
 ·rename_i h0
  rw[if_pos h0]
  exact hA.2 _ (iy (me h0).1)
 ·omega
theorem yH (s:aq) (hS:iD s) (l:List ad) (hA:gN s l) (p:aP) (hx:iB p.fE) (hy:iB p.e8) (t:Int) (ht:fP s t=true):ak Tryz.prog 242 [.cN (ab s),.cN [.sl (l.map aa)],.agg (aj p),.int .i64 t] (.int .i64 (sg s (iE l) p t)):=by
 refine ak.body eb rfl fun hl n0=>?_
 clear hl
 have hR:=hA.1.zz
 have Fg:l.length<=1048576:=by have:=hA.1.sU;omega
 (try((repeat(revert hN;revert N;apply Pn.out));refine wk @aj.eq_1 ?_;(repeat(refine Pn.mk ?_;intro N hN))))
 refine aY (fun n env st=>∃k:Nat,n=(4)-k/\k<=(4)/\env 10=.int .i64 (k:Int)/\env 9=.int .i64 (dP s (iE l) p t k)/\st.get ⟨242000000,n0⟩=some ⟨true,2,[aj p]⟩) (4) ⟨0,by omega,by omega,sl @aj.eq_1,sl @aj.eq_1,sl @aj.eq_1⟩ ?_
 rintro n_a env_a st_a ⟨k,rfl,ale,wG,a9,ag0⟩ dU
 have a0:=dU 0 (by kernel_rfl);have a1:=dU 1 (by kernel_rfl);have a3:=dU 3 (by kernel_rfl);have a6:=dU 6 (by kernel_rfl)
 simp only[go_sem, ↓reduceIte,Nat.reduceEqDiff,Nat.reduceAdd,Nat.reduceSub,Nat.reduceLeDiff,reduceCtorEq,aj]at a0 a1 a3 a6
 clear dU
 by_cases hk:(k:Int)<4
 ·have cK:∀{e:Env} {gg:Rows},(e 10=.int .i64 (IntKind.i64.wrap ((k:Int)+1)))->(e 9=.int .i64 (dP s (iE l) p t (k+1)))->(gg ⟨242000000,n0⟩=some ⟨true,2,[aj p]⟩)->∃m0,m0<(4)-k/\∃k:Nat,m0=(4)-k/\k<=(4)/\e 10=.int .i64 (k:Int)/\e 9=.int .i64 (dP s (iE l) p t k)/\gg ⟨242000000,n0⟩=some ⟨true,2,[aj p]⟩:=fun x1 x2 x3=>⟨_,by omega,k+1,rfl,by omega,(by rw[x1,ax (by omega)]),x2,x3⟩
  have er:=xk p k (mh (by omega)) hx hy
  have zu:=yG l (dM p k) hR Fg
  have fJ:=nC hS (iE l) p t k
  by_cases h0:0<=iE l (dM p k)
  ·have rH:=xl s hS.form t k (iE l (dM p k)) ht (zF hA h0) (mh (by omega))
   have fM:=tU hS t k (iE l (dM p k))
   have hw:IntKind.i64.wrap (dP s (iE l) p t k+gD s t k (iE l (dM p k)))=dP s (iE l) p t (k+1):=by
    rw[bE (by omega),dP,if_pos h0]
   (repeat(first|((repeat(revert hN;revert N;apply Pn.out));refine wk (tw @wG (tw @a9 (tw @ag0 (tw @a0 (tw @a1 (tw @a3 (tw @a6 (tw @hk (tw @h0 @aj.eq_1))))))))) ?_;(repeat(refine Pn.mk ?_;intro N hN)))|((try apply Or.inl);refine⟨_,ak.x (er) (sd (tw @wG (tw @a9 (tw @ag0 (tw @a0 (tw @a1 (tw @a3 (tw @a6 (tw @hk (tw @h0 @aj.eq_1)))))))))),?_⟩;refine hN _ _ ?_;clear hN N)|((try apply Or.inl);refine⟨_,ak.x (zu) (sd (tw @wG (tw @a9 (tw @ag0 (tw @a0 (tw @a1 (tw @a3 (tw @a6 (tw @hk (tw @h0 @aj.eq_1)))))))))),?_⟩;refine hN _ _ ?_;clear hN N)|((try apply Or.inl);refine⟨_,ak.x (rH) (sd (tw @wG (tw @a9 (tw @ag0 (tw @a0 (tw @a1 (tw @a3 (tw @a6 (tw @hk (tw @h0 @aj.eq_1)))))))))),?_⟩;refine hN _ _ ?_;clear hN N)))
   refine cK ?_ ?_ ?_
   all_goals simp only[go_sem, ↓reduceIte,Nat.reduceEqDiff,Nat.reduceAdd,Nat.reduceSub,Nat.reduceLeDiff,reduceCtorEq,wG,a9,ag0,a0,a1,a3,a6,hw,aj]
  ·have hw:dP s (iE l) p t (k+1)=dP s (iE l) p t k:=by rw[dP,if_neg h0,Int.add_zero]
   (repeat(first|((repeat(revert hN;revert N;apply Pn.out));refine wk (tw @wG (tw @a9 (tw @ag0 (tw @a0 (tw @a1 (tw @a3 (tw @a6 (tw @hk (tw @h0 @aj.eq_1))))))))) ?_;(repeat(refine Pn.mk ?_;intro N hN)))|((try apply Or.inl);refine⟨_,ak.x (er) (sd (tw @wG (tw @a9 (tw @ag0 (tw @a0 (tw @a1 (tw @a3 (tw @a6 (tw @hk (tw @h0 @aj.eq_1)))))))))),?_⟩;refine hN _ _ ?_;clear hN N)|((try apply Or.inl);refine⟨_,ak.x (zu) (sd (tw @wG (tw @a9 (tw @ag0 (tw @a0 (tw @a1 (tw @a3 (tw @a6 (tw @hk (tw @h0 @aj.eq_1)))))))))),?_⟩;refine hN _ _ ?_;clear hN N)))
   refine cK ?_ ?_ ?_
   all_goals simp only[go_sem, ↓reduceIte,Nat.reduceEqDiff,Nat.reduceAdd,Nat.reduceSub,Nat.reduceLeDiff,reduceCtorEq,wG,a9,ag0,a0,a1,a3,a6,hw,aj]
 ·(try((repeat(revert hN;revert N;apply Pn.out));refine wk (tw @wG (tw @a9 (tw @ag0 (tw @a0 (tw @a1 (tw @a3 (tw @a6 @hk))))))) ?_;(repeat(refine Pn.mk ?_;intro N hN))))
  exact bL (b:=dP s (iE l) p t k) (.inl rfl) (sd (tw @wG (tw @a9 (tw @ag0 (tw @a0 (tw @a1 (tw @a3 @a6))))))) (by rw[show k=4 by omega];rfl)
def jI (la lb:List ad):Bool:=la.all fun t=>decide (iE lb t.aW=t.aZ)
theorem AH (la lb:List ad) (hR:ji lb) (Fg:lb.length<=1048576) (h81:la.length<=1048576):ak Tryz.prog 170 [.cN [.sl (la.map aa)],.cN [.sl (lb.map aa)]] (.bool (jI la lb)):=by
 refine ak.body eb rfl fun hl n0=>?_
 clear hl
 (try((repeat(revert hN;revert N;apply Pn.out));refine wk @Nat.zero_add ?_;(repeat(refine Pn.mk ?_;intro N hN))))
 refine aY (fun n env st=>∃k:Nat,n=(la.length)-k/\k<=(la.length)/\env 5=.int .i64 (k:Int)/\(∀j:Nat,j<k->iE lb (bc la j).aW=(bc la j).aZ)) (la.length) ⟨0,by omega,by omega,sl @Nat.zero_add,fun _ h=>absurd h (Nat.not_lt_zero _)⟩ ?_
 rintro n_a env_a st_a ⟨k,rfl,ale,a5,lv⟩ dU
 have a0:=dU 0 (by kernel_rfl);have a1:=dU 1 (by kernel_rfl)
 simp only[go_sem, ↓reduceIte,Nat.reduceEqDiff,Nat.reduceAdd,Nat.reduceSub,Nat.reduceLeDiff,reduceCtorEq]at a0 a1
 clear dU
 by_cases hk:(k:Int)<(la.length:Int)
 ·have cK:∀{e:Env},(e 5=.int .i64 (IntKind.i64.wrap ((k:Int)+1)))->(iE lb (bc la k).aW=(bc la k).aZ)->∃m0,m0<(la.length)-k/\∃k:Nat,m0=(la.length)-k/\k<=(la.length)/\e 5=.int .i64 (k:Int)/\(∀j:Nat,j<k->iE lb (bc la j).aW=(bc la j).aZ):=fun x1 x2=>⟨_,by omega,k+1,rfl,by omega,(by rw[x1,ax (by omega)]),(all_succ lv x2)⟩
  have eU:k<la.length:=by omega
  have ea:=fH eU
  have zu:=yG lb (bc la k).aW hR Fg
  by_cases h0:iE lb (bc la k).aW=(bc la k).aZ
  ·have hd:decide (iE lb (bc la k).aW=(bc la k).aZ)=true:=decide_eq_true h0
   (repeat(first|((repeat(revert hN;revert N;apply Pn.out));refine wk (tw @a5 (tw @a0 (tw @a1 (tw @hk (tw @ea (tw @hd (tw @aa.eq_1 @aj.eq_1))))))) ?_;(repeat(refine Pn.mk ?_;intro N hN)))|((try apply Or.inl);refine⟨_,ak.x (zu) (sd (tw @a5 (tw @a0 (tw @a1 (tw @hk (tw @ea (tw @hd (tw @aa.eq_1 @aj.eq_1)))))))),?_⟩;refine hN _ _ ?_;clear hN N)))
   exact cK (sd (tw @a5 (tw @a0 @a1))) (h0)
  ·have hd:decide (iE lb (bc la k).aW=(bc la k).aZ)=false:=decide_eq_false h0
   (repeat(first|((repeat(revert hN;revert N;apply Pn.out));refine wk (tw @a5 (tw @a0 (tw @a1 (tw @hk (tw @ea (tw @hd (tw @aa.eq_1 @aj.eq_1))))))) ?_;(repeat(refine Pn.mk ?_;intro N hN)))|((try apply Or.inl);refine⟨_,ak.x (zu) (sd (tw @a5 (tw @a0 (tw @a1 (tw @hk (tw @ea (tw @hd (tw @aa.eq_1 @aj.eq_1)))))))),?_⟩;refine hN _ _ ?_;clear hN N)))
   exact aQ (b:=false) (.inl rfl) (sd @Nat.zero_add) (List.all_eq_false.2 ⟨_,iy eU,by rw[hd];simp⟩).symm
 ·(try((repeat(revert hN;revert N;apply Pn.out));refine wk (tw @a5 (tw @a0 (tw @a1 @hk))) ?_;(repeat(refine Pn.mk ?_;intro N hN))))
  exact aQ (b:=true) (.inl rfl) (sd @Nat.zero_add) (List.all_eq_true.2 fun t ht=>by
   obtain⟨j,hj,rfl⟩:=List.getElem_of_mem ht
   have:=lv j (by omega)
   rw[ee hj]at this
   exact decide_eq_true this).symm
theorem FM (s:aU) (hA:gN s.aV s.bf.ah) (x:ad):ak Tryz.prog 174 [.cN (ao s),.agg (aa x)] (.bool (decide (iE s.bf.ah x.aW=x.aZ))):=by
 refine ak.body eb rfl fun hl n0=>?_
 clear hl
 have zu:=(yG s.bf.ah x.aW hA.1.zz (by have:=hA.1.sU;omega)).cut mixed (.ptr _ [.int .i64 s.aB] (.same _ .nil))
 (repeat(first|((repeat(revert hN;revert N;apply Pn.out));refine wk (tw @ao.eq_1 (tw @aa.eq_1 @aj.eq_1)) ?_;(repeat(refine Pn.mk ?_;intro N hN)))|((try apply Or.inl);refine⟨_,ak.x (zu) (sd (tw @ao.eq_1 (tw @aa.eq_1 @aj.eq_1))),?_⟩;refine hN _ _ ?_;clear hN N)))
 exact aQ (b:=decide (iE s.bf.ah x.aW=x.aZ)) (.inl rfl) (sd @Nat.zero_add) rfl
noncomputable def p4 (s:aU) (l:List ad):Bool:=mv s&&oQ s.aV l
theorem CR (s:aU) (l:List ad) (hn:fm s.aV) (hg:s.aV.au.length<=1048576) (ht:s.aV.ah.length<=1048576):ak Tryz.prog 90 [.cN (ao s),.cN [.sl (l.map aa)]] (.int .i64 (if p4 s l then 0 else 1)):=by
 refine ak.body eb rfl fun hl n0=>?_
 clear hl
 have h1:=Kv s hn hg ht
 have h2:=(Em s.aV l).cut mixed (.ptr _ [.sl (s.bf.ah.map aa),.int .i64 s.aB] (.same _ .nil))
 cases b1:mv s
 ·rw[b1]at h1
  (repeat(first|((repeat(revert hN;revert N;apply Pn.out));refine wk @Nat.zero_add ?_;(repeat(refine Pn.mk ?_;intro N hN)))|((try apply Or.inl);refine⟨_,ak.x (h1) (sd @Nat.zero_add),?_⟩;refine hN _ _ ?_;clear hN N)))
  exact bL (b:=1) (.inl rfl) (sd @Nat.zero_add) (by rw[p4,b1];rfl)
 rw[b1]at h1
 rw[ao]at h1 ⊢
 cases b2:oQ s.aV l
 ·rw[b2]at h2
  (repeat(first|((repeat(revert hN;revert N;apply Pn.out));refine wk @ab.eq_1 ?_;(repeat(refine Pn.mk ?_;intro N hN)))|((try apply Or.inl);refine⟨_,ak.x (h1) (sd @ab.eq_1),?_⟩;refine hN _ _ ?_;clear hN N)|((try apply Or.inl);refine⟨_,ak.x (h2) (sd @ab.eq_1),?_⟩;refine hN _ _ ?_;clear hN N)))
  exact bL (b:=1) (.inl rfl) (sd @Nat.zero_add) (by rw[p4,b1,b2];rfl)
 ·rw[b2]at h2
  (repeat(first|((repeat(revert hN;revert N;apply Pn.out));refine wk @ab.eq_1 ?_;(repeat(refine Pn.mk ?_;intro N hN)))|((try apply Or.inl);refine⟨_,ak.x (h1) (sd @ab.eq_1),?_⟩;refine hN _ _ ?_;clear hN N)|((try apply Or.inl);refine⟨_,ak.x (h2) (sd @ab.eq_1),?_⟩;refine hN _ _ ?_;clear hN N)))
  exact bL (b:=0) (.inl rfl) (sd @Nat.zero_add) (by rw[p4,b1,b2];rfl)
theorem p7 {s:aU} {l:List ad}:p4 s l=true↔BT s/\gN s.aV l:=by simp[p4,vh,lD]
noncomputable def iM (s:aU) (l:List ad):Int:=if p4 s l then(if jI s.bf.ah l then 0 else 2)else 1
theorem FL (s:aU) (l:List ad) (hn:fm s.aV) (hg:s.aV.au.length<=1048576) (ht:s.aV.ah.length<=1048576):ak Tryz.prog 113 [.cN (ao s),.cN [.sl (l.map aa)]] (.int .i64 (iM s l)):=by
 refine ak.body eb rfl fun hl n0=>?_
 clear hl
 have h1:=CR s l hn hg ht
 cases b1:p4 s l
 ·rw[b1]at h1
  (repeat(first|((repeat(revert hN;revert N;apply Pn.out));refine wk @Nat.zero_add ?_;(repeat(refine Pn.mk ?_;intro N hN)))|((try apply Or.inl);refine⟨_,ak.x (h1) (sd @Nat.zero_add),?_⟩;refine hN _ _ ?_;clear hN N)))
  exact bL (b:=1) (.inl rfl) (sd @Nat.zero_add) (by rw[iM,b1];rfl)
 obtain⟨hP,hA⟩:=p7.1 b1
 have h2:=(AH s.bf.ah l hA.1.zz (by have:=hA.1.sU;omega) (by have:=hP.s8.1.sU;omega)).cut mixed (.ptr _ [.int .i64 s.aB] (.same _ .nil))
 rw[b1]at h1
 rw[ao]at h1 ⊢
 cases b2:jI s.bf.ah l
 ·rw[b2]at h2
  (repeat(first|((repeat(revert hN;revert N;apply Pn.out));refine wk @Nat.zero_add ?_;(repeat(refine Pn.mk ?_;intro N hN)))|((try apply Or.inl);refine⟨_,ak.x (h1) (sd @Nat.zero_add),?_⟩;refine hN _ _ ?_;clear hN N)|((try apply Or.inl);refine⟨_,ak.x (h2) (sd @Nat.zero_add),?_⟩;refine hN _ _ ?_;clear hN N)))
  exact bL (b:=2) (.inl rfl) (sd @Nat.zero_add) (by rw[iM,b1,b2];rfl)
 ·rw[b2]at h2
  (repeat(first|((repeat(revert hN;revert N;apply Pn.out));refine wk @Nat.zero_add ?_;(repeat(refine Pn.mk ?_;intro N hN)))|((try apply Or.inl);refine⟨_,ak.x (h1) (sd @Nat.zero_add),?_⟩;refine hN _ _ ?_;clear hN N)|((try apply Or.inl);refine⟨_,ak.x (h2) (sd @Nat.zero_add),?_⟩;refine hN _ _ ?_;clear hN N)))
  exact bL (b:=0) (.inl rfl) (sd @Nat.zero_add) (by rw[iM,b1,b2];rfl)
def qAt (ps:List aP) (i:Nat):aP:=ps.getD i ⟨0,0⟩
theorem TM {ps:List aP} {i:Nat} (h:i<ps.length):qAt ps i=ps[i]:=by simp[qAt,List.getD_eq_getElem?_getD,h]
def RisQ (ps:List aP):Prop:=ps.Pairwise fun a b=>lN a b=true
end Go.Proofs.YtgoljkjaameagaaGreat.V

namespace Go.Proofs.YtgoljkjaameagaaGreat.V
open Go.RowKit Go.Shelf Go.Lib Go.Sort
instance:Inhabited aP:=⟨⟨0,0⟩⟩
variable {P:Program} {w:World} {D:Nat->Prop} {ι:Names}
theorem A9 {vs:Array Value} (h:eZ P w D ι [] vs):vs= #[]:=Array.eq_empty_of_size_eq_zero h.1
theorem oF {a:AV} {r:List AV} {vs:Array Value} (h:eZ P w D ι (a::r) vs):∃u us,vs=(u::us).toArray/\cV P w D ι a u/\eZ P w D ι r us.toArray:=by
 obtain⟨h1,h2⟩:=h
 obtain⟨l⟩:=vs
 cases l with
 |nil=>simp at h1
 |cons u us=>
  obtain⟨u',hu,hr⟩:=h2 0 a rfl
  simp at hu;subst hu
  exact⟨u,us,rfl,hr,by simpa using h1,fun j b hj=>by
   obtain⟨v,hv,kW⟩:=h2 (j+1) b (by simpa using hj)
   exact⟨v,by simpa using hv,kW⟩⟩
end Go.Proofs.YtgoljkjaameagaaGreat.V

namespace Go.Proofs
open Go.Shelf
def Tryz.Dk:Go.Shelf.Ren:=⟨fun|6=>185|15=>209|14=>250|28=>271|29=>272|20=>289|21=>290|22=>291|23=>292|24=>293|25=>294|26=>295|27=>296|46=>324|47=>307|48=>308|49=>325|50=>326|57=>336|n=>n,fun|22=>40|24=>171|25=>244|3=>3|39=>273|0=>0|53=>333|55=>335|4=>4|46=>327|45=>326|50=>223|5=>5|9=>9|66=>360|70=>364|76=>382|77=>383|n=>n,fun|n=>n⟩
theorem Tryz.IE:Go.Proofs.SlLaysF0.n6 Tryz.prog Tryz.Dk:={
 mixed:=by kernel_rfl
 f6:=⟨Tryz.f185.name,by decide,Tryz.func185.trans (congrArg some (by kernel_rfl))⟩
 f14:=⟨Tryz.f250.name,by decide,Tryz.func250.trans (congrArg some (by kernel_rfl))⟩
 f15:=Tryz.func209.trans (congrArg some (by kernel_rfl))
 f20:=⟨Tryz.f289.name,by decide,Tryz.func289.trans (congrArg some (by kernel_rfl))⟩
 f21:=⟨Tryz.f290.name,by decide,Tryz.func290.trans (congrArg some (by kernel_rfl))⟩
 f22:=⟨Tryz.f291.name,by decide,Tryz.func291.trans (congrArg some (by kernel_rfl))⟩
 f23:=⟨Tryz.f292.name,by decide,Tryz.func292.trans (congrArg some (by kernel_rfl))⟩
 f24:=⟨Tryz.f293.name,by decide,Tryz.func293.trans (congrArg some (by kernel_rfl))⟩
 f25:=⟨Tryz.f294.name,by decide,Tryz.func294.trans (congrArg some (by kernel_rfl))⟩
 f26:=⟨Tryz.f295.name,by decide,Tryz.func295.trans (congrArg some (by kernel_rfl))⟩
 f27:=⟨Tryz.f296.name,by decide,Tryz.func296.trans (congrArg some (by kernel_rfl))⟩
 f28:=Tryz.func271.trans (congrArg some (by kernel_rfl))
 f29:=Tryz.func272.trans (congrArg some (by kernel_rfl))
 f46:=⟨Tryz.f324.name,by decide,Tryz.func324.trans (congrArg some (by kernel_rfl))⟩
 f47:=Tryz.func307.trans (congrArg some (by kernel_rfl))
 f48:=Tryz.func308.trans (congrArg some (by kernel_rfl))
 f49:=⟨Tryz.f325.name,by decide,Tryz.func325.trans (congrArg some (by kernel_rfl))⟩
 f50:=⟨Tryz.f326.name,by decide,Tryz.func326.trans (congrArg some (by kernel_rfl))⟩
 f57:=⟨Tryz.f336.name,by decide,Tryz.func336.trans (congrArg some (by kernel_rfl))⟩
 t0:=Tryz.underlying0
 a0:=Tryz.isAgg0
 z0:=Tryz.sizeOf0
 v0:=Tryz.zeroValue0
 t3:=Tryz.underlying3
 a3:=Tryz.isAgg3
 z3:=Tryz.sizeOf3
 v3:=Tryz.zeroValue3
 t4:=Tryz.underlying4
 a4:=Tryz.isAgg4
 z4:=Tryz.sizeOf4
 v4:=Tryz.zeroValue4
 t5:=Tryz.underlying5
 a5:=Tryz.isAgg5
 z5:=Tryz.sizeOf5
 v5:=Tryz.zeroValue5
 t9:=Tryz.underlying9
 a9:=Tryz.isAgg9
 z9:=Tryz.sizeOf9
 v9:=Tryz.zeroValue9
 t22:=Tryz.underlying40
 a22:=Tryz.isAgg40
 z22:=Tryz.sizeOf40
 v22:=Tryz.zeroValue40
 t25:=Tryz.underlying244
 a25:=Tryz.isAgg244
 z25:=Tryz.sizeOf244
 v25:=Tryz.zeroValue244
 t39:=Tryz.underlying273
 a39:=Tryz.isAgg273
 z39:=Tryz.sizeOf273
 v39:=Tryz.zeroValue273
 t45:=Tryz.underlying326
 a45:=Tryz.isAgg326
 z45:=Tryz.sizeOf326
 v45:=Tryz.zeroValue326
 t46:=Tryz.underlying327
 a46:=Tryz.isAgg327
 z46:=Tryz.sizeOf327
 v46:=Tryz.zeroValue327
 t50:=Tryz.underlying223
 a50:=Tryz.isAgg223
 z50:=Tryz.sizeOf223
 v50:=Tryz.zeroValue223
 t53:=Tryz.underlying333
 a53:=Tryz.isAgg333
 z53:=Tryz.sizeOf333
 v53:=Tryz.zeroValue333
 t55:=Tryz.underlying335
 a55:=Tryz.isAgg335
 z55:=Tryz.sizeOf335
 v55:=Tryz.zeroValue335
 t66:=Tryz.underlying360
 a66:=Tryz.isAgg360
 z66:=Tryz.sizeOf360
 v66:=Tryz.zeroValue360
 t70:=Tryz.underlying364
 a70:=Tryz.isAgg364
 z70:=Tryz.sizeOf364
 v70:=Tryz.zeroValue364
 t76:=Tryz.underlying382
 a76:=Tryz.isAgg382
 z76:=Tryz.sizeOf382
 v76:=Tryz.zeroValue382
 t77:=Tryz.underlying383
 a77:=Tryz.isAgg383
 z77:=Tryz.sizeOf383
 v77:=Tryz.zeroValue383}
end Go.Proofs

namespace Go.Proofs.YtgoljkjaameagaaGreat.V
open Go.RowKit Go.Shelf Go.Lib Go.Sort
theorem zQ (w:World) (a b:Int):Calls Tryz.prog 210 #[.int .i64 a,.int .i64 b] w fun e w'=>e=.returned (.int .i64 (qe a b))/\w=w':=by
 go_enter Tryz.func210,Tryz.ntmps210
 go_wp2_with go_in
 all_goals
  go_ret
  exact⟨Eu (by unfold qe;split<;>(try split)<;>omega),rfl⟩
theorem KK (w:World) (a b:Int) (g:Nat) (ha:w.cell? ⟨g,0,none⟩=some (.int .i64 a)) (hb:w.cell? ⟨g,1,none⟩=some (.int .i64 b)):Calls Tryz.prog 233 #[.slice (some ⟨g,0,none⟩) 2 2] w fun e w'=>e=.returned (.int .i64 (KL a b))/\w=w':=by
 go_enter Tryz.func233,Tryz.ntmps233
 go_wp2_with fail
 go_loop [8] (fun i=>∃k:Nat,k<=2/\i=.int .i64 k/\Hid ((1<=k->a=0)/\(2<=k->b=0))) (fun i=>2-(intOf i).toNat)
 case atStart=>exact⟨0,by omega,rfl,Lib.hid ⟨fun h=>by omega,fun h=>by omega⟩⟩
 case round=>
  obtain⟨k,hk,rfl,hz⟩:=hrel
  have h3:k=0∨k=1∨k=2:=by omega
  rcases h3 with rfl|rfl|rfl
  ·go_wp2_with fail
   ·rename_i h
    go_ret
    exact⟨Eu (by unfold KL;simp_all),rfl⟩
   ·rename_i h
    go_round
    case rel=>exact⟨1,by omega,rfl,Lib.hid ⟨fun _=>by simpa using h,fun h=>by omega⟩⟩
    case measure=>simp[intOf]
  ·have h0:=hz.out.1 (by omega)
   replace h0:=Lib.hid h0
   go_wp2_with fail
   ·go_ret
    exact⟨Eu (by unfold KL;rw[if_pos h0.out]),rfl⟩
   ·rename_i h
    go_round
    case rel=>exact⟨2,by omega,rfl,Lib.hid ⟨fun _=>h0.out,fun _=>by simpa using h⟩⟩
    case measure=>simp[intOf]
  ·have h0:=Lib.hid (hz.out.1 (by omega))
   have h1:=Lib.hid (hz.out.2 (by omega))
   go_wp2_with fail
   go_ret
   exact⟨Eu (by unfold KL;rw[if_pos h0.out,h1.out]),rfl⟩
def Grown (w w':World):Prop:=∃(q:Nat) (os:Array Obj),w'=Go.Sort.grow (w.drewN q) os
theorem Grown.refl (w:World):Grown w w:=⟨0, #[],by rw[grow_empty];rfl⟩
theorem Grown.alloc {w w':World} (h:Grown w w') (o:Obj):Grown w (w'.alloc o):=by
 obtain⟨q,os,rfl⟩:=h
 exact⟨q,os++ #[o],by rw[alloc_eq_grow,grow_grow]⟩
theorem Grown.drew {w w':World} (h:Grown w w'):Grown w w'.drew:=by
 obtain⟨q,os,rfl⟩:=h
 exact⟨q+1,os,by rw[drew_grow];rfl⟩
theorem Grown.dN {w w':World} (h:Grown w w') (n:Nat):Grown w (w'.drewN n):=by
 obtain⟨q,os,rfl⟩:=h
 exact⟨q+n,os,by
  show Go.Sort.grow ((w.drewN q).drewN n) os=Go.Sort.grow (w.drewN (q+n)) os
  simp[World.drewN,Nat.add_assoc]⟩
theorem sR (w:World) (a b:aP):Calls Tryz.prog 154 #[.agg #[.int .i64 a.fE,.int .i64 a.e8],.agg #[.int .i64 b.fE,.int .i64 b.e8]] w fun e w'=>e=.returned (.int .i64 (qf a b))/\Grown w w':=by
 go_enter Tryz.func154,Tryz.ntmps154
 go_wp2_with fail
 go_region_held3 (fun w'=>w'.cell? ⟨w.heap.size,0,none⟩=some (.int .i64 a.fE)/\w'.cell? ⟨w.heap.size,1,none⟩=some (.int .i64 a.e8)/\
   w'.cell? ⟨w.heap.size+1,0,none⟩=some (.int .i64 b.fE)/\w'.cell? ⟨w.heap.size+1,1,none⟩=some (.int .i64 b.e8))
  (first|go_keep)
  (first|(go_at_call 210;refine(zQ _ _ _).mono ?_;rintro e w' ⟨rfl,rfl⟩)|(go_at_call 233;refine(KK _ (qe a.e8 b.e8) (qe a.fE b.fE) _ (by simp[go_sem]) (by simp[go_sem])).mono ?_;rintro e w' ⟨rfl,rfl⟩))
 go_wp2_with fail
 go_ret
 refine⟨rfl,?_⟩
 repeat(first|(with_reducible exact Grown.refl _)|(refine Grown.alloc ?_ _)|(refine Grown.drew ?_)|(refine Grown.dN ?_ _))
end Go.Proofs.YtgoljkjaameagaaGreat.V

namespace Go.Proofs.YtgoljkjaameagaaGreat.V
open Go.RowKit
attribute [local irreducible] dL wpOps fu Call
attribute [local go_sem] az eQ ec eY eW cJ upd bJ K.av b4 AV.cells AV.cell rowOf rowsOf part ld rowAt bH bG cX dr fR bo cE dD e6 eF cQ dx cC cz db dc br aJ ck bq cq cm dv dy dw cj bx cD dt bp aA cu bQ fQ bd bY bt aH cW aX cY AV.undef bj bl de dn da dj bV dC dE bK dB dz cr cw List.getD_cons_zero List.getD_cons_succ List.getD_nil List.all_cons List.all_nil Bool.and_true Bool.true_and Bool.and_self Bool.not_true Bool.not_false Option.map_some Option.map_none Option.bind_some Option.bind_none List.length_cons List.length_nil List.take_succ_cons List.take_zero List.take_nil List.drop_succ_cons List.drop_zero List.drop_nil List.head?_cons List.map_cons List.map_nil List.getElem?_cons_zero List.getElem?_cons_succ List.cons_append List.nil_append List.append_nil List.length_map List.set_cons_zero List.set_cons_succ Nat.reduceMul eq_self Int.toNat_natCast Int.natCast_nonneg and_self true_and and_true decide_true decide_false Bool.false_eq_true Nat.zero_add Nat.add_zero List.contains_cons List.contains_nil Bool.or_false Bool.false_or beq_self_eq_true Nat.reduceBEq ne_eq not_true_eq_false not_false_eq_true Id.mk.injEq false_and and_false Nat.reduceLT Int.reduceLE Int.reduceLT Int.reduceToNat Int.reduceNeg Int.reduceAdd Nat.le_refl List.length_append beq_true beq_false Bool.not_eq_eq_eq_not or_false false_or dd ae ai ay bh bD aG aM aD aL bZ bm
abbrev mP:MK:=⟨true,[.tI,.tI]⟩
structure Cry (g:Rows) (n:Nat) (c T O:Id) (s:aU) (ts:List ad):Prop where
 row:∃b,g c=some ⟨b,6,[[.sl (s.aV.au.map bU),.sl (s.aV.ah.map bI),.sl (s.bf.ah.map aa),.int .i64 s.aB,.map T mP,.map O mP]]⟩
 tl:∃b,g T=some ⟨b,mP.y7,ts.map aa⟩
 cv:c.bW<n
 tv:T.bW<n
 ov:O.bW<n
theorem EO {σ:ar} (s:aq) (hS:iD s) (F:aP->Int) (hF:∀q,0<=F q->fP s (F q)=true) (p:aP) (hx:iB p.fE) (hy:iB p.e8) (t:Int) (ht:fP s t=true) (f:Nat) (first:List AV)
  (zu:∀σ':ar,σ.next<=σ'.next->(∀x:Id,x.bW<σ.next->σ'.get x=σ.get x)->∀q,fu (Call Tryz.prog) f (first++[.agg (aj q)]) σ' (fun r=>r=.int .i64 (F q))):
  Call Tryz.prog 249 [.agg (ab s),.agg (aj p),.int .i64 t,.tC f first] σ (fun r _=>r=.int .i64 (sg s F p t)):=by
 refine eO eb rfl fun nP=>?_
 clear nP
 (try((repeat(revert hN;revert N;apply Pn.out));refine wk (tw @aj.eq_1 @ab.eq_1) ?_;(repeat(refine Pn.mk ?_;intro N hN))))
 refine aY (fun n env st=>∃k:Nat,n=(4)-k/\k<=(4)/\env 12=.int .i64 (k:Int)/\env 9=.int .i64 (dP s F p t k)/\st.get ⟨249000000,σ.next⟩=some ⟨true,2,[ab s]⟩/\st.get ⟨249000001,σ.next⟩=some ⟨true,2,[aj p]⟩/\(σ.next<st.next/\∀x:Id,x.bW<σ.next->st.get x=σ.get x)) (4) ⟨0,by omega,by omega,sl (tw @aj.eq_1 @ab.eq_1),sl (tw @aj.eq_1 @ab.eq_1),sl (tw @aj.eq_1 @ab.eq_1),sl (tw @aj.eq_1 @ab.eq_1),⟨by(try dsimp only);omega,fun x hx=>by
  have:=ef hx
  simp only[go_sem, ↓reduceIte,Nat.reduceEqDiff,Nat.reduceAdd,Nat.reduceSub,Nat.reduceLeDiff,reduceCtorEq,this]⟩⟩ ?_
 rintro n_a env_a st_a ⟨k,rfl,ale,a12,a9,ag0,ag1,mJ⟩ dU
 have a2:=dU 2 (by kernel_rfl);have a3:=dU 3 (by kernel_rfl);have a4:=dU 4 (by kernel_rfl);have a5:=dU 5 (by kernel_rfl)
 simp only[go_sem, ↓reduceIte,Nat.reduceEqDiff,Nat.reduceAdd,Nat.reduceSub,Nat.reduceLeDiff,reduceCtorEq,aj,ab]at a2 a3 a4 a5
 clear dU
 obtain⟨an,dU⟩:=mJ
 by_cases hk:(k:Int)<4
 ·have cK:∀{e:Env} {gg:Rows} {nx:Nat},(e 12=.int .i64 (IntKind.i64.wrap ((k:Int)+1)))->(e 9=.int .i64 (dP s F p t (k+1)))->(gg ⟨249000000,σ.next⟩=some ⟨true,2,[ab s]⟩)->(gg ⟨249000001,σ.next⟩=some ⟨true,2,[aj p]⟩)->(σ.next<nx/\∀x:Id,x.bW<σ.next->gg x=σ.get x)->∃m0,m0<(4)-k/\∃k:Nat,m0=(4)-k/\k<=(4)/\e 12=.int .i64 (k:Int)/\e 9=.int .i64 (dP s F p t k)/\gg ⟨249000000,σ.next⟩=some ⟨true,2,[ab s]⟩/\gg ⟨249000001,σ.next⟩=some ⟨true,2,[aj p]⟩/\(σ.next<nx/\∀x:Id,x.bW<σ.next->gg x=σ.get x):=fun x1 x2 x3 x4 x5=>⟨_,by omega,k+1,rfl,by omega,(by rw[x1,ax (by omega)]),x2,x3,x4,x5⟩
  have er:=IG p k (mh (by omega)) hx hy
  have fJ:=nC hS F p t k
  (repeat(first|((repeat(revert hN;revert N;apply Pn.out));refine wk (tw @a12 (tw @a9 (tw @ag0 (tw @ag1 (tw @a2 (tw @a3 (tw @a4 (tw @a5 (tw @hk @aj.eq_1))))))))) ?_;(repeat(refine Pn.mk ?_;intro N hN)))|((try apply Or.inl);refine⟨_,ak.x (er) (sd (tw @a12 (tw @a9 (tw @ag0 (tw @ag1 (tw @a2 (tw @a3 (tw @a4 (tw @a5 (tw @hk @aj.eq_1)))))))))),?_⟩;refine hN _ _ ?_;clear hN N)))
  refine .inl ⟨_,zu _ (by(try dsimp only);omega) (fun x hx=>sd (dU x hx)) (dM p k),?_⟩
  refine hN _ _ ?_
  clear hN N
  by_cases h0:0<=F (dM p k)
  ·have rH:=G4 s hS.form t k (F (dM p k)) ht (hF _ h0) (mh (by omega))
   have fM:=tU hS t k (F (dM p k))
   have hw:IntKind.i64.wrap (dP s F p t k+gD s t k (F (dM p k)))=dP s F p t (k+1):=by
    rw[bE (by omega),dP,if_pos h0]
   rw[ab]at rH
   (repeat(first|((repeat(revert hN;revert N;apply Pn.out));refine wk (tw @a12 (tw @a9 (tw @ag0 (tw @ag1 (tw @a2 (tw @a3 (tw @a4 (tw @a5 (tw @h0 @ab.eq_1))))))))) ?_;(repeat(refine Pn.mk ?_;intro N hN)))|((try apply Or.inl);refine⟨_,ak.x (rH) (sd (tw @a12 (tw @a9 (tw @ag0 (tw @ag1 (tw @a2 (tw @a3 (tw @a4 (tw @a5 (tw @h0 @ab.eq_1)))))))))),?_⟩;refine hN _ _ ?_;clear hN N)))
   refine cK ?_ ?_ ?_ ?_ (⟨by(try dsimp only);omega,fun x hx=>by
    have h1:=dU x hx
    simp only[go_sem, ↓reduceIte,Nat.reduceEqDiff,Nat.reduceAdd,Nat.reduceSub,Nat.reduceLeDiff,reduceCtorEq,h1]⟩)
   all_goals simp only[go_sem, ↓reduceIte,Nat.reduceEqDiff,Nat.reduceAdd,Nat.reduceSub,Nat.reduceLeDiff,reduceCtorEq,a12,a9,ag0,ag1,a2,a3,a4,a5,hw,aj,ab]
  ·have hw:dP s F p t (k+1)=dP s F p t k:=by rw[dP,if_neg h0,Int.add_zero]
   (try((repeat(revert hN;revert N;apply Pn.out));refine wk (tw @a12 (tw @a9 (tw @ag0 (tw @ag1 (tw @a2 (tw @a3 (tw @a4 (tw @a5 @h0)))))))) ?_;(repeat(refine Pn.mk ?_;intro N hN))))
   refine cK ?_ ?_ ?_ ?_ (⟨by(try dsimp only);omega,fun x hx=>by
    have h1:=dU x hx
    simp only[go_sem, ↓reduceIte,Nat.reduceEqDiff,Nat.reduceAdd,Nat.reduceSub,Nat.reduceLeDiff,reduceCtorEq,h1]⟩)
   all_goals simp only[go_sem, ↓reduceIte,Nat.reduceEqDiff,Nat.reduceAdd,Nat.reduceSub,Nat.reduceLeDiff,reduceCtorEq,a12,a9,ag0,ag1,a2,a3,a4,a5,hw,aj,ab]
 ·(try((repeat(revert hN;revert N;apply Pn.out));refine wk (tw @a12 (tw @a9 (tw @ag0 (tw @ag1 (tw @a2 (tw @a3 (tw @a4 (tw @a5 @hk)))))))) ?_;(repeat(refine Pn.mk ?_;intro N hN))))
  exact fI (.inl rfl) (vs:=[.int .i64 (dP s F p t k)]) (sd (tw @a12 (tw @a9 (tw @ag0 (tw @ag1 (tw @a2 (tw @a3 (tw @a4 @a5)))))))) (by rw[show k=4 by omega];rfl)
noncomputable def MC (s:aU) (ts:List ad) (p:aP) (t:Int):Bool:=F1 p&&decide (iE ts p<0)&&decide (s.aB<=sg s.aV (iE ts) p t)
def OW (rows:List (List AV)):Prop:=∀r∈rows,∃(x y:Int) (v:AV),r=[.int .i64 x,.int .i64 y,v]
def LookK (σ:ar) (O:Id) (g:Rows) (n:Nat):Prop:=σ.next<=n/\(∀x:Id,x.bW<σ.next->x≠O->g x=σ.get x)/\∃rows,g O=some ⟨true,mP.y7,rows⟩/\OW rows
structure R0 (g:Rows) (n:Nat) (c T O:Id) (s:aU) (ts:List ad):Prop where
 row:g c=some ⟨true,6,[[.sl (s.aV.au.map bU),.sl (s.aV.ah.map bI),.sl (s.bf.ah.map aa),.int .i64 s.aB,.map T mP,.map O mP]]⟩
 tl:g T=some ⟨true,mP.y7,ts.map aa⟩
 op:∃rows,g O=some ⟨true,mP.y7,rows⟩/\OW rows
 cv:c.bW<n
 tv:T.bW<n
 ov:O.bW<n
 cT:c≠T
 cO:c≠O
 TO:T≠O
theorem Ay {l:List ad} {p:aP}:eG l p<0↔∀t∈l,t.aW≠p:=by
 unfold eG Az
 by_cases h:(l.findIdx fun c=>decide (c.aW=p))<l.length
 ·rw[if_pos h]
  obtain⟨t,ht,h2⟩:=List.findIdx_lt_length.1 h
  exact⟨fun h=>by omega,fun h=>absurd (by simpa using h2) (h t ht)⟩
 ·rw[if_neg h]
  exact⟨fun _ t ht e=>h (List.findIdx_lt_length.2 ⟨t,ht,by simp[e]⟩),fun _=>by omega⟩
theorem iD.Pb {s:aq} {l:List ad} (hA:gN s l):∀q,0<=iE l q->fP s (iE l q)=true:=fun _ h=>zF hA h
end Go.Proofs.YtgoljkjaameagaaGreat.V

namespace Go.Proofs.YtgoljkjaameagaaGreat.V
open Go.RowKit
def qC:List ad->ad->List ad
 |[],q=>[q]
 |x::r,q=>if lN q.aW x.aW=true then q::x::r else x::qC r q
theorem AQ {q x:ad}:∀{l:List ad},x∈qC l q↔x=q∨x∈l
 |[]=>by simp[qC]
 |y::r=>by
  have ih:=@AQ q x r
  rw[qC]
  split
  ·simp
  ·simp only[List.mem_cons,ih]
   constructor
   ·rintro(h|h|h)<;>simp[h]
   ·rintro(h|h|h)<;>simp[h]
theorem Iu (q:ad):∀l:List ad,(qC l q).length=l.length+1
 |[]=>rfl
 |y::r=>by
  have ih:=Iu q r
  rw[qC]
  split
  ·simp
  ·simp[ih]
theorem jQ {l:List ad}:ji l↔l.Pairwise fun a b=>lN a.aW b.aW=true:=by
 rw[List.pairwise_iff_getElem]
 constructor
 ·intro h i j hi hj Fp
  have:=h i j Fp hj
  rwa [ee hi,ee hj]at this
 ·intro h i j Fp hj
  have:=h i j (by omega) hj Fp
  rwa [ee (by omega),ee hj]
theorem yC {l:List ad} {p:aP}:eG l p<0↔∀t∈l,t.aW≠p:=Ay
theorem QM {q:ad}:∀{l:List ad},ji l->eG l q.aW<0->ji (qC l q):=by
 intro l
 rw[jQ,jQ,yC]
 induction l with
 |nil=>intro _ _;exact List.pairwise_singleton _ _
 |cons y r ih=>
  intro h hn
  obtain⟨h1,h2⟩:=List.pairwise_cons.1 h
  rw[qC]
  split
  ·rename_i hl
   refine List.pairwise_cons.2 ⟨fun x hx=>?_,h⟩
   rcases List.mem_cons.1 hx with rfl|hx
   ·exact hl
   ·exact jx hl (h1 x hx)
  ·rename_i hl
   rw[Bool.not_eq_true]at hl
   refine List.pairwise_cons.2 ⟨fun x hx=>?_,ih h2 fun t ht=>hn t (by simp[ht])⟩
   rcases AQ.1 hx with rfl|hx
   ·exact Er hl fun e=>hn y (by simp) e.symm
   ·exact h1 x hx
theorem jv (x:ad) (r:List ad) (p:aP):iE (x::r) p=if x.aW=p then x.aZ else iE r p:=by
 unfold iE eG Az
 rw[List.findIdx_cons]
 by_cases h:x.aW=p
 ·simp[h,bc]
 ·simp only[h,decide_false,cond_false,List.length_cons,Nat.add_lt_add_iff_right,if_false]
  by_cases hl:(r.findIdx fun c=>decide (c.aW=p))<r.length
  ·rw[if_pos hl,if_pos hl,if_pos (by omega),if_pos (by omega)]
   simp[bc]
  ·rw[if_neg hl,if_neg hl];rfl
theorem GX {q:ad} (p:aP):∀{l:List ad},(∀t∈l,t.aW≠q.aW)->iE (qC l q) p=if q.aW=p then q.aZ else iE l p
 |[],_=>by rw[qC,jv]
 |x::r,h=>by
  have ih:=@GX q p r fun t ht=>h t (by simp[ht])
  rw[qC]
  split
  ·rw[jv]
  ·rw[jv,ih,jv]
   by_cases h1:x.aW=p
   ·have h2:q.aW≠p:=fun e=>h x (by simp) (h1.trans e.symm)
    rw[if_pos h1,if_neg h2,if_pos h1]
   ·rw[if_neg h1,if_neg h1]
theorem JF {q:ad} (p:aP):∀{l:List ad},(∀t∈l,t.aW≠q.aW)->iE (l++[q]) p=if q.aW=p then q.aZ else iE l p
 |[],_=>by rw[List.nil_append,jv]
 |x::r,h=>by
  have ih:=@JF q p r fun t ht=>h t (by simp[ht])
  rw[List.cons_append,jv,ih,jv]
  by_cases h1:x.aW=p
  ·have h2:q.aW≠p:=fun e=>h x (by simp) (h1.trans e.symm)
   rw[if_pos h1,if_neg h2,if_pos h1]
  ·rw[if_neg h1,if_neg h1]
theorem FV {α:Type} [DecidableEq α]:∀{xs ys:List α},xs.Nodup->(∀x∈xs,x∈ys)->xs.length<=ys.length
 |[],_,_,_=>Nat.zero_le _
 |x::xs,ys,hn,h=>by
  obtain⟨h1,h2⟩:=List.nodup_cons.1 hn
  have hx:=h x (by simp)
  have:=@FV α _ xs (ys.erase x) h2 fun y hy=>(List.mem_erase_of_ne fun e=>h1 (by rw[<-e];exact hy)).2 (h y (by simp[hy]))
  rw[List.length_erase_of_mem hx]at this
  have:=List.length_pos_of_mem hx
  rw[List.length_cons];omega
theorem O5 {l:List ad} (h:ji l):l.Nodup:=by
 rw[jQ]at h
 refine List.Pairwise.imp (fun {a b} qk e=>?_) h
 rw[e,iz]at qk;cases qk
abbrev BO:=List ad×List ad
noncomputable def RV (s:aU) (st:BO) (x:ad):BO:=if MC s st.2 x.aW x.aZ=true then(st.1++[x],qC st.2 x)else st
structure InsI (s:aU) (l:List ad) (st:BO):Prop where
 zz:ji st.2
 sub:∀x∈st.2,x∈l
 done:∀x∈st.1,x∈l
 len:st.2.length=s.bf.ah.length+st.1.length
theorem Pw {s:aU} {l:List ad} (hA:gN s.aV l) {now:List ad} (hs:∀x∈now,x∈l) {p:aP} {t:Int} (h:MC s now p t=true):eG now p<0:=by
 rcases Int.lt_or_le (eG now p) 0 with h0|h0
 ·exact h0
 ·exfalso
  obtain⟨h1,_⟩:=me h0
  have h2:=(ew (hA.2 _ (hs _ (iy h1)))).1
  simp[MC,iE,h0]at h
  omega
structure SysW (s:aU):Prop where
 set:iD s.aV
 s8:gN s.aV s.bf.ah
 some:1<=s.bf.ah.length
 K6:iI s.aB 1 16=true
end Go.Proofs.YtgoljkjaameagaaGreat.V

namespace Go.Proofs.YtgoljkjaameagaaGreat.V
open Go.RowKit Go.Shelf Go.Lib Go.Sort
instance:Inhabited ad:=⟨⟨⟨0,0⟩,0⟩⟩
variable {P:Program} {w:World} {D:Nat->Prop} {ι:Names}
def ET (a b:ad):Int:=qf a.aW b.aW
theorem te (a b:ad):ltOf ET a b=lN a.aW b.aW:=by rw[ltOf,ET,tf]
def GQ:Prop:=∀(wL off cap:Nat) (d:Array ad) (w:World),HoldsK eJ 3 w wL off d->wL<w.heap.size->d.size<4611686018427387904->
 Calls Tryz.prog 185 #[.slice (some ⟨wL,off,none⟩) d.size cap,.func (.func 186) #[] #[]] w fun e w'=>e=.returned (.tuple #[])/\∃d' n os,PermIn 0 d.size d d'/\SortedIn (ltOf ET) 0 d.size d'/\w'=sortWorldK eJ 3 w wL off n d' os
def GR:Prop:=∀(p:Option Addr) (cap:Nat) (fv:Value) (w:World),Calls Tryz.prog 185 #[.slice p 0 cap,fv] w fun e w'=>e=.returned (.tuple #[])/\w'=w
theorem Hf (p:ad) (j:Nat) (a:AV) (h:(aa p)[j]? =some a) (P:Program) (w:World) (D:Nat->Prop) (ι:Names):cV P w D ι a (eJ p)[j]! :=by
 match j,h with
 |0,h=>simp[aa]at h;subst h;exact .eH _ _ (.int _ _)
 |1,h=>simp[aa]at h;subst h;exact .eH _ _ (.int _ _)
 |2,h=>simp[aa]at h;subst h;exact .eH _ _ (.int _ _)
 |j+3,h=>simp[aa]at h
theorem Ga (hC:GQ) (hN:GR) (ps:List ad) (hlen:ps.length<=1048576) (σ:ar) (id:Id) (hg:σ.get id=some ⟨true,3,ps.map aa⟩):
  Call Tryz.prog 185 [.own id 0 ps.length,.fn 186 []] σ fun r σ'=>σ'.next=σ.next/\(∀x,x≠id->σ'.get x=σ.get x)/\∃qs,σ'.get id=some ⟨true,3,qs.map aa⟩/\qs.length=ps.length/\qs.Perm ps/\∀i j:Nat,i<j->j<qs.length->lN (bc qs j).aW (bc qs i).aW=false:=by
 refine gr fun hs D ι w vs S U A=>?_
 obtain⟨u1,us1,rfl,h1,h2⟩:=oF A
 obtain⟨u2,us2,h3,h4,h5⟩:=oF h2
 simp at h3;subst h3
 have:=A9 h5
 simp at this;subst this
 obtain⟨o,cap,B,rfl,hB,Hu,ho,Aj,hmax,hk⟩:=iC h1
 obtain⟨TQ,gf,rfl,_,hz,_,_⟩:=yZ h4
 have hz':TQ= #[]:=Array.eq_empty_of_size_eq_zero (by simpa using hz)
 subst hz'
 by_cases h0:ps=[]
 ·subst h0
  refine(hN _ _ _ w).mono ?_
  rintro e w' ⟨rfl,rfl⟩
  exact⟨.ij [],σ.get,σ.next,D,ι,_,rfl,⟨rfl,fun _ _=>rfl,[],hg,rfl,List.Perm.refl _,fun i j _ hj=>by simp at hj⟩,Step.refl _ _ _ _,S,U,Nat.le_refl _,.ij [] #[] (fun _=>Go.undef) rfl (fun j hj=>by simp at hj) (fun j a h=>by simp at h)⟩
 have jZ:0<ps.length:=List.length_pos_iff.2 h0
 obtain⟨B',dJ,R,iv,lY⟩:=S.row id _ hg
 rw[hB]at dJ;injection dJ with dJ;subst dJ
 replace R:=R.row hk
 have fb:B.sz=3:=R.sz
 have BD:o=0:=by rcases ho with h|h<;>omega
 subst BD
 obtain⟨cur,T,hblk,di,zu⟩:=R.cur
 have Ak:ps.length*3<=B.C:=by simpa using R.fits
 have hH:HoldsK eJ 3 w B.b 0 ps.toArray:=by
  intro t ht
  rw[size_flatK]at ht
  have ht2:t<ps.length*3:=by simpa using ht
  have hi:t / 3<ps.length:=by omega
  have tr:w.frozen? ⟨B.b,0+t,none⟩=false:=by
   simp only[World.frozen?,hblk];simp
  refine⟨?_,tr⟩
  rw[get_flatK _ _ _ _ ht]
  have hd:(ps.toArray)[t / 3]! =ps[t / 3]:=by simp[getElem!_pos,hi]
  rw[hd]
  have hj:t % 3=0∨t % 3=1∨t % 3=2:=by omega
  have ht3:0+t=(t / 3)*3+t % 3:=by omega
  rw[ht3]
  rcases hj with hj|hj|hj
  ·obtain⟨v,hv,hr⟩:=R.at_ (t / 3) 0 (aa ps[t / 3]) _ (by simp[hi]) rfl
   rw[dh hr]at hv
   rw[hj];exact hv
  ·obtain⟨v,hv,hr⟩:=R.at_ (t / 3) 1 (aa ps[t / 3]) _ (by simp[hi]) rfl
   rw[dh hr]at hv
   rw[hj];exact hv
  ·obtain⟨v,hv,hr⟩:=R.at_ (t / 3) 2 (aa ps[t / 3]) _ (by simp[hi]) rfl
   rw[dh hr]at hv
   rw[hj];exact hv
 have nk:B.b<w.heap.size:=(Array.getElem?_eq_some_iff.1 hblk).1
 have PR:=hC B.b 0 cap ps.toArray w hH nk (by simp;omega)
 rw[show ps.toArray.size=ps.length from by simp]at PR
 refine PR.mono ?_
 rintro e w' ⟨rfl,d',m,os,⟨Jn,_,hperm⟩,hsort,rfl⟩
 have PU:d'.size=ps.length:=by rw[Jn];simp
 have hql:d'.toList.length=ps.length:=by simpa using PU
 have hP:d'.toList.Perm ps:=by
  have e1:d'.extract 0 ps.length=d':=by rw[<-PU];exact Array.extract_size
  have e2:ps.toArray.extract 0 ps.length=ps.toArray:=by
   have:ps.length=ps.toArray.size:=by simp
   rw[this];exact Array.extract_size
  rw[e1,e2]at hperm
  simpa using hperm
 have hF:∀t,t<ps.length*3->(flatK eJ 3 d')[t]! =(eJ d'[t / 3]!)[t % 3]! :=fun t ht=>get_flatK _ _ _ _ (by rw[PU];exact ht)
 have hFs:(flatK eJ 3 d').size=ps.length*3:=by rw[size_flatK,PU]
 have hw:sortWorldK eJ 3 w B.b 0 m d' os=Go.Sort.grow (Go.Sort.putRow (fun v:Value=>v) (Go.Sort.ahead w m) B.b 0 (flatK eJ 3 d')) os:=rfl
 rw[hw]
 clear hw hH
 generalize flatK eJ 3 d'=Fl at hF hFs ⊢
 have uv:=S.put (r':=⟨true,3,d'.toList.map aa⟩) (cur':=Go.Sort.putCells (fun v:Value=>v) 0 Fl cur) hg rfl hB hblk (by simp[Go.Sort.putCells]) rfl rfl (by simpa[PU]using Ak) (fun cs di=>by
   obtain⟨x,_,rfl⟩:=List.mem_map.1 di;rfl) (fun cs di a ha=>by
   obtain⟨x,_,rfl⟩:=List.mem_map.1 di
   simp[aa]at ha;rcases ha with rfl|rfl|rfl<;>rfl) (fun i j cs a hi hj=>by
   have w7:i<d'.toList.length:=by
    have:=(List.getElem?_eq_some_iff.1 hi).1
    simpa using this
   have S7:j<3:=by
    have:=List.mem_of_getElem? hi
    obtain⟨x,_,rfl⟩:=List.mem_map.1 this
    exact(List.getElem?_eq_some_iff.1 hj).1
   have SM:cs=aa d'[i]! :=by
    rw[List.getElem?_map,List.getElem?_eq_getElem w7]at hi
    simp at hi
    rw[<-hi,getElem!_pos d' i (by simpa using w7)]
   subst SM
   have RP:i*3+j<ps.length*3:=by omega
   refine⟨(eJ d'[i]!)[j]!,?_,Hf _ _ _ hj _ _ _ _⟩
   have lI:i*3+j<cur.size:=by rw[di];omega
   show(Go.Sort.putCells (fun v:Value=>v) 0 Fl cur)[i*3+j]? = _
   simp only[Go.Sort.putCells,Array.getElem?_mapIdx,Array.getElem?_eq_getElem lI,Option.map_some]
   rw[if_pos ⟨Nat.zero_le _,by rw[hFs];omega⟩,Nat.sub_zero,hF _ RP,show(i*3+j) / 3=i from by omega,show(i*3+j) % 3=j from by omega])
 obtain⟨S1,Me⟩:=uv
 have Qq:(Go.Sort.putRow (fun v:Value=>v) (Go.Sort.ahead w m) B.b 0 Fl).heap.size=w.heap.size:=by simp
 have LC:∀k,k<(w.setRow B.b (Go.Sort.putCells (fun v:Value=>v) 0 Fl cur)).heap.size->(Go.Sort.grow (Go.Sort.putRow (fun v:Value=>v) (Go.Sort.ahead w m) B.b 0 Fl) os).heap[k]? =(w.setRow B.b (Go.Sort.putCells (fun v:Value=>v) 0 Fl cur)).heap[k]? :=fun k hk=>by
  have Ed:k<w.heap.size:=by simpa using hk
  rw[heap_grow_old _ _ (by rw[Qq];exact Ed)]
  simp only[Go.Sort.putRow,Go.Sort.mapBlock,heap_ahead,Array.getElem?_modify]
  by_cases Ta:B.b=k
  ·subst Ta
   rw[setRow_heap w B.b cur _ T _ hblk,if_pos rfl,hblk];rfl
  ·rw[if_neg Ta,setRow_other w B.b k _ (fun h=>Ta h.symm)]
 have kK:(w.setRow B.b (Go.Sort.putCells (fun v:Value=>v) 0 Fl cur)).heap.size<=(Go.Sort.grow (Go.Sort.putRow (fun v:Value=>v) (Go.Sort.ahead w m) B.b 0 Fl) os).heap.size:=by
  rw[size_grow,Qq];simp
 have S2:=S1.stay (D':=D) (ι':=ι) LC kK (fun _ h=>h) (fun b hb=>Nat.lt_of_lt_of_le (S1.dead b hb) kK) (fun _ h=>.inl h) (fun _ _ h=>h)
 have Mf:=Me.trans (Step.stay (D':=D) (ι':=ι) S1 LC kK (by simp[Go.Sort.grow,Go.Sort.putRow,Go.Sort.mapBlock,Go.Sort.ahead]) (by simp[Go.Sort.grow,Go.Sort.putRow,Go.Sort.mapBlock,Go.Sort.ahead]) (by simp[Go.Sort.grow,Go.Sort.putRow,Go.Sort.mapBlock,Go.Sort.ahead]) (fun _ h=>h) (fun _ h=>.inl h) (fun _ _ h=>h))
 refine⟨.ij [],bH σ.get id ⟨true,3,d'.toList.map aa⟩,σ.next,D,ι,_,rfl,⟨rfl,fun x hx=>by simp[bH,hx],d'.toList,by simp[bH],hql,hP,fun i j Fp hj=>?_⟩,Mf,S2,U,Nat.le_refl _,.ij [] #[] (fun _=>Go.undef) rfl (fun j hj=>by simp at hj) (fun j a h=>by simp at h)⟩
 have h:=hsort i j (Nat.zero_le _) Fp (by omega)
 rw[te]at h
 have e1:d'[j]! =bc d'.toList j:=by rw[ee hj,getElem!_pos d' j (by simpa using hj)];rfl
 have hi:i<d'.toList.length:=by omega
 have e2:d'[i]! =bc d'.toList i:=by rw[ee hi,getElem!_pos d' i (by simpa using hi)];rfl
 rw[<-e1,<-e2];exact h
theorem Mb {w w':World} (h:Grown w w') (os:Array Obj):Grown w (Go.Sort.grow w' os):=by
 obtain⟨q,os0,rfl⟩:=h
 exact⟨q,os0++os,by rw[grow_grow]⟩
theorem JL (w:World) (a b:ad):Calls Tryz.prog 186 #[.agg #[.int .i64 a.aW.fE,.int .i64 a.aW.e8,.int .i64 a.aZ],.agg #[.int .i64 b.aW.fE,.int .i64 b.aW.e8,.int .i64 b.aZ]] w fun e w'=>e=.returned (.int .i64 (ET a b))/\Grown w w':=by
 go_enter Tryz.func186,Tryz.ntmps186
 go_wp2_with (first|(go_at_call 154;refine(sR _ a.aW b.aW).mono ?_;rintro e w' ⟨rfl,hG⟩))
 obtain⟨q,os,rfl⟩:=hG
 go_ret
 refine⟨rfl,Mb (Grown.dN ?_ q) os⟩
 repeat(first|(with_reducible exact Grown.refl _)|(refine Grown.alloc ?_ _)|(refine Grown.drew ?_)|(refine Grown.dN ?_ _))
theorem TN:SWO (ltOf ET) where
 irrefl x:=by rw[te];exact iz
 trans x y z h1 h2:=by rw[te]at *;exact jx h1 h2
 ntrans x y z h1 h2:=by rw[te]at *;rw[oD]at *;omega
theorem N2:GQ:=fun wL off cap d w hH hblk fb=>by
 have eg:∀args w,(callFunc 186 args).run Tryz.prog w=.ok (.enter 186 args) w:=enters_of Tryz.func186 (by kernel_rfl) rfl
 have h:=AnyQ.slices_SortFunc Tryz.IE 3 Tryz.isAgg171 Tryz.sizeOf171 eJ (fun _=>rfl) (fun x v hv=>by simp[eJ]at hv;rcases hv with rfl|rfl|rfl<;>rfl) ET TN 186 #[] wL off cap d w eg (fun m os dk _ x y=>(JL _ x y).mono fun _ _ ⟨he,q,os',hw⟩=>⟨he,q,os',hw⟩) hH hblk fb
 exact h
theorem ID:GR:=fun p cap fv w=>AnyF.slices_SortFunc_none Tryz.IE p cap fv w
end Go.Proofs.YtgoljkjaameagaaGreat.V

namespace Go.Proofs.YtgoljkjaameagaaGreat.V
open Go.RowKit
attribute [local irreducible] dL wpOps fu Call
attribute [local go_sem] az eQ ec eY eW cJ upd bJ K.av b4 AV.cells AV.cell rowOf rowsOf part ld rowAt bH bG cX dr fR bo cE dD e6 eF cQ dx cC cz db dc br aJ ck bq cq cm dv dy dw cj bx cD dt bp aA cu bQ fQ bd bY bt aH cW aX cY AV.undef bj bl de dn da dj bV dC dE bK dB dz cr cw List.getD_cons_zero List.getD_cons_succ List.getD_nil List.all_cons List.all_nil Bool.and_true Bool.true_and Bool.and_self Bool.not_true Bool.not_false Option.map_some Option.map_none Option.bind_some Option.bind_none List.length_cons List.length_nil List.take_succ_cons List.take_zero List.take_nil List.drop_succ_cons List.drop_zero List.drop_nil List.head?_cons List.map_cons List.map_nil List.getElem?_cons_zero List.getElem?_cons_succ List.cons_append List.nil_append List.append_nil List.length_map List.set_cons_zero List.set_cons_succ Nat.reduceMul eq_self Int.toNat_natCast Int.natCast_nonneg and_self true_and and_true decide_true decide_false Bool.false_eq_true Nat.zero_add Nat.add_zero List.contains_cons List.contains_nil Bool.or_false Bool.false_or beq_self_eq_true Nat.reduceBEq ne_eq not_true_eq_false not_false_eq_true Id.mk.injEq false_and and_false Nat.reduceLT Int.reduceLE Int.reduceLT Int.reduceToNat Int.reduceNeg Int.reduceAdd Nat.le_refl List.length_append beq_true beq_false Bool.not_eq_eq_eq_not or_false false_or dd ae ai ay bh bD aG aM aD aL bZ bm
end Go.Proofs.YtgoljkjaameagaaGreat.V

namespace Go.Proofs.YtgoljkjaameagaaGreat.V
open Go.RowKit
variable {P:Program} {w w':World} {D D':Nat->Prop} {ι ι':Names} {hs:Nat} {g:Rows}
def R5 (w:World) (rr:Nat):Prop:=∃m s seen c,w.heap[rr]? =some (.mapIter m s seen c)
structure Lft (P:Program) (w:World) (D:Nat->Prop) (ι:Names) (m:MK) (L:List MapEntry) (left:List (List AV)):Prop where
 len:left.length=L.length
 at_:∀(i:Nat) (cs:List AV),left[i]? =some cs->∃(e:MapEntry) (kv vv:AV),L[i]? =some e/\part m.ka m.ks cs=some kv/\cs[m.ks]? =some vv/\cV P w D ι kv e.key/\cV P w D ι vv e.val
theorem yi {α β:Type} {l:List α} {k:List β} {i j:Nat} {x:α} (hl:l.length=k.length) (h:(l.eraseIdx i)[j]? =some x):∃q:Nat,l[q]? =some x/\(k.eraseIdx i)[j]? =k[q]? :=by
 rw[List.getElem?_eraseIdx]at h
 split at h
 ·rename_i hj;exact⟨j,h,by rw[List.getElem?_eraseIdx,if_pos hj]⟩
 ·rename_i hj;exact⟨j+1,h,by rw[List.getElem?_eraseIdx,if_neg hj]⟩
def CS (P:Program) (nt:Nat) (c:Code) (W:(Ex->Env->ar->Prop)->Env->ar->Prop):Prop:=
 ∀(hs:Nat) (Q:Ex->Env->ar->Prop) (env:Env) (σ:ar) (a:Act) (w:World) (D:Nat->Prop) (ι:Names) (Q':Exit->Act->World->Prop),W Q env σ->St P hs nt D ι env σ a w->tP P hs nt a.defers Q σ.next D ι w Q'->BR P c Q' a w
end Go.Proofs.YtgoljkjaameagaaGreat.V

namespace Go.Proofs.YtgoljkjaameagaaGreat.V
open Go.RowKit
end Go.Proofs.YtgoljkjaameagaaGreat.V

namespace Go.Proofs.YtgoljkjaameagaaGreat.V
open Go.RowKit
attribute [local irreducible] dL wpOps fu Call
attribute [local go_sem] az eQ ec eY eW cJ upd bJ K.av b4 AV.cells AV.cell rowOf rowsOf part ld rowAt bH bG cX dr fR bo cE dD e6 eF cQ dx cC cz db dc br aJ ck bq cq cm dv dy dw cj bx cD dt bp aA cu bQ fQ bd bY bt aH cW aX cY AV.undef bj bl de dn da dj bV dC dE bK dB dz cr cw List.getD_cons_zero List.getD_cons_succ List.getD_nil List.all_cons List.all_nil Bool.and_true Bool.true_and Bool.and_self Bool.not_true Bool.not_false Option.map_some Option.map_none Option.bind_some Option.bind_none List.length_cons List.length_nil List.take_succ_cons List.take_zero List.take_nil List.drop_succ_cons List.drop_zero List.drop_nil List.head?_cons List.map_cons List.map_nil List.getElem?_cons_zero List.getElem?_cons_succ List.cons_append List.nil_append List.append_nil List.length_map List.set_cons_zero List.set_cons_succ Nat.reduceMul eq_self Int.toNat_natCast Int.natCast_nonneg and_self true_and and_true decide_true decide_false Bool.false_eq_true Nat.zero_add Nat.add_zero List.contains_cons List.contains_nil Bool.or_false Bool.false_or beq_self_eq_true Nat.reduceBEq ne_eq not_true_eq_false not_false_eq_true Id.mk.injEq false_and and_false Nat.reduceLT Int.reduceLE Int.reduceLT Int.reduceToNat Int.reduceNeg Int.reduceAdd Nat.le_refl List.length_append beq_true beq_false Bool.not_eq_eq_eq_not or_false false_or dd ae ai ay bh bD aG aM aD aL bZ bm
theorem xC:∀{ps qs:List ad},(ps.Pairwise fun a b=>lN a.aW b.aW=true)->(qs.Pairwise fun a b=>lN a.aW b.aW=true)->(∀x,x∈ps↔x∈qs)->ps=qs
 |[],[],_,_,_=>rfl
 |[],q::qs,_,_,h=>absurd ((h q).2 (by simp)) (by simp)
 |p::ps,[],_,_,h=>absurd ((h p).1 (by simp)) (by simp)
 |p::ps,q::qs,hp,hq,h=>by
  obtain⟨p1,p2⟩:=List.pairwise_cons.1 hp
  obtain⟨q1,q2⟩:=List.pairwise_cons.1 hq
  have e:p=q:=by
   rcases List.mem_cons.1 ((h p).1 (by simp))with e|e
   ·exact e
   ·rcases List.mem_cons.1 ((h q).2 (by simp))with e'|e'
    ·exact e'.symm
    ·have:=Ia (q1 p e)
     rw[p1 q e']at this;cases this
  subst e
  congr 1
  refine xC p2 q2 fun x=>⟨fun hx=>?_,fun hx=>?_⟩
  ·rcases List.mem_cons.1 ((h x).1 (List.mem_cons_of_mem _ hx))with e|e
   ·subst e;have:=p1 x hx;rw[iz]at this;cases this
   ·exact e
  ·rcases List.mem_cons.1 ((h x).2 (List.mem_cons_of_mem _ hx))with e|e
   ·subst e;have:=q1 x hx;rw[iz]at this;cases this
   ·exact e
theorem Dl {L qs:List ad} (hR:ji L) (hp:qs.Perm L) (hs:∀i j:Nat,i<j->j<qs.length->lN (bc qs j).aW (bc qs i).aW=false):qs=L:=by
 rw[jQ]at hR
 have hd:L.Pairwise fun a b=>a.aW≠b.aW:=hR.imp fun {a b} h e=>by rw[e,iz]at h;cases h
 have hdq:qs.Pairwise fun a b=>a.aW≠b.aW:=hp.symm.pairwise hd fun {a b} h e=>h e.symm
 refine xC ?_ hR fun x=>hp.mem_iff
 rw[List.pairwise_iff_getElem]at hdq ⊢
 intro i j hi hj Fp
 have h1:=hs i j Fp hj
 rw[ee hj,ee hi]at h1
 exact Er h1 fun e=>hdq i j hi hj Fp e.symm
theorem Cb (ps:List ad) (h0:ps≠[]) (hlen:ps.length<=1048576) (σ:ar) (id:Id) (hv:id.bW<σ.next) (hg:σ.get id=some ⟨true,3,ps.map aa⟩):
  Call Tryz.prog 166 [.own id 0 ps.length] σ fun a σ'=>∃o:Id,a=.own o 0 ps.length/\σ'.get o=some ⟨true,3,ps.map aa⟩/\σ.next<=o.bW/\o.bW<σ'.next/\∀x:Id,x.bW<σ.next->σ'.get x=σ.get x:=by
 refine eO eb rfl fun hl=>?_
 clear hl
 have h2:ps.length<=16777216:=by omega
 have hm:(ps.map aa).length=ps.length:=by simp
 have v1:=ef hv
 have ht:(ps.map aa).take ps.length=ps.map aa:=by rw[<-hm,List.take_length]
 have ha:(ps.map aa).all (fun c=>c.length==3&&c.all AV.cell)=true:=all_map fun x=>by simp[aa,AV.cell]
 (try((repeat(revert hN;revert N;apply Pn.out));refine wk (tw @hg (tw @h2 (tw @hm (tw @v1 (tw @ht @ha))))) ?_;(repeat(refine Pn.mk ?_;intro N hN))))
 exact fI (vs:=[.own ⟨166003002,σ.next+2⟩ 0 ps.length]) (.inl rfl) (sd @Nat.zero_add) ⟨_,rfl,sd @Nat.zero_add,by(try dsimp only);omega,by(try dsimp only);omega,fun x hx=>by
  have:=ef hx
  simp only[go_sem, ↓reduceIte,Nat.reduceEqDiff,Nat.reduceAdd,Nat.reduceSub,Nat.reduceLeDiff,reduceCtorEq,this]⟩
theorem xP (ps L:List ad) (hlen:ps.length<=1000000) (h0:ps≠[]) (hR:ji L) (hp:ps.Perm L) (σ:ar) (id:Id) (hv:id.bW<σ.next) (hg:σ.get id=some ⟨true,3,ps.map aa⟩):
  Call Tryz.prog 118 [.own id 0 ps.length] σ fun a σ'=>∃o:Id,a=.agg [.own o 0 L.length]/\σ'.get o=some ⟨true,3,L.map aa⟩/\σ.next<=o.bW/\o.bW<σ'.next/\∀x:Id,x.bW<σ.next->σ'.get x=σ.get x:=by
 refine eO eb rfl fun hl=>?_
 clear hl
 have v1:=ef hv
 (try((repeat(revert hN;revert N;apply Pn.out));refine wk (tw @hg @v1) ?_;(repeat(refine Pn.mk ?_;intro N hN))))
 refine .inr (aE _ _ _ _ _ (fun r σ1 hq=>?_) (Cb ps h0 (by omega) ⟨_,_⟩ id (by(try dsimp only);omega) (sd (tw @v1 @hg))))
 obtain⟨g1,x1⟩:=σ1
 obtain⟨o,rfl,q1,q2,q3,q4⟩:=hq
 (try dsimp only at q1 q2 q3 q4)
 have k2:=q4 ⟨118000000,σ.next⟩ (by(try dsimp only);omega)
 simp only[go_sem, ↓reduceIte,Nat.reduceEqDiff,Nat.reduceAdd,Nat.reduceSub,Nat.reduceLeDiff,reduceCtorEq]at k2
 refine hN _ _ ?_
 clear hN N
 (try((repeat(revert hN;revert N;apply Pn.out));refine wk @Nat.zero_add ?_;(repeat(refine Pn.mk ?_;intro N hN))))
 refine .inr (aE _ _ _ _ _ (fun r σ2 hq=>?_) (Ga N2 ID ps (by omega) ⟨g1,_⟩ o q1))
 obtain⟨g2,x2⟩:=σ2
 obtain⟨u1,u2,ss,u3,u4,u5,u6⟩:=hq
 (try dsimp only at u1 u2 u3)
 have hss:ss=L:=Dl hR (u5.trans hp) u6
 rw[hss]at u3 u4
 have o2:(⟨118000000,σ.next⟩:Id)≠o:=fun e=>by rw[<-e]at q2;(try dsimp only at q2);omega
 have k3:=(u2 _ o2).trans k2
 have of:=eq_false (fun e:o=(⟨118000000,σ.next⟩:Id)=>o2 e.symm)
 refine hN _ _ ?_
 clear hN N
 (try((repeat(revert hN;revert N;apply Pn.out));refine wk @k3 ?_;(repeat(refine Pn.mk ?_;intro N hN))))
 exact fI (.inl rfl) (vs:=[.agg [.own o 0 ps.length]]) (sd @Nat.zero_add) ⟨o,by rw[u4];rfl,sd (tw @of @u3),by omega,by(try dsimp only);omega,fun x hx=>by
  have h1:x≠o:=fun e=>by rw[e]at hx;omega
  have h2:=u2 x h1
  have h3:=q4 x (by(try dsimp only);omega)
  have h4:=ef hx
  simp only[go_sem, ↓reduceIte,Nat.reduceEqDiff,Nat.reduceAdd,Nat.reduceSub,Nat.reduceLeDiff,reduceCtorEq,h4]at h3
  simp only[go_sem, ↓reduceIte,Nat.reduceEqDiff,Nat.reduceAdd,Nat.reduceSub,Nat.reduceLeDiff,reduceCtorEq,h4,h2,h3]⟩
structure mE (n:Nat) (px:Nat->Option Nat) (L:Nat->Nat):Prop where
 top:∀k,k<n->px k=none->L k=k
 up:∀k j,k<n->px k=some j->j<k/\L j=L k
theorem mE.root {n:Nat} {px:Nat->Option Nat} {L:Nat->Nat} (h:mE n px L) (hL:jn L) {k:Nat} (hk:k<n) (hr:L k=k):px k=none:=by
 rcases hp:px k with _|j
 ·rfl
 ·obtain⟨h1,h2⟩:=h.up k j hk hp
  have:=hL.le j
  omega
theorem mE.start (n:Nat):mE n (fun _=>none) id:=⟨fun _ _ _=>rfl,fun _ _ _ h=>by cases h⟩
theorem mE.join {n:Nat} {px:Nat->Option Nat} {L:Nat->Nat} (h:mE n px L) (hL:jn L) (b:PB) (dV:min (L b.a) (L b.b)<max (L b.a) (L b.b)):mE n (fun k=>if k=max (L b.a) (L b.b)then some (min (L b.a) (L b.b))else px k) (eB L b):=by
 have ha:=hL.idem b.a
 have hb:=hL.idem b.b
 have yv:L (min (L b.a) (L b.b))=min (L b.a) (L b.b):=by
  rcases Nat.le_total (L b.a) (L b.b)with h|h
  ·rw[Nat.min_eq_left h,ha]
  ·rw[Nat.min_eq_right h,hb]
 have Qf:L (max (L b.a) (L b.b))=max (L b.a) (L b.b):=by
  rcases Nat.le_total (L b.a) (L b.b)with h|h
  ·rw[Nat.max_eq_right h,hb]
  ·rw[Nat.max_eq_left h,ha]
 unfold eB
 generalize min (L b.a) (L b.b)=lo at *
 generalize max (L b.a) (L b.b)=hi at *
 refine⟨fun k hk hp=>?_,fun k j hk hp=>?_⟩
 ·by_cases Jk:k=hi
  ·rw[if_pos Jk]at hp;cases hp
  ·rw[if_neg Jk]at hp
   have:=h.top k hk hp
   rw[if_neg (by omega)];exact this
 ·by_cases Jk:k=hi
  ·rw[if_pos Jk]at hp
   cases hp
   subst Jk
   exact⟨dV,by rw[if_neg (by omega),if_pos Qf,yv]⟩
  ·rw[if_neg Jk]at hp
   obtain⟨h1,h2⟩:=h.up k j hk hp
   exact⟨h1,by rw[h2]⟩
theorem yK {L:Nat->Nat} {b:PB} (h:L b.a=L b.b):eB L b=L:=by
 funext k
 unfold eB
 rw[h,Nat.max_self,Nat.min_self]
 split
 ·rename_i h;exact h.symm
 ·rfl
def rE (G:Nat->Id) (px:Nat->Option Nat) (k:Nat):List AV:=[match px k with|none=>.gI|some j=>.ptr (G j) 0 0,.int .i64 (k:Int)]
def sO (g:Rows) (G:Nat->Id) (n:Nat) (px:Nat->Option Nat):Prop:=∀k,k<n->g (G k)=some ⟨true,2,[rE G px k]⟩
theorem sO.frame {g g':Rows} {G:Nat->Id} {n:Nat} {px:Nat->Option Nat} (h:sO g G n px) (hf:∀k,k<n->g' (G k)=g (G k)):sO g' G n px:=fun k hk=>(hf k hk).trans (h k hk)
theorem kV {G:Nat->Id} {px:Nat->Option Nat} {k:Nat} (h:px k=none):rE G px k=[.gI,.int .i64 (k:Int)]:=by rw[rE,h]
theorem su {G:Nat->Id} {px:Nat->Option Nat} {k j:Nat} (h:px k=some j):rE G px k=[.ptr (G j) 0 0,.int .i64 (k:Int)]:=by rw[rE,h]
theorem yc (G:Nat->Id) (n:Nat) (px:Nat->Option Nat) (L:Nat->Nat) (h:mE n px L) (k:Nat) (hk:k<n) (σ:ar) (hG:sO σ.get G n px):
  Call Tryz.prog 334 [.ptr (G k) 0 0] σ fun r σ'=>r=.ptr (G (L k)) 0 0/\σ'.get=σ.get/\σ.next<=σ'.next:=by
 refine eO eb rfl fun hl=>?_
 clear hl
 (try((repeat(revert hN;revert N;apply Pn.out));refine wk @Nat.zero_add ?_;(repeat(refine Pn.mk ?_;intro N hN))))
 refine aY (fun m env st=>∃j:Nat,m=j/\j<n/\env 0=.ptr (G j) 0 0/\L j=L k/\st.get=σ.get/\σ.next<=st.next) k ⟨k,rfl,hk,sd @Nat.zero_add,rfl,by(try dsimp only),by(try dsimp only);omega⟩ ?_
 rintro m env_b st_b ⟨j,rfl,hj,b0,hLj,hg,hle⟩ bfr
 clear bfr
 have fV:=hG m hj
 rcases hp:px m with _|j
 ·rw[kV hp]at fV
  (try((repeat(revert hN;revert N;apply Pn.out));refine wk (tw @b0 (tw @hg @fV)) ?_;(repeat(refine Pn.mk ?_;intro N hN))))
  exact fI (.inl rfl) (vs:=[.ptr (G m) 0 0]) (sd @Nat.zero_add) ⟨by rw[<-hLj,h.top m hj hp];rfl,by first|trivial|rfl|exact hg,by(try dsimp only);omega⟩
 ·rw[su hp]at fV
  obtain⟨h1,h2⟩:=h.up m j hj hp
  (try((repeat(revert hN;revert N;apply Pn.out));refine wk (tw @b0 (tw @hg @fV)) ?_;(repeat(refine Pn.mk ?_;intro N hN))))
  exact⟨j,h1,j,rfl,by omega,sd @Nat.zero_add,by omega,by first|trivial|rfl|exact hg,by(try dsimp only);omega⟩
end Go.Proofs.YtgoljkjaameagaaGreat.V
