/- Flows and cuts: plain facts. -/
import Derived.Test.YtihgaadadaekmaaGreatDoorDrA
import Derived.Test.YtihgaadadaekmaaGreatDoorDrB
import Derived.Test.YtihgaadadaekmaaGreatDoorDrC
set_option linter.unusedVariables false
set_option linter.unusedSimpArgs false
set_option maxRecDepth 100000
set_option maxHeartbeats 16000000
namespace Go.Proofs.YtihgaadadaekmaaGreatDoor.V
def bi (b:Bool):Int:=if b then 1 else 0
def kS (f:Nat->Int):Nat->Int
 |0=>0
 |n+1=>kS f n+f n
theorem gy {f g:Nat->Int}:∀{n:Nat},(∀i,i<n->f i=g i)->kS f n=kS g n
 |0,_=>rfl
 |n+1,h=>by
  simp only[kS]
  rw[gy fun i hi=>h i ab,h n ab]
theorem pU {f g:Nat->Int}:∀{n:Nat},(∀i,i<n->f i<=g i)->kS f n<=kS g n
 |0,_=>Int.le_refl _
 |n+1,h=>by
  simp only[kS]
  have:=pU (n:=n) fun i hi=>h i ab
  have:=h n ab
  omega
theorem jd:∀{n:Nat} {f:Nat->Int},(∀i,i<n->f i=0)->kS f n=0
 |0,_,_=>rfl
 |n+1,f,h=>by
  simp only[kS]
  rw[jd fun i hi=>h i ab,h n ab];rfl
theorem nQ {f:Nat->Int} {a:Nat} {d:Int}:∀n,kS (fun i=>f i+if i=a then d else 0) n=kS f n+if a<n then d else 0
 |0=>by simp[kS]
 |n+1=>by
  simp only[kS]
  rw[nQ n]
  by_cases h:n=a
  ·subst h;simp;omega
  ·rw[if_neg h]
   by_cases h2:a<n
   ·rw[if_pos h2,if_pos ab];omega
   ·rw[if_neg h2,if_neg ab];omega
def k6 (n:Nat) (S:Nat->Bool) (f:Nat->Nat->Int):Int:=kS (fun u=>kS (fun v=>if S u&& !S v then f u v else 0) n) n
def bump (f:Nat->Nat->Int) (a b:Nat) (d:Int):Nat->Nat->Int:=fun u v=>f u v+if u=a/\v=b then d else 0
theorem nG {n:Nat} {S:Nat->Bool} {f:Nat->Nat->Int} {a b:Nat} {d:Int} (ha:a<n) (hb:b<n):k6 n S (bump f a b d)=k6 n S f+if S a&& !S b then d else 0:=by
 unfold k6
 have h1:∀u,u<n->kS (fun v=>if S u&& !S v then bump f a b d u v else 0) n=kS (fun v=>if S u&& !S v then f u v else 0) n+if u=a then(if S a&& !S b then d else 0)else 0:=by
  intro u hu
  by_cases h:u=a
  ·subst h
   have h2:∀v,v<n->(if S u&& !S v then bump f u b d u v else 0)=(fun v=>if S u&& !S v then f u v else 0) v+if v=b then(if S u&& !S b then d else 0)else 0:=by
    intro v hv
    unfold bump
    by_cases h3:v=b
    ·subst h3;simp only[and_self,if_true];split<;>omega
    ·simp only[h3,and_false,if_false];split<;>omega
   rw[gy h2,nQ,if_pos hb,if_pos rfl]
  ·rw[if_neg h,Int.add_zero]
   refine gy fun v hv=>?_
   unfold bump
   simp[h]
 rw[gy h1,nQ,if_pos ha]
theorem H4 {n:Nat} {S:Nat->Bool} {f c:Nat->Nat->Int} (h:∀u v,u<n->v<n->f u v<=c u v):k6 n S f<=k6 n S c:=
 pU fun u hu=>pU fun v hv=>by split;exact h u v hu hv;exact Int.le_refl _
theorem H3 {n:Nat} {S:Nat->Bool} {f c:Nat->Nat->Int} (h:∀u v,u<n->v<n->S u=true->S v=false->f u v=c u v):k6 n S f=k6 n S c:=
 gy fun u hu=>gy fun v hv=>by
  split
  ·rename_i hc
   simp only[Bool.and_eq_true,Bool.not_eq_true']at hc
   exact h u v hu hv hc.1 hc.2
  ·rfl
def jF (f:Nat->Nat->Int) (a b:Nat):Nat->Nat->Int:=bump (bump f a b 1) b a (-1)
theorem C2 {n:Nat} {S:Nat->Bool} {f:Nat->Nat->Int} {a b:Nat} (ha:a<n) (hb:b<n):k6 n S (jF f a b)=k6 n S f+bi (S a)-bi (S b):=by
 unfold jF
 rw[nG hb ha,nG ha hb]
 cases S a<;>cases S b<;>simp[bi]<;>omega
def kY (f:Nat->Nat->Int):List Nat->Nat->Nat->Int
 |a::b::r=>kY (jF f a b) (b::r)
 |_=>f
def o9 (f c:Nat->Nat->Int):List Nat->Prop
 |a::b::r=>f a b<c a b/\o9 f c (b::r)
 |_=>True
theorem xV {n:Nat} {S:Nat->Bool}:∀(r:List Nat) (a:Nat) (f:Nat->Nat->Int),(∀x∈a::r,x<n)->k6 n S (kY f (a::r))=k6 n S f+bi (S a)-bi (S ((a::r).getLast (by simp)))
 |[],a,f,_=>by simp[kY]
 |b::r,a,f,h=>by
  rw[kY,xV r b (jF f a b) fun x hx=>h x (List.mem_cons_of_mem _ hx),C2 (h a (by simp)) (h b (by simp)),List.getLast_cons_cons]
  generalize bi (S b)=q
  omega
theorem o9.less {f g c:Nat->Nat->Int}:∀{p:List Nat},o9 f c p->(∀u,u∈p->∀v,g u v<=f u v)->o9 g c p
 |[],_,_=>trivial
 |[_],_,_=>trivial
 |a::b::r,h,hl=>⟨Int.lt_of_le_of_lt (hl a (by simp) b) h.1,o9.less (p:=b::r) h.2 fun u hu=>hl u (List.mem_cons_of_mem _ hu)⟩
theorem BT {n:Nat} {c:Nat->Nat->Int}:∀(p:List Nat) (f:Nat->Nat->Int),p.Nodup->o9 f c p->(∀u v,u<n->v<n->f u v<=c u v)->∀u v,u<n->v<n->kY f p u v<=c u v
 |[],f,_,_,h=>h
 |[_],f,_,_,h=>h
 |a::b::r,f,hn,hr,h=>by
  rw[kY]
  have rh:a∉b::r:=(List.nodup_cons.1 hn).1
  refine BT (b::r) _ (List.nodup_cons.1 hn).2 (hr.2.less fun u hu v=>?_) fun u v hu hv=>?_
  ·unfold jF bump
   have:u≠a:=by rintro rfl;exact rh hu
   simp only[this,false_and,if_false]
   split<;>omega
  ·have h0:=h u v hu hv
   have h1:=hr.1
   unfold jF bump
   by_cases e:u=a/\v=b
   ·obtain⟨rfl,rfl⟩:=e
    rw[if_pos ⟨rfl,rfl⟩];split<;>omega
   ·rw[if_neg e];split<;>omega
structure lY (n:Nat) (c f:Nat->Nat->Int) (x y:Nat) (val:Int):Prop where
 le:∀u v,u<n->v<n->f u v<=c u v
 cut:∀S:Nat->Bool,S x=true->S y=false->k6 n S f=val
theorem lY.zero {n:Nat} {c:Nat->Nat->Int} {x y:Nat} (h:∀u v,u<n->v<n->0<=c u v):lY n c (fun _ _=>0) x y 0:=
 ⟨h,fun S _ _=>jd fun u hu=>jd fun v hv=>by split<;>rfl⟩
theorem lY.aug {n:Nat} {c f:Nat->Nat->Int} {x y:Nat} {val:Int} (h:lY n c f x y val) {r:List Nat} (hl:(x::r).getLast (by simp)=y) (hn:(x::r).Nodup) (hr:o9 f c (x::r)) (hb:∀v∈x::r,v<n):lY n c (kY f (x::r)) x y (val+1):=
 ⟨BT _ _ hn hr h.le,fun S hx hy=>by rw[xV r x f hb,hl,h.cut S hx hy,hx,hy];simp[bi]⟩
theorem lY.bound {n:Nat} {c f:Nat->Nat->Int} {x y:Nat} {val:Int} (h:lY n c f x y val) {S:Nat->Bool} (hx:S x=true) (hy:S y=false):val<=k6 n S c:=by
 rw[<-h.cut S hx hy];exact H4 h.le
theorem lY.full {n:Nat} {c f:Nat->Nat->Int} {x y:Nat} {val:Int} (h:lY n c f x y val) {S:Nat->Bool} (hx:S x=true) (hy:S y=false) (hS:∀u v,u<n->v<n->S u=true->S v=false->¬f u v<c u v):val=k6 n S c:=by
 rw[<-h.cut S hx hy]
 exact H3 fun u v hu hv h1 h2=>by have:=hS u v hu hv h1 h2;have:=h.le u v hu hv;omega
structure PB where
 a:Nat
 b:Nat
 s:Int
 deriving Inhabited
def bD (bs:List PB) (i:Nat):PB:=bs.getD i default
def g8 (S:Nat->Bool) (bs:List PB):Int:=(bs.map fun b=>if S b.a=S b.b then 0 else b.s).sum
def mh (c:Nat->Nat->Int) (b:PB):Nat->Nat->Int:=bump (bump c b.a b.b b.s) b.b b.a b.s
def j6 (bs:List PB):Nat->Nat->Int:=bs.foldl mh fun _ _=>0
theorem Bn (bs:List PB) (b:PB):j6 (bs++[b])=mh (j6 bs) b:=by simp[j6]
theorem yc {n:Nat} {S:Nat->Bool}:∀(bs:List PB) (c:Nat->Nat->Int),(∀b∈bs,b.a<n/\b.b<n)->k6 n S (bs.foldl mh c)=k6 n S c+g8 S bs
 |[],c,_=>by simp[g8]
 |b::bs,c,h=>by
  have hb:=h b (by simp)
  rw[List.foldl_cons,yc bs _ fun x hx=>h x (List.mem_cons_of_mem _ hx)]
  unfold mh g8
  rw[nG hb.2 hb.1,nG hb.1 hb.2,List.map_cons,List.sum_cons]
  cases S b.a<;>cases S b.b<;>simp<;>omega
theorem yd {n:Nat} {S:Nat->Bool} {bs:List PB} (h:∀b∈bs,b.a<n/\b.b<n):k6 n S (j6 bs)=g8 S bs:=by
 rw[j6,yc bs _ h]
 have:k6 n S (fun _ _=>0)=0:=jd fun u hu=>jd fun v hv=>by split<;>rfl
 omega
theorem w8:∀(bs:List PB) (c:Nat->Nat->Int),(∀b∈bs,0<=b.s)->(∀u v,0<=c u v)->∀u v,0<=bs.foldl mh c u v
 |[],c,_,h=>h
 |b::bs,c,hb,h=>by
  rw[List.foldl_cons]
  refine w8 bs _ (fun x hx=>hb x (List.mem_cons_of_mem _ hx)) fun u v=>?_
  have:=hb b (by simp);have:=h u v
  unfold mh bump
  split<;>split<;>omega
theorem room_le:∀(bs:List PB) (c:Nat->Nat->Int) (m:Int),(∀b∈bs,b.s<=4)->(∀u v,c u v<=m)->0<=m->∀u v,bs.foldl mh c u v<=m+8*bs.length
 |[],c,m,_,h,_=>fun u v=>by have:=h u v;simp;omega
 |b::bs,c,m,hb,h,h0=>fun u v=>by
  rw[List.foldl_cons]
  have:=room_le bs (mh c b) (m+8) (fun x hx=>hb x (List.mem_cons_of_mem _ hx)) (fun u v=>by
   have:=hb b (by simp);have:=h u v
   unfold mh bump
   split<;>split<;>omega) ab u v
  simp only[List.length_cons];omega
def jN (n:Nat) (bs:List PB) (t:Int):Prop:=∀S:Nat->Bool,S 0=true->(∃y,y<n/\S y=false)->t<=g8 S bs
def C0 (S:Nat->Bool) (bs:List PB) (f:Nat->Int):Int:=kS (fun i=>f i*(bi (S (bD bs i).a)-bi (S (bD bs i).b))) bs.length
structure jk (bs:List PB) (f:Nat->Int) (x y:Nat) (val:Int):Prop where
 le:∀i,i<bs.length->f i<=(bD bs i).s/\-(bD bs i).s<=f i
 cut:∀S:Nat->Bool,S x=true->S y=false->C0 S bs f=val
theorem sF (S:Nat->Bool):∀bs:List PB,g8 S bs=kS (fun i=>if S (bD bs i).a=S (bD bs i).b then 0 else(bD bs i).s) bs.length:=by
 intro bs
 have key:∀n,n<=bs.length->g8 S (bs.take n)=kS (fun i=>if S (bD bs i).a=S (bD bs i).b then 0 else(bD bs i).s) n:=by
  intro n
  induction n with
  |zero=>intro _;rfl
  |succ n ih=>
   intro h
   have e:bD bs n=bs[n]:=by simp[bD,List.getD_eq_getElem?_getD,List.getElem?_eq_getElem (show n<bs.length by omega)]
   rw[List.take_succ_eq_append_getElem ab,kS,<-ih ab,e]
   unfold g8
   rw[List.map_append,List.sum_append]
   simp only[List.map_cons,List.map_nil,List.sum_cons,List.sum_nil,Int.add_zero]
 have:=key bs.length (Nat.le_refl _)
 rwa [List.take_length]at this
theorem jk.bound {bs:List PB} {f:Nat->Int} {x y:Nat} {val:Int} (h:jk bs f x y val) {S:Nat->Bool} (hx:S x=true) (hy:S y=false):val<=g8 S bs:=by
 rw[<-h.cut S hx hy,sF]
 refine pU fun i hi=>?_
 have:=h.le i hi
 cases S (bD bs i).a<;>cases S (bD bs i).b<;>simp[bi]<;>omega
def eW (bs:List PB) (f:Nat->Int) (i u:Nat):Int:=if (bD bs i).a=u then(bD bs i).s-f i else(bD bs i).s+f i
def bm (bs:List PB) (i u:Nat):Nat:=if (bD bs i).a=u then(bD bs i).b else(bD bs i).a
theorem jk.full {bs:List PB} {f:Nat->Int} {x y:Nat} {val:Int} (h:jk bs f x y val) {S:Nat->Bool} (hx:S x=true) (hy:S y=false)
  (hS:∀i,i<bs.length->((bD bs i).a≠(bD bs i).b->(S (bD bs i).a=true->S (bD bs i).b=false->¬0<eW bs f i (bD bs i).a)/\(S (bD bs i).b=true->S (bD bs i).a=false->¬0<eW bs f i (bD bs i).b))):val=g8 S bs:=by
 rw[<-h.cut S hx hy,sF]
 refine gy fun i hi=>?_
 have h1:=h.le i hi
 by_cases rh:(bD bs i).a=(bD bs i).b
 ·rw[rh];simp
 ·have h2:=hS i hi rh
  unfold eW at h2
  rw[if_pos rfl,if_neg rh]at h2
  cases ha:S (bD bs i).a<;>cases hb:S (bD bs i).b<;>rw[ha,hb]at h2<;>simp[bi]at h2 ⊢ <;>omega
def rC (bs:List PB) (f:Nat->Int) (i u:Nat):Nat->Int:=fun j=>f j+if j=i then(if (bD bs i).a=u then 1 else -1)else 0
theorem C1 {S:Nat->Bool} {bs:List PB} {f:Nat->Int} {i u:Nat} (hi:i<bs.length) (hu:(bD bs i).a=u∨(bD bs i).b=u):C0 S bs (rC bs f i u)=C0 S bs f+bi (S u)-bi (S (bm bs i u)):=by
 unfold C0 rC
 have e:∀j,j<bs.length->(f j+if j=i then(if (bD bs i).a=u then 1 else -1)else 0)*(bi (S (bD bs j).a)-bi (S (bD bs j).b))=(fun j=>f j*(bi (S (bD bs j).a)-bi (S (bD bs j).b))) j+if j=i then(if (bD bs i).a=u then 1 else -1)*(bi (S (bD bs i).a)-bi (S (bD bs i).b))else 0:=by
  intro j hj
  by_cases h:j=i
  ·subst h;simp only[if_true];rw[Int.add_mul]
  ·simp only[h,if_false];simp
 rw[gy e,nQ,if_pos hi]
 unfold bm
 by_cases ha:(bD bs i).a=u
 ·rw[if_pos ha,if_pos ha,ha];omega
 ·rw[if_neg ha,if_neg ha]
  rcases hu with hu|hu
  ·exact absurd hu ha
  ·rw[hu];omega
theorem nk:∀(n:Nat) (l:List Nat),l.Nodup->(∀x∈l,x<n)->l.length<=n
 |0,l,_,h=>by
  cases l with
  |nil=>simp
  |cons x l=>exact absurd (h x (by simp)) ab
 |n+1,l,hn,h=>by
  have h1:=nk n (l.erase n) (hn.erase _) fun x hx=>by
   have h2:=(hn.mem_erase_iff).1 hx
   have h3:=h x h2.2
   have h4:=h2.1
   omega
  rw[List.length_erase]at h1
  split at h1<;>omega
def dW (L:Nat->Nat) (b:PB):Nat->Nat:=fun k=>if L k=max (L b.a) (L b.b)then min (L b.a) (L b.b)else L k
def dI (bs:List PB):Nat->Nat:=bs.foldl dW id
theorem s7 (bs:List PB) (b:PB):dI (bs++[b])=dW (dI bs) b:=by simp[dI]
structure iQ (L:Nat->Nat):Prop where
 le:∀k,L k<=k
 idem:∀k,L (L k)=L k
theorem iQ.step {L:Nat->Nat} (h:iQ L) (b:PB):iQ (dW L b):=by
 have ha:=h.idem b.a
 have hb:=h.idem b.b
 refine⟨fun k=>?_,fun k=>?_⟩
 ·have:=h.le k
  unfold dW
  split<;>omega
 ·have hk:=h.idem k
  have hm:L (min (L b.a) (L b.b))=min (L b.a) (L b.b):=by
   rcases Nat.le_total (L b.a) (L b.b)with h1|h1
   ·rw[Nat.min_eq_left h1,ha]
   ·rw[Nat.min_eq_right h1,hb]
  unfold dW
  by_cases h1:L k=max (L b.a) (L b.b)
  ·rw[if_pos h1,hm];split<;>rfl
  ·rw[if_neg h1,hk,if_neg h1]
theorem s8:∀(bs:List PB) (L:Nat->Nat),iQ L->iQ (bs.foldl dW L)
 |[],_,h=>h
 |b::bs,L,h=>s8 bs _ (h.step b)
theorem rq (bs:List PB):iQ (dI bs):=s8 bs id ⟨fun _=>Nat.le_refl _,fun _=>rfl⟩
def leads (n:Nat) (L:Nat->Nat):List Nat:=(List.range n).filter fun i=>L i==i
def members (n:Nat) (L:Nat->Nat) (i:Nat):List Nat:=(List.range n).filter fun k=>L k==i
def eP (n:Nat) (L:Nat->Nat):List (List Nat):=(leads n L).map (members n L)
def bl (L:Nat->Nat) (k:Nat):Nat:=(leads (L k) L).length
theorem fQ (n:Nat) (L:Nat->Nat):leads (n+1) L=leads n L++if L n=n then[n]else[]:=by
 unfold leads
 rw[List.range_succ,List.filter_append]
 congr 1
 by_cases h:L n=n<;>simp[h]
theorem iC (n:Nat) (L:Nat->Nat) (i:Nat):members (n+1) L i=members n L i++if L n=i then[n]else[]:=by
 unfold members
 rw[List.range_succ,List.filter_append]
 congr 1
 by_cases h:L n=i<;>simp[h]
theorem lK {L:Nat->Nat} (h:iQ L) {n i:Nat} (hn:n<=i):members n L i=[]:=by
 unfold members
 rw[List.filter_eq_nil_iff]
 intro k hk
 have:=h.le k
 have:=List.mem_range.1 hk
 simp;omega
theorem rr (n:Nat) (L:Nat->Nat):(leads n L).Nodup:=List.nodup_range.filter _
theorem vz {n:Nat} {L:Nat->Nat} {i:Nat}:i∈leads n L↔i<n/\L i=i:=by simp[leads]
theorem kG {n:Nat} {L:Nat->Nat} {i k:Nat}:k∈members n L i↔k<n/\L k=i:=by simp[members]
theorem DQ {L:Nat->Nat} {m n:Nat} (h:m<=n):∃r,leads n L=leads m L++r:=by
 obtain⟨d,rfl⟩:=Nat.le.dest h
 clear h
 induction d with
 |zero=>exact⟨[],by simp⟩
 |succ d ih=>
  obtain⟨r,hr⟩:=ih
  exact⟨r++if L (m+d)=m+d then[m+d]else[],by rw[<-Nat.add_assoc,fQ,hr,List.append_assoc]⟩
theorem nI {L:Nat->Nat} (h:iQ L) {n k:Nat} (hk:k<n):(leads n L)[bl L k]? =some (L k):=by
 have h1:=h.le k
 obtain⟨r,hr⟩:=DQ (L:=L) (show L k+1<=n by omega)
 rw[hr,fQ,if_pos (h.idem k),List.append_assoc]
 unfold bl
 rw[List.getElem?_append_right (Nat.le_refl _),Nat.sub_self];rfl
theorem js {L:Nat->Nat} (h:iQ L) {n k:Nat} (hk:k<n):bl L k<(leads n L).length:=(List.getElem?_eq_some_iff.1 (nI h hk)).1
theorem qz {L:Nat->Nat} (h:iQ L) {n k i:Nat} (hk:k<n) (hi:i<(leads n L).length):k∈members n L (leads n L)[i]↔bl L k=i:=by
 rw[kG]
 have h1:=nI h hk
 rw[List.getElem?_eq_getElem (js h hk)]at h1
 injection h1 with h1
 constructor
 ·rintro⟨_,h2⟩
  rw[<-h1]at h2
  exact(List.getElem_inj (rr n L)).1 h2
 ·rintro rfl
  exact⟨hk,h1.symm⟩
def dc (L:Nat->Nat) (bs:List PB):List PB:=bs.filterMap fun b=>if bl L b.a=bl L b.b then none else some ⟨bl L b.a,bl L b.b,b.s⟩
def eF (L:Nat->Nat) (bs:List PB):List PB:=bs.filterMap fun b=>if bl L b.a=bl L b.b then none else some ⟨min (bl L b.a) (bl L b.b),max (bl L b.a) (bl L b.b),b.s⟩
theorem w9 (L:Nat->Nat) (bs:List PB) (b:PB):dc L (bs++[b])=dc L bs++if bl L b.a=bl L b.b then[]else[⟨bl L b.a,bl L b.b,b.s⟩]:=by
 unfold dc
 rw[List.filterMap_append]
 congr 1
 by_cases h:bl L b.a=bl L b.b<;>simp[h]
theorem xb (L:Nat->Nat) (bs:List PB) (b:PB):eF L (bs++[b])=eF L bs++if bl L b.a=bl L b.b then[]else[⟨min (bl L b.a) (bl L b.b),max (bl L b.a) (bl L b.b),b.s⟩]:=by
 unfold eF
 rw[List.filterMap_append]
 congr 1
 by_cases h:bl L b.a=bl L b.b<;>simp[h]
theorem qj (S:Nat->Bool) (b:PB) (bs:List PB):g8 S (b::bs)=(if S b.a=S b.b then 0 else b.s)+g8 S bs:=by simp[g8]
theorem uP (S:Nat->Bool) (L:Nat->Nat):∀bs:List PB,g8 S (eF L bs)=g8 S (dc L bs)
 |[]=>rfl
 |b::bs=>by
  have ih:=uP S L bs
  unfold eF dc at ih ⊢
  rw[List.filterMap_cons,List.filterMap_cons]
  by_cases h:bl L b.a=bl L b.b
  ·simp only[h,if_true];exact ih
  ·simp only[h,if_false]
   rw[qj,qj,ih]
   congr 1
   simp only
   rcases Nat.le_total (bl L b.a) (bl L b.b)with h1|h1
   ·rw[Nat.min_eq_left h1,Nat.max_eq_right h1]
   ·rw[Nat.min_eq_right h1,Nat.max_eq_left h1]
    cases S (bl L b.a)<;>cases S (bl L b.b)<;>rfl
theorem Bu {L:Nat->Nat} (h:iQ L) {n:Nat} {bs:List PB} (hb:∀b∈bs,b.a<n/\b.b<n):∀b∈dc L bs,b.a<(leads n L).length/\b.b<(leads n L).length/\b.a≠b.b/\∃c∈bs,b.s=c.s:=by
 intro b hm
 unfold dc at hm
 obtain⟨c,hc,he⟩:=List.mem_filterMap.1 hm
 split at he
 ·cases he
 ·rename_i gF
  simp only[Option.some.injEq]at he
  subst he
  exact⟨js h (hb c hc).1,js h (hb c hc).2,gF,c,hc,rfl⟩
theorem Bv {L:Nat->Nat} (h:iQ L) {n:Nat} {bs:List PB} (hb:∀b∈bs,b.a<n/\b.b<n):∀b∈eF L bs,b.a<(leads n L).length/\b.b<(leads n L).length/\b.a≠b.b/\∃c∈bs,b.s=c.s:=by
 intro b hm
 unfold eF at hm
 obtain⟨c,hc,he⟩:=List.mem_filterMap.1 hm
 split at he
 ·cases he
 ·rename_i gF
  simp only[Option.some.injEq]at he
  subst he
  have h1:=js h (hb c hc).1
  have h2:=js h (hb c hc).2
  refine⟨by simp only;omega,by simp only;omega,by simp only;omega,c,hc,rfl⟩
theorem lQ (L:Nat->Nat) (bs:List PB):(dc L bs).length<=bs.length/\(eF L bs).length<=bs.length:=⟨List.length_filterMap_le ..,List.length_filterMap_le ..⟩
theorem iX (n:Nat) (L:Nat->Nat):(leads n L).length<=n:=by
 have:=List.length_filter_le (fun i=>L i==i) (List.range n)
 simpa[leads]using this
def aD (t:Int) (bs:List PB):List PB:=bs.filter fun b=>decide (t<=b.s)
def nE (n:Nat) (bs:List PB) (t:Int):Prop:=
 (leads n (dI (aD t bs))).length<=64/\jN (leads n (dI (aD t bs))).length (dc (dI (aD t bs)) bs) t
theorem AI {n:Nat} {L:Nat->Nat} {bs:List PB} {t:Int}:jN n (eF L bs) t↔jN n (dc L bs) t:=by
 unfold jN
 constructor<;>intro h S h0 hy<;>have:=h S h0 hy<;>rw[uP]at *<;>exact this
end Go.Proofs.YtihgaadadaekmaaGreatDoor.V

namespace Go.Proofs.YtihgaadadaekmaaGreatDoor.V
open Go.RowKit
attribute [local irreducible] dP wpOps gN Call
attribute [local go_sem] aI fI eE fW fV cv upd cq K.av cL AV.cells AV.cell rowOf rowsOf part ld rowAt bK bY dH eh ij bL da eA fZ eX dr eo cY cX dR dS bR bf cQ bQ cT cR ej ep ek cP bU cZ ei bP aM cV cz ig br cI bS aZ dD bp dJ AV.undef bB bH dX ef dO ea cF ez eC cu eu er cU cW List.getD_cons_zero List.getD_cons_succ List.getD_nil List.all_cons List.all_nil Bool.and_true Bool.true_and Bool.and_self Bool.not_true Bool.not_false Option.map_some Option.map_none Option.bind_some Option.bind_none List.length_cons List.length_nil List.take_succ_cons List.take_zero List.take_nil List.drop_succ_cons List.drop_zero List.drop_nil List.head?_cons List.map_cons List.map_nil List.getElem?_cons_zero List.getElem?_cons_succ List.cons_append List.nil_append List.append_nil List.length_map List.set_cons_zero List.set_cons_succ Nat.reduceMul eq_self Int.toNat_natCast Int.natCast_nonneg and_self true_and and_true decide_true decide_false Bool.false_eq_true Nat.zero_add Nat.add_zero List.contains_cons List.contains_nil Bool.or_false Bool.false_or beq_self_eq_true Nat.reduceBEq ne_eq not_true_eq_false not_false_eq_true Id.mk.injEq false_and and_false Nat.reduceLT Int.reduceLE Int.reduceLT Int.reduceToNat Int.reduceNeg Int.reduceAdd Nat.le_refl List.length_append beq_true beq_false Bool.not_eq_eq_eq_not or_false false_or dz ad aj aH bx cl aQ bj aW bh cN bz
def au (b:PB):List AV:=[.int .i64 b.a,.int .i64 b.b,.int .i64 b.s]
theorem Kj:∀b:PB,(au b).length=3/\(au b).all AV.cell=true:=fun _=>⟨rfl,rfl⟩
theorem wq (g:Rows) (n:Nat) (b:PB):bW g (n+1) (au b)=some (au b):=by simp[au,ad,aj,aH]
theorem r4 (g:Rows) (n:Nat) (b:PB):dv g (n+1) (au b)=some (au b):=by simp[au,bd,bE,dV]
theorem Fx:MV au (fun c=>.agg (au c)) 3 true:=⟨fun _=>rfl,fun _=>rfl,fun x g=>by simp only[au,ad,aj,bj,aH,Option.map_some]⟩
def lz (s:aq) (l:List ak) (i:Nat) (d:Int):List PB:=
 if 0<=fF l (ew (bo l i).cC d)/\0<iu s (bo l i).bw d (bo l (fF l (ew (bo l i).cC d)).toNat).bw then
  [⟨i,(fF l (ew (bo l i).cC d)).toNat,iu s (bo l i).bw d (bo l (fF l (ew (bo l i).cC d)).toNat).bw⟩]else[]
def fj (s:aq) (l:List ak) (i m:Nat):List PB:=(List.range m).flatMap fun j:Nat=>lz s l i (1-(j:Int))
def fM (s:aq) (l:List ak) (n:Nat):List PB:=(List.range n).flatMap fun i=>fj s l i 2
def cj (s:aq) (l:List ak):List PB:=fM s l l.length
theorem oe (s:aq) (l:List ak) (i m:Nat):fj s l i (m+1)=fj s l i m++lz s l i (1-(m:Int)):=by simp[fj,List.range_succ]
theorem pd (s:aq) (l:List ak) (n:Nat):fM s l (n+1)=fM s l n++fj s l n 2:=by simp[fM,List.range_succ]
theorem zW (s:aq) (l:List ak) (i:Nat) (d:Int):(lz s l i d).length<=1:=by unfold lz;split<;>simp
theorem pc (s:aq) (l:List ak) (i m:Nat):(fj s l i m).length<=m:=by
 induction m with
 |zero=>simp[fj]
 |succ m ih=>rw[oe,List.length_append];have:=zW s l i (1-(m:Int));omega
theorem qS (s:aq) (l:List ak) (n:Nat):(fM s l n).length<=2*n:=by
 induction n with
 |zero=>simp[fM]
 |succ n ih=>rw[pd,List.length_append];have:=pc s l n 2;omega
def sB:Id->Prop:=fun o=>o.site=127001000∨o.site=127012006
theorem AX (s:aq) (l:List ak) (hS:iU s) (hA:rI s l):ai Tryz.prog 127 [.cK (aa s),.cK [.sl (l.map ah)]] (.sl ((cj s l).map au)):=by
 refine ai.body dN rfl fun hl n0=>?_
 clear hl
 have hF:=hA.1
 have NJ:=hF.EH
 (try((repeat(revert hN;revert N;apply Pn.out));refine wk @Nat.zero_add ?_;(repeat(refine Pn.mk ?_;intro N hN))))
 refine aL (fun n env st=>∃k:Nat,n=(l.length)-k/\k<=(l.length)/\env 6=.int .i64 (k:Int)/\(lr au 3 (env 5) st.get sB (fM s l k))) (l.length) ⟨0,ab,ab,sl @Nat.zero_add,⟨⟨127001000,n0+1⟩,.inl rfl,by simp only[go_sem, ↓reduceIte,Nat.reduceEqDiff,Nat.reduceAdd,Nat.reduceSub,Nat.reduceLeDiff,reduceCtorEq];rfl,by simp only[go_sem, ↓reduceIte,Nat.reduceEqDiff,Nat.reduceAdd,Nat.reduceSub,Nat.reduceLeDiff,reduceCtorEq];rfl⟩⟩ ?_
 rintro n_a env_a st_a ⟨k,rfl,ale,a6,lx⟩ dC
 have a0:=dC 0 (by kernel_rfl);have a1:=dC 1 (by kernel_rfl)
 simp only[go_sem, ↓reduceIte,Nat.reduceEqDiff,Nat.reduceAdd,Nat.reduceSub,Nat.reduceLeDiff,reduceCtorEq]at a0 a1
 clear dC
 by_cases hk:(k:Int)<(l.length:Int)
 ·have bZ:∀{e:Env} {gg:Rows},(e 6=.int .i64 (IntKind.i64.wrap ((k:Int)+1)))->(lr au 3 (e 5) gg sB (fM s l (k+1)))->∃m0,m0<(l.length)-k/\∃k:Nat,m0=(l.length)-k/\k<=(l.length)/\e 6=.int .i64 (k:Int)/\(lr au 3 (e 5) gg sB (fM s l k)):=fun x1 x2=>⟨_,ab,k+1,rfl,ab,(by rw[x1,ax ab]),x2⟩
  have eY:k<l.length:=ab
  have eB:=gm eY
  have hul:=qS s l k
  (try((repeat(revert hN;revert N;apply Pn.out));refine wk (tw @a6 (tw @a0 (tw @a1 @hk))) ?_;(repeat(refine Pn.mk ?_;intro N hN))))
  refine aL (fun n env st=>∃m:Nat,n=(2)-m/\m<=(2)/\env 7=(.int .i64 (1-(m:Int)))/\(lr au 3 (env 5) st.get sB (fM s l k++fj s l k m))) (2) ⟨0,ab,ab,sl (tw @a6 (tw @a0 @a1)),by(simp only[go_sem, ↓reduceIte,Nat.reduceEqDiff,Nat.reduceAdd,Nat.reduceSub,Nat.reduceLeDiff,reduceCtorEq];exact lx.cast (by simp[fj]))⟩ ?_
  rintro n_b env_b st_b ⟨m,rfl,ble,b7,bI0⟩ bfr
  have b0:=bfr 0 (by kernel_rfl);have b1:=bfr 1 (by kernel_rfl);have b6:=bfr 6 (by kernel_rfl)
  simp only[go_sem, ↓reduceIte,Nat.reduceEqDiff,Nat.reduceAdd,Nat.reduceSub,Nat.reduceLeDiff,reduceCtorEq,a6,a0,a1]at b0 b1 b6
  clear bfr
  have O6:=pc s l k m
  have kE:=oe s l k m
  by_cases hm:(m:Int)<2
  ·have iF:∀{e:Env} {gg:Rows},(e 7=(.int .i64 (1-((m+1):Int))))->(lr au 3 (e 5) gg sB (fM s l k++fj s l k (m+1)))->∃m0,m0<(2)-m/\∃m:Nat,m0=(2)-m/\m<=(2)/\e 7=(.int .i64 (1-(m:Int)))/\(lr au 3 (e 5) gg sB (fM s l k++fj s l k m)):=fun x1 x2=>⟨_,ab,m+1,rfl,ab,x1,x2⟩
   have kK:(0:Int)<=1-(m:Int):=ab
   have hd:gD (1-(m:Int)) 0 3=true:=nh ab
   have hw:IntKind.i64.wrap (1-(m:Int)-1)=1-((m:Int)+1):=by rw[aY ab];omega
   have Iu:=uy l hF k (1-(m:Int)) eY hd
   unfold lz at kE
   have hT:=hA.2 _ (pJ eY)
   generalize Dp:fF l (ew (bo l k).cC (1-(m:Int)))=ix at *
   by_cases hi:ix<0
   ·rw[if_neg ab,List.append_nil]at kE
    (repeat(first|((repeat(revert hN;revert N;apply Pn.out));refine wk (tw @b7 (tw @b0 (tw @b1 (tw @b6 (tw @kK (tw @hw @hi)))))) ?_;(repeat(refine Pn.mk ?_;intro N hN)))|((try apply Or.inl);refine⟨_,ai.x (Iu) (sd (tw @b7 (tw @b0 (tw @b1 (tw @b6 (tw @kK (tw @hw @hi))))))),?_⟩;refine hN _ _ ?_;clear hN N)))
    exact iF (sd (tw @b7 (tw @b0 (tw @b1 (tw @b6 @hw))))) (by(simp only[go_sem, ↓reduceIte,Nat.reduceEqDiff,Nat.reduceAdd,Nat.reduceSub,Nat.reduceLeDiff,reduceCtorEq];exact bI0.cast (by rw[kE])))
   ·have EL:0<=ix:=ab
    have Lc:=sb (l:=l) (p:=ew (bo l k).cC (1-(m:Int))) ab
    rw[Dp]at Lc
    have nH:=gm Lc.1
    have yG:=DJ s hS (bo l k).bw (1-(m:Int)) (bo l ix.toNat).bw hT (hA.2 _ (pJ Lc.1)) hd
    generalize O3:iu s (bo l k).bw (1-(m:Int)) (bo l ix.toNat).bw=bv at *
    by_cases hb:0<bv
    ·rw[if_pos ⟨EL,hb⟩]at kE
     (repeat(first|((repeat(revert hN;revert N;apply Pn.out));refine wa (tw @b7 (tw @b0 (tw @b1 (tw @b6 (tw @kK (tw @hw (tw @hi (tw @EL (tw @eB (tw @nH (tw @hb @ah.eq_1))))))))))) ?_;(repeat(refine Pn.mk ?_;intro N hN)))|((try apply Or.inl);refine⟨_,ai.x (Iu) (sd (tw @b7 (tw @b0 (tw @b1 (tw @b6 (tw @kK (tw @hw (tw @hi (tw @EL (tw @eB (tw @nH (tw @hb @ah.eq_1)))))))))))),?_⟩;refine hN _ _ ?_;clear hN N)|((try apply Or.inl);refine⟨_,ai.x (yG) (sd (tw @b7 (tw @b0 (tw @b1 (tw @b6 (tw @kK (tw @hw (tw @hi (tw @EL (tw @eB (tw @nH (tw @hb @ah.eq_1)))))))))))),?_⟩;refine hN _ _ ?_;clear hN N)))
     refine L3 (enc:=au) (S:=sB) (L:=fM s l k++fj s l k m) (xv:=env_b 5) [⟨k,ix.toNat,bv⟩] rfl rfl (sd @Nat.zero_add) (bI0.frame fun o ho=>by rcases ho with ho|ho<;>simp only[go_sem, ↓reduceIte,Nat.reduceEqDiff,Nat.reduceAdd,Nat.reduceSub,Nat.reduceLeDiff,reduceCtorEq,xc ho]) (sd (tw @au.eq_1 (Int.toNat_of_nonneg EL))) Kj (.inr rfl) (by simp only[dJ,List.length_append,List.length_cons,List.length_nil];omega) fun v g' hO mc=>?_
     rw[List.append_assoc,<-kE]at hO
     clear mc
     (try((repeat(revert hN;revert N;apply Pn.out));refine wk (tw @b7 (tw @b0 (tw @b1 (tw @b6 @hw)))) ?_;(repeat(refine Pn.mk ?_;intro N hN))))
     exact iF (sd (tw @b7 (tw @b0 (tw @b1 (tw @b6 @hw))))) (by(simp only[go_sem, ↓reduceIte,Nat.reduceEqDiff,Nat.reduceAdd,Nat.reduceSub,Nat.reduceLeDiff,reduceCtorEq];exact hO))
    ·rw[if_neg fun h=>hb h.2,List.append_nil]at kE
     (repeat(first|((repeat(revert hN;revert N;apply Pn.out));refine wk (tw @b7 (tw @b0 (tw @b1 (tw @b6 (tw @kK (tw @hw (tw @hi (tw @EL (tw @eB (tw @nH (tw @hb @ah.eq_1))))))))))) ?_;(repeat(refine Pn.mk ?_;intro N hN)))|((try apply Or.inl);refine⟨_,ai.x (Iu) (sd (tw @b7 (tw @b0 (tw @b1 (tw @b6 (tw @kK (tw @hw (tw @hi (tw @EL (tw @eB (tw @nH (tw @hb @ah.eq_1)))))))))))),?_⟩;refine hN _ _ ?_;clear hN N)|((try apply Or.inl);refine⟨_,ai.x (yG) (sd (tw @b7 (tw @b0 (tw @b1 (tw @b6 (tw @kK (tw @hw (tw @hi (tw @EL (tw @eB (tw @nH (tw @hb @ah.eq_1)))))))))))),?_⟩;refine hN _ _ ?_;clear hN N)))
     exact iF (sd (tw @b7 (tw @b0 (tw @b1 (tw @b6 @hw))))) (by(simp only[go_sem, ↓reduceIte,Nat.reduceEqDiff,Nat.reduceAdd,Nat.reduceSub,Nat.reduceLeDiff,reduceCtorEq];exact bI0.cast (by rw[kE])))
  ·have JW:m=2:=ab
   subst JW
   have dF:¬(0:Int)<=1-((2:Nat):Int):=ab
   (try((repeat(revert hN;revert N;apply Pn.out));refine wk (tw @b7 (tw @b0 (tw @b1 (tw @b6 @dF)))) ?_;(repeat(refine Pn.mk ?_;intro N hN))))
   exact bZ (sd (tw @a6 (tw @a0 (tw @a1 (tw @b7 (tw @b0 (tw @b1 @b6))))))) (by(simp only[go_sem, ↓reduceIte,Nat.reduceEqDiff,Nat.reduceAdd,Nat.reduceSub,Nat.reduceLeDiff,reduceCtorEq];exact bI0.cast (by rw[pd])))
 ·have ki:k=l.length:=ab
  (try((repeat(revert hN;revert N;apply Pn.out));refine wk (tw @a6 (tw @a0 (tw @a1 @hk))) ?_;(repeat(refine Pn.mk ?_;intro N hN))))
  exact tv (.inl rfl) (by simp only[go_sem, ↓reduceIte,Nat.reduceEqDiff,Nat.reduceAdd,Nat.reduceSub,Nat.reduceLeDiff,reduceCtorEq];rfl) (by rw[ki]at lx;exact lx.fa fun b=>r4 _ _ b)
theorem yW (a b:Nat):ai Tryz.prog 146 [.int .i64 a,.int .i64 b] (.int .i64 (min a b:Nat)):=by
 refine ai.body dN rfl fun hl n0=>?_
 clear hl
 by_cases h:(a:Int)<(b:Int)
 ·(try((repeat(revert hN;revert N;apply Pn.out));refine wk @h ?_;(repeat(refine Pn.mk ?_;intro N hN))))
  exact bq (b:=(a:Int)) (.inl rfl) (sd @Nat.zero_add) ab
 ·(try((repeat(revert hN;revert N;apply Pn.out));refine wk @h ?_;(repeat(refine Pn.mk ?_;intro N hN))))
  exact bq (b:=(b:Int)) (.inl rfl) (sd @Nat.zero_add) ab
theorem yV (a b:Nat):ai Tryz.prog 147 [.int .i64 a,.int .i64 b] (.int .i64 (max a b:Nat)):=by
 refine ai.body dN rfl fun hl n0=>?_
 clear hl
 by_cases h:(b:Int)<(a:Int)
 ·(try((repeat(revert hN;revert N;apply Pn.out));refine wk @h ?_;(repeat(refine Pn.mk ?_;intro N hN))))
  exact bq (b:=(a:Int)) (.inl rfl) (sd @Nat.zero_add) ab
 ·(try((repeat(revert hN;revert N;apply Pn.out));refine wk @h ?_;(repeat(refine Pn.mk ?_;intro N hN))))
  exact bq (b:=(b:Int)) (.inl rfl) (sd @Nat.zero_add) ab
def dm (f:Nat->Nat) (n:Nat):List (List AV):=(List.range n).map fun i=>eN (f i)
theorem fv (f:Nat->Nat) (n:Nat):(dm f n).length=n:=by simp[dm]
theorem eL {f:Nat->Nat} {n i:Nat} (h:i<n):(dm f n)[i]? =some (eN (f i)):=by simp[dm,h]
theorem fY {f g:Nat->Nat} {n:Nat} (h:∀i,i<n->f i=g i):dm f n=dm g n:=List.map_congr_left fun i hi=>by rw[h i (List.mem_range.1 hi)]
theorem nR {f g:Nat->Nat} {n k v:Nat} (hk:k<n) (hv:g k=v) (h:∀i,i<n->i≠k->g i=f i):(dm f n).set k (eN v)=dm g n:=by
 refine List.ext_getElem? fun i=>?_
 rw[List.getElem?_set]
 by_cases hi:k=i
 ·subst hi
  rw[if_pos rfl,fv,if_pos hk,eL hk,hv]
 ·rw[if_neg hi]
  by_cases fy:i<n
  ·rw[eL fy,eL fy,h i fy (fun h=>hi h.symm)]
  ·rw[List.getElem?_eq_none (by rw[fv];omega),List.getElem?_eq_none (by rw[fv];omega)]
theorem yX (cnt:Nat) (hn:cnt<=1048576) (bs:List PB) (hb:∀b∈bs,b.a<cnt/\b.b<cnt) (oY:bs.length<=1048576):ai Tryz.prog 145 [.int .i64 cnt,.sl (bs.map au)] (.sl ((eP cnt (dI bs)).map xw)):=by
 refine ai.body dN rfl fun hl n0=>?_
 clear hl
 (try((repeat(revert hN;revert N;apply Pn.out));refine wk @Nat.zero_add ?_;(repeat(refine Pn.mk ?_;intro N hN))))
 refine aL (fun n env st=>∃k:Nat,n=(cnt)-k/\k<=(cnt)/\env 6=.int .i64 (k:Int)/\(∃o:Id,env 5=.own o 0 k/\st.get o=some ⟨true,1,dm id k⟩/\o.bV<st.next)) (cnt) ⟨0,ab,ab,sl @Nat.zero_add,⟨⟨145001000,n0+1⟩,sd @Nat.zero_add,by simp only[go_sem, ↓reduceIte,Nat.reduceEqDiff,Nat.reduceAdd,Nat.reduceSub,Nat.reduceLeDiff,reduceCtorEq];rfl,bt⟩⟩ ?_
 rintro n_a env_a st_a ⟨k,rfl,ale,a6,lx⟩ dC
 have a0:=dC 0 (by kernel_rfl);have a1:=dC 1 (by kernel_rfl)
 simp only[go_sem, ↓reduceIte,Nat.reduceEqDiff,Nat.reduceAdd,Nat.reduceSub,Nat.reduceLeDiff,reduceCtorEq]at a0 a1
 clear dC
 obtain⟨o,a5,ag,rS⟩:=lx
 have tl:=fv id k
 have jT:=eD rS
 by_cases hk:(k:Int)<(cnt:Int)
 ·have bZ:∀{e:Env} {gg:Rows} {nx:Nat},(e 6=.int .i64 (IntKind.i64.wrap ((k:Int)+1)))->(∃o:Id,e 5=.own o 0 (k+1)/\gg o=some ⟨true,1,dm id (k+1)⟩/\o.bV<nx)->∃m0,m0<(cnt)-k/\∃k:Nat,m0=(cnt)-k/\k<=(cnt)/\e 6=.int .i64 (k:Int)/\(∃o:Id,e 5=.own o 0 k/\gg o=some ⟨true,1,dm id k⟩/\o.bV<nx):=fun x1 x2=>⟨_,ab,k+1,rfl,ab,(by rw[x1,ax ab]),x2⟩
  have eY:k<cnt:=ab
  have e1:k+1<=16777216:=ab
  have qt:dm id k++[[.int .i64 (k:Int)]]=dm id (k+1):=by simp[dm,List.range_succ,eN]
  (try((repeat(revert hN;revert N;apply Pn.out));refine wk (tw @a6 (tw @a0 (tw @a1 (tw @a5 (tw @ag (tw @jT (tw @hk (tw @tl (tw @e1 @qt))))))))) ?_;(repeat(refine Pn.mk ?_;intro N hN))))
  exact bZ (sd (tw @a6 (tw @a0 @a1))) (⟨⟨145005003,st_a.next+1⟩,sd @Nat.zero_add,sd @qt,bt⟩)
 have ki:k=cnt:=ab
 subst ki
 have QG:st_a.get o=some ⟨true,1,dm (dI (bs.take 0)) k⟩:=ag
 clear ag
 (try((repeat(revert hN;revert N;apply Pn.out));refine wk (tw @a6 (tw @a0 (tw @a1 @hk))) ?_;(repeat(refine Pn.mk ?_;intro N hN))))
 refine aL (fun n env st=>∃j:Nat,n=(bs.length)-j/\j<=(bs.length)/\env 7=.int .i64 (j:Int)/\st.get o=some ⟨true,1,dm (dI (bs.take j)) k⟩/\(o.bV<st.next)) (bs.length) ⟨0,ab,ab,sl (tw @a6 (tw @a0 (tw @a1 (tw @a5 @QG)))),sl (tw @a6 (tw @a0 (tw @a1 (tw @a5 @QG)))),bt⟩ ?_
 rintro n_b env_b st_b ⟨j,rfl,ble,b7,bg0,bI0⟩ bfr
 have b0:=bfr 0 (by kernel_rfl);have b1:=bfr 1 (by kernel_rfl);have b5:=bfr 5 (by kernel_rfl)
 simp only[go_sem, ↓reduceIte,Nat.reduceEqDiff,Nat.reduceAdd,Nat.reduceSub,Nat.reduceLeDiff,reduceCtorEq,a6,a0,a1,a5,QG]at b0 b1 b5
 clear bfr
 by_cases hj:(j:Int)<(bs.length:Int)
 ·have iF:∀{e:Env} {gg:Rows} {nx:Nat},(e 7=.int .i64 (IntKind.i64.wrap ((j:Int)+1)))->(gg o=some ⟨true,1,dm (dI (bs.take (j+1))) k⟩)->(o.bV<nx)->∃m0,m0<(bs.length)-j/\∃j:Nat,m0=(bs.length)-j/\j<=(bs.length)/\e 7=.int .i64 (j:Int)/\gg o=some ⟨true,1,dm (dI (bs.take j)) k⟩/\(o.bV<nx):=fun x1 x2 x3=>⟨_,ab,j+1,rfl,ab,(by rw[x1,ax ab]),x2,x3⟩
  have gh:j<bs.length:=ab
  have EJ:(bs.map au)[j]? =some (au bs[j]):=by simp[gh]
  have JL:=hb _ (List.getElem_mem gh)
  have oJ:bs.take (j+1)=bs.take j++[bs[j]]:=List.take_succ_eq_append_getElem gh
  have kE:dI (bs.take (j+1))=dW (dI (bs.take j)) bs[j]:=by rw[oJ,s7]
  generalize dI (bs.take j)=L at *
  generalize bs[j]=b at *
  have hA:=eL (f:=L) JL.1
  have hB:=eL (f:=L) JL.2
  have OX:=yW (L b.a) (L b.b)
  have OY:=yV (L b.a) (L b.b)
  have tl:=fv L k
  have fK:(b.a:Int)<(k:Int):=ab
  have fc:(b.b:Int)<(k:Int):=ab
  (try((repeat(revert hN;revert N;apply Pn.out));refine wk (tw @b7 (tw @bg0 (tw @b0 (tw @b1 (tw @b5 (tw @hj (tw @EJ (tw @au.eq_1 (tw @hA (tw @hB (tw @fK (tw @fc (tw @tl @eN.eq_1))))))))))))) ?_;(repeat(refine Pn.mk ?_;intro N hN))))
  refine aL (fun n env st=>∃i:Nat,n=(k)-i/\i<=(k)/\env 10=.int .i64 (i:Int)/\st.get o=some ⟨true,1,dm (fun x=>if x<i then dW L b x else L x) k⟩/\(o.bV<st.next)) (k) ⟨0,ab,ab,sl (tw @b7 (tw @bg0 (tw @b0 (tw @b1 (tw @b5 @Nat.not_lt_zero))))),sl (tw @b7 (tw @bg0 (tw @b0 (tw @b1 (tw @b5 @Nat.not_lt_zero))))),bt⟩ ?_
  rintro n_c env_c st_c ⟨i,rfl,cle,iM,cg0,cI0⟩ cfr
  have c0:=cfr 0 (by kernel_rfl);have c1:=cfr 1 (by kernel_rfl);have c5:=cfr 5 (by kernel_rfl);have c7:=cfr 7 (by kernel_rfl);have c8:=cfr 8 (by kernel_rfl);have c9:=cfr 9 (by kernel_rfl)
  simp only[go_sem, ↓reduceIte,Nat.reduceEqDiff,Nat.reduceAdd,Nat.reduceSub,Nat.reduceLeDiff,reduceCtorEq,b7,bg0,b0,b1,b5,Nat.not_lt_zero]at c0 c1 c5 c7 c8 c9
  clear cfr
  have hC:=eL (f:=fun x=>if x<i then dW L b x else L x) (n:=k) (i:=i)
  have tc:=fv (fun x=>if x<i then dW L b x else L x) k
  by_cases hi:(i:Int)<(k:Int)
  ·have gp:∀{e:Env} {gg:Rows} {nx:Nat},(e 10=.int .i64 (IntKind.i64.wrap ((i:Int)+1)))->(gg o=some ⟨true,1,dm (fun x=>if x<(i+1)then dW L b x else L x) k⟩)->(o.bV<nx)->∃m0,m0<(k)-i/\∃i:Nat,m0=(k)-i/\i<=(k)/\e 10=.int .i64 (i:Int)/\gg o=some ⟨true,1,dm (fun x=>if x<i then dW L b x else L x) k⟩/\(o.bV<nx):=fun x1 x2 x3=>⟨_,ab,i+1,rfl,ab,(by rw[x1,ax ab]),x2,x3⟩
   have fy:i<k:=ab
   replace hC:=hC fy
   rw[if_neg (Nat.lt_irrefl i)]at hC
   by_cases he:L i=max (L b.a) (L b.b)
   ·have tU:decide ((L i:Int)=((max (L b.a) (L b.b):Nat):Int))=true:=decide_eq_true (by rw[he])
    have dK:(dm (fun x=>if x<i then dW L b x else L x) k).set i (eN (min (L b.a) (L b.b)))=dm (fun x=>if x<i+1 then dW L b x else L x) k:=nR fy (by rw[if_pos ab,dW,if_pos he]) fun x hx xI=>by
     by_cases h:x<i
     ·rw[if_pos h,if_pos ab]
     ·rw[if_neg h,if_neg ab]
    rw[eN]at dK hC
    (repeat(first|((repeat(revert hN;revert N;apply Pn.out));refine wk (tw @iM (tw @cg0 (tw @c0 (tw @c1 (tw @c5 (tw @c7 (tw @c8 (tw @c9 (tw @hi (tw @hC (tw @tc (tw @tU @dK)))))))))))) ?_;(repeat(refine Pn.mk ?_;intro N hN)))|((try apply Or.inl);refine⟨_,ai.x (OX) (sd (tw @iM (tw @cg0 (tw @c0 (tw @c1 (tw @c5 (tw @c7 (tw @c8 (tw @c9 (tw @hi (tw @hC (tw @tc (tw @tU @dK))))))))))))),?_⟩;refine hN _ _ ?_;clear hN N)|((try apply Or.inl);refine⟨_,ai.x (OY) (sd (tw @iM (tw @cg0 (tw @c0 (tw @c1 (tw @c5 (tw @c7 (tw @c8 (tw @c9 (tw @hi (tw @hC (tw @tc (tw @tU @dK))))))))))))),?_⟩;refine hN _ _ ?_;clear hN N)))
    refine gp ?_ ?_ bt
    all_goals simp only[go_sem, ↓reduceIte,Nat.reduceEqDiff,Nat.reduceAdd,Nat.reduceSub,Nat.reduceLeDiff,reduceCtorEq,iM,cg0,c0,c1,c5,c7,c8,c9]
   ·have tU:decide ((L i:Int)=((max (L b.a) (L b.b):Nat):Int))=false:=decide_eq_false fun h=>he ab
    have k7:dm (fun x=>if x<i then dW L b x else L x) k=dm (fun x=>if x<i+1 then dW L b x else L x) k:=fY fun x hx=>by
     by_cases h:x<i
     ·rw[if_pos h,if_pos ab]
     ·by_cases xI:x=i
      ·subst xI;rw[if_neg h,if_pos ab,dW,if_neg he]
      ·rw[if_neg h,if_neg ab]
    rw[eN]at hC
    (repeat(first|((repeat(revert hN;revert N;apply Pn.out));refine wk (tw @iM (tw @cg0 (tw @c0 (tw @c1 (tw @c5 (tw @c7 (tw @c8 (tw @c9 (tw @hi (tw @hC (tw @tc @tU))))))))))) ?_;(repeat(refine Pn.mk ?_;intro N hN)))|((try apply Or.inl);refine⟨_,ai.x (OX) (sd (tw @iM (tw @cg0 (tw @c0 (tw @c1 (tw @c5 (tw @c7 (tw @c8 (tw @c9 (tw @hi (tw @hC (tw @tc @tU)))))))))))),?_⟩;refine hN _ _ ?_;clear hN N)|((try apply Or.inl);refine⟨_,ai.x (OY) (sd (tw @iM (tw @cg0 (tw @c0 (tw @c1 (tw @c5 (tw @c7 (tw @c8 (tw @c9 (tw @hi (tw @hC (tw @tc @tU)))))))))))),?_⟩;refine hN _ _ ?_;clear hN N)))
    rw[k7]at cg0
    refine gp ?_ ?_ bt
    all_goals simp only[go_sem, ↓reduceIte,Nat.reduceEqDiff,Nat.reduceAdd,Nat.reduceSub,Nat.reduceLeDiff,reduceCtorEq,iM,cg0,c0,c1,c5,c7,c8,c9]
  ·have u5:i=k:=ab
   subst u5
   have di:dm (fun x=>if x<i then dW L b x else L x) i=dm (dW L b) i:=fY fun x hx=>if_pos hx
   rw[di]at cg0
   rw[<-kE]at cg0
   (try((repeat(revert hN;revert N;apply Pn.out));refine wk (tw @iM (tw @cg0 (tw @c0 (tw @c1 (tw @c5 (tw @c7 (tw @c8 (tw @c9 (tw @hi @tc))))))))) ?_;(repeat(refine Pn.mk ?_;intro N hN))))
   refine iF ?_ ?_ bt
   all_goals simp only[go_sem, ↓reduceIte,Nat.reduceEqDiff,Nat.reduceAdd,Nat.reduceSub,Nat.reduceLeDiff,reduceCtorEq,b7,bg0,b0,b1,b5,iM,cg0,c0,c1,c5,c7,c8,c9]
 have gq:j=bs.length:=ab
 subst gq
 rw[List.take_length]at bg0
 have hL:=rq bs
 generalize dI bs=L at *
 have tl:=fv L k
 (try((repeat(revert hN;revert N;apply Pn.out));refine wk (tw @b7 (tw @bg0 (tw @b0 (tw @b1 (tw @b5 @hj))))) ?_;(repeat(refine Pn.mk ?_;intro N hN))))
 have QH:o.bV<st_b.next:=bI0
 refine aL (fun n env st=>∃i:Nat,n=(k)-i/\i<=(k)/\env 12=.int .i64 (i:Int)/\st.get o=some ⟨true,1,dm L k⟩/\(∃oo rows ids,env 11=.own oo 0 rows.length/\st.get oo=some ⟨true,1,rows⟩/\cD Mn st.get rows ((leads i L).map (members k L)) ids/\(∀x∈oo::ids,st_b.next<=x.bV/\x.bV<st.next)/\st_b.next<=st.next/\oo∉ids)) (k) ⟨0,ab,ab,sl (tw @b7 (tw @bg0 (tw @b0 (tw @b1 (tw @b5 (eD QH)))))),sl (tw @b7 (tw @bg0 (tw @b0 (tw @b1 (tw @b5 (eD QH)))))),⟨⟨145016000,st_b.next+1⟩,[],[],by(simp only[go_sem, ↓reduceIte,Nat.reduceEqDiff,Nat.reduceAdd,Nat.reduceSub,Nat.reduceLeDiff,reduceCtorEq])<;>rfl,sd @Nat.zero_add,.nil,fun x hx=>by rw[List.mem_singleton.1 hx];(try dsimp only);omega,bt,by simp⟩⟩ ?_
 rintro n_d env_d st_d ⟨i,rfl,dle,d12,dg0,dI0⟩ dfr
 have d0:=dfr 0 (by kernel_rfl);have d5:=dfr 5 (by kernel_rfl)
 simp only[go_sem, ↓reduceIte,Nat.reduceEqDiff,Nat.reduceAdd,Nat.reduceSub,Nat.reduceLeDiff,reduceCtorEq,b7,bg0,b0,b1,b5,eD QH]at d0 d5
 clear dfr
 obtain⟨oo,rows,ids,d11,dg,hR,mB,hle,F1⟩:=dI0
 have qt:=fQ i L
 have mz:=hR.len
 by_cases hi:(i:Int)<(k:Int)
 ·have rz:∀{e:Env} {gg:Rows} {nx:Nat},(e 12=.int .i64 (IntKind.i64.wrap ((i:Int)+1)))->(gg o=some ⟨true,1,dm L k⟩)->(∃oo rows ids,e 11=.own oo 0 rows.length/\gg oo=some ⟨true,1,rows⟩/\cD Mn gg rows ((leads (i+1) L).map (members k L)) ids/\(∀x∈oo::ids,st_b.next<=x.bV/\x.bV<nx)/\st_b.next<=nx/\oo∉ids)->∃m0,m0<(k)-i/\∃i:Nat,m0=(k)-i/\i<=(k)/\e 12=.int .i64 (i:Int)/\gg o=some ⟨true,1,dm L k⟩/\(∃oo rows ids,e 11=.own oo 0 rows.length/\gg oo=some ⟨true,1,rows⟩/\cD Mn gg rows ((leads i L).map (members k L)) ids/\(∀x∈oo::ids,st_b.next<=x.bV/\x.bV<nx)/\st_b.next<=nx/\oo∉ids):=fun x1 x2 x3=>⟨_,ab,i+1,rfl,ab,(by rw[x1,ax ab]),x2,x3⟩
  have fy:i<k:=ab
  have hC:=eL (f:=L) fy
  have n8:=eD (i:=o) (n:=st_d.next) ab
  have N7:=eD (i:=oo) (n:=st_d.next) (mB oo (by simp)).2
  by_cases he:L i=i
  ·rw[if_pos he]at qt
   have tU:decide ((L i:Int)=(i:Int))=true:=decide_eq_true (by rw[he])
   rw[eN]at hC
   (try((repeat(revert hN;revert N;apply Pn.out));refine wk (tw @d12 (tw @dg0 (tw @d0 (tw @d5 (tw @d11 (tw @dg (tw @hi (tw @hC (tw @tl (tw @tU (tw @n8 @N7))))))))))) ?_;(repeat(refine Pn.mk ?_;intro N hN))))
   refine aL (fun n env st=>∃m:Nat,n=((k-i))-m/\m<=((k-i))/\env 14=(.int .i64 ((i+m:Nat):Int))/\(∃pp:Id,env 13=.own pp 0 (members (i+m) L i).length/\st.get pp=some ⟨true,1,(members (i+m) L i).map eN⟩/\st_d.next<=pp.bV/\pp.bV<st.next/\(∀x:Id,x.bV<st_d.next->st.get x=st_d.get x)/\st_d.next<=st.next)) ((k-i)) ⟨0,ab,ab,sl (tw @d12 (tw @dg0 (tw @d0 (tw @d5 @d11)))),⟨⟨145021000,st_d.next+1+1⟩,by rw[show members (i+0) L i=[]from lK hL (Nat.le_refl i)];(simp only[go_sem, ↓reduceIte,Nat.reduceEqDiff,Nat.reduceAdd,Nat.reduceSub,Nat.reduceLeDiff,reduceCtorEq])<;>rfl,by rw[show members (i+0) L i=[]from lK hL (Nat.le_refl i)];(simp only[go_sem, ↓reduceIte,Nat.reduceEqDiff,Nat.reduceAdd,Nat.reduceSub,Nat.reduceLeDiff,reduceCtorEq])<;>rfl,bt,bt,fun x hx=>sd (eD hx),bt⟩⟩ ?_
   rintro n_f env_f st_f ⟨m,rfl,fle,f14,fI0⟩ ffr
   have f0:=ffr 0 (by kernel_rfl);have f5:=ffr 5 (by kernel_rfl);have f11:=ffr 11 (by kernel_rfl);have f12:=ffr 12 (by kernel_rfl)
   simp only[go_sem, ↓reduceIte,Nat.reduceEqDiff,Nat.reduceAdd,Nat.reduceSub,Nat.reduceLeDiff,reduceCtorEq,d12,dg0,d0,d5,d11]at f0 f5 f11 f12
   clear ffr
   obtain⟨pp,f13,fg,Lh,JZ,mc,sa⟩:=fI0
   have uj:st_f.get o=some ⟨true,1,dm L k⟩:=(mc o ab).trans dg0
   have Qt:st_f.get oo=some ⟨true,1,rows⟩:=(mc oo (mB oo (by simp)).2).trans dg
   have xF:=eD JZ
   have yQ:=eD (i:=o) (n:=st_f.next) ab
   have N8:=eD (i:=oo) (n:=st_f.next) (by have:=(mB oo (by simp)).2;omega)
   have Le:members (i+(m+1)) L i=members (i+m) L i++if L (i+m)=i then[i+m]else[]:=iC (i+m) L i
   have Qz:(members (i+m) L i).length<=i+m:=by
    have:=List.length_filter_le (fun k=>L k==i) (List.range (i+m))
    simpa[members]using this
   have x1:=dj (a:=o) (b:=pp) ab
   have x2:=dj (a:=oo) (b:=pp) (by have:=(mB oo (by simp)).2;omega)
   have x3:=dj (a:=o) (b:=oo) (by have:=(mB oo (by simp)).1;omega)
   by_cases hm:m<k-i
   ·have pI:∀{e:Env} {gg:Rows} {nx:Nat},(e 14=(.int .i64 ((i+(m+1):Nat):Int)))->(∃pp:Id,e 13=.own pp 0 (members (i+(m+1)) L i).length/\gg pp=some ⟨true,1,(members (i+(m+1)) L i).map eN⟩/\st_d.next<=pp.bV/\pp.bV<nx/\(∀x:Id,x.bV<st_d.next->gg x=st_d.get x)/\st_d.next<=nx)->∃m0,m0<((k-i))-m/\∃m:Nat,m0=((k-i))-m/\m<=((k-i))/\e 14=(.int .i64 ((i+m:Nat):Int))/\(∃pp:Id,e 13=.own pp 0 (members (i+m) L i).length/\gg pp=some ⟨true,1,(members (i+m) L i).map eN⟩/\st_d.next<=pp.bV/\pp.bV<nx/\(∀x:Id,x.bV<st_d.next->gg x=st_d.get x)/\st_d.next<=nx):=fun x1 x2=>⟨_,ab,m+1,rfl,ab,x1,x2⟩
    have NV:((i+m:Nat):Int)<(k:Int):=ab
    have PW:=eL (f:=L) (show i+m<k by omega)
    have hw:IntKind.i64.wrap (((i+m:Nat):Int)+1)=((i+(m+1):Nat):Int):=by rw[aY ab];omega
    rw[eN]at PW
    by_cases hq:L (i+m)=i
    ·have mo:decide ((L (i+m):Int)=(i:Int))=true:=decide_eq_true (by rw[hq])
     rw[if_pos hq]at Le
     have e1:(members (i+m) L i).length+1<=16777216:=ab
     have kD:((members (i+m) L i).map eN).length=(members (i+m) L i).length:=by simp
     (try((repeat(revert hN;revert N;apply Pn.out));refine wk (tw @f14 (tw @f0 (tw @f5 (tw @f11 (tw @f12 (tw @f13 (tw @fg (tw @uj (tw @NV (tw @PW (tw @tl (tw @mo (tw @xF (tw @yQ (tw @x1 (tw @e1 @kD)))))))))))))))) ?_;(repeat(refine Pn.mk ?_;intro N hN))))
     exact pI (sd (tw @f14 (tw @f0 (tw @f5 (tw @f11 (tw @f12 (tw @uj (tw @hw (tw @yQ @x1))))))))) (⟨⟨145026003,st_f.next+1+1⟩,by rw[Le,List.length_append];simp only[go_sem, ↓reduceIte,Nat.reduceEqDiff,Nat.reduceAdd,Nat.reduceSub,Nat.reduceLeDiff,reduceCtorEq,List.length_cons,List.length_nil],by rw[Le,List.map_append,List.map_cons,List.map_nil];simp only[go_sem, ↓reduceIte,Nat.reduceEqDiff,Nat.reduceAdd,Nat.reduceSub,Nat.reduceLeDiff,reduceCtorEq,eN],bt,bt,fun x hx=>by
      have y1:=mc x hx
      have y2:=dj (a:=x) (b:=pp) ab
      simp only[go_sem, ↓reduceIte,Nat.reduceEqDiff,Nat.reduceAdd,Nat.reduceSub,Nat.reduceLeDiff,reduceCtorEq,eD (show x.bV<st_f.next by omega),y1,y2],bt⟩)
    ·have mo:decide ((L (i+m):Int)=(i:Int))=false:=decide_eq_false fun h=>hq ab
     rw[if_neg hq,List.append_nil]at Le
     (try((repeat(revert hN;revert N;apply Pn.out));refine wk (tw @f14 (tw @f0 (tw @f5 (tw @f11 (tw @f12 (tw @f13 (tw @fg (tw @uj (tw @NV (tw @PW (tw @tl (tw @mo (tw @xF (tw @yQ @x1)))))))))))))) ?_;(repeat(refine Pn.mk ?_;intro N hN))))
     exact pI (sd (tw @f14 (tw @f0 (tw @f5 (tw @f11 (tw @f12 (tw @uj @hw))))))) (⟨pp,by rw[Le];simp only[go_sem, ↓reduceIte,Nat.reduceEqDiff,Nat.reduceAdd,Nat.reduceSub,Nat.reduceLeDiff,reduceCtorEq,f13],by rw[Le];simp only[go_sem, ↓reduceIte,Nat.reduceEqDiff,Nat.reduceAdd,Nat.reduceSub,Nat.reduceLeDiff,reduceCtorEq,fg],Lh,bt,mc,bt⟩)
   ·have hmk:i+m=k:=ab
    have NV:¬((i+m:Nat):Int)<(k:Int):=ab
    rw[hmk]at f13 fg Qz
    have e1:rows.length+1<=16777216:=by
     have:=iX i L
     rw[mz,List.length_map];omega
    (try((repeat(revert hN;revert N;apply Pn.out));refine wk (tw @f14 (tw @f0 (tw @f5 (tw @f11 (tw @f12 (tw @f13 (tw @fg (tw @uj (tw @Qt (tw @NV (tw @xF (tw @yQ (tw @N8 (tw @x1 (tw @x2 @e1))))))))))))))) ?_;(repeat(refine Pn.mk ?_;intro N hN))))
    refine rz ?_ ?_ (⟨⟨145027003,st_f.next+1⟩,rows++[[.own pp 0 (members k L i).length]],ids++[pp],by rw[List.length_append];simp only[go_sem, ↓reduceIte,Nat.reduceEqDiff,Nat.reduceAdd,Nat.reduceSub,Nat.reduceLeDiff,reduceCtorEq,List.length_cons,List.length_nil],sd @Nat.zero_add,by
      rw[qt,List.map_append]
      refine(hR.frame Lz fun x hx=>?_).app (.one ⟨pp,rfl,?_,rfl⟩)
      ·have h1:=mB x (by simp[hx])
       have y1:=mc x h1.2
       have y2:=dj (a:=x) (b:=pp) ab
       have y3:(x=oo)=False:=by
        simp only[eq_iff_iff,iff_false]
        rintro rfl
        exact F1 hx
       simp only[go_sem, ↓reduceIte,Nat.reduceEqDiff,Nat.reduceAdd,Nat.reduceSub,Nat.reduceLeDiff,reduceCtorEq,eD (show x.bV<st_f.next by omega),y1,y2,y3]
      ·simp only[go_sem, ↓reduceIte,Nat.reduceEqDiff,Nat.reduceAdd,Nat.reduceSub,Nat.reduceLeDiff,reduceCtorEq,xF,x2,fg],fun x hx=>by
      rcases List.mem_cons.1 hx with rfl|hx
      ·(try dsimp only);omega
      ·rcases List.mem_append.1 hx with hx|hx
       ·have:=mB x (by simp[hx]);(try dsimp only);omega
       ·rw[List.mem_singleton.1 hx];(try dsimp only);omega,bt,fun hc=>by
      rcases List.mem_append.1 hc with hc|hc
      ·have:=(mB _ (List.mem_cons_of_mem _ hc)).2;(try dsimp only at this);omega
      ·have:=List.mem_singleton.1 hc;rw[<-this]at JZ;(try dsimp only at JZ);omega⟩)
    all_goals simp only[go_sem, ↓reduceIte,Nat.reduceEqDiff,Nat.reduceAdd,Nat.reduceSub,Nat.reduceLeDiff,reduceCtorEq,f14,f0,f5,f11,f12,uj,yQ,x3]
  ·rw[if_neg he,List.append_nil]at qt
   have tU:decide ((L i:Int)=(i:Int))=false:=decide_eq_false fun h=>he ab
   rw[eN]at hC
   (try((repeat(revert hN;revert N;apply Pn.out));refine wk (tw @d12 (tw @dg0 (tw @d0 (tw @d5 (tw @d11 (tw @dg (tw @hi (tw @hC (tw @tl (tw @tU (tw @n8 @N7))))))))))) ?_;(repeat(refine Pn.mk ?_;intro N hN))))
   refine rz ?_ ?_ (⟨oo,rows,ids,sd @d11,sd @dg,by rw[qt];exact hR,fun x hx=>by have:=mB x hx;(try dsimp only);omega,bt,F1⟩)
   all_goals simp only[go_sem, ↓reduceIte,Nat.reduceEqDiff,Nat.reduceAdd,Nat.reduceSub,Nat.reduceLeDiff,reduceCtorEq,d12,dg0,d0,d5]
 ·have u5:i=k:=ab
  (try((repeat(revert hN;revert N;apply Pn.out));refine wk (tw @d12 (tw @dg0 (tw @d0 (tw @d5 (tw @d11 (tw @dg @hi)))))) ?_;(repeat(refine Pn.mk ?_;intro N hN))))
  refine tv (.inl rfl) (by simp only[go_sem, ↓reduceIte,Nat.reduceEqDiff,Nat.reduceAdd,Nat.reduceSub,Nat.reduceLeDiff,reduceCtorEq];rfl) ?_
  rw[pk dg (by simp) (rows':=(eP k L).map xw) (by rw[List.drop_zero,List.take_of_length_le (Nat.le_refl _)];rw[u5]at hR;exact Gq 3 hR)]
theorem tK (n:Nat):List.replicate n [AV.int .i64 0]=dm (fun _=>0) n:=by
 refine List.ext_getElem? fun i=>?_
 by_cases h:i<n
 ·rw[eL h,List.getElem?_replicate,if_pos h];rfl
 ·rw[List.getElem?_eq_none (by simp;omega),List.getElem?_eq_none (by rw[fv];omega)]
def cm (cnt:Nat) (L:Nat->Nat) (i m:Nat):Nat->Nat:=fun x=>if bl L x<i then bl L x else if x∈(members cnt L ((leads cnt L).getD i 0)).take m then i else 0
theorem nj (cnt:Nat) (L:Nat->Nat):cm cnt L 0 0=fun _=>0:=by funext x;simp[cm]
theorem rG (t:Int) (bs:List PB) (k:Nat) (h:k<bs.length):aD t (bs.take (k+1))=aD t (bs.take k)++if t<=(bs[k]).s then[bs[k]]else[]:=by
 unfold aD
 rw[List.take_succ_eq_append_getElem h,List.filter_append]
 congr 1
 by_cases h:t<=bs[k].s<;>simp[h]
theorem tF {t:Int} {bs:List PB} {b:PB} (h:b∈aD t bs):b∈bs:=(List.mem_filter.1 h).1
theorem lR (t:Int) (bs:List PB):(aD t bs).length<=bs.length:=List.length_filter_le _ _
theorem yZ (cnt:Nat) (hn:cnt<=1048576) (bs:List PB) (hb:∀b∈bs,b.a<cnt/\b.b<cnt) (oY:bs.length<=1048576) (t:Int):ai Tryz.prog 126 [.int .i64 cnt,.sl (bs.map au),.int .i64 t] (.ib [.int .i64 (leads cnt (dI (aD t bs))).length,.sl ((eF (dI (aD t bs)) bs).map au)]):=by
 refine ai.body dN rfl fun hl n0=>?_
 clear hl
 (try((repeat(revert hN;revert N;apply Pn.out));refine wk @Nat.zero_add ?_;(repeat(refine Pn.mk ?_;intro N hN))))
 refine aL (fun n env st=>∃k:Nat,n=(bs.length)-k/\k<=(bs.length)/\env 9=.int .i64 (k:Int)/\(∃o:Id,env 8=.own o 0 (aD t (bs.take k)).length/\st.get o=some ⟨true,3,(aD t (bs.take k)).map au⟩/\o.bV<st.next)) (bs.length) ⟨0,ab,ab,sl @Nat.zero_add,⟨⟨126001000,n0+1⟩,by(simp only[go_sem, ↓reduceIte,Nat.reduceEqDiff,Nat.reduceAdd,Nat.reduceSub,Nat.reduceLeDiff,reduceCtorEq])<;>rfl,by(simp only[go_sem, ↓reduceIte,Nat.reduceEqDiff,Nat.reduceAdd,Nat.reduceSub,Nat.reduceLeDiff,reduceCtorEq])<;>rfl,bt⟩⟩ ?_
 rintro n_a env_a st_a ⟨k,rfl,ale,a9,lx⟩ dC
 have a0:=dC 0 (by kernel_rfl);have a1:=dC 1 (by kernel_rfl);have a2:=dC 2 (by kernel_rfl)
 simp only[go_sem, ↓reduceIte,Nat.reduceEqDiff,Nat.reduceAdd,Nat.reduceSub,Nat.reduceLeDiff,reduceCtorEq]at a0 a1 a2
 clear dC
 obtain⟨o,a8,ag,rS⟩:=lx
 have jT:=eD rS
 by_cases hk:(k:Int)<(bs.length:Int)
 ·have bZ:∀{e:Env} {gg:Rows} {nx:Nat},(e 9=.int .i64 (IntKind.i64.wrap ((k:Int)+1)))->(∃o:Id,e 8=.own o 0 (aD t (bs.take (k+1))).length/\gg o=some ⟨true,3,(aD t (bs.take (k+1))).map au⟩/\o.bV<nx)->∃m0,m0<(bs.length)-k/\∃k:Nat,m0=(bs.length)-k/\k<=(bs.length)/\e 9=.int .i64 (k:Int)/\(∃o:Id,e 8=.own o 0 (aD t (bs.take k)).length/\gg o=some ⟨true,3,(aD t (bs.take k)).map au⟩/\o.bV<nx):=fun x1 x2=>⟨_,ab,k+1,rfl,ab,(by rw[x1,ax ab]),x2⟩
  have eY:k<bs.length:=ab
  have eB:(bs.map au)[k]? =some (au bs[k]):=by simp[eY]
  have hs:=rG t bs k eY
  have tW:=lR t (bs.take k)
  rw[List.length_take]at tW
  by_cases hc:t<=(bs[k]).s
  ·rw[if_pos hc]at hs
   have e1:(aD t (bs.take k)).length+1<=16777216:=ab
   have kD:((aD t (bs.take k)).map au).length=(aD t (bs.take k)).length:=by simp
   generalize bs[k]=b at *
   (try((repeat(revert hN;revert N;apply Pn.out));refine wk (tw @a9 (tw @a0 (tw @a1 (tw @a2 (tw @a8 (tw @ag (tw @jT (tw @hk (tw @eB (tw @hc (tw @e1 (tw @kD @au.eq_1)))))))))))) ?_;(repeat(refine Pn.mk ?_;intro N hN))))
   exact bZ (sd (tw @a9 (tw @a0 (tw @a1 @a2)))) (⟨⟨126006006,st_a.next+1+1⟩,by rw[hs,List.length_append];simp only[go_sem, ↓reduceIte,Nat.reduceEqDiff,Nat.reduceAdd,Nat.reduceSub,Nat.reduceLeDiff,reduceCtorEq,List.length_cons,List.length_nil],by rw[hs,List.map_append,List.map_cons,List.map_nil];simp only[go_sem, ↓reduceIte,Nat.reduceEqDiff,Nat.reduceAdd,Nat.reduceSub,Nat.reduceLeDiff,reduceCtorEq,au],bt⟩)
  ·rw[if_neg hc,List.append_nil]at hs
   generalize bs[k]=b at *
   (try((repeat(revert hN;revert N;apply Pn.out));refine wk (tw @a9 (tw @a0 (tw @a1 (tw @a2 (tw @a8 (tw @ag (tw @jT (tw @hk (tw @eB (tw @hc @au.eq_1)))))))))) ?_;(repeat(refine Pn.mk ?_;intro N hN))))
   exact bZ (sd (tw @a9 (tw @a0 (tw @a1 @a2)))) (⟨o,by rw[hs];simp only[go_sem, ↓reduceIte,Nat.reduceEqDiff,Nat.reduceAdd,Nat.reduceSub,Nat.reduceLeDiff,reduceCtorEq,a8],by rw[hs];simp only[go_sem, ↓reduceIte,Nat.reduceEqDiff,Nat.reduceAdd,Nat.reduceSub,Nat.reduceLeDiff,reduceCtorEq,ag],bt⟩)
 have ki:k=bs.length:=ab
 subst ki
 rw[List.take_length]at a8 ag
 have EK:=yX cnt hn (aD t bs) (fun b h=>hb b (tF h)) (by have:=lR t bs;omega)
 have hL:=rq (aD t bs)
 have Cf:fz (dz st_a.get) 6 (.own o 0 (aD t bs).length)=some (.sl ((aD t bs).map au)):=fA (sz:=3) (by simp[dz,ag]) rfl fun b=>wq _ 4 b
 have Qs:∀x,bW (dz st_a.get) 6 [.int .i64 x,.own o 0 (aD t bs).length]=some [.int .i64 x,.sl ((aD t bs).map au)]:=fun x=>by simp only[ad,aj,aH,Cf,Option.map_some]
 (try((repeat(revert hN;revert N;apply Pn.out));refine wk (tw @a9 (tw @a0 (tw @a1 (tw @a2 (tw @a8 @hk))))) ?_;(repeat(refine Pn.mk ?_;intro N hN))))
 refine .inl ⟨_,ai.x EK (Qs _),?_⟩
 refine hN _ _ ?_
 clear hN N
 generalize dI (aD t bs)=L at *
 have oZ:((eP cnt L).map xw).length=(leads cnt L).length:=by simp[eP]
 have Pe:=iX cnt L
 have iS:(0:Int)<=(cnt:Int):=ab
 have oi:(cnt:Int)<=((16777216:Nat):Int):=ab
 have gi:List.replicate cnt [AV.int .i64 0]=dm (cm cnt L 0 0) cnt:=by rw[tK,nj]
 (try((repeat(revert hN;revert N;apply Pn.out));refine wk (tw @a9 (tw @a0 (tw @a1 (tw @a2 (tw @iS (tw @oi @Int.le_refl)))))) ?_;(repeat(refine Pn.mk ?_;intro N hN))))
 refine aL (fun n env st=>∃i:Nat,n=((leads cnt L).length)-i/\i<=((leads cnt L).length)/\env 12=.int .i64 (i:Int)/\st.get ⟨126008001,st_a.next+1+1⟩=some ⟨true,1,dm (cm cnt L i 0) cnt⟩/\(st_a.next+1+1<st.next)) ((leads cnt L).length) ⟨0,ab,ab,sl (tw @a9 (tw @a0 (tw @a1 (tw @a2 @gi)))),sl (tw @a9 (tw @a0 (tw @a1 (tw @a2 @gi)))),bt⟩ ?_
 rintro n_c env_c st_c ⟨i,rfl,cle,v7,cg0,cI0⟩ cfr
 have c1:=cfr 1 (by kernel_rfl);have iM:=cfr 10 (by kernel_rfl);have mj:=cfr 11 (by kernel_rfl)
 simp only[go_sem, ↓reduceIte,Nat.reduceEqDiff,Nat.reduceAdd,Nat.reduceSub,Nat.reduceLeDiff,reduceCtorEq,a9,a0,a1,a2,gi]at c1 iM mj
 clear cfr
 by_cases hi:(i:Int)<((leads cnt L).length:Int)
 ·have gp:∀{e:Env} {gg:Rows} {nx:Nat},(e 12=.int .i64 (IntKind.i64.wrap ((i:Int)+1)))->(gg ⟨126008001,st_a.next+1+1⟩=some ⟨true,1,dm (cm cnt L (i+1) 0) cnt⟩)->(st_a.next+1+1<nx)->∃m0,m0<((leads cnt L).length)-i/\∃i:Nat,m0=((leads cnt L).length)-i/\i<=((leads cnt L).length)/\e 12=.int .i64 (i:Int)/\gg ⟨126008001,st_a.next+1+1⟩=some ⟨true,1,dm (cm cnt L i 0) cnt⟩/\(st_a.next+1+1<nx):=fun x1 x2 x3=>⟨_,ab,i+1,rfl,ab,(by rw[x1,ax ab]),x2,x3⟩
  have fy:i<(leads cnt L).length:=ab
  have nH:((eP cnt L).map xw)[i]? =some (xw (members cnt L (leads cnt L)[i])):=by simp[eP,fy]
  have r9:(leads cnt L).getD i 0=(leads cnt L)[i]:=by simp[List.getD_eq_getElem?_getD,fy]
  have wK:∀m,cm cnt L i m=fun x=>if bl L x<i then bl L x else if x∈(members cnt L (leads cnt L)[i]).take m then i else 0:=fun m=>by unfold cm;rw[r9]
  have nX:=fun x (hx:x<cnt)=>qz hL (n:=cnt) (k:=x) (i:=i) hx fy
  have km:(members cnt L (leads cnt L)[i]).Nodup:=List.nodup_range.filter _
  have FZ:∀x∈members cnt L (leads cnt L)[i],x<cnt:=fun x hx=>(kG.1 hx).1
  have hMc:(members cnt L (leads cnt L)[i]).length<=cnt:=by
   have:=List.length_filter_le (fun k=>L k==(leads cnt L)[i]) (List.range cnt)
   simpa[members]using this
  generalize members cnt L (leads cnt L)[i]=M at *
  have zE:(M.map eN).length=M.length:=by simp
  (try((repeat(revert hN;revert N;apply Pn.out));refine wk (tw @v7 (tw @cg0 (tw @c1 (tw @iM (tw @mj (tw @hi @oZ)))))) ?_;(repeat(refine Pn.mk ?_;intro N hN))))
  refine aL (fun n env st=>∃m:Nat,n=(M.length)-m/\m<=(M.length)/\env 13=.int .i64 (m:Int)/\st.get ⟨126008001,st_a.next+1+1⟩=some ⟨true,1,dm (cm cnt L i m) cnt⟩/\(st_a.next+1+1<st.next)) (M.length) ⟨0,ab,ab,sl (tw @v7 (tw @cg0 (tw @c1 (tw @iM @mj)))),sl (tw @v7 (tw @cg0 (tw @c1 (tw @iM @mj)))),bt⟩ ?_
  rintro n_d env_d st_d ⟨m,rfl,dle,d13,dg0,dI0⟩ dfr
  have d1:=dfr 1 (by kernel_rfl);have d10:=dfr 10 (by kernel_rfl);have d11:=dfr 11 (by kernel_rfl);have d12:=dfr 12 (by kernel_rfl)
  simp only[go_sem, ↓reduceIte,Nat.reduceEqDiff,Nat.reduceAdd,Nat.reduceSub,Nat.reduceLeDiff,reduceCtorEq,v7,cg0,c1,iM,mj]at d1 d10 d11 d12
  clear dfr
  have tl:=fv (cm cnt L i m) cnt
  by_cases hm:(m:Int)<(M.length:Int)
  ·have rz:∀{e:Env} {gg:Rows} {nx:Nat},(e 13=.int .i64 (IntKind.i64.wrap ((m:Int)+1)))->(gg ⟨126008001,st_a.next+1+1⟩=some ⟨true,1,dm (cm cnt L i (m+1)) cnt⟩)->(st_a.next+1+1<nx)->∃m0,m0<(M.length)-m/\∃m:Nat,m0=(M.length)-m/\m<=(M.length)/\e 13=.int .i64 (m:Int)/\gg ⟨126008001,st_a.next+1+1⟩=some ⟨true,1,dm (cm cnt L i m) cnt⟩/\(st_a.next+1+1<nx):=fun x1 x2 x3=>⟨_,ab,m+1,rfl,ab,(by rw[x1,ax ab]),x2,x3⟩
   have wJ:m<M.length:=ab
   have sR:(M.map eN)[m]? =some (eN M[m]):=by simp[wJ]
   have sY:=FZ _ (List.getElem_mem wJ)
   have xI:(M[m]:Int)<(cnt:Int):=ab
   have zH:=eL (f:=cm cnt L i m) sY
   have dK:(dm (cm cnt L i m) cnt).set M[m] (eN i)=dm (cm cnt L i (m+1)) cnt:=nR sY (by
    have h1:=(nX _ sY).1 (List.getElem_mem wJ)
    rw[wK]
    simp only[]
    rw[if_neg ab,if_pos (by rw[List.take_succ_eq_append_getElem wJ];exact List.mem_append_right _ (List.mem_singleton.2 rfl))]) fun x hx gF=>by
    rw[wK,wK]
    simp only[]
    rw[List.take_succ_eq_append_getElem wJ]
    simp only[List.mem_append,List.mem_singleton,gF,or_false]
   rw[eN]at dK zH
   generalize M[m]=xm at *
   (try((repeat(revert hN;revert N;apply Pn.out));refine wk (tw @d13 (tw @dg0 (tw @d1 (tw @d10 (tw @d11 (tw @d12 (tw @hm (tw @hi (tw @nH (tw @oZ (tw @sR (tw @zE (tw @xI (tw @zH (tw @tl (tw @dK (tw @xw.eq_1 @eN.eq_1))))))))))))))))) ?_;(repeat(refine Pn.mk ?_;intro N hN))))
   refine rz ?_ ?_ bt
   all_goals simp only[go_sem, ↓reduceIte,Nat.reduceEqDiff,Nat.reduceAdd,Nat.reduceSub,Nat.reduceLeDiff,reduceCtorEq,d13,dg0,d1,d10,d11,d12,dK]
  ·have kD:m=M.length:=ab
   subst kD
   have sa:dm (cm cnt L i M.length) cnt=dm (cm cnt L (i+1) 0) cnt:=fY fun x hx=>by
    rw[wK,List.take_length]
    simp only[cm,List.take_zero,List.not_mem_nil,if_false]
    have h1:=nX x hx
    by_cases h2:bl L x<i
    ·rw[if_pos h2,if_pos ab]
    ·rw[if_neg h2]
     by_cases h3:x∈M
     ·rw[if_pos h3,if_pos (by have:=h1.1 h3;omega),h1.1 h3]
     ·rw[if_neg h3,if_neg fun h4=>h3 (h1.2 ab)]
   (try((repeat(revert hN;revert N;apply Pn.out));refine wk (tw @d13 (tw @dg0 (tw @d1 (tw @d10 (tw @d11 (tw @d12 (tw @hm (tw @hi (tw @nH (tw @oZ (tw @zE @xw.eq_1))))))))))) ?_;(repeat(refine Pn.mk ?_;intro N hN))))
   refine gp ?_ ?_ bt
   all_goals simp only[go_sem, ↓reduceIte,Nat.reduceEqDiff,Nat.reduceAdd,Nat.reduceSub,Nat.reduceLeDiff,reduceCtorEq,v7,cg0,c1,iM,mj,d13,dg0,d1,d10,d11,d12,sa]
 have oj:i=(leads cnt L).length:=ab
 subst oj
 have F1:dm (cm cnt L (leads cnt L).length 0) cnt=dm (bl L) cnt:=fY fun x hx=>by rw[cm,if_pos (js hL hx)]
 rw[F1]at cg0
 have tl:=fv (bl L) cnt
 (try((repeat(revert hN;revert N;apply Pn.out));refine wk (tw @v7 (tw @cg0 (tw @c1 (tw @iM (tw @mj (tw @hi @oZ)))))) ?_;(repeat(refine Pn.mk ?_;intro N hN))))
 have O4:st_a.next+1+1<st_c.next:=cI0
 refine aL (fun n env st=>∃j:Nat,n=(bs.length)-j/\j<=(bs.length)/\env 15=.int .i64 (j:Int)/\st.get ⟨126008001,st_a.next+1+1⟩=some ⟨true,1,dm (bl L) cnt⟩/\(∃p:Id,env 14=.own p 0 (eF L (bs.take j)).length/\st.get p=some ⟨true,3,(eF L (bs.take j)).map au⟩/\st_c.next<=p.bV/\p.bV<st.next)) (bs.length) ⟨0,ab,ab,sl (tw @v7 (tw @cg0 (tw @c1 (tw @iM @mj)))),sl (tw @v7 (tw @cg0 (tw @c1 (tw @iM @mj)))),⟨⟨126016000,st_c.next+1⟩,by(simp only[go_sem, ↓reduceIte,Nat.reduceEqDiff,Nat.reduceAdd,Nat.reduceSub,Nat.reduceLeDiff,reduceCtorEq])<;>rfl,by(simp only[go_sem, ↓reduceIte,Nat.reduceEqDiff,Nat.reduceAdd,Nat.reduceSub,Nat.reduceLeDiff,reduceCtorEq])<;>rfl,bt,bt⟩⟩ ?_
 rintro n_f env_f st_f ⟨j,rfl,fle,f15,fg0,fI0⟩ ffr
 have f1:=ffr 1 (by kernel_rfl);have f10:=ffr 10 (by kernel_rfl);have f11:=ffr 11 (by kernel_rfl)
 simp only[go_sem, ↓reduceIte,Nat.reduceEqDiff,Nat.reduceAdd,Nat.reduceSub,Nat.reduceLeDiff,reduceCtorEq,v7,cg0,c1,iM,mj]at f1 f10 f11
 clear ffr
 obtain⟨p,f14,fg,Lh,JZ⟩:=fI0
 have x1:=dj (a:=⟨126008001,st_a.next+1+1⟩) (b:=p) bt
 have xF:=eD JZ
 have hvn:st_a.next+1+1<st_f.next:=ab
 have Gb:=eD (i:=⟨126008001,st_a.next+1+1⟩) (n:=st_f.next) hvn
 have tW:=(lQ L (bs.take j)).2
 rw[List.length_take]at tW
 by_cases hj:(j:Int)<(bs.length:Int)
 ·have pI:∀{e:Env} {gg:Rows} {nx:Nat},(e 15=.int .i64 (IntKind.i64.wrap ((j:Int)+1)))->(gg ⟨126008001,st_a.next+1+1⟩=some ⟨true,1,dm (bl L) cnt⟩)->(∃p:Id,e 14=.own p 0 (eF L (bs.take (j+1))).length/\gg p=some ⟨true,3,(eF L (bs.take (j+1))).map au⟩/\st_c.next<=p.bV/\p.bV<nx)->∃m0,m0<(bs.length)-j/\∃j:Nat,m0=(bs.length)-j/\j<=(bs.length)/\e 15=.int .i64 (j:Int)/\gg ⟨126008001,st_a.next+1+1⟩=some ⟨true,1,dm (bl L) cnt⟩/\(∃p:Id,e 14=.own p 0 (eF L (bs.take j)).length/\gg p=some ⟨true,3,(eF L (bs.take j)).map au⟩/\st_c.next<=p.bV/\p.bV<nx):=fun x1 x2 x3=>⟨_,ab,j+1,rfl,ab,(by rw[x1,ax ab]),x2,x3⟩
  have gh:j<bs.length:=ab
  have EJ:(bs.map au)[j]? =some (au bs[j]):=by simp[gh]
  have JL:=hb _ (List.getElem_mem gh)
  have hs:=xb L (bs.take j) bs[j]
  rw[<-List.take_succ_eq_append_getElem gh]at hs
  generalize bs[j]=b at *
  have hA:=eL (f:=bl L) JL.1
  have hB:=eL (f:=bl L) JL.2
  have fK:(b.a:Int)<(cnt:Int):=ab
  have fc:(b.b:Int)<(cnt:Int):=ab
  have OX:=yW (bl L b.a) (bl L b.b)
  have OY:=yV (bl L b.a) (bl L b.b)
  rw[eN]at hA hB
  by_cases he:bl L b.a=bl L b.b
  ·rw[if_pos he,List.append_nil]at hs
   have tU:decide ((bl L b.a:Int)=(bl L b.b:Int))=true:=decide_eq_true (by rw[he])
   (try((repeat(revert hN;revert N;apply Pn.out));refine wk (tw @f15 (tw @fg0 (tw @f1 (tw @f10 (tw @f11 (tw @f14 (tw @fg (tw @hj (tw @EJ (tw @hA (tw @hB (tw @fK (tw @fc (tw @tl (tw @tU (tw @x1 (tw @xF @au.eq_1))))))))))))))))) ?_;(repeat(refine Pn.mk ?_;intro N hN))))
   refine pI ?_ ?_ (⟨p,by rw[hs];simp only[go_sem, ↓reduceIte,Nat.reduceEqDiff,Nat.reduceAdd,Nat.reduceSub,Nat.reduceLeDiff,reduceCtorEq,f14],by rw[hs];simp only[go_sem, ↓reduceIte,Nat.reduceEqDiff,Nat.reduceAdd,Nat.reduceSub,Nat.reduceLeDiff,reduceCtorEq,fg],Lh,bt⟩)
   all_goals simp only[go_sem, ↓reduceIte,Nat.reduceEqDiff,Nat.reduceAdd,Nat.reduceSub,Nat.reduceLeDiff,reduceCtorEq,f15,fg0,f1,f10,f11]
  ·rw[if_neg he]at hs
   have tU:decide ((bl L b.a:Int)=(bl L b.b:Int))=false:=decide_eq_false fun h=>he ab
   have e1:(eF L (bs.take j)).length+1<=16777216:=ab
   have kD:((eF L (bs.take j)).map au).length=(eF L (bs.take j)).length:=by simp
   (repeat(first|((repeat(revert hN;revert N;apply Pn.out));refine wk (tw @f15 (tw @fg0 (tw @f1 (tw @f10 (tw @f11 (tw @f14 (tw @fg (tw @hj (tw @EJ (tw @hA (tw @hB (tw @fK (tw @fc (tw @tl (tw @tU (tw @x1 (tw @xF (tw @Gb (tw @e1 (tw @kD @au.eq_1)))))))))))))))))))) ?_;(repeat(refine Pn.mk ?_;intro N hN)))|((try apply Or.inl);refine⟨_,ai.x (OX) (sd (tw @f15 (tw @fg0 (tw @f1 (tw @f10 (tw @f11 (tw @f14 (tw @fg (tw @hj (tw @EJ (tw @hA (tw @hB (tw @fK (tw @fc (tw @tl (tw @tU (tw @x1 (tw @xF (tw @Gb (tw @e1 (tw @kD @au.eq_1))))))))))))))))))))),?_⟩;refine hN _ _ ?_;clear hN N)|((try apply Or.inl);refine⟨_,ai.x (OY) (sd (tw @f15 (tw @fg0 (tw @f1 (tw @f10 (tw @f11 (tw @f14 (tw @fg (tw @hj (tw @EJ (tw @hA (tw @hB (tw @fK (tw @fc (tw @tl (tw @tU (tw @x1 (tw @xF (tw @Gb (tw @e1 (tw @kD @au.eq_1))))))))))))))))))))),?_⟩;refine hN _ _ ?_;clear hN N)))
   refine pI ?_ ?_ (⟨⟨126023014,st_f.next+1+1+1+1⟩,by rw[hs,List.length_append];simp only[go_sem, ↓reduceIte,Nat.reduceEqDiff,Nat.reduceAdd,Nat.reduceSub,Nat.reduceLeDiff,reduceCtorEq,List.length_cons,List.length_nil],by rw[hs,List.map_append,List.map_cons,List.map_nil];simp only[go_sem, ↓reduceIte,Nat.reduceEqDiff,Nat.reduceAdd,Nat.reduceSub,Nat.reduceLeDiff,reduceCtorEq,au],bt,bt⟩)
   all_goals simp only[go_sem, ↓reduceIte,Nat.reduceEqDiff,Nat.reduceAdd,Nat.reduceSub,Nat.reduceLeDiff,reduceCtorEq,f15,fg0,f1,f10,f11,x1,Gb]
 ·have gq:j=bs.length:=ab
  subst gq
  rw[List.take_length]at f14 fg
  (try((repeat(revert hN;revert N;apply Pn.out));refine wk (tw @f15 (tw @fg0 (tw @f1 (tw @f10 (tw @f11 (tw @f14 (tw @hj @oZ))))))) ?_;(repeat(refine Pn.mk ?_;intro N hN))))
  refine iJ (.inl rfl) (r1:=.int .i64 ((leads cnt L).length:Int)) (sd @Nat.zero_add) (by simp only[go_sem, ↓reduceIte,Nat.reduceEqDiff,Nat.reduceAdd,Nat.reduceSub,Nat.reduceLeDiff,reduceCtorEq];rfl) ?_
  have h1:fa st_f.get 5 (.own p 0 (eF L bs).length)=some (.sl ((eF L bs).map au)):=ft (sz:=3) fg rfl fun b=>r4 _ 3 b
  simp only[eJ,bd,bE,dV,h1,Option.map_some]
end Go.Proofs.YtihgaadadaekmaaGreatDoor.V

namespace Go.Proofs.YtihgaadadaekmaaGreatDoor.V
def BP (bs:List PB) (e v:Nat):Prop:=(bD bs e).a=v∨(bD bs e).b=v
def gW (bs:List PB) (m v:Nat):List Nat:=(List.range m).filter fun i=>(bD bs i).a==v||(bD bs i).b==v
theorem pB {bs:List PB} {m v e:Nat}:e∈gW bs m v↔e<m/\BP bs e v:=by simp[gW,BP]
theorem Dz (bs:List PB) (m v:Nat):gW bs (m+1) v=gW bs m v++if (bD bs m).a=v∨(bD bs m).b=v then[m]else[]:=by
 unfold gW
 rw[List.range_succ,List.filter_append]
 congr 1
 by_cases h:(bD bs m).a=v<;>by_cases h2:(bD bs m).b=v<;>simp[h,h2]
theorem pA (bs:List PB) (m v:Nat):(gW bs m v).length<=m:=by
 have:=List.length_filter_le (fun i=>(bD bs i).a==v||(bD bs i).b==v) (List.range m)
 simpa[gW]using this
def l5 (cnt:Nat) (bs:List PB):Prop:=∀e,e<bs.length->(bD bs e).a<cnt/\(bD bs e).b<cnt/\(bD bs e).a≠(bD bs e).b
theorem nq {cnt:Nat} {bs:List PB} (h:l5 cnt bs) {e v:Nat} (he:e<bs.length):bm bs e v<cnt:=by
 have:=h e he;unfold bm;split;exact this.2.1;exact this.1
theorem GJ {cnt:Nat} {bs:List PB} (h:l5 cnt bs) {e v:Nat} (he:e<bs.length) (hi:BP bs e v):bm bs e v≠v:=by
 have h1:=(h e he).2.2
 unfold bm
 split
 ·rename_i ha;rw[<-ha];exact fun h=>h1 h.symm
 ·rename_i ha;rcases hi with hi|hi
  ·exact absurd hi ha
  ·rw[<-hi];exact h1
theorem vH {bs:List PB} {e v:Nat}:BP bs e (bm bs e v):=by
 unfold bm BP;split
 ·exact .inr rfl
 ·exact .inl rfl
theorem nr {cnt:Nat} {bs:List PB} (h:l5 cnt bs) {e v:Nat} (he:e<bs.length) (hi:BP bs e v):bm bs e (bm bs e v)=v:=by
 have h1:=(h e he).2.2
 unfold bm
 by_cases ha:(bD bs e).a=v
 ·rw[if_pos ha,if_neg h1];exact ha
 ·rw[if_neg ha,if_pos rfl]
  rcases hi with hi|hi
  ·exact absurd hi ha
  ·exact hi
structure vV (cnt:Nat) (bs:List PB) (f:Nat->Int) (y:Nat) (out:Nat->Int):Prop where
 lo:∀v,v<cnt->-1<=out v/\out v<=cnt
 first:out y=0
 zero:∀v,v<cnt->out v=0->v=y
 down:∀v,v<cnt->0<out v->∃e,e<bs.length/\BP bs e v/\0<eW bs f e v/\out (bm bs e v)=out v-1
 shut:∀e v,e<bs.length->BP bs e v->0<=out (bm bs e v)->0<eW bs f e v->0<=out v
structure xr (cnt:Nat) (bs:List PB) (f:Nat->Int) (y:Nat) (out:Nat->Int) (Q:List Nat) (i:Nat):Prop where
 nd:Q.Nodup
 lt:∀x∈Q,x<cnt
 iff:∀v,v<cnt->(0<=out v↔v∈Q)
 lo:∀v,v<cnt->-1<=out v
 first:out y=0
 up:∀j (h:j<Q.length),out Q[j]<=j
 zero:∀v,v<cnt->out v=0->v=y
 down:∀v,v<cnt->0<out v->∃e,e<bs.length/\BP bs e v/\0<eW bs f e v/\out (bm bs e v)=out v-1
 shut:∀j (h:j<Q.length),j<i->∀e,e<bs.length->BP bs e Q[j]->0<eW bs f e (bm bs e Q[j])->0<=out (bm bs e Q[j])
section
variable {cnt:Nat} {bs:List PB} {f:Nat->Int} {y:Nat} {out:Nat->Int} {Q:List Nat} {i:Nat}
theorem xr.start (hy:y<cnt):xr cnt bs f y (fun v=>if v=y then 0 else -1) [y] 0 where
 nd:=by simp
 lt:=fun x hx=>by rw[List.mem_singleton.1 hx];exact hy
 iff:=fun v _=>by
  by_cases h:v=y<;>simp[h]
 lo:=fun v _=>by split<;>omega
 first:=if_pos rfl
 up:=fun j h=>by
  have:j=0:=by simp at h;omega
  subst this;simp
 zero:=fun v _ h=>by
  by_cases hv:v=y
  ·exact hv
  ·rw[if_neg hv]at h;omega
 down:=fun v _ h=>by
  by_cases hv:v=y
  ·rw[if_pos hv]at h;omega
  ·rw[if_neg hv]at h;omega
 shut:=fun j h hj=>by omega
theorem xr.len (h:xr cnt bs f y out Q i):Q.length<=cnt:=nk cnt Q h.nd h.lt
theorem xr.visit (h:xr cnt bs f y out Q i) (ok:l5 cnt bs) (hi:i<Q.length) {e:Nat} (he:e<bs.length) (nY:BP bs e Q[i]) (jr:out (bm bs e Q[i])<0) (fb:0<eW bs f e (bm bs e Q[i])):
  xr cnt bs f y (fun v=>if v=bm bs e Q[i]then out Q[i]+1 else out v) (Q++[bm bs e Q[i]]) i:=by
 have J3:0<=out Q[i]:=(h.iff _ (h.lt _ (List.getElem_mem hi))).2 (List.getElem_mem hi)
 have hq:=nq ok (v:=Q[i]) he
 have gF:=GJ ok he nY
 have Ix:=nr ok he nY
 have QE:bm bs e Q[i]∉Q:=fun hm=>by have:=(h.iff _ hq).2 hm;omega
 have wK:=h.up i hi
 generalize hw:bm bs e Q[i]=w at *
 have s5:∀v,0<=out v->(if v=w then out Q[i]+1 else out v)=out v:=fun v hv=>by
  rw[if_neg];rintro rfl;omega
 have mono:∀v,0<=out v->0<=(if v=w then out Q[i]+1 else out v):=fun v hv=>by rw[s5 v hv];exact hv
 refine⟨?_,?_,?_,?_,?_,?_,?_,?_,?_⟩
 ·rw[List.nodup_append]
  exact⟨h.nd,by simp,fun a ha b hb=>by rw[List.mem_singleton.1 hb];rintro rfl;exact QE ha⟩
 ·intro x hx
  rcases List.mem_append.1 hx with hx|hx
  ·exact h.lt x hx
  ·rw[List.mem_singleton.1 hx];exact hq
 ·intro v hv
  by_cases ES:v=w
  ·subst ES;simp;omega
  ·rw[if_neg ES,h.iff v hv];simp[ES]
 ·intro v hv
  by_cases ES:v=w
  ·rw[if_pos ES];omega
  ·rw[if_neg ES];exact h.lo v hv
 ·rw[s5 y (by rw[h.first];exact Int.le_refl _)];exact h.first
 ·intro j hj
  by_cases gq:j<Q.length
  ·rw[List.getElem_append_left gq,s5 _ ((h.iff _ (h.lt _ (List.getElem_mem gq))).2 (List.getElem_mem gq))]
   exact h.up j gq
  ·have Ir:j=Q.length:=by simp at hj;omega
   subst Ir
   simp
   omega
 ·intro v hv h0
  by_cases ES:v=w
  ·rw[if_pos ES]at h0;omega
  ·rw[if_neg ES]at h0;exact h.zero v hv h0
 ·intro v hv h0
  by_cases ES:v=w
  ·subst ES
   rw[if_pos rfl]
   refine⟨e,he,by rw[<-hw];exact vH,fb,?_⟩
   rw[Ix,s5 _ J3];omega
  ·rw[if_neg ES]at h0 ⊢
   obtain⟨e',h1,h2,h3,h4⟩:=h.down v hv h0
   exact⟨e',h1,h2,h3,by rw[s5 _ ab];exact h4⟩
 ·intro j hj lq e' Ik JR hr
  have gq:j<Q.length:=ab
  rw[List.getElem_append_left gq]at JR hr ⊢
  exact mono _ (h.shut j gq lq e' Ik JR hr)
theorem xr.next (h:xr cnt bs f y out Q i) (hi:i<Q.length) (hs:∀e∈gW bs bs.length Q[i],0<eW bs f e (bm bs e Q[i])->0<=out (bm bs e Q[i])):xr cnt bs f y out Q (i+1):=
 ⟨h.nd,h.lt,h.iff,h.lo,h.first,h.up,h.zero,h.down,fun j hj lq e he nY hr=>by
  by_cases Ir:j=i
  ·subst Ir;exact hs e (pB.2 ⟨he,nY⟩) hr
  ·exact h.shut j hj ab e he nY hr⟩
theorem xr.done (h:xr cnt bs f y out Q i) (ok:l5 cnt bs) (hi:Q.length<=i):vV cnt bs f y out where
 lo:=fun v hv=>⟨h.lo v hv,by
  by_cases h0:0<=out v
  ·obtain⟨j,hj,rfl⟩:=List.getElem_of_mem ((h.iff v hv).1 h0)
   have:=h.up j hj
   have:=h.len
   omega
  ·omega⟩
 first:=h.first
 zero:=h.zero
 down:=h.down
 shut:=fun e v he nY h0 hr=>by
  obtain⟨j,hj,Mz⟩:=List.getElem_of_mem ((h.iff _ (nq ok he)).1 h0)
  have h2:=h.shut j hj ab e he (by rw[Mz];exact vH)
  rw[Mz,nr ok he nY]at h2
  exact h2 hr
end
end Go.Proofs.YtihgaadadaekmaaGreatDoor.V

namespace Go.Proofs.YtihgaadadaekmaaGreatDoor.V
open Go.RowKit
attribute [local irreducible] dP wpOps gN Call
attribute [local go_sem] aI fI eE fW fV cv upd cq K.av cL AV.cells AV.cell rowOf rowsOf part ld rowAt bK bY dH eh ij bL da eA fZ eX dr eo cY cX dR dS bR bf cQ bQ cT cR ej ep ek cP bU cZ ei bP aM cV cz ig br cI bS aZ dD bp dJ AV.undef bB bH dX ef dO ea cF ez eC cu eu er cU cW List.getD_cons_zero List.getD_cons_succ List.getD_nil List.all_cons List.all_nil Bool.and_true Bool.true_and Bool.and_self Bool.not_true Bool.not_false Option.map_some Option.map_none Option.bind_some Option.bind_none List.length_cons List.length_nil List.take_succ_cons List.take_zero List.take_nil List.drop_succ_cons List.drop_zero List.drop_nil List.head?_cons List.map_cons List.map_nil List.getElem?_cons_zero List.getElem?_cons_succ List.cons_append List.nil_append List.append_nil List.length_map List.set_cons_zero List.set_cons_succ Nat.reduceMul eq_self Int.toNat_natCast Int.natCast_nonneg and_self true_and and_true decide_true decide_false Bool.false_eq_true Nat.zero_add Nat.add_zero List.contains_cons List.contains_nil Bool.or_false Bool.false_or beq_self_eq_true Nat.reduceBEq ne_eq not_true_eq_false not_false_eq_true Id.mk.injEq false_and and_false Nat.reduceLT Int.reduceLE Int.reduceLT Int.reduceToNat Int.reduceNeg Int.reduceAdd Nat.le_refl List.length_append beq_true beq_false Bool.not_eq_eq_eq_not or_false false_or dz ad aj aH bx cl aQ bj aW bh cN bz
def lX (P:Program) (f:Nat) (args:List AV) (R:AV->Prop):Prop:=∀n:Nat,Call P f args ⟨fun _=>none,n⟩ fun r0 σ'=>∃r',fa σ'.get 6 r0=some r'/\R r'
theorem Di {P:Program} {f:Nat} {args eI:List AV} {g:Rows} {n:Nat} {R:AV->Prop} (hv:bW (dz g) 6 args=some eI) (h:Sound P f eI ⟨fun _=>none,n⟩ fun r0 σ'=>∃r',fa σ'.get 6 r0=some r'/\R r'):Sound P f args ⟨g,n⟩ fun r σ'=>R r/\σ'=⟨g,n⟩:=by
 intro hs D ι w vs S U A
 refine(uF (g0:=g) (K:=R) ⟨eI,hv,h⟩ (fun _ _ h=>h) S U A).mono ?_
 rintro e w' ⟨r,D',u,rfl,hR,T,S',hr⟩
 exact⟨r,g,n,D',ι,u,rfl,⟨hR,rfl⟩,T,S',U,Nat.le_refl _,hr⟩
theorem lX.x {P:Program} (hm:P.follows .mixedOrders=true) {f:Nat} {args eI:List AV} {R:AV->Prop} (h:lX P f eI R) {σ:aw} (hv:bW (dz σ.get) 6 args=some eI):Call P f args σ fun r σ'=>R r/\σ'=σ:=
 gT (Di hv (gu hm (h σ.next)))
theorem lX.body {P:Program} {f:Nat} {args:List AV} {R:AV->Prop} {nt na:Nat} {body:VC} {res:List nU} (hf:lE P f=some ⟨nt,na,body,res⟩) (ha:na=args.length) (h:(∀a∈args,dY a)->∀n:Nat,dP (Call P) body (kQ res fun r0 σ'=>∃r',fa σ'.get 6 r0=some r'/\R r') (cq args) ⟨fun _=>none,n⟩):lX P f args R:=fun n=>kW hf ha fun hl=>h hl n
def dw (f:Nat->Int) (n:Nat):List (List AV):=(List.range n).map fun i=>az (f i)
theorem dk (f:Nat->Int) (n:Nat):(dw f n).length=n:=by simp[dw]
theorem du {f:Nat->Int} {n i:Nat} (h:i<n):(dw f n)[i]? =some (az (f i)):=by simp[dw,h]
theorem kc {f g:Nat->Int} {n k:Nat} {v:Int} (hk:k<n) (hv:g k=v) (h:∀i,i<n->i≠k->g i=f i):(dw f n).set k (az v)=dw g n:=by
 refine List.ext_getElem? fun i=>?_
 rw[List.getElem?_set]
 by_cases hi:k=i
 ·subst hi
  rw[if_pos rfl,dk,if_pos hk,du hk,hv]
 ·rw[if_neg hi]
  by_cases fy:i<n
  ·rw[du fy,du fy,h i fy (fun h=>hi h.symm)]
  ·rw[List.getElem?_eq_none (by rw[dk];omega),List.getElem?_eq_none (by rw[dk];omega)]
theorem Es (f:Nat->Int) (n:Nat):dw f (n+1)=dw f n++[az (f n)]:=by simp[dw,List.range_succ]
theorem fzI (g:Rows) (n:Nat) (a:Int):bW g (n+1) (az a)=some (az a):=by simp[az,ad,aj,aH]
theorem PR (g:Rows) (n:Nat) (a:Int):dv g (n+1) (az a)=some (az a):=by simp[az,bd,bE,dV]
theorem G9 {g:Rows} {f:Nat->Int} {n m:Nat}:fq g (m+1) (dw f n)=some (dw f n):=by
 have:dw f n=((List.range n).map f).map az:=by simp[dw]
 rw[this];exact q9 fun x=>PR g m x
theorem xj {g:Rows} {f:Nat->Int} {n m:Nat}:dq g (m+1) (dw f n)=some (dw f n):=by
 have:dw f n=((List.range n).map f).map az:=by simp[dw]
 rw[this];exact lH fun x=>fzI g m x
def LS (l:List Nat):AV:=if l=[]then .bC else .sl (l.map eN)
def ow (cnt:Nat) (bs:List PB) (m:Nat):List (List AV):=(List.range cnt).map fun v=>[LS (gW bs m v)]
theorem zR {cnt:Nat} {bs:List PB} {m v:Nat} (h:v<cnt):(ow cnt bs m)[v]? =some [LS (gW bs m v)]:=by simp[ow,h]
def e9 (cnt:Nat) (bs:List PB) (f:Nat->Int):List AV:=[.int .i64 cnt,.sl (bs.map au),.sl (ow cnt bs bs.length),.sl (dw f bs.length)]
theorem rX {bs:List PB} {e:Nat} (h:e<bs.length):(bs.map au)[e]? =some (au (bD bs e)):=getD_map au h
def Small (bs:List PB) (f:Nat->Int):Prop:=∀e,e<bs.length->(0<=(bD bs e).s/\(bD bs e).s<=4)/\-4<=f e/\f e<=4
theorem GV (cnt:Nat) (bs:List PB) (f:Nat->Int) (hs:Small bs f) (e v:Nat) (he:e<bs.length):ai Tryz.prog 182 [.cK (e9 cnt bs f),.int .i64 v,.int .i64 e] (.ib [.int .i64 (eW bs f e v),.int .i64 (bm bs e v)]):=by
 refine ai.body dN rfl fun hl n0=>?_
 clear hl
 have hb:=rX he
 have hf:=du (f:=f) he
 obtain⟨⟨s0,s1⟩,s2,s3⟩:=hs e he
 have w1:IntKind.i64.wrap ((bD bs e).s-f e)=(bD bs e).s-f e:=aY ab
 have w2:IntKind.i64.wrap ((bD bs e).s+f e)=(bD bs e).s+f e:=aY ab
 unfold eW bm
 generalize bD bs e=b at *
 by_cases h:b.a=v
 ·have hd:decide ((b.a:Int)=(v:Int))=true:=decide_eq_true (by rw[h])
  (try((repeat(revert hN;revert N;apply Pn.out));refine wk (tw @e9.eq_1 (tw @hb (tw @hf (tw @au.eq_1 (tw @az.eq_1 (tw @hd (tw @w1 @w2))))))) ?_;(repeat(refine Pn.mk ?_;intro N hN))))
  refine iJ (.inl rfl) (by simp only[go_sem, ↓reduceIte,Nat.reduceEqDiff,Nat.reduceAdd,Nat.reduceSub,Nat.reduceLeDiff,reduceCtorEq];rfl) (by simp only[go_sem, ↓reduceIte,Nat.reduceEqDiff,Nat.reduceAdd,Nat.reduceSub,Nat.reduceLeDiff,reduceCtorEq];rfl) ?_
  simp only[eJ,bd,bE,dV,Option.map_some,if_pos h]
 ·have hd:decide ((b.a:Int)=(v:Int))=false:=decide_eq_false fun hc=>h ab
  (try((repeat(revert hN;revert N;apply Pn.out));refine wk (tw @e9.eq_1 (tw @hb (tw @hf (tw @au.eq_1 (tw @az.eq_1 (tw @hd (tw @w1 @w2))))))) ?_;(repeat(refine Pn.mk ?_;intro N hN))))
  refine iJ (.inl rfl) (by simp only[go_sem, ↓reduceIte,Nat.reduceEqDiff,Nat.reduceAdd,Nat.reduceSub,Nat.reduceLeDiff,reduceCtorEq];rfl) (by simp only[go_sem, ↓reduceIte,Nat.reduceEqDiff,Nat.reduceAdd,Nat.reduceSub,Nat.reduceLeDiff,reduceCtorEq];rfl) ?_
  simp only[eJ,bd,bE,dV,Option.map_some,if_neg h]
theorem CA (cnt:Nat) (hn:cnt<=1048576) (bs:List PB) (ok:l5 cnt bs) (oY:bs.length<=1048576) (f:Nat->Int) (hs:Small bs f) (y:Nat) (hy:y<cnt):
  lX Tryz.prog 167 [.cK (e9 cnt bs f),.int .i64 y] fun r=>∃out,r=.sl (dw out cnt)/\vV cnt bs f y out:=by
 refine lX.body dN rfl fun hl n0=>?_
 clear hl
 (try((repeat(revert hN;revert N;apply Pn.out));refine wk @e9.eq_1 ?_;(repeat(refine Pn.mk ?_;intro N hN))))
 refine aL (fun n env st=>∃k:Nat,n=(cnt)-k/\k<=(cnt)/\env 6=.int .i64 (k:Int)/\(∃o:Id,env 5=.own o 0 k/\st.get o=some ⟨true,1,dw (fun _=>-1) k⟩/\o.bV<st.next)) (cnt) ⟨0,ab,ab,sl @e9.eq_1,⟨⟨167001000,n0+1⟩,by(simp only[go_sem, ↓reduceIte,Nat.reduceEqDiff,Nat.reduceAdd,Nat.reduceSub,Nat.reduceLeDiff,reduceCtorEq])<;>rfl,by(simp only[go_sem, ↓reduceIte,Nat.reduceEqDiff,Nat.reduceAdd,Nat.reduceSub,Nat.reduceLeDiff,reduceCtorEq])<;>rfl,bt⟩⟩ ?_
 rintro n_a env_a st_a ⟨k,rfl,ale,a6,lx⟩ dC
 have a0:=dC 0 (by kernel_rfl);have a1:=dC 1 (by kernel_rfl)
 simp only[go_sem, ↓reduceIte,Nat.reduceEqDiff,Nat.reduceAdd,Nat.reduceSub,Nat.reduceLeDiff,reduceCtorEq,e9]at a0 a1
 clear dC
 obtain⟨o,a5,ag,rS⟩:=lx
 have tl:=dk (fun _=>-1) k
 have jT:=eD rS
 by_cases hk:(k:Int)<(cnt:Int)
 ·have bZ:∀{e:Env} {gg:Rows} {nx:Nat},(e 6=.int .i64 (IntKind.i64.wrap ((k:Int)+1)))->(∃o:Id,e 5=.own o 0 (k+1)/\gg o=some ⟨true,1,dw (fun _=>-1) (k+1)⟩/\o.bV<nx)->∃m0,m0<(cnt)-k/\∃k:Nat,m0=(cnt)-k/\k<=(cnt)/\e 6=.int .i64 (k:Int)/\(∃o:Id,e 5=.own o 0 k/\gg o=some ⟨true,1,dw (fun _=>-1) k⟩/\o.bV<nx):=fun x1 x2=>⟨_,ab,k+1,rfl,ab,(by rw[x1,ax ab]),x2⟩
  have e1:k+1<=16777216:=ab
  have qt:dw (fun _=>-1) k++[[.int .i64 (-1)]]=dw (fun _=>-1) (k+1):=(Es _ _).symm
  (try((repeat(revert hN;revert N;apply Pn.out));refine wk (tw @a6 (tw @a0 (tw @a1 (tw @a5 (tw @ag (tw @jT (tw @hk (tw @tl (tw @e1 (tw @qt @e9.eq_1)))))))))) ?_;(repeat(refine Pn.mk ?_;intro N hN))))
  exact bZ (sd (tw @a6 (tw @a0 (tw @a1 @e9.eq_1)))) (⟨⟨167005002,st_a.next+1⟩,sd @Nat.zero_add,sd @qt,bt⟩)
 have ki:k=cnt:=ab
 subst ki
 have Pq:(y:Int)<(k:Int):=ab
 have hym:=du (f:=fun _=>-1) hy
 have yO:(dw (fun _=>-1) k).set y (az 0)=dw (fun v=>if v=y then 0 else -1) k:=kc hy (if_pos rfl) fun i _ hi=>if_neg hi
 rw[az]at yO hym
 (try((repeat(revert hN;revert N;apply Pn.out));refine wk (tw @a6 (tw @a0 (tw @a1 (tw @a5 (tw @ag (tw @jT (tw @hk (tw @tl (tw @Pq (tw @hym (tw @yO @e9.eq_1))))))))))) ?_;(repeat(refine Pn.mk ?_;intro N hN))))
 refine aL (fun m env st=>∃(i:Nat) (out:Nat->Int) (Q:List Nat) (p:Id),m=k-i/\env 8=.int .i64 (i:Int)/\env 7=.own p 0 Q.length/\st.get p=some ⟨true,1,Q.map eN⟩/\st.get o=some ⟨true,1,dw out k⟩/\o.bV<p.bV/\p.bV<st.next/\xr k bs f y out Q i/\i<=Q.length) k ⟨0,_,[y],⟨167007001,st_a.next+1+1⟩,ab,by(simp only[go_sem, ↓reduceIte,Nat.reduceEqDiff,Nat.reduceAdd,Nat.reduceSub,Nat.reduceLeDiff,reduceCtorEq])<;>rfl,by(simp only[go_sem, ↓reduceIte,Nat.reduceEqDiff,Nat.reduceAdd,Nat.reduceSub,Nat.reduceLeDiff,reduceCtorEq])<;>rfl,by(simp only[go_sem, ↓reduceIte,Nat.reduceEqDiff,Nat.reduceAdd,Nat.reduceSub,Nat.reduceLeDiff,reduceCtorEq])<;>rfl,sd @jT,bt,bt,xr.start hy,by simp⟩ ?_
 rintro n env_b st_b ⟨i,out,Q,p,rfl,b8,b7,bgp,bgo,dB,hpn,hB,hiq⟩ bfr
 have b0:=bfr 0 (by kernel_rfl)
 have b5:=bfr 5 (by kernel_rfl)
 simp only[go_sem, ↓reduceIte,Nat.reduceEqDiff,Nat.reduceAdd,Nat.reduceSub,Nat.reduceLeDiff,reduceCtorEq,a6,a0,a1,a5,e9]at b0 b5
 clear bfr
 have hql:=hB.len
 have Pu:=dk out k
 have hqm:(Q.map eN).length=Q.length:=by simp
 have xF:=eD hpn
 have n8:=eD (i:=o) (n:=st_b.next) ab
 by_cases hi:(i:Int)<(Q.length:Int)
 ·have fy:i<Q.length:=ab
  have nH:(Q.map eN)[i]? =some (eN Q[i]):=by simp[fy]
  have J3:=hB.lt _ (List.getElem_mem fy)
  obtain⟨vt,Lr⟩:∃vt,vt=Q[i]:=⟨_,rfl⟩
  rw[<-Lr]at nH J3
  have hA:=zR (cnt:=k) (bs:=bs) (m:=bs.length) J3
  have EP:(vt:Int)<(k:Int):=ab
  have oj:=pA bs bs.length vt
  have hme:∀x,x<(gW bs bs.length vt).length->(gW bs bs.length vt).getD x 0<bs.length/\BP bs ((gW bs bs.length vt).getD x 0) vt:=fun x hx=>by
   rw[List.getD_eq_getElem?_getD,List.getElem?_eq_getElem hx]
   exact pB.1 (List.getElem_mem hx)
  have NW:∀e∈gW bs bs.length vt,∃x,x<(gW bs bs.length vt).length/\(gW bs bs.length vt).getD x 0=e:=fun e he=>by
   obtain⟨x,hx,rfl⟩:=List.getElem_of_mem he
   exact⟨x,hx,by rw[List.getD_eq_getElem?_getD,List.getElem?_eq_getElem hx];rfl⟩
  generalize hIn:gW bs bs.length vt=I at *
  unfold LS at hA
  by_cases P8:I=[]
  ·rw[if_pos P8]at hA
   have hI1:I.length=0:=by rw[P8];rfl
   (try((repeat(revert hN;revert N;apply Pn.out));refine wk (tw @b0 (tw @b5 (tw @b7 (tw @b8 (tw @bgp (tw @hi (tw @nH (tw @hqm (tw @eN.eq_1 @e9.eq_1))))))))) ?_;(repeat(refine Pn.mk ?_;intro N hN))))
   refine aL (fun n env st=>∃x:Nat,n=(I.length)-x/\x<=(I.length)/\env 10=.int .i64 (x:Int)/\(∃(gR:Nat->Int) (Q':List Nat) (p':Id),env 7=.own p' 0 Q'.length/\st.get p'=some ⟨true,1,Q'.map eN⟩/\st.get o=some ⟨true,1,dw gR k⟩/\o.bV<p'.bV/\p'.bV<st.next/\xr k bs f y gR Q' i/\(∃h:i<Q'.length,Q'[i]=vt)/\(∀z,z<x->0<eW bs f (I.getD z 0) (bm bs (I.getD z 0) vt)->0<=gR (bm bs (I.getD z 0) vt)))) (I.length) ⟨0,ab,ab,sl (tw @b0 (tw @b5 (tw @b8 @e9.eq_1))),⟨out,Q,p,sd @b7,sd @bgp,sd @bgo,dB,bt,hB,⟨fy,Lr.symm⟩,fun z hz=>ab⟩⟩ ?_
   rintro n_c env_c st_c ⟨x,rfl,cle,iM,cI0⟩ cfr
   have c0:=cfr 0 (by kernel_rfl);have c5:=cfr 5 (by kernel_rfl);have c8:=cfr 8 (by kernel_rfl);have c9:=cfr 9 (by kernel_rfl)
   simp only[go_sem, ↓reduceIte,Nat.reduceEqDiff,Nat.reduceAdd,Nat.reduceSub,Nat.reduceLeDiff,reduceCtorEq,b0,b5,b8,e9]at c0 c5 c8 c9
   clear cfr
   obtain⟨gR,Q',p',c7,Fs,uQ,AJ,Li,dn,⟨uk,oK⟩,HI⟩:=cI0
   have QN:=dn.len
   have LY:=dk gR k
   have Lk:(Q'.map eN).length=Q'.length:=by simp
   have wM:=eD Li
   have k8:=eD (i:=o) (n:=st_c.next) ab
   have x1:=dj AJ
   have hx:¬(x:Int)<((0:Nat):Int):=ab
   have hxe:x=I.length:=ab
   have hw:IntKind.i64.wrap ((i:Int)+1)=((i+1:Nat):Int):=ax ab
   (try((repeat(revert hN;revert N;apply Pn.out));refine wk (tw @iM (tw @c0 (tw @c5 (tw @c8 (tw @c9 (tw @c7 (tw @hx (tw @hA (tw @EP @e9.eq_1))))))))) ?_;(repeat(refine Pn.mk ?_;intro N hN))))
   refine⟨_,?_,i+1,gR,Q',p',rfl,sd (tw @iM (tw @c0 (tw @c5 (tw @c8 (tw @c9 @hw))))),sd @c7,sd @Fs,sd @uQ,AJ,bt,dn.next uk fun e he hr=>?_,ab⟩
   ·omega
   ·rw[oK,hIn]at he
    rw[oK]at hr ⊢
    obtain⟨z,hz,rfl⟩:=NW e he
    exact HI z ab hr
  ·rw[if_neg P8]at hA
   have oH:(I.map eN).length=I.length:=by simp
   (try((repeat(revert hN;revert N;apply Pn.out));refine wk (tw @b0 (tw @b5 (tw @b7 (tw @b8 (tw @bgp (tw @hi (tw @nH (tw @hqm (tw @eN.eq_1 @e9.eq_1))))))))) ?_;(repeat(refine Pn.mk ?_;intro N hN))))
   refine aL (fun n env st=>∃x:Nat,n=(I.length)-x/\x<=(I.length)/\env 10=.int .i64 (x:Int)/\(∃(gR:Nat->Int) (Q':List Nat) (p':Id),env 7=.own p' 0 Q'.length/\st.get p'=some ⟨true,1,Q'.map eN⟩/\st.get o=some ⟨true,1,dw gR k⟩/\o.bV<p'.bV/\p'.bV<st.next/\xr k bs f y gR Q' i/\(∃h:i<Q'.length,Q'[i]=vt)/\(∀z,z<x->0<eW bs f (I.getD z 0) (bm bs (I.getD z 0) vt)->0<=gR (bm bs (I.getD z 0) vt)))) (I.length) ⟨0,ab,ab,sl (tw @b0 (tw @b5 (tw @b8 @e9.eq_1))),⟨out,Q,p,sd @b7,sd @bgp,sd @bgo,dB,bt,hB,⟨fy,Lr.symm⟩,fun z hz=>ab⟩⟩ ?_
   rintro n_c env_c st_c ⟨x,rfl,cle,iM,cI0⟩ cfr
   have c0:=cfr 0 (by kernel_rfl);have c5:=cfr 5 (by kernel_rfl);have c8:=cfr 8 (by kernel_rfl);have c9:=cfr 9 (by kernel_rfl)
   simp only[go_sem, ↓reduceIte,Nat.reduceEqDiff,Nat.reduceAdd,Nat.reduceSub,Nat.reduceLeDiff,reduceCtorEq,b0,b5,b8,e9]at c0 c5 c8 c9
   clear cfr
   obtain⟨gR,Q',p',c7,Fs,uQ,AJ,Li,dn,⟨uk,oK⟩,HI⟩:=cI0
   have QN:=dn.len
   have LY:=dk gR k
   have Lk:(Q'.map eN).length=Q'.length:=by simp
   have wM:=eD Li
   have k8:=eD (i:=o) (n:=st_c.next) ab
   have x1:=dj AJ
   by_cases hx:(x:Int)<(I.length:Int)
   ·have gp:∀{e:Env} {gg:Rows} {nx:Nat},(e 10=.int .i64 (IntKind.i64.wrap ((x:Int)+1)))->(∃(gR:Nat->Int) (Q':List Nat) (p':Id),e 7=.own p' 0 Q'.length/\gg p'=some ⟨true,1,Q'.map eN⟩/\gg o=some ⟨true,1,dw gR k⟩/\o.bV<p'.bV/\p'.bV<nx/\xr k bs f y gR Q' i/\(∃h:i<Q'.length,Q'[i]=vt)/\(∀z,z<(x+1)->0<eW bs f (I.getD z 0) (bm bs (I.getD z 0) vt)->0<=gR (bm bs (I.getD z 0) vt)))->∃m0,m0<(I.length)-x/\∃x:Nat,m0=(I.length)-x/\x<=(I.length)/\e 10=.int .i64 (x:Int)/\(∃(gR:Nat->Int) (Q':List Nat) (p':Id),e 7=.own p' 0 Q'.length/\gg p'=some ⟨true,1,Q'.map eN⟩/\gg o=some ⟨true,1,dw gR k⟩/\o.bV<p'.bV/\p'.bV<nx/\xr k bs f y gR Q' i/\(∃h:i<Q'.length,Q'[i]=vt)/\(∀z,z<x->0<eW bs f (I.getD z 0) (bm bs (I.getD z 0) vt)->0<=gR (bm bs (I.getD z 0) vt))):=fun x1 x2=>⟨_,ab,x+1,rfl,ab,(by rw[x1,ax ab]),x2⟩
    have MN:x<I.length:=ab
    have KP:(I.map eN)[x]? =some (eN (I.getD x 0)):=getD_map eN MN
    obtain⟨he,nY⟩:=hme x MN
    obtain⟨e,O7⟩:∃e,e=I.getD x 0:=⟨_,rfl⟩
    rw[<-O7]at KP he nY
    have gP:=rX he
    have hq:=nq ok (v:=vt) he
    have Ix:=nr ok he nY
    have Lm:=GV k bs f hs e (bm bs e vt) he
    have NH:=ok e he
    have qu:IntKind.i64.wrap (((bD bs e).a:Int)+((bD bs e).b:Int))=((bD bs e).a:Int)+((bD bs e).b:Int):=aY ab
    have AO:IntKind.i64.wrap (((bD bs e).a:Int)+((bD bs e).b:Int)-(vt:Int))=(bm bs e vt:Int):=by
     rw[aY ab]
     unfold bm
     rcases nY with h1|h1
     ·rw[if_pos h1];omega
     ·rw[if_neg fun h2=>NH.2.2 (h2.trans h1.symm)];omega
    have MG:(bm bs e vt:Int)<(k:Int):=ab
    have K5:=du (f:=gR) hq
    have Ip:=du (f:=gR) J3
    rw[e9]at Lm
    have wK:=dn.up i uk
    rw[oK]at wK
    have jz:=dn.lo vt J3
    have Oa:IntKind.i64.wrap (gR vt+1)=gR vt+1:=aY ab
    rw[az]at K5 Ip
    generalize yG:bD bs e=b at *
    by_cases jr:gR (bm bs e vt)<0
    ·by_cases fb:0<eW bs f e (bm bs e vt)
     ·have hV:=dn.visit ok uk (e:=e) he (by rw[oK];exact nY) (by rw[oK];exact jr) (by rw[oK];exact fb)
      rw[oK]at hV
      have dK:(dw gR k).set (bm bs e vt) (az (gR vt+1))=dw (fun v=>if v=bm bs e vt then gR vt+1 else gR v) k:=kc hq (if_pos rfl) fun v _ hv=>if_neg hv
      rw[az]at dK
      have e1:Q'.length+1<=16777216:=ab
      (repeat(first|((repeat(revert hN;revert N;apply Pn.out));refine wk (tw @iM (tw @c0 (tw @c5 (tw @c8 (tw @c9 (tw @c7 (tw @Fs (tw @uQ (tw @hx (tw @hA (tw @oH (tw @KP (tw @EP (tw @gP (tw @qu (tw @AO (tw @MG (tw @K5 (tw @Ip (tw @jr (tw @fb (tw @Oa (tw @dK (tw @Lk (tw @LY (tw @wM (tw @k8 (tw @x1 (tw @e1 (tw @eN.eq_1 (tw @au.eq_1 @e9.eq_1))))))))))))))))))))))))))))))) ?_;(repeat(refine Pn.mk ?_;intro N hN)))|((try apply Or.inl);refine⟨_,ai.x (Lm) (sd (tw @iM (tw @c0 (tw @c5 (tw @c8 (tw @c9 (tw @c7 (tw @Fs (tw @uQ (tw @hx (tw @hA (tw @oH (tw @KP (tw @EP (tw @gP (tw @qu (tw @AO (tw @MG (tw @K5 (tw @Ip (tw @jr (tw @fb (tw @Oa (tw @dK (tw @Lk (tw @LY (tw @wM (tw @k8 (tw @x1 (tw @e1 (tw @eN.eq_1 (tw @au.eq_1 @e9.eq_1)))))))))))))))))))))))))))))))),?_⟩;refine hN _ _ ?_;clear hN N)))
      exact gp (sd (tw @iM (tw @c0 (tw @c5 (tw @c8 @c9))))) (⟨_,Q'++[bm bs e vt],⟨167020003,st_c.next+1+1+1+1+1+1⟩,by rw[List.length_append];simp only[go_sem, ↓reduceIte,Nat.reduceEqDiff,Nat.reduceAdd,Nat.reduceSub,Nat.reduceLeDiff,reduceCtorEq,List.length_cons,List.length_nil],by rw[List.map_append,List.map_cons,List.map_nil];simp only[go_sem, ↓reduceIte,Nat.reduceEqDiff,Nat.reduceAdd,Nat.reduceSub,Nat.reduceLeDiff,reduceCtorEq,eN],sd (tw @k8 @x1),bt,bt,hV,⟨by simp;omega,by rw[List.getElem_append_left uk];exact oK⟩,fun z hz hr=>by
       by_cases Og:z=x
       ·subst Og
        rw[<-O7,if_pos rfl]
        have:=(dn.iff vt J3).2 (by rw[<-oK];exact List.getElem_mem uk)
        omega
       ·have:=HI z ab hr
        split
        ·have:=(dn.iff vt J3).2 (by rw[<-oK];exact List.getElem_mem uk)
         omega
        ·exact this⟩)
     ·(repeat(first|((repeat(revert hN;revert N;apply Pn.out));refine wk (tw @iM (tw @c0 (tw @c5 (tw @c8 (tw @c9 (tw @c7 (tw @Fs (tw @uQ (tw @hx (tw @hA (tw @oH (tw @KP (tw @EP (tw @gP (tw @qu (tw @AO (tw @MG (tw @K5 (tw @jr (tw @fb (tw @LY (tw @wM (tw @k8 (tw @x1 (tw @eN.eq_1 (tw @au.eq_1 @e9.eq_1)))))))))))))))))))))))))) ?_;(repeat(refine Pn.mk ?_;intro N hN)))|((try apply Or.inl);refine⟨_,ai.x (Lm) (sd (tw @iM (tw @c0 (tw @c5 (tw @c8 (tw @c9 (tw @c7 (tw @Fs (tw @uQ (tw @hx (tw @hA (tw @oH (tw @KP (tw @EP (tw @gP (tw @qu (tw @AO (tw @MG (tw @K5 (tw @jr (tw @fb (tw @LY (tw @wM (tw @k8 (tw @x1 (tw @eN.eq_1 (tw @au.eq_1 @e9.eq_1))))))))))))))))))))))))))),?_⟩;refine hN _ _ ?_;clear hN N)))
      exact gp (sd (tw @iM (tw @c0 (tw @c5 (tw @c8 @c9))))) (⟨gR,Q',p',sd @c7,sd (tw @Fs @wM),sd (tw @uQ @k8),AJ,bt,dn,⟨uk,oK⟩,fun z hz hr=>by
       by_cases Og:z=x
       ·subst Og;rw[<-O7]at hr;exact absurd hr fb
       ·exact HI z ab hr⟩)
    ·(repeat(first|((repeat(revert hN;revert N;apply Pn.out));refine wk (tw @iM (tw @c0 (tw @c5 (tw @c8 (tw @c9 (tw @c7 (tw @Fs (tw @uQ (tw @hx (tw @hA (tw @oH (tw @KP (tw @EP (tw @gP (tw @qu (tw @AO (tw @MG (tw @K5 (tw @jr (tw @LY (tw @wM (tw @k8 (tw @x1 (tw @eN.eq_1 (tw @au.eq_1 @e9.eq_1))))))))))))))))))))))))) ?_;(repeat(refine Pn.mk ?_;intro N hN)))|((try apply Or.inl);refine⟨_,ai.x (Lm) (sd (tw @iM (tw @c0 (tw @c5 (tw @c8 (tw @c9 (tw @c7 (tw @Fs (tw @uQ (tw @hx (tw @hA (tw @oH (tw @KP (tw @EP (tw @gP (tw @qu (tw @AO (tw @MG (tw @K5 (tw @jr (tw @LY (tw @wM (tw @k8 (tw @x1 (tw @eN.eq_1 (tw @au.eq_1 @e9.eq_1)))))))))))))))))))))))))),?_⟩;refine hN _ _ ?_;clear hN N)))
     exact gp (sd (tw @iM (tw @c0 (tw @c5 (tw @c8 @c9))))) (⟨gR,Q',p',sd @c7,sd (tw @Fs @wM),sd (tw @uQ @k8),AJ,bt,dn,⟨uk,oK⟩,fun z hz hr=>by
      by_cases Og:z=x
      ·subst Og;rw[<-O7];omega
      ·exact HI z ab hr⟩)
   ·have hxe:x=I.length:=ab
    have hw:IntKind.i64.wrap ((i:Int)+1)=((i+1:Nat):Int):=ax ab
    (try((repeat(revert hN;revert N;apply Pn.out));refine wk (tw @iM (tw @c0 (tw @c5 (tw @c8 (tw @c9 (tw @c7 (tw @hx (tw @hA (tw @oH (tw @EP @e9.eq_1)))))))))) ?_;(repeat(refine Pn.mk ?_;intro N hN))))
    refine⟨_,?_,i+1,gR,Q',p',rfl,sd (tw @iM (tw @c0 (tw @c5 (tw @c8 (tw @c9 @hw))))),sd @c7,sd @Fs,sd @uQ,AJ,bt,dn.next uk fun e he hr=>?_,ab⟩
    ·omega
    ·rw[oK,hIn]at he
     rw[oK]at hr ⊢
     obtain⟨z,hz,rfl⟩:=NW e he
     exact HI z ab hr
 ·(try((repeat(revert hN;revert N;apply Pn.out));refine wk (tw @b0 (tw @b5 (tw @b7 (tw @b8 (tw @hi @e9.eq_1))))) ?_;(repeat(refine Pn.mk ?_;intro N hN))))
  have qq:fa st_b.get 6 (.own o 0 k)=some (.sl (dw out k)):=pk bgo (by rw[Pu];omega) (by rw[List.drop_zero,List.take_of_length_le (by rw[Pu];omega)];exact G9)
  exact⟨_,rfl,_,by simp only[go_sem, ↓reduceIte,Nat.reduceEqDiff,Nat.reduceAdd,Nat.reduceSub,Nat.reduceLeDiff,reduceCtorEq,dU];exact qq,out,rfl,hB.done ok ab⟩
end Go.Proofs.YtihgaadadaekmaaGreatDoor.V

namespace Go.Proofs.YtihgaadadaekmaaGreatDoor.V
open Go.RowKit
attribute [local irreducible] dP wpOps gN Call
attribute [local go_sem] aI fI eE fW fV cv upd cq K.av cL AV.cells AV.cell rowOf rowsOf part ld rowAt bK bY dH eh ij bL da eA fZ eX dr eo cY cX dR dS bR bf cQ bQ cT cR ej ep ek cP bU cZ ei bP aM cV cz ig br cI bS aZ dD bp dJ AV.undef bB bH dX ef dO ea cF ez eC cu eu er cU cW List.getD_cons_zero List.getD_cons_succ List.getD_nil List.all_cons List.all_nil Bool.and_true Bool.true_and Bool.and_self Bool.not_true Bool.not_false Option.map_some Option.map_none Option.bind_some Option.bind_none List.length_cons List.length_nil List.take_succ_cons List.take_zero List.take_nil List.drop_succ_cons List.drop_zero List.drop_nil List.head?_cons List.map_cons List.map_nil List.getElem?_cons_zero List.getElem?_cons_succ List.cons_append List.nil_append List.append_nil List.length_map List.set_cons_zero List.set_cons_succ eq_self Int.toNat_natCast Int.natCast_nonneg and_self true_and and_true decide_true decide_false Bool.false_eq_true Nat.zero_add Nat.add_zero List.contains_cons List.contains_nil Bool.or_false Bool.false_or beq_self_eq_true ne_eq not_true_eq_false not_false_eq_true Id.mk.injEq false_and and_false Nat.le_refl List.length_append beq_true beq_false Bool.not_eq_eq_eq_not or_false false_or dz ad aj aH bx cl aQ bj aW bh cN bz
def Mm:tT (List Nat):=fun g cs x ids=>(x=[]/\cs=[.bC]/\ids=[])∨∃id,cs=[.own id 0 x.length]/\0<x.length/\g id=some ⟨true,1,x.map eN⟩/\ids=[id]
theorem Kb:ou Mm 1 where
 frame:=fun h hf=>by
  rcases h with h|⟨id,h1,h0,h2,h3⟩
  ·exact .inl h
  ·subst h3;exact .inr ⟨id,h1,h0,(hf id (by simp)).trans h2,rfl⟩
 len:=fun h=>by rcases h with⟨_,h,_⟩|⟨id,h,_⟩<;>subst h<;>rfl
 cell:=fun h=>by rcases h with⟨_,h,_⟩|⟨id,h,_⟩<;>subst h<;>rfl
 live:=fun h i hi=>by
  rcases h with⟨_,_,h⟩|⟨id,h1,h0,h2,h3⟩
  ·subst h;cases hi
  ·subst h3
   have:i=id:=by simpa using hi
   subst this
   exact⟨_,h2,rfl,by simp[n9]⟩
 small:=by simp[n9]
theorem LB {g:Rows} {rows:List (List AV)} {xs:List (List Nat)} {ids:List Id} (n:Nat) (h:cD Mm g rows xs ids):dq (dz g) (n+2) rows=some (xs.map fun l=>[LS l]):=
 h.fz (fun {cs x ids} h=>by
  rcases h with⟨h0,h1,_⟩|⟨id,h1,h0,h2,_⟩
  ·subst h0 h1;rw[ad,aj,aQ];rfl
  ·have gF:x≠[]:=by rintro rfl;simp at h0
   subst h1
   rw[ad,aj,fA (e:=eN) (sz:=1) (by simp[dz,h2]) rfl fun a=>fzN _ n a]
   simp[LS,gF])
theorem cD.Ox {α:Type} {R:tT α} {sz:Nat} {g:Rows} {rows:List (List AV)} {xs:List α} {ids:List Id} (ok:ou R sz) (h:cD R g rows xs ids) (km:ids.Nodup) (k:Nat) (hk:k<xs.length):
  ∃cs ic,rows[k]? =some cs/\R g cs xs[k] ic/\(∀i∈ic,i∈ids)/\∀(g':Rows) og x' MP,R g' og x' MP->(∀i∈ids,i∉ic->g' i=g i)->MP.Nodup->(∀i∈MP,i∉ids)->∃AQ,cD R g' (rows.set k og) (xs.set k x') AQ/\AQ.Nodup/\∀i∈AQ,i∈MP∨i∈ids:=by
 obtain⟨r1,cs,r2,i1,ic,i2,rfl,rfl,rfl,h3,h4,h5⟩:=h.split k hk
 obtain⟨n1,n2,n3⟩:=List.nodup_append.1 km
 obtain⟨nc,n5,n4⟩:=List.nodup_append.1 n2
 refine⟨cs,ic,by simp,h4,fun i hi=>by simp[hi],fun g' og x' MP hR hf hn' jS=>⟨i1++(MP++i2),?_,?_,fun i hi=>?_⟩⟩
 ·have e:xs.set r1.length x'=xs.take r1.length++x'::xs.drop (r1.length+1):=by rw[List.set_eq_take_append_cons_drop,if_pos hk]
  have e2:(r1++cs::r2).set r1.length og=r1++og::r2:=by simp
  rw[e,e2]
  refine(h3.frame ok fun i hi=>hf i (by simp[hi]) fun hc=>n3 i hi i (by simp[hc]) rfl).app (.cons hR (h5.frame ok fun i hi=>hf i (by simp[hi]) fun hc=>n4 i hc i hi rfl))
 ·rw[List.nodup_append,List.nodup_append]
  refine⟨n1,⟨hn',n5,fun x hx y hy he=>?_⟩,fun x hx y hy he=>?_⟩
  ·subst he;exact jS x hx (by simp[hy])
  ·subst he
   rcases List.mem_append.1 hy with hy|hy
   ·exact jS x hy (by simp[hx])
   ·exact n3 x hx x (by simp[hy]) rfl
 ·rcases List.mem_append.1 hi with hi|hi
  ·exact .inr (by simp[hi])
  ·rcases List.mem_append.1 hi with hi|hi
   ·exact .inl hi
   ·exact .inr (by simp[hi])
def o8 (A:Id) (lo:Nat) (L:List (List Nat)) (g:Rows) (nx:Nat):Prop:=∃rows ids,g A=some ⟨true,1,rows⟩/\cD Mm g rows L ids/\ids.Nodup/\∀i∈ids,lo<i.bV/\i.bV<nx
def bc (cnt:Nat) (bs:List PB) (A F:Id):List AV:=[.int .i64 cnt,.sl (bs.map au),.own A 0 cnt,.own F 0 bs.length]
def kn (cnt:Nat) (bs:List PB) (m:Nat):List (List Nat):=(List.range cnt).map fun v=>gW bs m v
theorem iA (cnt:Nat) (bs:List PB) (m:Nat):(kn cnt bs m).length=cnt:=by simp[kn]
structure mJ (cnt:Nat) (bs:List PB) (f:Nat->Int) (X A F:Id) (g:Rows) (nx:Nat):Prop where
 x:g X=some ⟨true,4,[bc cnt bs A F]⟩
 a:o8 A F.bV (kn cnt bs bs.length) g nx
 f:g F=some ⟨true,1,dw f bs.length⟩
 xa:X.bV<A.bV
 af:A.bV<F.bV
 fn:F.bV<nx
theorem o8.fz {A:Id} {lo cnt:Nat} {bs:List PB} {m nx n:Nat} {g:Rows} (h:o8 A lo (kn cnt bs m) g nx):V.fz (dz g) (n+3) (.own A 0 cnt)=some (.sl (ow cnt bs m)):=by
 obtain⟨rows,ids,h1,h2,_,_⟩:=h
 have hl:=h2.len
 rw[iA]at hl
 rw[fP]
 simp only[dz,h1,Option.map_some,if_true]
 rw[if_pos ab,List.drop_zero,List.take_of_length_le ab]
 have:=LB n h2
 rw[this]
 simp[kn,ow]
theorem mJ.fz {cnt:Nat} {bs:List PB} {f:Nat->Int} {X A F:Id} {g:Rows} {nx:Nat} (h:mJ cnt bs f X A F g nx):V.fz (dz g) 6 (.ptr X 0 0)=some (.cK (e9 cnt bs f)):=by
 have hF:dz g F=some ⟨true,1,dw f bs.length⟩:=by simp[dz,h.f]
 have hX:dz g X=some ⟨true,4,[bc cnt bs A F]⟩:=by simp[dz,h.x]
 have hf:V.fz (dz g) 5 (.own F 0 bs.length)=some (.sl (dw f bs.length)):=by
  rw[fP]
  simp only[hF,if_true]
  rw[if_pos (by rw[dk];omega),List.drop_zero,List.take_of_length_le (by rw[dk];omega),xj];rfl
 have ha:=h.a.fz (n:=2)
 rw[bh]
 simp only[hX,if_true,List.getElem?_cons_zero,List.drop_zero,bc,ad,aj,aH,cl,ha,hf,Option.map_some,e9]
theorem Dy (cnt:Nat) (bs:List PB):kn cnt bs 0=List.replicate cnt []:=by
 refine List.ext_getElem? fun i=>?_
 simp only[kn,List.getElem?_map,List.getElem?_replicate]
 by_cases h:i<cnt
 ·rw[List.getElem?_range h,if_pos h];rfl
 ·rw[List.getElem?_eq_none (by simpa using h),if_neg h];rfl
theorem vK (g:Rows):∀n:Nat,cD Mm g (List.replicate n [.bC]) (List.replicate n []) []
 |0=>.nil
 |n+1=>.cons (i1:=[]) (.inl ⟨rfl,rfl,rfl⟩) (vK g n)
def uw (cnt:Nat) (bs:List PB) (m:Nat):List (List Nat):=(kn cnt bs m).set (bD bs m).a (gW bs m (bD bs m).a++[m])
theorem yT {cnt:Nat} {bs:List PB} {m v:Nat} (hv:v<cnt) (gF:(bD bs m).a≠v):(uw cnt bs m)[v]? =some (gW bs m v):=by
 unfold uw
 rw[List.getElem?_set_ne gF]
 simp[kn,hv]
theorem Dx {cnt:Nat} {bs:List PB} {m:Nat} (ha:(bD bs m).a<cnt) (hb:(bD bs m).b<cnt) (gF:(bD bs m).a≠(bD bs m).b):(uw cnt bs m).set (bD bs m).b (gW bs m (bD bs m).b++[m])=kn cnt bs (m+1):=by
 refine List.ext_getElem? fun i=>?_
 by_cases hi:i<cnt
 ·have hr:(kn cnt bs (m+1))[i]? =some (gW bs (m+1) i):=by simp[kn,hi]
  rw[hr,Dz]
  by_cases h1:(bD bs m).b=i
  ·rw[List.getElem?_set,if_pos h1,if_pos (by simp[uw,iA];omega),if_pos (.inr h1),h1]
  ·rw[List.getElem?_set_ne h1]
   by_cases h2:(bD bs m).a=i
   ·unfold uw
    rw[List.getElem?_set,if_pos h2,if_pos (by rw[iA];omega),if_pos (.inl h2),h2]
   ·rw[yT hi h2,if_neg (fun h=>h.elim h2 h1),List.append_nil]
 ·rw[List.getElem?_eq_none (by simp[uw,iA];omega),List.getElem?_eq_none (by rw[iA];omega)]
theorem jP {α:Type} {l:List α} {k:Nat} {x:α} (h:l[k]? =some x) (hk:k<l.length):l[k]=x:=by
 rw[List.getElem?_eq_getElem hk]at h;exact Option.some.inj h
theorem Cr {A K:Id} {lo Ot nx k j:Nat} {L:List (List Nat)} {La:List Nat} {g:Rows} {rows:List (List AV)} {ids:List Id} (hR:cD Mm g rows L ids) (km:ids.Nodup) (mB:∀i∈ids,lo<i.bV/\i.bV<Ot) (hA:A.bV<=lo) (hL:L[k]? =some La) (hK1:Ot<=K.bV) (Nt:K.bV<nx) (jz:lo<Ot):
  ∃cs,rows[k]? =some cs/\((La=[]/\cs=[.bC])∨∃id:Id,cs=[.own id 0 La.length]/\0<La.length/\g id=some ⟨true,1,La.map eN⟩/\id.bV<Ot/\lo<id.bV)/\
   ∀g':Rows,g' A=some ⟨true,1,rows.set k [.own K 0 (La.length+1)]⟩->g' K=some ⟨true,1,La.map eN++[[.int .i64 j]]⟩->(∀i:Id,i.bV<Ot->(i=A)=False->(∀id,cs=[.own id 0 La.length]->(i=id)=False)->g' i=g i)->o8 A lo (L.set k (La++[j])) g' nx:=by
 have hk:k<L.length:=(List.getElem?_eq_some_iff.1 hL).1
 have OW:=jP hL hk
 obtain⟨cs,ic,dh,Mu,EM,sW⟩:=hR.Ox Kb km k hk
 rw[OW]at Mu
 refine⟨cs,dh,?_,fun g' h1 h2 h3=>?_⟩
 ·rcases Mu with⟨h1,h2,_⟩|⟨id,h1,h2,h3,h4⟩
  ·exact .inl ⟨h1,h2⟩
  ·subst h4
   have:=mB id (EM id (by simp))
   exact .inr ⟨id,h1,h2,h3,this.2,this.1⟩
 ·obtain⟨AQ,q1,q2,q3⟩:=sW g' [.own K 0 (La.length+1)] (La++[j]) [K] (.inr ⟨K,by simp,by simp,by rw[h2];simp[eN],rfl⟩) (fun i hi MC=>by
   refine h3 i (mB i hi).2 ?_ fun id hid=>?_
   ·simp only[eq_iff_iff,iff_false];rintro rfl;have:=mB _ hi;omega
   ·simp only[eq_iff_iff,iff_false]
    rintro rfl
    rcases Mu with⟨_,h4,_⟩|⟨jU,h4,_,_,h5⟩
    ·rw[hid]at h4;cases h4
    ·rw[hid]at h4
     simp only[List.cons.injEq,AV.own.injEq,and_true]at h4
     rw[h5,h4]at MC
     exact MC (by simp)) (by simp) fun i hi hc=>by
   rw[List.mem_singleton.1 hi]at hc;have:=mB _ hc;omega
  refine⟨_,AQ,h1,q1,q2,fun i hi=>?_⟩
  rcases q3 i hi with h|h
  ·rw[List.mem_singleton.1 h];omega
  ·have:=mB i h;omega
theorem Jt {P:Program} {Q:Ex->Env->aw->Prop} {c:VC} {env:Env} {σ:aw} (I:Env->aw->Prop) (h2:∀e s,I e s->Q .normal e s) (h1:∀N':Env->aw->Prop,(∀e s,I e s->N' e s)->dP (Call P) c (dD N' Q) env σ):dP (Call P) c Q env σ:=by
 refine kg (fun _ _ _ _ h=>h) aO c _ _ env σ (fun x e s h=>?_) (h1 I fun _ _ h=>h)
 cases x with
 |normal=>exact h2 e s h
 |exit id=>exact h
 |ret=>exact h
end Go.Proofs.YtihgaadadaekmaaGreatDoor.V

namespace Go.Proofs.YtihgaadadaekmaaGreatDoor.V
open Go.RowKit
attribute [local irreducible] dP wpOps gN Call
attribute [local go_sem] aI fI eE fW fV cv upd cq K.av cL AV.cells AV.cell rowOf rowsOf part ld rowAt bK bY dH eh ij bL da eA fZ eX dr eo cY cX dR dS bR bf cQ bQ cT cR ej ep ek cP bU cZ ei bP aM cV cz ig br cI bS aZ dD bp dJ AV.undef bB bH dX ef dO ea cF ez eC cu eu er cU cW List.getD_cons_zero List.getD_cons_succ List.getD_nil List.all_cons List.all_nil Bool.and_true Bool.true_and Bool.and_self Bool.not_true Bool.not_false Option.map_some Option.map_none Option.bind_some Option.bind_none List.length_cons List.length_nil List.take_succ_cons List.take_zero List.take_nil List.drop_succ_cons List.drop_zero List.drop_nil List.head?_cons List.map_cons List.map_nil List.getElem?_cons_zero List.getElem?_cons_succ List.cons_append List.nil_append List.append_nil List.length_map List.set_cons_zero List.set_cons_succ Nat.reduceMul eq_self Int.toNat_natCast Int.natCast_nonneg and_self true_and and_true decide_true decide_false Bool.false_eq_true Nat.zero_add Nat.add_zero List.contains_cons List.contains_nil Bool.or_false Bool.false_or beq_self_eq_true Nat.reduceBEq ne_eq not_true_eq_false not_false_eq_true Id.mk.injEq false_and and_false Nat.reduceLT Int.reduceLE Int.reduceLT Int.reduceToNat Int.reduceNeg Int.reduceAdd Nat.le_refl List.length_append beq_true beq_false Bool.not_eq_eq_eq_not or_false false_or dz ad aj aH bx cl aQ bj aW bh cN bz
theorem Gj (cnt:Nat) (hn:cnt<=1048576) (bs:List PB) (ok:l5 cnt bs) (oY:bs.length<=1048576) (σ:aw):
  Call Tryz.prog 165 [.int .i64 cnt,.sl (bs.map au)] σ fun r σ'=>∃X A F,r=.ptr X 0 0/\σ.next<=X.bV/\mJ cnt bs (fun _=>0) X A F σ'.get σ'.next:=by
 refine EZ Kx rfl fun hl=>?_
 try simp only[q]
 clear hl
 have iS:(0:Int)<=(cnt:Int):=ab
 have oi:(cnt:Int)<=((16777216:Nat):Int):=ab
 have Ny:(0:Int)<=(bs.length:Int):=ab
 have Hw:(bs.length:Int)<=((16777216:Nat):Int):=ab
 have hz:List.replicate bs.length [AV.int .i64 0]=dw (fun _=>0) bs.length:=by
  refine List.ext_getElem? fun i=>?_
  by_cases h:i<bs.length
  ·rw[du h,List.getElem?_replicate,if_pos h];rfl
  ·rw[List.getElem?_eq_none (by simp;omega),List.getElem?_eq_none (by rw[dk];omega)]
 (try((repeat(revert hN;revert N;apply Pn.out));refine wk (tw @iS (tw @oi (tw @Ny (tw @Hw (tw @Int.le_refl @hz))))) ?_;(repeat(refine Pn.mk ?_;intro N hN))))
 obtain⟨X,hX⟩:∃X:Id,X=⟨165001003,σ.next+1⟩:=⟨_,rfl⟩
 obtain⟨A,hA⟩:∃X:Id,X=⟨165002002,σ.next+1+1⟩:=⟨_,rfl⟩
 obtain⟨F,hF⟩:∃X:Id,X=⟨165003003,σ.next+1+1+1⟩:=⟨_,rfl⟩
 have hXA:X.bV<A.bV:=by rw[hX,hA];(try dsimp only);omega
 have hAF:A.bV<F.bV:=by rw[hA,hF];(try dsimp only);omega
 have hXs:σ.next<=X.bV:=by rw[hX];(try dsimp only);omega
 refine aL (fun n env st=>∃j:Nat,n=(bs.length)-j/\j<=(bs.length)/\env 6=.int .i64 (j:Int)/\env 5=(.ptr X 0 0)/\st.get X=some ⟨true,4,[bc cnt bs A F]⟩/\st.get F=some ⟨true,1,dw (fun _=>0) bs.length⟩/\(o8 A F.bV (kn cnt bs j) st.get st.next/\F.bV<st.next)) (bs.length) ⟨0,ab,ab,by(try simp only[go_sem, ↓reduceIte,Nat.reduceEqDiff,Nat.reduceAdd,Nat.reduceSub,Nat.reduceLeDiff,reduceCtorEq,hX,hF,hA,bc,hz]);try rfl,by(try simp only[go_sem, ↓reduceIte,Nat.reduceEqDiff,Nat.reduceAdd,Nat.reduceSub,Nat.reduceLeDiff,reduceCtorEq,hX,hF,hA,bc,hz]);try rfl,by(try simp only[go_sem, ↓reduceIte,Nat.reduceEqDiff,Nat.reduceAdd,Nat.reduceSub,Nat.reduceLeDiff,reduceCtorEq,hX,hF,hA,bc,hz]);try rfl,by(try simp only[go_sem, ↓reduceIte,Nat.reduceEqDiff,Nat.reduceAdd,Nat.reduceSub,Nat.reduceLeDiff,reduceCtorEq,hX,hF,hA,bc,hz]);try rfl,⟨⟨List.replicate cnt [.bC],[],by rw[hA];(simp only[go_sem, ↓reduceIte,Nat.reduceEqDiff,Nat.reduceAdd,Nat.reduceSub,Nat.reduceLeDiff,reduceCtorEq])<;>rfl,by rw[Dy];exact vK _ _,List.nodup_nil,fun i hi=>by cases hi⟩,by rw[hF];(try dsimp only);omega⟩⟩ ?_
 rintro n_a env_a st_a ⟨j,rfl,ale,a6,a5,ag0,ag1,lx⟩ dC
 have a0:=dC 0 (by kernel_rfl);have a1:=dC 1 (by kernel_rfl)
 simp only[go_sem, ↓reduceIte,Nat.reduceEqDiff,Nat.reduceAdd,Nat.reduceSub,Nat.reduceLeDiff,reduceCtorEq,hX,hF,hA,bc,hz]at a0 a1
 clear dC
 obtain⟨⟨rows,ids,ag,hR,km,mB⟩,hFn⟩:=lx
 have x1:=dj hXA
 have x2:=dj hAF
 have x3:=dj (a:=X) (b:=F) ab
 have vX:=eD (i:=X) (n:=st_a.next) ab
 have vA:=eD (i:=A) (n:=st_a.next) ab
 have vF:=eD (i:=F) (n:=st_a.next) ab
 by_cases hj:(j:Int)<(bs.length:Int)
 ·have bZ:∀{e:Env} {gg:Rows} {nx:Nat},(e 6=.int .i64 (IntKind.i64.wrap ((j:Int)+1)))->(e 5=(.ptr X 0 0))->(gg X=some ⟨true,4,[bc cnt bs A F]⟩)->(gg F=some ⟨true,1,dw (fun _=>0) bs.length⟩)->(o8 A F.bV (kn cnt bs (j+1)) gg nx/\F.bV<nx)->∃m0,m0<(bs.length)-j/\∃j:Nat,m0=(bs.length)-j/\j<=(bs.length)/\e 6=.int .i64 (j:Int)/\e 5=(.ptr X 0 0)/\gg X=some ⟨true,4,[bc cnt bs A F]⟩/\gg F=some ⟨true,1,dw (fun _=>0) bs.length⟩/\(o8 A F.bV (kn cnt bs j) gg nx/\F.bV<nx):=fun x1 x2 x3 x4 x5=>⟨_,ab,j+1,rfl,ab,(by rw[x1,ax ab]),x2,x3,x4,x5⟩
  have gh:j<bs.length:=ab
  have gP:=rX gh
  obtain⟨ha1,Nz,gF⟩:=ok j gh
  have fK:((bD bs j).a:Int)<(cnt:Int):=ab
  have fc:((bD bs j).b:Int)<(cnt:Int):=ab
  have sa:=Dx (m:=j) ha1 Nz gF
  have e1:=pA bs j (bD bs j).a
  have e2:=pA bs j (bD bs j).b
  have NO:(uw cnt bs j)[(bD bs j).b]? =some (gW bs j (bD bs j).b):=yT Nz gF
  have NN:(kn cnt bs j)[(bD bs j).a]? =some (gW bs j (bD bs j).a):=by simp[kn,ha1]
  have PU:uw cnt bs j=(kn cnt bs j).set (bD bs j).a (gW bs j (bD bs j).a++[j]):=rfl
  have O0:(uw cnt bs j).length=cnt:=by rw[PU,List.length_set,iA]
  have g9:=hR.len
  rw[iA]at g9
  obtain⟨cs7,iy,FM,F3⟩:=Cr (A:=A) (K:=⟨165007022,st_a.next+1⟩) (nx:=st_a.next+1+1) (j:=j) hR km mB ab NN bt bt hFn
  rw[<-PU]at F3
  obtain⟨c7,rfl⟩:∃c,cs7=[c]:=by
   rcases FM with⟨_,h⟩|⟨id,h,_⟩<;>exact⟨_,h⟩
  generalize gW bs j (bD bs j).a=La at *
  generalize gW bs j (bD bs j).b=Lb at *
  generalize bD bs j=b at *
  generalize uw cnt bs j=LA at *
  clear PU
  (try((repeat(revert hN;revert N;apply Pn.out));refine wk (tw @a6 (tw @a5 (tw @ag0 (tw @ag1 (tw @a0 (tw @a1 (tw @hj (tw @gP (tw @au.eq_1 (tw @ag (tw @iy (tw @fK (tw @fc (tw @g9 (tw @x1 (tw @x2 (tw @x3 (tw @vX (tw @vA (tw @vF @bc.eq_1)))))))))))))))))))) ?_;(repeat(refine Pn.mk ?_;intro N hN))))
  refine Hm (fun e s=>e 0=.int .i64 cnt/\e 1=.sl (bs.map au)/\e 5=.ptr X 0 0/\e 6=.int .i64 j/\s.get X=some ⟨true,4,[bc cnt bs A F]⟩/\s.get F=some ⟨true,1,dw (fun _=>0) bs.length⟩/\o8 A F.bV LA s.get s.next/\F.bV<s.next) ?_ ?_
  ·rintro e1 s1 ⟨m0,m1,m5,m6,mX,mF,⟨rows1,ids1,mg,mR,mnd,mver⟩,mn⟩
   refine hN _ _ ?_
   clear hN N
   have hZ:=mR.len
   rw[O0]at hZ
   have wX:=eD (i:=X) (n:=s1.next) ab
   have wA:=eD (i:=A) (n:=s1.next) ab
   have wF:=eD (i:=F) (n:=s1.next) ab
   obtain⟨cs8,iz,FN,F4⟩:=Cr (A:=A) (K:=⟨165008022,s1.next⟩) (nx:=s1.next+1) (j:=j) mR mnd mver ab NO bt bt mn
   rw[sa]at F4
   obtain⟨c8,rfl⟩:∃c,cs8=[c]:=by
    rcases FN with⟨_,h⟩|⟨id,h,_⟩<;>exact⟨_,h⟩
   (try((repeat(revert hN;revert N;apply Pn.out));refine wk (tw @m0 (tw @m1 (tw @m5 (tw @m6 (tw @mX (tw @mF (tw @hj (tw @gP (tw @au.eq_1 (tw @mg (tw @iz (tw @fK (tw @fc (tw @hZ (tw @x1 (tw @x2 (tw @x3 (tw @wX (tw @wA (tw @wF @bc.eq_1)))))))))))))))))))) ?_;(repeat(refine Pn.mk ?_;intro N hN))))
   refine Jt (fun e s=>e 0=.int .i64 cnt/\e 1=.sl (bs.map au)/\e 5=.ptr X 0 0/\e 6=.int .i64 j/\s.get X=some ⟨true,4,[bc cnt bs A F]⟩/\s.get F=some ⟨true,1,dw (fun _=>0) bs.length⟩/\o8 A F.bV (kn cnt bs (j+1)) s.get s.next/\F.bV<s.next) ?_ ?_
   ·rintro e2 s2 ⟨p0,p1,p5,p6,pX,pF,pL,pn⟩
    simp only[dD,bp]
    refine hN _ _ ?_
    clear hN N
    (try((repeat(revert hN;revert N;apply Pn.out));refine wk (tw @p0 (tw @p1 (tw @p5 @p6))) ?_;(repeat(refine Pn.mk ?_;intro N hN))))
    refine bZ ?_ ?_ ?_ ?_ (⟨by obtain⟨r,i,q1,q2,q3,q4⟩:=pL;exact⟨r,i,sd @q1,q2,q3,fun x hx=>by have:=q4 x hx;(try dsimp only);omega⟩,bt⟩)
    all_goals simp only[go_sem, ↓reduceIte,Nat.reduceEqDiff,Nat.reduceAdd,Nat.reduceSub,Nat.reduceLeDiff,reduceCtorEq,p0,p1,p5,p6,pX,pF]
   ·intro N hN
    rcases FN with⟨Nu,wH⟩|⟨id,wH,hLp,hid,Iq,u4⟩
    ·simp only[List.cons.injEq,and_true]at wH
     subst wH
     subst Nu
     refine eH ?_ ?_<;>(try((repeat(revert hN;revert N;apply Pn.out));refine wk (tw @m0 (tw @m1 (tw @m5 (tw @m6 (tw @mX (tw @mF (tw @hj (tw @gP (tw @au.eq_1 (tw @mg (tw @iz (tw @fK (tw @fc (tw @hZ (tw @x1 (tw @x2 (tw @x3 (tw @wX (tw @wA (tw @wF @bc.eq_1)))))))))))))))))))) ?_;(repeat(refine Pn.mk ?_;intro N hN))))<;>(try refine eH ?_ ?_)<;>(try((repeat(revert hN;revert N;apply Pn.out));refine wk (tw @m0 (tw @m1 (tw @m5 (tw @m6 (tw @mX (tw @mF (tw @hj (tw @gP (tw @au.eq_1 (tw @mg (tw @iz (tw @fK (tw @fc (tw @hZ (tw @x1 (tw @x2 (tw @x3 (tw @wX (tw @wA (tw @wF @bc.eq_1)))))))))))))))))))) ?_;(repeat(refine Pn.mk ?_;intro N hN))))<;>(try refine eH ?_ ?_)<;>(try((repeat(revert hN;revert N;apply Pn.out));refine wk (tw @m0 (tw @m1 (tw @m5 (tw @m6 (tw @mX (tw @mF (tw @hj (tw @gP (tw @au.eq_1 (tw @mg (tw @iz (tw @fK (tw @fc (tw @hZ (tw @x1 (tw @x2 (tw @x3 (tw @wX (tw @wA (tw @wF @bc.eq_1)))))))))))))))))))) ?_;(repeat(refine Pn.mk ?_;intro N hN))))<;>(try refine eH ?_ ?_)<;>(try((repeat(revert hN;revert N;apply Pn.out));refine wk (tw @m0 (tw @m1 (tw @m5 (tw @m6 (tw @mX (tw @mF (tw @hj (tw @gP (tw @au.eq_1 (tw @mg (tw @iz (tw @fK (tw @fc (tw @hZ (tw @x1 (tw @x2 (tw @x3 (tw @wX (tw @wA (tw @wF @bc.eq_1)))))))))))))))))))) ?_;(repeat(refine Pn.mk ?_;intro N hN))))<;>(try refine eH ?_ ?_)<;>(try((repeat(revert hN;revert N;apply Pn.out));refine wk (tw @m0 (tw @m1 (tw @m5 (tw @m6 (tw @mX (tw @mF (tw @hj (tw @gP (tw @au.eq_1 (tw @mg (tw @iz (tw @fK (tw @fc (tw @hZ (tw @x1 (tw @x2 (tw @x3 (tw @wX (tw @wA (tw @wF @bc.eq_1)))))))))))))))))))) ?_;(repeat(refine Pn.mk ?_;intro N hN))))<;>(try refine eH ?_ ?_)<;>(try((repeat(revert hN;revert N;apply Pn.out));refine wk (tw @m0 (tw @m1 (tw @m5 (tw @m6 (tw @mX (tw @mF (tw @hj (tw @gP (tw @au.eq_1 (tw @mg (tw @iz (tw @fK (tw @fc (tw @hZ (tw @x1 (tw @x2 (tw @x3 (tw @wX (tw @wA (tw @wF @bc.eq_1)))))))))))))))))))) ?_;(repeat(refine Pn.mk ?_;intro N hN))))
     all_goals
      refine⟨by simp only[go_sem, ↓reduceIte,Nat.reduceEqDiff,Nat.reduceAdd,Nat.reduceSub,Nat.reduceLeDiff,reduceCtorEq,m0,m1,m5,m6,mX,mF,hj,gP,au,mg,iz,fK,fc,hZ,x1,x2,x3,wX,wA,wF,bc],by simp only[go_sem, ↓reduceIte,Nat.reduceEqDiff,Nat.reduceAdd,Nat.reduceSub,Nat.reduceLeDiff,reduceCtorEq,m0,m1,m5,m6,mX,mF,hj,gP,au,mg,iz,fK,fc,hZ,x1,x2,x3,wX,wA,wF,bc],by simp only[go_sem, ↓reduceIte,Nat.reduceEqDiff,Nat.reduceAdd,Nat.reduceSub,Nat.reduceLeDiff,reduceCtorEq,m0,m1,m5,m6,mX,mF,hj,gP,au,mg,iz,fK,fc,hZ,x1,x2,x3,wX,wA,wF,bc],by simp only[go_sem, ↓reduceIte,Nat.reduceEqDiff,Nat.reduceAdd,Nat.reduceSub,Nat.reduceLeDiff,reduceCtorEq,m0,m1,m5,m6,mX,mF,hj,gP,au,mg,iz,fK,fc,hZ,x1,x2,x3,wX,wA,wF,bc],by simp only[go_sem, ↓reduceIte,Nat.reduceEqDiff,Nat.reduceAdd,Nat.reduceSub,Nat.reduceLeDiff,reduceCtorEq,m0,m1,m5,m6,mX,mF,hj,gP,au,mg,iz,fK,fc,hZ,x1,x2,x3,wX,wA,wF,bc],by simp only[go_sem, ↓reduceIte,Nat.reduceEqDiff,Nat.reduceAdd,Nat.reduceSub,Nat.reduceLeDiff,reduceCtorEq,m0,m1,m5,m6,mX,mF,hj,gP,au,mg,iz,fK,fc,hZ,x1,x2,x3,wX,wA,wF,bc],F4 _ (by simp only[go_sem, ↓reduceIte,Nat.reduceEqDiff,Nat.reduceAdd,Nat.reduceSub,Nat.reduceLeDiff,reduceCtorEq,m0,m1,m5,m6,mX,mF,hj,gP,au,mg,iz,fK,fc,hZ,x1,x2,x3,wX,wA,wF,bc,List.length_nil]) (by simp only[go_sem, ↓reduceIte,Nat.reduceEqDiff,Nat.reduceAdd,Nat.reduceSub,Nat.reduceLeDiff,reduceCtorEq,m0,m1,m5,m6,mX,mF,hj,gP,au,mg,iz,fK,fc,hZ,x1,x2,x3,wX,wA,wF,bc,List.map_nil,List.nil_append]) (fun i hi K7 fy=>?_),bt⟩
      clear fy
      simp only[go_sem, ↓reduceIte,Nat.reduceEqDiff,Nat.reduceAdd,Nat.reduceSub,Nat.reduceLeDiff,reduceCtorEq,wX,wA,wF,eD hi,K7]
    ·simp only[List.cons.injEq,and_true]at wH
     subst wH
     have p7:=eD Iq
     have y1:=dj (a:=A) (b:=id) ab
     have y2:=dj (a:=F) (b:=id) u4
     have y3:=dj (a:=X) (b:=id) ab
     have e3:Lb.length+1<=16777216:=ab
     have z1:(Lb.map eN).length=Lb.length:=by simp
     refine eH ?_ ?_<;>(try((repeat(revert hN;revert N;apply Pn.out));refine wk (tw @m0 (tw @m1 (tw @m5 (tw @m6 (tw @mX (tw @mF (tw @hj (tw @gP (tw @au.eq_1 (tw @mg (tw @iz (tw @fK (tw @fc (tw @hZ (tw @x1 (tw @x2 (tw @x3 (tw @wX (tw @wA (tw @wF (tw @bc.eq_1 (tw @hid (tw @p7 (tw @y1 (tw @y2 (tw @y3 (tw @e3 @z1))))))))))))))))))))))))))) ?_;(repeat(refine Pn.mk ?_;intro N hN))))<;>(try refine eH ?_ ?_)<;>(try((repeat(revert hN;revert N;apply Pn.out));refine wk (tw @m0 (tw @m1 (tw @m5 (tw @m6 (tw @mX (tw @mF (tw @hj (tw @gP (tw @au.eq_1 (tw @mg (tw @iz (tw @fK (tw @fc (tw @hZ (tw @x1 (tw @x2 (tw @x3 (tw @wX (tw @wA (tw @wF (tw @bc.eq_1 (tw @hid (tw @p7 (tw @y1 (tw @y2 (tw @y3 (tw @e3 @z1))))))))))))))))))))))))))) ?_;(repeat(refine Pn.mk ?_;intro N hN))))<;>(try refine eH ?_ ?_)<;>(try((repeat(revert hN;revert N;apply Pn.out));refine wk (tw @m0 (tw @m1 (tw @m5 (tw @m6 (tw @mX (tw @mF (tw @hj (tw @gP (tw @au.eq_1 (tw @mg (tw @iz (tw @fK (tw @fc (tw @hZ (tw @x1 (tw @x2 (tw @x3 (tw @wX (tw @wA (tw @wF (tw @bc.eq_1 (tw @hid (tw @p7 (tw @y1 (tw @y2 (tw @y3 (tw @e3 @z1))))))))))))))))))))))))))) ?_;(repeat(refine Pn.mk ?_;intro N hN))))<;>(try refine eH ?_ ?_)<;>(try((repeat(revert hN;revert N;apply Pn.out));refine wk (tw @m0 (tw @m1 (tw @m5 (tw @m6 (tw @mX (tw @mF (tw @hj (tw @gP (tw @au.eq_1 (tw @mg (tw @iz (tw @fK (tw @fc (tw @hZ (tw @x1 (tw @x2 (tw @x3 (tw @wX (tw @wA (tw @wF (tw @bc.eq_1 (tw @hid (tw @p7 (tw @y1 (tw @y2 (tw @y3 (tw @e3 @z1))))))))))))))))))))))))))) ?_;(repeat(refine Pn.mk ?_;intro N hN))))<;>(try refine eH ?_ ?_)<;>(try((repeat(revert hN;revert N;apply Pn.out));refine wk (tw @m0 (tw @m1 (tw @m5 (tw @m6 (tw @mX (tw @mF (tw @hj (tw @gP (tw @au.eq_1 (tw @mg (tw @iz (tw @fK (tw @fc (tw @hZ (tw @x1 (tw @x2 (tw @x3 (tw @wX (tw @wA (tw @wF (tw @bc.eq_1 (tw @hid (tw @p7 (tw @y1 (tw @y2 (tw @y3 (tw @e3 @z1))))))))))))))))))))))))))) ?_;(repeat(refine Pn.mk ?_;intro N hN))))<;>(try refine eH ?_ ?_)<;>(try((repeat(revert hN;revert N;apply Pn.out));refine wk (tw @m0 (tw @m1 (tw @m5 (tw @m6 (tw @mX (tw @mF (tw @hj (tw @gP (tw @au.eq_1 (tw @mg (tw @iz (tw @fK (tw @fc (tw @hZ (tw @x1 (tw @x2 (tw @x3 (tw @wX (tw @wA (tw @wF (tw @bc.eq_1 (tw @hid (tw @p7 (tw @y1 (tw @y2 (tw @y3 (tw @e3 @z1))))))))))))))))))))))))))) ?_;(repeat(refine Pn.mk ?_;intro N hN))))
     all_goals
      refine⟨by simp only[go_sem, ↓reduceIte,Nat.reduceEqDiff,Nat.reduceAdd,Nat.reduceSub,Nat.reduceLeDiff,reduceCtorEq,m0,m1,m5,m6,mX,mF,hj,gP,au,mg,iz,fK,fc,hZ,x1,x2,x3,wX,wA,wF,bc,hid,p7,y1,y2,y3,e3,z1],by simp only[go_sem, ↓reduceIte,Nat.reduceEqDiff,Nat.reduceAdd,Nat.reduceSub,Nat.reduceLeDiff,reduceCtorEq,m0,m1,m5,m6,mX,mF,hj,gP,au,mg,iz,fK,fc,hZ,x1,x2,x3,wX,wA,wF,bc,hid,p7,y1,y2,y3,e3,z1],by simp only[go_sem, ↓reduceIte,Nat.reduceEqDiff,Nat.reduceAdd,Nat.reduceSub,Nat.reduceLeDiff,reduceCtorEq,m0,m1,m5,m6,mX,mF,hj,gP,au,mg,iz,fK,fc,hZ,x1,x2,x3,wX,wA,wF,bc,hid,p7,y1,y2,y3,e3,z1],by simp only[go_sem, ↓reduceIte,Nat.reduceEqDiff,Nat.reduceAdd,Nat.reduceSub,Nat.reduceLeDiff,reduceCtorEq,m0,m1,m5,m6,mX,mF,hj,gP,au,mg,iz,fK,fc,hZ,x1,x2,x3,wX,wA,wF,bc,hid,p7,y1,y2,y3,e3,z1],by simp only[go_sem, ↓reduceIte,Nat.reduceEqDiff,Nat.reduceAdd,Nat.reduceSub,Nat.reduceLeDiff,reduceCtorEq,m0,m1,m5,m6,mX,mF,hj,gP,au,mg,iz,fK,fc,hZ,x1,x2,x3,wX,wA,wF,bc,hid,p7,y1,y2,y3,e3,z1],by simp only[go_sem, ↓reduceIte,Nat.reduceEqDiff,Nat.reduceAdd,Nat.reduceSub,Nat.reduceLeDiff,reduceCtorEq,m0,m1,m5,m6,mX,mF,hj,gP,au,mg,iz,fK,fc,hZ,x1,x2,x3,wX,wA,wF,bc,hid,p7,y1,y2,y3,e3,z1],F4 _ (by simp only[go_sem, ↓reduceIte,Nat.reduceEqDiff,Nat.reduceAdd,Nat.reduceSub,Nat.reduceLeDiff,reduceCtorEq,m0,m1,m5,m6,mX,mF,hj,gP,au,mg,iz,fK,fc,hZ,x1,x2,x3,wX,wA,wF,bc,hid,p7,y1,y2,y3,e3,z1,List.length_nil]) (by simp only[go_sem, ↓reduceIte,Nat.reduceEqDiff,Nat.reduceAdd,Nat.reduceSub,Nat.reduceLeDiff,reduceCtorEq,m0,m1,m5,m6,mX,mF,hj,gP,au,mg,iz,fK,fc,hZ,x1,x2,x3,wX,wA,wF,bc,hid,p7,y1,y2,y3,e3,z1,List.map_nil,List.nil_append]) (fun i hi K7 fy=>?_),bt⟩
      have gF:=fy id rfl
      simp only[go_sem, ↓reduceIte,Nat.reduceEqDiff,Nat.reduceAdd,Nat.reduceSub,Nat.reduceLeDiff,reduceCtorEq,wX,wA,wF,eD hi,K7,gF]
  ·intro N hN
   rcases FM with⟨Nu,wH⟩|⟨id,wH,hLp,hid,Iq,u4⟩
   ·simp only[List.cons.injEq,and_true]at wH
    subst wH
    subst Nu
    refine eH ?_ ?_<;>(try((repeat(revert hN;revert N;apply Pn.out));refine wk (tw @a6 (tw @a5 (tw @ag0 (tw @ag1 (tw @a0 (tw @a1 (tw @hj (tw @gP (tw @au.eq_1 (tw @ag (tw @iy (tw @fK (tw @fc (tw @g9 (tw @x1 (tw @x2 (tw @x3 (tw @vX (tw @vA (tw @vF @bc.eq_1)))))))))))))))))))) ?_;(repeat(refine Pn.mk ?_;intro N hN))))<;>(try refine eH ?_ ?_)<;>(try((repeat(revert hN;revert N;apply Pn.out));refine wk (tw @a6 (tw @a5 (tw @ag0 (tw @ag1 (tw @a0 (tw @a1 (tw @hj (tw @gP (tw @au.eq_1 (tw @ag (tw @iy (tw @fK (tw @fc (tw @g9 (tw @x1 (tw @x2 (tw @x3 (tw @vX (tw @vA (tw @vF @bc.eq_1)))))))))))))))))))) ?_;(repeat(refine Pn.mk ?_;intro N hN))))<;>(try refine eH ?_ ?_)<;>(try((repeat(revert hN;revert N;apply Pn.out));refine wk (tw @a6 (tw @a5 (tw @ag0 (tw @ag1 (tw @a0 (tw @a1 (tw @hj (tw @gP (tw @au.eq_1 (tw @ag (tw @iy (tw @fK (tw @fc (tw @g9 (tw @x1 (tw @x2 (tw @x3 (tw @vX (tw @vA (tw @vF @bc.eq_1)))))))))))))))))))) ?_;(repeat(refine Pn.mk ?_;intro N hN))))<;>(try refine eH ?_ ?_)<;>(try((repeat(revert hN;revert N;apply Pn.out));refine wk (tw @a6 (tw @a5 (tw @ag0 (tw @ag1 (tw @a0 (tw @a1 (tw @hj (tw @gP (tw @au.eq_1 (tw @ag (tw @iy (tw @fK (tw @fc (tw @g9 (tw @x1 (tw @x2 (tw @x3 (tw @vX (tw @vA (tw @vF @bc.eq_1)))))))))))))))))))) ?_;(repeat(refine Pn.mk ?_;intro N hN))))<;>(try refine eH ?_ ?_)<;>(try((repeat(revert hN;revert N;apply Pn.out));refine wk (tw @a6 (tw @a5 (tw @ag0 (tw @ag1 (tw @a0 (tw @a1 (tw @hj (tw @gP (tw @au.eq_1 (tw @ag (tw @iy (tw @fK (tw @fc (tw @g9 (tw @x1 (tw @x2 (tw @x3 (tw @vX (tw @vA (tw @vF @bc.eq_1)))))))))))))))))))) ?_;(repeat(refine Pn.mk ?_;intro N hN))))<;>(try refine eH ?_ ?_)<;>(try((repeat(revert hN;revert N;apply Pn.out));refine wk (tw @a6 (tw @a5 (tw @ag0 (tw @ag1 (tw @a0 (tw @a1 (tw @hj (tw @gP (tw @au.eq_1 (tw @ag (tw @iy (tw @fK (tw @fc (tw @g9 (tw @x1 (tw @x2 (tw @x3 (tw @vX (tw @vA (tw @vF @bc.eq_1)))))))))))))))))))) ?_;(repeat(refine Pn.mk ?_;intro N hN))))
    all_goals
     refine⟨by simp only[go_sem, ↓reduceIte,Nat.reduceEqDiff,Nat.reduceAdd,Nat.reduceSub,Nat.reduceLeDiff,reduceCtorEq,a6,a5,ag0,ag1,a0,a1,hj,gP,au,ag,iy,fK,fc,g9,x1,x2,x3,vX,vA,vF,bc],by simp only[go_sem, ↓reduceIte,Nat.reduceEqDiff,Nat.reduceAdd,Nat.reduceSub,Nat.reduceLeDiff,reduceCtorEq,a6,a5,ag0,ag1,a0,a1,hj,gP,au,ag,iy,fK,fc,g9,x1,x2,x3,vX,vA,vF,bc],by simp only[go_sem, ↓reduceIte,Nat.reduceEqDiff,Nat.reduceAdd,Nat.reduceSub,Nat.reduceLeDiff,reduceCtorEq,a6,a5,ag0,ag1,a0,a1,hj,gP,au,ag,iy,fK,fc,g9,x1,x2,x3,vX,vA,vF,bc],by simp only[go_sem, ↓reduceIte,Nat.reduceEqDiff,Nat.reduceAdd,Nat.reduceSub,Nat.reduceLeDiff,reduceCtorEq,a6,a5,ag0,ag1,a0,a1,hj,gP,au,ag,iy,fK,fc,g9,x1,x2,x3,vX,vA,vF,bc],by simp only[go_sem, ↓reduceIte,Nat.reduceEqDiff,Nat.reduceAdd,Nat.reduceSub,Nat.reduceLeDiff,reduceCtorEq,a6,a5,ag0,ag1,a0,a1,hj,gP,au,ag,iy,fK,fc,g9,x1,x2,x3,vX,vA,vF,bc],by simp only[go_sem, ↓reduceIte,Nat.reduceEqDiff,Nat.reduceAdd,Nat.reduceSub,Nat.reduceLeDiff,reduceCtorEq,a6,a5,ag0,ag1,a0,a1,hj,gP,au,ag,iy,fK,fc,g9,x1,x2,x3,vX,vA,vF,bc],F3 _ (by simp only[go_sem, ↓reduceIte,Nat.reduceEqDiff,Nat.reduceAdd,Nat.reduceSub,Nat.reduceLeDiff,reduceCtorEq,a6,a5,ag0,ag1,a0,a1,hj,gP,au,ag,iy,fK,fc,g9,x1,x2,x3,vX,vA,vF,bc,List.length_nil]) (by simp only[go_sem, ↓reduceIte,Nat.reduceEqDiff,Nat.reduceAdd,Nat.reduceSub,Nat.reduceLeDiff,reduceCtorEq,a6,a5,ag0,ag1,a0,a1,hj,gP,au,ag,iy,fK,fc,g9,x1,x2,x3,vX,vA,vF,bc,List.map_nil,List.nil_append]) (fun i hi K7 fy=>?_),bt⟩
     clear fy
     simp only[go_sem, ↓reduceIte,Nat.reduceEqDiff,Nat.reduceAdd,Nat.reduceSub,Nat.reduceLeDiff,reduceCtorEq,vX,vA,vF,eD hi,K7]
   ·simp only[List.cons.injEq,and_true]at wH
    subst wH
    have p7:=eD Iq
    have y1:=dj (a:=A) (b:=id) ab
    have y2:=dj (a:=F) (b:=id) u4
    have y3:=dj (a:=X) (b:=id) ab
    have e3:La.length+1<=16777216:=ab
    have z1:(La.map eN).length=La.length:=by simp
    refine eH ?_ ?_<;>(try((repeat(revert hN;revert N;apply Pn.out));refine wk (tw @a6 (tw @a5 (tw @ag0 (tw @ag1 (tw @a0 (tw @a1 (tw @hj (tw @gP (tw @au.eq_1 (tw @ag (tw @iy (tw @fK (tw @fc (tw @g9 (tw @x1 (tw @x2 (tw @x3 (tw @vX (tw @vA (tw @vF (tw @bc.eq_1 (tw @hid (tw @p7 (tw @y1 (tw @y2 (tw @y3 (tw @e3 @z1))))))))))))))))))))))))))) ?_;(repeat(refine Pn.mk ?_;intro N hN))))<;>(try refine eH ?_ ?_)<;>(try((repeat(revert hN;revert N;apply Pn.out));refine wk (tw @a6 (tw @a5 (tw @ag0 (tw @ag1 (tw @a0 (tw @a1 (tw @hj (tw @gP (tw @au.eq_1 (tw @ag (tw @iy (tw @fK (tw @fc (tw @g9 (tw @x1 (tw @x2 (tw @x3 (tw @vX (tw @vA (tw @vF (tw @bc.eq_1 (tw @hid (tw @p7 (tw @y1 (tw @y2 (tw @y3 (tw @e3 @z1))))))))))))))))))))))))))) ?_;(repeat(refine Pn.mk ?_;intro N hN))))<;>(try refine eH ?_ ?_)<;>(try((repeat(revert hN;revert N;apply Pn.out));refine wk (tw @a6 (tw @a5 (tw @ag0 (tw @ag1 (tw @a0 (tw @a1 (tw @hj (tw @gP (tw @au.eq_1 (tw @ag (tw @iy (tw @fK (tw @fc (tw @g9 (tw @x1 (tw @x2 (tw @x3 (tw @vX (tw @vA (tw @vF (tw @bc.eq_1 (tw @hid (tw @p7 (tw @y1 (tw @y2 (tw @y3 (tw @e3 @z1))))))))))))))))))))))))))) ?_;(repeat(refine Pn.mk ?_;intro N hN))))<;>(try refine eH ?_ ?_)<;>(try((repeat(revert hN;revert N;apply Pn.out));refine wk (tw @a6 (tw @a5 (tw @ag0 (tw @ag1 (tw @a0 (tw @a1 (tw @hj (tw @gP (tw @au.eq_1 (tw @ag (tw @iy (tw @fK (tw @fc (tw @g9 (tw @x1 (tw @x2 (tw @x3 (tw @vX (tw @vA (tw @vF (tw @bc.eq_1 (tw @hid (tw @p7 (tw @y1 (tw @y2 (tw @y3 (tw @e3 @z1))))))))))))))))))))))))))) ?_;(repeat(refine Pn.mk ?_;intro N hN))))<;>(try refine eH ?_ ?_)<;>(try((repeat(revert hN;revert N;apply Pn.out));refine wk (tw @a6 (tw @a5 (tw @ag0 (tw @ag1 (tw @a0 (tw @a1 (tw @hj (tw @gP (tw @au.eq_1 (tw @ag (tw @iy (tw @fK (tw @fc (tw @g9 (tw @x1 (tw @x2 (tw @x3 (tw @vX (tw @vA (tw @vF (tw @bc.eq_1 (tw @hid (tw @p7 (tw @y1 (tw @y2 (tw @y3 (tw @e3 @z1))))))))))))))))))))))))))) ?_;(repeat(refine Pn.mk ?_;intro N hN))))<;>(try refine eH ?_ ?_)<;>(try((repeat(revert hN;revert N;apply Pn.out));refine wk (tw @a6 (tw @a5 (tw @ag0 (tw @ag1 (tw @a0 (tw @a1 (tw @hj (tw @gP (tw @au.eq_1 (tw @ag (tw @iy (tw @fK (tw @fc (tw @g9 (tw @x1 (tw @x2 (tw @x3 (tw @vX (tw @vA (tw @vF (tw @bc.eq_1 (tw @hid (tw @p7 (tw @y1 (tw @y2 (tw @y3 (tw @e3 @z1))))))))))))))))))))))))))) ?_;(repeat(refine Pn.mk ?_;intro N hN))))
    all_goals
     refine⟨by simp only[go_sem, ↓reduceIte,Nat.reduceEqDiff,Nat.reduceAdd,Nat.reduceSub,Nat.reduceLeDiff,reduceCtorEq,a6,a5,ag0,ag1,a0,a1,hj,gP,au,ag,iy,fK,fc,g9,x1,x2,x3,vX,vA,vF,bc,hid,p7,y1,y2,y3,e3,z1],by simp only[go_sem, ↓reduceIte,Nat.reduceEqDiff,Nat.reduceAdd,Nat.reduceSub,Nat.reduceLeDiff,reduceCtorEq,a6,a5,ag0,ag1,a0,a1,hj,gP,au,ag,iy,fK,fc,g9,x1,x2,x3,vX,vA,vF,bc,hid,p7,y1,y2,y3,e3,z1],by simp only[go_sem, ↓reduceIte,Nat.reduceEqDiff,Nat.reduceAdd,Nat.reduceSub,Nat.reduceLeDiff,reduceCtorEq,a6,a5,ag0,ag1,a0,a1,hj,gP,au,ag,iy,fK,fc,g9,x1,x2,x3,vX,vA,vF,bc,hid,p7,y1,y2,y3,e3,z1],by simp only[go_sem, ↓reduceIte,Nat.reduceEqDiff,Nat.reduceAdd,Nat.reduceSub,Nat.reduceLeDiff,reduceCtorEq,a6,a5,ag0,ag1,a0,a1,hj,gP,au,ag,iy,fK,fc,g9,x1,x2,x3,vX,vA,vF,bc,hid,p7,y1,y2,y3,e3,z1],by simp only[go_sem, ↓reduceIte,Nat.reduceEqDiff,Nat.reduceAdd,Nat.reduceSub,Nat.reduceLeDiff,reduceCtorEq,a6,a5,ag0,ag1,a0,a1,hj,gP,au,ag,iy,fK,fc,g9,x1,x2,x3,vX,vA,vF,bc,hid,p7,y1,y2,y3,e3,z1],by simp only[go_sem, ↓reduceIte,Nat.reduceEqDiff,Nat.reduceAdd,Nat.reduceSub,Nat.reduceLeDiff,reduceCtorEq,a6,a5,ag0,ag1,a0,a1,hj,gP,au,ag,iy,fK,fc,g9,x1,x2,x3,vX,vA,vF,bc,hid,p7,y1,y2,y3,e3,z1],F3 _ (by simp only[go_sem, ↓reduceIte,Nat.reduceEqDiff,Nat.reduceAdd,Nat.reduceSub,Nat.reduceLeDiff,reduceCtorEq,a6,a5,ag0,ag1,a0,a1,hj,gP,au,ag,iy,fK,fc,g9,x1,x2,x3,vX,vA,vF,bc,hid,p7,y1,y2,y3,e3,z1,List.length_nil]) (by simp only[go_sem, ↓reduceIte,Nat.reduceEqDiff,Nat.reduceAdd,Nat.reduceSub,Nat.reduceLeDiff,reduceCtorEq,a6,a5,ag0,ag1,a0,a1,hj,gP,au,ag,iy,fK,fc,g9,x1,x2,x3,vX,vA,vF,bc,hid,p7,y1,y2,y3,e3,z1,List.map_nil,List.nil_append]) (fun i hi K7 fy=>?_),bt⟩
     have gF:=fy id rfl
     simp only[go_sem, ↓reduceIte,Nat.reduceEqDiff,Nat.reduceAdd,Nat.reduceSub,Nat.reduceLeDiff,reduceCtorEq,vX,vA,vF,eD hi,K7,gF]
 ·have gq:j=bs.length:=ab
  subst gq
  (try((repeat(revert hN;revert N;apply Pn.out));refine wk (tw @a6 (tw @a5 (tw @ag0 (tw @ag1 (tw @a0 (tw @a1 @hj)))))) ?_;(repeat(refine Pn.mk ?_;intro N hN))))
  exact gn (.inl rfl) (by simp only[eQ,gI,go_sem, ↓reduceIte,Nat.reduceEqDiff,Nat.reduceAdd,Nat.reduceSub,Nat.reduceLeDiff,reduceCtorEq];rfl) ⟨X,A,F,rfl,hXs,⟨ag0,⟨rows,ids,ag,hR,km,fun x hx=>by have:=mB x hx;(try dsimp only);omega⟩,ag1,hXA,hAF,bt⟩⟩
theorem o8.frame {A:Id} {lo nx uz:Nat} {L:List (List Nat)} {g g':Rows} (h:o8 A lo L g nx) (hA:A.bV<nx) (hf:∀i:Id,i.bV<nx->lo<i.bV∨i=A->g' i=g i) (hn:nx<=uz):o8 A lo L g' uz:=by
 obtain⟨rows,ids,h1,h2,h3,h4⟩:=h
 refine⟨rows,ids,(hf A hA (.inr rfl)).trans h1,h2.frame Kb fun i hi=>hf i (h4 i hi).2 (.inl (h4 i hi).1),h3,fun i hi=>?_⟩
 have:=h4 i hi;omega
theorem mJ.frame {cnt:Nat} {bs:List PB} {f:Nat->Int} {X A F:Id} {g g':Rows} {nx uz:Nat} (h:mJ cnt bs f X A F g nx) (hf:∀i:Id,i.bV<nx->g' i=g i) (hn:nx<=uz):mJ cnt bs f X A F g' uz:=by
 have h1:=h.xa;have h2:=h.af;have h3:=h.fn
 exact⟨(hf X ab).trans h.x,h.a.frame ab (fun i hi _=>hf i hi) hn,(hf F h3).trans h.f,h1,h2,ab⟩
theorem mJ.Nl {cnt:Nat} {bs:List PB} {f f':Nat->Int} {X A F:Id} {g g':Rows} {nx uz:Nat} (h:mJ cnt bs f X A F g nx) (hF:g' F=some ⟨true,1,dw f' bs.length⟩) (hf:∀i:Id,i.bV<nx->(i=F)=False->g' i=g i) (hn:nx<=uz):mJ cnt bs f' X A F g' uz:=by
 have h1:=h.xa;have h2:=h.af;have h3:=h.fn
 refine⟨(hf X ab (dj ab).1).trans h.x,h.a.frame ab (fun i hi jz=>hf i hi ?_) hn,hF,h1,h2,ab⟩
 rcases jz with jz|rfl
 ·exact(dj jz).2
 ·exact(dj h2).1
theorem LK (cnt:Nat) (bs:List PB) (f:Nat->Int) (hs:Small bs f) (e v:Nat) (he:e<bs.length) (X A F:Id) (σ:aw) (nx:Nat) (hS:mJ cnt bs f X A F σ.get nx) (hn:nx<=σ.next):
  Call Tryz.prog 183 [.ptr X 0 0,.int .i64 v,.int .i64 e] σ fun r σ'=>mJ cnt bs (rC bs f e v) X A F σ'.get nx/\σ.next<=σ'.next/\∀i:Id,(i=F)=False->σ'.get i=σ.get i:=by
 refine eZ dN rfl fun hl=>?_
 clear hl
 have hX:=hS.x
 have hF:=hS.f
 have hb:=rX he
 have Qq:=du (f:=f) he
 have tl:=dk f bs.length
 obtain⟨⟨s0,s1⟩,s2,s3⟩:=hs e he
 have hei:(e:Int)<(bs.length:Int):=ab
 have w1:IntKind.i64.wrap (f e+1)=f e+1:=aY ab
 have w2:IntKind.i64.wrap (f e-1)=f e+-1:=by rw[aY ab];omega
 rw[az]at Qq
 unfold rC
 by_cases h:(bD bs e).a=v
 ·have dK:(dw f bs.length).set e (az (f e+1))=dw (fun j=>f j+if j=e then(if (bD bs e).a=v then 1 else -1)else 0) bs.length:=kc he (by rw[if_pos rfl,if_pos h]) fun i _ hi=>by rw[if_neg hi,Int.add_zero]
  rw[az]at dK
  generalize O3:bD bs e=b at *
  have hd:decide ((b.a:Int)=(v:Int))=true:=decide_eq_true (by rw[h])
  (try((repeat(revert hN;revert N;apply Pn.out));refine wk (tw @hX (tw @hF (tw @hb (tw @Qq (tw @tl (tw @hei (tw @w1 (tw @dK (tw @hd (tw @au.eq_1 @bc.eq_1)))))))))) ?_;(repeat(refine Pn.mk ?_;intro N hN))))
  exact gn (.inr rfl) (vs:=[]) rfl ⟨hS.Nl (sd @Nat.zero_add) (fun i hi gF=>sd @gF) (Nat.le_refl _),bt,fun i gF=>sd @gF⟩
 ·have dK:(dw f bs.length).set e (az (f e+-1))=dw (fun j=>f j+if j=e then(if (bD bs e).a=v then 1 else -1)else 0) bs.length:=kc he (by rw[if_pos rfl,if_neg h]) fun i _ hi=>by rw[if_neg hi,Int.add_zero]
  rw[az]at dK
  generalize O3:bD bs e=b at *
  have hd:decide ((b.a:Int)=(v:Int))=false:=decide_eq_false fun hc=>h ab
  (try((repeat(revert hN;revert N;apply Pn.out));refine wk (tw @hX (tw @hF (tw @hb (tw @Qq (tw @tl (tw @hei (tw @w2 (tw @dK (tw @hd (tw @au.eq_1 @bc.eq_1)))))))))) ?_;(repeat(refine Pn.mk ?_;intro N hN))))
  exact gn (.inr rfl) (vs:=[]) rfl ⟨hS.Nl (sd @Nat.zero_add) (fun i hi gF=>sd @gF) (Nat.le_refl _),bt,fun i gF=>sd @gF⟩
structure mK (bs:List PB) (out:Nat->Int) (f f':Nat->Int) (x v:Nat):Prop where
 le:∀i,i<bs.length->f' i<=(bD bs i).s/\-(bD bs i).s<=f' i
 cut:∀S:Nat->Bool,C0 S bs f'=C0 S bs f+bi (S x)-bi (S v)
 zf:∀e,e<bs.length->out (bD bs e).a<=out v->out (bD bs e).b<=out v->f' e=f e
section
variable {cnt:Nat} {bs:List PB} {out:Nat->Int} {f f':Nat->Int} {x v y:Nat}
theorem mK.start (h:∀i,i<bs.length->f i<=(bD bs i).s/\-(bD bs i).s<=f i):mK bs out f f x x:=⟨h,fun S=>ab,fun _ _ _ _=>rfl⟩
theorem mK.step (h:mK bs out f f' x v) {e:Nat} (he:e<bs.length) (hi:BP bs e v) (hr:0<eW bs f' e v) (hd:out (bm bs e v)=out v-1):mK bs out f (rC bs f' e v) x (bm bs e v):=by
 refine⟨fun i oj=>?_,fun S=>?_,fun i oj ha hb=>?_⟩
 ·have h1:=h.le i oj
  unfold rC
  by_cases HC:i=e
  ·subst HC
   rw[if_pos rfl]
   unfold eW at hr
   split at hr<;>rename_i hc
   ·rw[if_pos hc];omega
   ·rw[if_neg hc];omega
  ·rw[if_neg HC];omega
 ·rw[C1 he hi,h.cut S];omega
 ·have HC:i≠e:=by
   rintro rfl
   rcases hi with hi|hi
   ·rw[hi]at ha;omega
   ·rw[hi]at hb;omega
  unfold rC
  rw[if_neg HC,Int.add_zero]
  exact h.zf i oj ab ab
theorem mK.goes (h:mK bs out f f' x v) (hs:vV cnt bs f y out) (hv:v<cnt) (h0:0<out v):∃e∈gW bs bs.length v,0<eW bs f' e v/\out (bm bs e v)=out v-1:=by
 obtain⟨e,h1,h2,h3,h4⟩:=hs.down v hv h0
 refine⟨e,pB.2 ⟨h1,h2⟩,?_,h4⟩
 have hf:f' e=f e:=by
  refine h.zf e h1 ?_ ?_
  ·unfold bm at h4
   split at h4
   ·rename_i ha;rw[ha];exact Int.le_refl _
   ·omega
  ·unfold bm at h4
   rcases h2 with h2|h2
   ·rw[if_pos h2]at h4;omega
   ·rw[h2];exact Int.le_refl _
 unfold eW at h3 ⊢
 rw[hf];exact h3
theorem mK.done {val:Int} (h:mK bs out f f' x y) (hf:jk bs f x y val):jk bs f' x y (val+1):=
 ⟨h.le,fun S hx hy=>by rw[h.cut S,hf.cut S hx hy,hx,hy];simp[bi]⟩
theorem Bz {val:Int} (hs:vV cnt bs f y out) (ok:l5 cnt bs) (hf:jk bs f x y val) (hx:out x<0):∃S:Nat->Bool,S x=true/\S y=false/\val=g8 S bs:=by
 refine⟨fun v=>decide (out v<0),decide_eq_true hx,decide_eq_false (by rw[hs.first];omega),hf.full (decide_eq_true hx) (decide_eq_false (by rw[hs.first];omega)) fun i hi rh=>⟨fun h1 h2 hr=>?_,fun h1 h2 hr=>?_⟩⟩
 ·have Nq:=of_decide_eq_true h1
  have xx:=of_decide_eq_false h2
  have:=hs.shut i (bD bs i).a hi (.inl rfl) (by unfold bm;rw[if_pos rfl];omega) hr
  omega
 ·have Nq:=of_decide_eq_true h1
  have xx:=of_decide_eq_false h2
  have:=hs.shut i (bD bs i).b hi (.inr rfl) (by unfold bm;rw[if_neg rh];omega) hr
  omega
end
theorem tD {bs:List PB} {f:Nat->Int} (dQ:∀e,e<bs.length->0<=(bD bs e).s/\(bD bs e).s<=4) (h:∀i,i<bs.length->f i<=(bD bs i).s/\-(bD bs i).s<=f i):Small bs f:=fun e he=>by
 have:=dQ e he;have:=h e he;omega
theorem o8.at_ {A:Id} {lo nx v:Nat} {L:List (List Nat)} {l:List Nat} {g:Rows} (h:o8 A lo L g nx) (hv:L[v]? =some l) (hl:0<l.length):∃(rows:List (List AV)) (id:Id),g A=some ⟨true,1,rows⟩/\rows.length=L.length/\rows[v]? =some [.own id 0 l.length]/\g id=some ⟨true,1,l.map eN⟩/\lo<id.bV/\id.bV<nx:=by
 obtain⟨rows,ids,h1,h2,h3,h4⟩:=h
 have hk:v<L.length:=(List.getElem?_eq_some_iff.1 hv).1
 obtain⟨cs,ic,dh,hR,EM⟩:=h2.at_ v hk
 rw[jP hv hk]at hR
 rcases hR with⟨h5,_⟩|⟨id,rfl,_,h6,rfl⟩
 ·subst h5;simp at hl
 ·have:=h4 id (EM id (by simp))
  exact⟨rows,id,h1,h2.len,dh,h6,this.1,this.2⟩
theorem KO (cnt:Nat) (hn:cnt<=1048576) (bs:List PB) (ok:l5 cnt bs) (oY:bs.length<=1048576) (dQ:∀e,e<bs.length->0<=(bD bs e).s/\(bD bs e).s<=4) (f:Nat->Int) (x y:Nat) (hx:x<cnt) (hy:y<cnt) (Lv:x≠y) (val:Int) (hf:jk bs f x y val)
  (X A F:Id) (σ:aw) (nb:Nat) (hS:mJ cnt bs f X A F σ.get nb) (sa:nb<=σ.next):
  Call Tryz.prog 166 [.ptr X 0 0,.int .i64 x,.int .i64 y] σ fun r σ'=>∃b f',r=.bool b/\mJ cnt bs f' X A F σ'.get nb/\σ.next<=σ'.next/\(∀i:Id,i.bV<nb->(i=F)=False->σ'.get i=σ.get i)/\
   (b=false->f'=f/\∃S:Nat->Bool,S x=true/\S y=false/\val=g8 S bs)/\(b=true->jk bs f' x y (val+1)):=by
 refine eZ dN rfl fun hl=>?_
 clear hl
 have xI:(x:Int)<(cnt:Int):=ab
 have hz:∀(g:Rows),(∀i:Id,i.bV<nb->g i=σ.get i)->bW (dz g) 6 [.ptr X 0 0,.int .i64 (y:Int)]=some [.cK (e9 cnt bs f),.int .i64 y]:=fun g hg=>by
  have:=(hS.frame hg (Nat.le_refl _)).fz
  simp only[ad,aj,this,aH,Option.map_some]
 (try((repeat(revert hN;revert N;apply Pn.out));refine wk @Nat.zero_add ?_;(repeat(refine Pn.mk ?_;intro N hN))))
 refine .inr (aO _ _ _ _ _ (fun r σ1 hq=>?_) ((CA cnt hn bs ok oY f (tD dQ hf.le) y hy).x mixed (hz _ (fun i hi=>rfl))))
 obtain⟨⟨out,rfl,Lo⟩,rfl⟩:=hq
 refine hN _ _ ?_
 clear hN N
 have hox:=du (f:=out) hx
 have tl:=dk out cnt
 by_cases jr:out x<0
 ·(try((repeat(revert hN;revert N;apply Pn.out));refine wk (tw @hox (tw @jr (tw @xI (tw @tl @az.eq_1)))) ?_;(repeat(refine Pn.mk ?_;intro N hN))))
  exact gn (.inl rfl) (vs:=[.bool false]) (sd @Nat.zero_add) ⟨false,f,rfl,hS.frame (fun i hi=>rfl) (Nat.le_refl _),bt,fun i _ _=>rfl,fun _=>⟨rfl,Bz Lo ok hf jr⟩,fun h=>by cases h⟩
 (try((repeat(revert hN;revert N;apply Pn.out));refine wk (tw @hox (tw @jr (tw @xI (tw @tl @az.eq_1)))) ?_;(repeat(refine Pn.mk ?_;intro N hN))))
 refine aL (fun m env st=>∃(v:Nat) (f':Nat->Int),m=(out v).toNat/\v<cnt/\0<=out v/\env 8=.int .i64 (v:Int)/\mK bs out f f' x v/\mJ cnt bs f' X A F st.get nb/\(∀i:Id,i.bV<nb->(i=F)=False->st.get i=σ.get i)/\σ.next<=st.next) (out x).toNat ⟨x,f,rfl,hx,ab,by(simp only[go_sem, ↓reduceIte,Nat.reduceEqDiff,Nat.reduceAdd,Nat.reduceSub,Nat.reduceLeDiff,reduceCtorEq]),mK.start hf.le,hS.frame (fun i hi=>rfl) (Nat.le_refl _),fun i _ _=>rfl,bt⟩ ?_
 rintro m env_b st_b ⟨v,f',rfl,hv,jT,b8,hW,hN1,mc,hle⟩ bfr
 have b0:=bfr 0 (by kernel_rfl)
 have b2:=bfr 2 (by kernel_rfl)
 have b7:=bfr 7 (by kernel_rfl)
 simp only[go_sem, ↓reduceIte,Nat.reduceEqDiff,Nat.reduceAdd,Nat.reduceSub,Nat.reduceLeDiff,reduceCtorEq]at b0 b2 b7
 clear bfr
 by_cases Po:v=y
 ·have hd:decide ((v:Int)=(y:Int))=true:=decide_eq_true (by rw[Po])
  subst Po
  (try((repeat(revert hN;revert N;apply Pn.out));refine wk (tw @b0 (tw @b2 (tw @b7 (tw @b8 @hd)))) ?_;(repeat(refine Pn.mk ?_;intro N hN))))
  exact gn (.inl rfl) (vs:=[.bool true]) (sd @Nat.zero_add) ⟨true,f',rfl,hN1,bt,mc,fun h=>(by cases h),fun _=>hW.done hf⟩
 have hd:decide ((v:Int)=(y:Int))=false:=decide_eq_false fun h=>Po ab
 have xF:0<out v:=by
  have:=Lo.zero v hv
  rcases Int.lt_or_eq_of_le jT with h|h
  ·exact h
  ·exact absurd (this h.symm) Po
 have JQ:=hW.goes Lo hv xF
 have hIm:∀ed∈gW bs bs.length v,ed<bs.length/\BP bs ed v:=fun ed h=>pB.1 h
 have hIL:(kn cnt bs bs.length)[v]? =some (gW bs bs.length v):=by simp[kn,hv]
 have hIl:=pA bs bs.length v
 generalize gW bs bs.length v=I at *
 have hIp:0<I.length:=by
  obtain⟨ed,h,_⟩:=JQ
  exact List.length_pos_of_mem h
 obtain⟨rows,id,hgA,mz,kV,hid,hid1,hid2⟩:=hN1.a.at_ hIL hIp
 rw[iA]at mz
 have hgX:=hN1.x
 have AM:(v:Int)<(cnt:Int):=ab
 have rS:=du (f:=out) hv
 have qu:IntKind.i64.wrap (out v-1)=out v-1:=aY (by have:=Lo.lo v hv;omega)
 have oH:(I.map eN).length=I.length:=by simp
 have ID:=tD dQ hW.le
 have kF:∀(g:Rows),(∀i:Id,i.bV<nb->g i=st_b.get i)->∀ed:Nat,bW (dz g) 6 [.ptr X 0 0,.int .i64 (v:Int),.int .i64 (ed:Int)]=some [.cK (e9 cnt bs f'),.int .i64 v,.int .i64 ed]:=fun g hg ed=>by
  have:=(hN1.frame hg (Nat.le_refl _)).fz
  simp only[ad,aj,this,aH,Option.map_some]
 rw[az]at rS
 (try((repeat(revert hN;revert N;apply Pn.out));refine wk (tw @b0 (tw @b2 (tw @b7 (tw @b8 @hd)))) ?_;(repeat(refine Pn.mk ?_;intro N hN))))
 refine aL (fun n env st=>∃k:Nat,n=(I.length)-k/\k<=(I.length)/\env 11=.int .i64 (k:Int)/\(∃(vG BV:Int),env 9=.int .i64 vG/\env 10=.int .i64 BV/\((vG<0/\∀z,z<k->¬(0<eW bs f' (I.getD z 0) v/\out (bm bs (I.getD z 0) v)=out v-1))∨∃ed:Nat,ed∈I/\BV=(ed:Int)/\vG=(bm bs ed v:Int)/\0<eW bs f' ed v/\out (bm bs ed v)=out v-1))/\((∀i:Id,st.get i=st_b.get i)/\st_b.next<=st.next)) (I.length) ⟨0,ab,ab,sl (tw @b0 (tw @b2 (tw @b7 @b8))),⟨-1,0,by(simp only[go_sem, ↓reduceIte,Nat.reduceEqDiff,Nat.reduceAdd,Nat.reduceSub,Nat.reduceLeDiff,reduceCtorEq]),by(simp only[go_sem, ↓reduceIte,Nat.reduceEqDiff,Nat.reduceAdd,Nat.reduceSub,Nat.reduceLeDiff,reduceCtorEq]),.inl ⟨ab,fun z hz=>ab⟩⟩,⟨fun i=>rfl,bt⟩⟩ ?_
 rintro n_c env_c st_c ⟨k,rfl,cle,mj,cI0,cI1⟩ cfr
 have c0:=cfr 0 (by kernel_rfl);have c2:=cfr 2 (by kernel_rfl);have c7:=cfr 7 (by kernel_rfl);have c8:=cfr 8 (by kernel_rfl)
 simp only[go_sem, ↓reduceIte,Nat.reduceEqDiff,Nat.reduceAdd,Nat.reduceSub,Nat.reduceLeDiff,reduceCtorEq,b0,b2,b7,b8]at c0 c2 c7 c8
 clear cfr
 obtain⟨vG,BV,c9,iM,FL⟩:=cI0
 obtain⟨k7,O4⟩:=cI1
 have AD:=(k7 X).trans hgX
 have AB:=(k7 A).trans hgA
 have AF:=(k7 id).trans hid
 by_cases hk:(k:Int)<(I.length:Int)
 ·have gp:∀{e:Env} {gg:Rows} {nx:Nat},(e 11=.int .i64 (IntKind.i64.wrap ((k:Int)+1)))->(∃(vG BV:Int),e 9=.int .i64 vG/\e 10=.int .i64 BV/\((vG<0/\∀z,z<(k+1)->¬(0<eW bs f' (I.getD z 0) v/\out (bm bs (I.getD z 0) v)=out v-1))∨∃ed:Nat,ed∈I/\BV=(ed:Int)/\vG=(bm bs ed v:Int)/\0<eW bs f' ed v/\out (bm bs ed v)=out v-1))->((∀i:Id,gg i=st_b.get i)/\st_b.next<=nx)->∃m0,m0<(I.length)-k/\∃k:Nat,m0=(I.length)-k/\k<=(I.length)/\e 11=.int .i64 (k:Int)/\(∃(vG BV:Int),e 9=.int .i64 vG/\e 10=.int .i64 BV/\((vG<0/\∀z,z<k->¬(0<eW bs f' (I.getD z 0) v/\out (bm bs (I.getD z 0) v)=out v-1))∨∃ed:Nat,ed∈I/\BV=(ed:Int)/\vG=(bm bs ed v:Int)/\0<eW bs f' ed v/\out (bm bs ed v)=out v-1))/\((∀i:Id,gg i=st_b.get i)/\st_b.next<=nx):=fun x1 x2 x3=>⟨_,ab,k+1,rfl,ab,(by rw[x1,ax ab]),x2,x3⟩
  have eY:k<I.length:=ab
  have eB:(I.map eN)[k]? =some (eN (I.getD k 0)):=getD_map eN eY
  have um:I.getD k 0∈I:=by rw[List.getD_eq_getElem?_getD,List.getElem?_eq_getElem eY];exact List.getElem_mem eY
  obtain⟨he,nY⟩:=hIm _ um
  have Lm:=GV cnt bs f' ID (I.getD k 0) v he
  have rm:=kF st_c.get (fun i _=>k7 i) (I.getD k 0)
  have hq:=nq ok (v:=v) he
  have ME:=du (f:=out) hq
  obtain⟨ed,hed⟩:∃ed,ed=I.getD k 0:=⟨_,rfl⟩
  rw[<-hed]at eB he nY Lm rm hq ME um
  rw[az]at ME
  rw[eN]at eB
  (try((repeat(revert hN;revert N;apply Pn.out));refine wk (tw @mj (tw @c0 (tw @c2 (tw @c7 (tw @c8 (tw @c9 (tw @iM (tw @hk (tw @AD (tw @AB (tw @AF (tw @kV (tw @mz (tw @AM (tw @eB (tw @oH @bc.eq_1)))))))))))))))) ?_;(repeat(refine Pn.mk ?_;intro N hN))))
  refine .inl ⟨_,ai.x Lm rm,?_⟩
  refine hN _ _ ?_
  clear hN N
  have stay:∀k',k'=k+1->(¬(0<eW bs f' ed v/\out (bm bs ed v)=out v-1))->((vG<0/\∀z,z<k'->¬(0<eW bs f' (I.getD z 0) v/\out (bm bs (I.getD z 0) v)=out v-1))∨∃ed:Nat,ed∈I/\BV=(ed:Int)/\vG=(bm bs ed v:Int)/\0<eW bs f' ed v/\out (bm bs ed v)=out v-1):=fun k' Is jI=>by
   rcases FL with⟨h1,h2⟩|h
   ·refine .inl ⟨h1,fun z hz=>?_⟩
    by_cases AP:z=k
    ·subst AP;rw[<-hed];exact jI
    ·exact h2 z ab
   ·exact .inr h
  by_cases hr:0<eW bs f' ed v
  ·by_cases Mw:out (bm bs ed v)=out v-1
   ·have mo:decide (out (bm bs ed v)=out v-1)=true:=decide_eq_true Mw
    have found:∃Nd:Nat,Nd∈I/\(ed:Int)=(Nd:Int)/\(bm bs ed v:Int)=(bm bs Nd v:Int)/\0<eW bs f' Nd v/\out (bm bs Nd v)=out v-1:=⟨ed,um,rfl,rfl,hr,Mw⟩
    by_cases HG:vG<0
    ·(try((repeat(revert hN;revert N;apply Pn.out));refine wk (tw @mj (tw @c0 (tw @c2 (tw @c7 (tw @c8 (tw @c9 (tw @iM (tw @hk (tw @AD (tw @AB (tw @AF (tw @kV (tw @mz (tw @AM (tw @eB (tw @oH (tw @hr (tw @ME (tw @rS (tw @qu (tw @mo (tw @HG @bc.eq_1)))))))))))))))))))))) ?_;(repeat(refine Pn.mk ?_;intro N hN))))
     exact gp (sd (tw @mj (tw @c0 (tw @c2 (tw @c7 @c8))))) (⟨_,_,sd @Nat.zero_add,sd @Nat.zero_add,.inr found⟩) (⟨k7,bt⟩)
    ·by_cases dF:(bm bs ed v:Int)<vG
     ·(try((repeat(revert hN;revert N;apply Pn.out));refine wk (tw @mj (tw @c0 (tw @c2 (tw @c7 (tw @c8 (tw @c9 (tw @iM (tw @hk (tw @AD (tw @AB (tw @AF (tw @kV (tw @mz (tw @AM (tw @eB (tw @oH (tw @hr (tw @ME (tw @rS (tw @qu (tw @mo (tw @HG (tw @dF @bc.eq_1))))))))))))))))))))))) ?_;(repeat(refine Pn.mk ?_;intro N hN))))
      exact gp (sd (tw @mj (tw @c0 (tw @c2 (tw @c7 @c8))))) (⟨_,_,sd @Nat.zero_add,sd @Nat.zero_add,.inr found⟩) (⟨k7,bt⟩)
     ·(try((repeat(revert hN;revert N;apply Pn.out));refine wk (tw @mj (tw @c0 (tw @c2 (tw @c7 (tw @c8 (tw @c9 (tw @iM (tw @hk (tw @AD (tw @AB (tw @AF (tw @kV (tw @mz (tw @AM (tw @eB (tw @oH (tw @hr (tw @ME (tw @rS (tw @qu (tw @mo (tw @HG (tw @dF @bc.eq_1))))))))))))))))))))))) ?_;(repeat(refine Pn.mk ?_;intro N hN))))
      exact gp (sd (tw @mj (tw @c0 (tw @c2 (tw @c7 @c8))))) (⟨vG,BV,sd @c9,sd @iM,by
       rcases FL with⟨h1,_⟩|h
       ·exact absurd h1 HG
       ·exact .inr h⟩) (⟨k7,bt⟩)
   ·have mo:decide (out (bm bs ed v)=out v-1)=false:=decide_eq_false Mw
    (try((repeat(revert hN;revert N;apply Pn.out));refine wk (tw @mj (tw @c0 (tw @c2 (tw @c7 (tw @c8 (tw @c9 (tw @iM (tw @hk (tw @AD (tw @AB (tw @AF (tw @kV (tw @mz (tw @AM (tw @eB (tw @oH (tw @hr (tw @ME (tw @rS (tw @qu (tw @mo @bc.eq_1))))))))))))))))))))) ?_;(repeat(refine Pn.mk ?_;intro N hN))))
    exact gp (sd (tw @mj (tw @c0 (tw @c2 (tw @c7 @c8))))) (⟨vG,BV,sd @c9,sd @iM,stay _ rfl fun h=>Mw h.2⟩) (⟨k7,bt⟩)
  ·(try((repeat(revert hN;revert N;apply Pn.out));refine wk (tw @mj (tw @c0 (tw @c2 (tw @c7 (tw @c8 (tw @c9 (tw @iM (tw @hk (tw @AD (tw @AB (tw @AF (tw @kV (tw @mz (tw @AM (tw @eB (tw @oH (tw @hr @bc.eq_1))))))))))))))))) ?_;(repeat(refine Pn.mk ?_;intro N hN))))
   exact gp (sd (tw @mj (tw @c0 (tw @c2 (tw @c7 @c8))))) (⟨vG,BV,sd @c9,sd @iM,stay _ rfl fun h=>hr h.1⟩) (⟨k7,bt⟩)
 ·have ki:k=I.length:=ab
  have Qr:∃ed:Nat,ed∈I/\BV=(ed:Int)/\vG=(bm bs ed v:Int)/\0<eW bs f' ed v/\out (bm bs ed v)=out v-1:=by
   rcases FL with⟨h1,h2⟩|h
   ·exfalso
    obtain⟨ed,he,hq⟩:=JQ
    obtain⟨z,hz,rfl⟩:=List.getElem_of_mem he
    refine h2 z ab ?_
    rw[List.getD_eq_getElem?_getD,List.getElem?_eq_getElem hz];exact hq
   ·exact h
  obtain⟨ed,um,rfl,rfl,hr,Mw⟩:=Qr
  obtain⟨he,nY⟩:=hIm _ um
  (try((repeat(revert hN;revert N;apply Pn.out));refine wk (tw @mj (tw @c0 (tw @c2 (tw @c7 (tw @c8 (tw @c9 (tw @iM (tw @hk (tw @AD (tw @AB (tw @AF (tw @kV (tw @mz (tw @AM (tw @oH @bc.eq_1))))))))))))))) ?_;(repeat(refine Pn.mk ?_;intro N hN))))
  refine .inr (aO _ _ _ _ _ (fun r σ1 hq=>?_) (LK cnt bs f' ID ed v he X A F ⟨st_c.get,_⟩ nb (hN1.frame (fun i _=>k7 i) (Nat.le_refl _)) bt))
  obtain⟨OZ,lJ,FT⟩:=hq
  (try dsimp only at lJ FT)
  refine hN _ _ ?_
  clear hN N
  (try((repeat(revert hN;revert N;apply Pn.out));refine wk (tw @mj (tw @c0 (tw @c2 (tw @c7 (tw @c8 @c9))))) ?_;(repeat(refine Pn.mk ?_;intro N hN))))
  refine⟨_,?_,bm bs ed v,rC bs f' ed v,rfl,nq ok he,ab,sd @Nat.zero_add,hW.step he nY hr Mw,OZ,fun i hi hF=>by rw[FT i hF,k7 i,mc i hi hF],bt⟩
  omega
def qO (P:Program) (f:Nat) (args:List AV) (R:AV->Prop):Prop:=∀σ:aw,Call P f args ⟨V.ro σ.get,σ.next⟩ fun r0 σ'=>∃r',V.fz σ'.get 6 r0=some r'/\R r'
theorem Ak {P:Program} {f:Nat} {args:List AV} {g:Rows} {n:Nat} {R:AV->Prop} (h:Sound P f args ⟨V.ro g,n⟩ fun r0 σ'=>∃r',V.fz σ'.get 6 r0=some r'/\R r'):Sound P f args ⟨g,n⟩ fun r σ'=>R r/\σ'=⟨g,n⟩:=by
 intro hs D ι w vs S U A
 refine(xK (g0:=g) (K:=R) h (fun _ _ h=>h) S U A).mono ?_
 rintro e w' ⟨r,D',u,rfl,hR,T,S',hr⟩
 exact⟨r,g,n,D',ι,u,rfl,⟨hR,rfl⟩,T,S',U,Nat.le_refl _,hr⟩
theorem qO.x {P:Program} (hm:P.follows .mixedOrders=true) {f:Nat} {args:List AV} {R:AV->Prop} (h:qO P f args R) {σ:aw}:Call P f args σ fun r σ'=>R r/\σ'=σ:=
 gT (Ak (gu hm (h σ)))
theorem qO.body {P:Program} {f:Nat} {args:List AV} {R:AV->Prop} {nt na:Nat} {body:VC} {res:List nU} (hf:lE P f=some ⟨nt,na,body,res⟩) (ha:na=args.length) (h:(∀a∈args,dY a)->∀σ:aw,dP (Call P) body (kQ res fun r0 σ'=>∃r',V.fz σ'.get 6 r0=some r'/\R r') (cq args) ⟨V.ro σ.get,σ.next⟩):qO P f args R:=fun σ=>kW hf ha fun hl=>h hl σ
theorem IV {g:Rows} {rows:List (List AV)} {xs:List (List Nat)} {ids:List Id} (n:Nat) (h:cD Mm g rows xs ids):dq g (n+2) rows=some (xs.map fun l=>[LS l]):=by
 induction h with
 |nil=>rw[dq];rfl
 |cons h1 _ ih=>
  rename_i x _ _ _ _ _
  rcases h1 with⟨h0,h1,_⟩|⟨id,h1,h0,h2,_⟩
  ·subst h0 h1;rw[dq,ih,ad,aj,aQ];rfl
  ·have gF:x≠[]:=by rintro rfl;simp at h0
   subst h1
   rw[dq,ih,ad,aj,fA (e:=eN) (sz:=1) h2 rfl fun a=>fzN _ n a]
   simp[LS,gF]
theorem mJ.fz0 {cnt:Nat} {bs:List PB} {f:Nat->Int} {X A F:Id} {g:Rows} {nx:Nat} (h:mJ cnt bs f X A F g nx):V.fz g 5 (.ptr X 0 0)=some (.cK (e9 cnt bs f)):=by
 have hf:V.fz g 4 (.own F 0 bs.length)=some (.sl (dw f bs.length)):=by
  rw[fP]
  simp only[h.f,if_true]
  rw[if_pos (by rw[dk];omega),List.drop_zero,List.take_of_length_le (by rw[dk];omega),xj];rfl
 have ha:V.fz g 4 (.own A 0 cnt)=some (.sl (ow cnt bs bs.length)):=by
  obtain⟨rows,ids,h1,h2,_,_⟩:=h.a
  have hl:=h2.len
  rw[iA]at hl
  rw[fP]
  simp only[h1,if_true]
  rw[if_pos ab,List.drop_zero,List.take_of_length_le ab,IV 1 h2]
  simp[kn,ow]
 rw[bh]
 simp only[h.x,if_true,List.getElem?_cons_zero,List.drop_zero,bc,ad,aj,aH,cl,ha,hf,Option.map_some,e9]
theorem BW {S:Nat->Bool}:∀bs:List PB,(∀b∈bs,b.s<=4)->g8 S bs<=4*bs.length
 |[],_=>by simp[g8]
 |b::bs,h=>by
  rw[qj]
  have:=BW (S:=S) bs fun x hx=>h x (List.mem_cons_of_mem _ hx)
  have:=h b (by simp)
  simp only[List.length_cons]
  split<;>omega
theorem jk.zero {bs:List PB} {x y:Nat} (h:∀e,e<bs.length->0<=(bD bs e).s/\(bD bs e).s<=4):jk bs (fun _=>0) x y 0:=
 ⟨fun i hi=>by have:=h i hi;omega,fun S _ _=>jd fun i _=>by simp⟩
theorem HU {bs:List PB} {b:PB} (h:b∈bs):∃e,e<bs.length/\bD bs e=b:=by
 obtain⟨e,he,rfl⟩:=List.getElem_of_mem h
 exact⟨e,he,by simp[bD,List.getD_eq_getElem?_getD,he]⟩
theorem DN (cnt:Nat) (hn:cnt<=1048576) (bs:List PB) (ok:l5 cnt bs) (oY:bs.length<=1048576) (dQ:∀e,e<bs.length->0<=(bD bs e).s/\(bD bs e).s<=4) (x y:Nat) (hx:x<cnt) (hy:y<cnt) (Lv:x≠y):
  qO Tryz.prog 150 [.int .i64 cnt,.sl (bs.map au),.int .i64 x,.int .i64 y] fun r=>∃f val,r=.ib [.cK (e9 cnt bs f),.int .i64 val]/\jk bs f x y val/\∃S:Nat->Bool,S x=true/\S y=false/\val=g8 S bs:=by
 refine qO.body dN rfl fun hl σ=>?_
 clear hl
 (try((repeat(revert hN;revert N;apply Pn.out));refine wk @Nat.zero_add ?_;(repeat(refine Pn.mk ?_;intro N hN))))
 refine .inr (aO _ _ _ _ _ (fun r σ1 hq=>?_) (Gj cnt hn bs ok oY _))
 obtain⟨X,A,F,rfl,hX,hS⟩:=hq
 refine hN _ _ ?_
 clear hN N
 have hS0:∀f val,jk bs f x y val->val<=g8 (fun v=>decide (v=x)) bs:=fun f val hf=>hf.bound (decide_eq_true rfl) (decide_eq_false fun h=>Lv h.symm)
 have htot:=BW (S:=fun v=>decide (v=x)) bs fun b hb=>by
  obtain⟨e,he,rfl⟩:=HU hb
  exact(dQ e he).2
 generalize g8 (fun v=>decide (v=x)) bs=T at *
 (try((repeat(revert hN;revert N;apply Pn.out));refine wk @Nat.zero_add ?_;(repeat(refine Pn.mk ?_;intro N hN))))
 refine aL (fun m env st=>∃(f:Nat->Int) (val:Int),m=(T-val).toNat/\0<=val/\env 10=.ptr X 0 0/\env 11=.int .i64 val/\jk bs f x y val/\mJ cnt bs f X A F st.get σ1.next/\σ1.next<=st.next) T.toNat ⟨_,0,by simp,ab,by(simp only[go_sem, ↓reduceIte,Nat.reduceEqDiff,Nat.reduceAdd,Nat.reduceSub,Nat.reduceLeDiff,reduceCtorEq]),by(simp only[go_sem, ↓reduceIte,Nat.reduceEqDiff,Nat.reduceAdd,Nat.reduceSub,Nat.reduceLeDiff,reduceCtorEq]),jk.zero dQ,hS.frame (fun i hi=>rfl) (Nat.le_refl _),bt⟩ ?_
 rintro m env_b st_b ⟨f,val,rfl,jT,ua,uI,hf,hN1,hle⟩ bfr
 have b2:=bfr 2 (by kernel_rfl)
 have b3:=bfr 3 (by kernel_rfl)
 simp only[go_sem, ↓reduceIte,Nat.reduceEqDiff,Nat.reduceAdd,Nat.reduceSub,Nat.reduceLeDiff,reduceCtorEq]at b2 b3
 clear bfr
 (try((repeat(revert hN;revert N;apply Pn.out));refine wk (tw @b2 (tw @b3 @ua)) ?_;(repeat(refine Pn.mk ?_;intro N hN))))
 refine .inr (aO _ _ _ _ _ (fun r σ2 hq=>?_) (KO cnt hn bs ok oY dQ f x y hx hy Lv val hf X A F ⟨st_b.get,_⟩ σ1.next hN1 bt))
 obtain⟨b,f',rfl,OZ,lJ,_,jI,Gc⟩:=hq
 (try dsimp only at lJ)
 refine hN _ _ ?_
 clear hN N
 cases b with
 |true=>
  have kU:=Gc rfl
  have Hw:=hS0 _ _ hf
  have r8:=hS0 _ _ kU
  have hw:IntKind.i64.wrap (val+1)=val+1:=aY ab
  (try((repeat(revert hN;revert N;apply Pn.out));refine wk (tw @ua (tw @uI @hw)) ?_;(repeat(refine Pn.mk ?_;intro N hN))))
  exact⟨_,ab,f',val+1,rfl,ab,sd @ua,sd (tw @uI @hw),kU,OZ,bt⟩
 |false=>
  obtain⟨rfl,S,h1,h2,h3⟩:=jI rfl
  (try((repeat(revert hN;revert N;apply Pn.out));refine wk (tw @ua @uI) ?_;(repeat(refine Pn.mk ?_;intro N hN))))
  have hz:=OZ.fz0
  exact⟨[.ptr X 0 0,.int .i64 val],sd @Nat.zero_add,.ib [.cK (e9 cnt bs f'),.int .i64 val],by simp only[dU,bz,ad,aj,hz,aH,Option.map_some],f',val,rfl,hf,S,h1,h2,h3⟩
theorem DO (cnt:Nat) (hn:cnt<=1048576) (bs:List PB) (ok:l5 cnt bs) (oY:bs.length<=1048576) (f:Nat->Int) (hs:Small bs f) (y:Nat) (hy:y<cnt):
  lX Tryz.prog 151 [.cK (e9 cnt bs f),.int .i64 y] fun r=>∃l:List Nat,r=.sl (l.map eN)/\l.length<=cnt:=by
 refine lX.body dN rfl fun hl n0=>?_
 clear hl
 have hz:∀g:Rows,bW (dz g) 6 [.cK (e9 cnt bs f),.int .i64 (y:Int)]=some [.cK (e9 cnt bs f),.int .i64 y]:=fun g=>by simp only[ad,aj,aW,aH,Option.map_some]
 (try((repeat(revert hN;revert N;apply Pn.out));refine wk @Nat.zero_add ?_;(repeat(refine Pn.mk ?_;intro N hN))))
 refine .inr (aO _ _ _ _ _ (fun r σ1 hq=>?_) ((CA cnt hn bs ok oY f hs y hy).x mixed (hz _)))
 obtain⟨⟨out,rfl,Lo⟩,rfl⟩:=hq
 refine hN _ _ ?_
 clear hN N
 (try((repeat(revert hN;revert N;apply Pn.out));refine wk @e9.eq_1 ?_;(repeat(refine Pn.mk ?_;intro N hN))))
 refine aL (fun n env st=>∃k:Nat,n=(cnt)-k/\k<=(cnt)/\env 7=.int .i64 (k:Int)/\(∃(o:Id) (l:List Nat),env 6=.own o 0 l.length/\st.get o=some ⟨true,1,l.map eN⟩/\o.bV<st.next/\l.length<=k)) (cnt) ⟨0,ab,ab,sl @e9.eq_1,⟨⟨151002000,n0+1+1+1⟩,[],by(simp only[go_sem, ↓reduceIte,Nat.reduceEqDiff,Nat.reduceAdd,Nat.reduceSub,Nat.reduceLeDiff,reduceCtorEq])<;>rfl,by(simp only[go_sem, ↓reduceIte,Nat.reduceEqDiff,Nat.reduceAdd,Nat.reduceSub,Nat.reduceLeDiff,reduceCtorEq])<;>rfl,bt,by simp⟩⟩ ?_
 rintro n_a env_a st_a ⟨k,rfl,ale,a7,lx⟩ dC
 have a0:=dC 0 (by kernel_rfl);have a5:=dC 5 (by kernel_rfl)
 simp only[go_sem, ↓reduceIte,Nat.reduceEqDiff,Nat.reduceAdd,Nat.reduceSub,Nat.reduceLeDiff,reduceCtorEq,e9]at a0 a5
 clear dC
 obtain⟨o,l,a6,ag,rS,xE⟩:=lx
 have jT:=eD rS
 have kD:(l.map eN).length=l.length:=by simp
 by_cases hk:(k:Int)<(cnt:Int)
 ·have bZ:∀{e:Env} {gg:Rows} {nx:Nat},(e 7=.int .i64 (IntKind.i64.wrap ((k:Int)+1)))->(∃(o:Id) (l:List Nat),e 6=.own o 0 l.length/\gg o=some ⟨true,1,l.map eN⟩/\o.bV<nx/\l.length<=(k+1))->∃m0,m0<(cnt)-k/\∃k:Nat,m0=(cnt)-k/\k<=(cnt)/\e 7=.int .i64 (k:Int)/\(∃(o:Id) (l:List Nat),e 6=.own o 0 l.length/\gg o=some ⟨true,1,l.map eN⟩/\o.bV<nx/\l.length<=k):=fun x1 x2=>⟨_,ab,k+1,rfl,ab,(by rw[x1,ax ab]),x2⟩
  have sV:=du (f:=out) (show k<cnt by omega)
  rw[az]at sV
  have e1:l.length+1<=16777216:=ab
  by_cases h0:0<=out k
  ·(try((repeat(revert hN;revert N;apply Pn.out));refine wk (tw @a7 (tw @a0 (tw @a5 (tw @a6 (tw @ag (tw @jT (tw @hk (tw @sV (tw @h0 (tw @e1 (tw @kD @e9.eq_1))))))))))) ?_;(repeat(refine Pn.mk ?_;intro N hN))))
   exact bZ (sd (tw @a7 (tw @a0 (tw @a5 @e9.eq_1)))) (⟨⟨151007003,st_a.next+1+1⟩,l++[k],by rw[List.length_append];simp only[go_sem, ↓reduceIte,Nat.reduceEqDiff,Nat.reduceAdd,Nat.reduceSub,Nat.reduceLeDiff,reduceCtorEq,List.length_cons,List.length_nil],by rw[List.map_append,List.map_cons,List.map_nil];simp only[go_sem, ↓reduceIte,Nat.reduceEqDiff,Nat.reduceAdd,Nat.reduceSub,Nat.reduceLeDiff,reduceCtorEq,eN],bt,by simp;omega⟩)
  ·(try((repeat(revert hN;revert N;apply Pn.out));refine wk (tw @a7 (tw @a0 (tw @a5 (tw @a6 (tw @ag (tw @jT (tw @hk (tw @sV (tw @h0 (tw @kD @e9.eq_1)))))))))) ?_;(repeat(refine Pn.mk ?_;intro N hN))))
   exact bZ (sd (tw @a7 (tw @a0 (tw @a5 @e9.eq_1)))) (⟨o,l,sd @a6,sd @ag,bt,ab⟩)
 ·(try((repeat(revert hN;revert N;apply Pn.out));refine wk (tw @a7 (tw @a0 (tw @a5 (tw @a6 (tw @hk @e9.eq_1))))) ?_;(repeat(refine Pn.mk ?_;intro N hN))))
  have qq:fa st_a.get 6 (.own o 0 l.length)=some (.sl (l.map eN)):=ft ag rfl fun b=>KM _ 4 b
  exact⟨_,rfl,_,by simp only[go_sem, ↓reduceIte,Nat.reduceEqDiff,Nat.reduceAdd,Nat.reduceSub,Nat.reduceLeDiff,reduceCtorEq,dU];exact qq,l,rfl,ab⟩
theorem yY (v1 v2:Int) (l1 l2:List Nat) (h1:l1.length<=1048576) (h2:l2.length<=1048576):
  lX Tryz.prog 152 [.int .i64 v1,.sl (l1.map eN),.int .i64 v2,.sl (l2.map eN)] fun r=>∃b,r=.bool b/\(v1<v2->b=true)/\(v2<v1->b=false):=by
 refine lX.body dN rfl fun hl n0=>?_
 clear hl
 have ret:∀{t:Nat} {env:Env} {σ:aw} {b:Bool} {x:Ex},(x=.ret∨x=.normal)->env t=.bool b->((v1<v2->b=true)/\(v2<v1->b=false))->kQ [.tmp t] (fun r0 σ'=>∃r',fa σ'.get 6 r0=some r'/\∃b,r'=.bool b/\(v1<v2->b=true)/\(v2<v1->b=false)) x env σ:=by
  intro t env σ b x hx he hb
  have:∃vs,eQ env σ.get [.tmp t]=some vs/\∃r',fa σ.get 6 (dU vs)=some r'/\∃b,r'=.bool b/\(v1<v2->b=true)/\(v2<v1->b=false):=⟨[env t],rfl,.bool b,by rw[he];exact eO _ _ _,b,rfl,hb⟩
  rcases hx with rfl|rfl
  ·exact this
  ·exact this
 have m1:(l1.map eN).length=l1.length:=by simp
 have m2:(l2.map eN).length=l2.length:=by simp
 by_cases hv:v1=v2
 ·have hd:decide (v1=v2)=true:=decide_eq_true hv
  by_cases xE:(l1.length:Int)=(l2.length:Int)
  ·have mo:decide ((l1.length:Int)=(l2.length:Int))=true:=decide_eq_true xE
   have Qi:decide (l1.length=l2.length)=true:=decide_eq_true ab
   (try((repeat(revert hN;revert N;apply Pn.out));refine wk (tw @hd (tw @mo (tw @Qi (tw @m1 @m2)))) ?_;(repeat(refine Pn.mk ?_;intro N hN))))
   refine aL (fun n env st=>∃k:Nat,n=(l1.length)-k/\k<=(l1.length)/\env 9=.int .i64 (k:Int)) (l1.length) ⟨0,ab,ab,sl @Nat.zero_add⟩ ?_
   rintro n_a env_a st_a ⟨k,rfl,ale,a9⟩ dC
   have a1:=dC 1 (by kernel_rfl);have a3:=dC 3 (by kernel_rfl)
   simp only[go_sem, ↓reduceIte,Nat.reduceEqDiff,Nat.reduceAdd,Nat.reduceSub,Nat.reduceLeDiff,reduceCtorEq]at a1 a3
   clear dC
   by_cases hk:(k:Int)<(l1.length:Int)
   ·have bZ:∀{e:Env},(e 9=.int .i64 (IntKind.i64.wrap ((k:Int)+1)))->∃m0,m0<(l1.length)-k/\∃k:Nat,m0=(l1.length)-k/\k<=(l1.length)/\e 9=.int .i64 (k:Int):=fun x1=>⟨_,ab,k+1,rfl,ab,(by rw[x1,ax ab])⟩
    have g1:(l1.map eN)[k]? =some (eN (l1.getD k 0)):=getD_map eN ab
    have g2:(l2.map eN)[k]? =some (eN (l2.getD k 0)):=getD_map eN ab
    rw[eN]at g1 g2
    by_cases he:((l1.getD k 0:Nat):Int)=((l2.getD k 0:Nat):Int)
    ·have Qj:decide (((l1.getD k 0:Nat):Int)=((l2.getD k 0:Nat):Int))=true:=decide_eq_true he
     have Qk:decide (l1.getD k 0=l2.getD k 0)=true:=decide_eq_true ab
     (try((repeat(revert hN;revert N;apply Pn.out));refine wk (tw @a9 (tw @a1 (tw @a3 (tw @hk (tw @m1 (tw @g1 (tw @g2 (tw @Qj @Qk)))))))) ?_;(repeat(refine Pn.mk ?_;intro N hN))))
     exact bZ (sd (tw @a9 (tw @a1 @a3)))
    ·have Qj:decide (((l1.getD k 0:Nat):Int)=((l2.getD k 0:Nat):Int))=false:=decide_eq_false he
     have Qk:decide (l1.getD k 0=l2.getD k 0)=false:=decide_eq_false ab
     (try((repeat(revert hN;revert N;apply Pn.out));refine wk (tw @a9 (tw @a1 (tw @a3 (tw @hk (tw @m1 (tw @g1 (tw @g2 (tw @Qj @Qk)))))))) ?_;(repeat(refine Pn.mk ?_;intro N hN))))
     exact ret (.inl rfl) (by simp only[go_sem, ↓reduceIte,Nat.reduceEqDiff,Nat.reduceAdd,Nat.reduceSub,Nat.reduceLeDiff,reduceCtorEq];rfl) ⟨fun h=>ab,fun h=>ab⟩
   ·(try((repeat(revert hN;revert N;apply Pn.out));refine wk (tw @a9 (tw @a1 (tw @a3 (tw @hk @m1)))) ?_;(repeat(refine Pn.mk ?_;intro N hN))))
    exact ret (b:=false) (.inl rfl) (sd @Nat.zero_add) ⟨fun h=>ab,fun h=>ab⟩
  ·have mo:decide ((l1.length:Int)=(l2.length:Int))=false:=decide_eq_false xE
   have Qi:decide (l1.length=l2.length)=false:=decide_eq_false ab
   (try((repeat(revert hN;revert N;apply Pn.out));refine wk (tw @hd (tw @mo (tw @Qi (tw @m1 @m2)))) ?_;(repeat(refine Pn.mk ?_;intro N hN))))
   exact ret (.inl rfl) (by simp only[go_sem, ↓reduceIte,Nat.reduceEqDiff,Nat.reduceAdd,Nat.reduceSub,Nat.reduceLeDiff,reduceCtorEq];rfl) ⟨fun h=>ab,fun h=>ab⟩
 ·have hd:decide (v1=v2)=false:=decide_eq_false hv
  (try((repeat(revert hN;revert N;apply Pn.out));refine wk @hd ?_;(repeat(refine Pn.mk ?_;intro N hN))))
  exact ret (b:=decide (v1<v2)) (.inl rfl) (sd @Nat.zero_add) ⟨fun h=>decide_eq_true h,fun h=>decide_eq_false ab⟩
def sn (bs:List PB) (cnt:Nat) (iq:Int) (k:Nat):Prop:=(k=1/\iq= -1)∨(0<=iq/\(∀z,1<=z->z<k->∀S:Nat->Bool,S 0=true->S z=false->iq<=g8 S bs)/\∃S:Nat->Bool,S 0=true/\(∃z,z<cnt/\S z=false)/\iq=g8 S bs)
theorem jk.nn {bs:List PB} {val:Int} {S:Nat->Bool} (dQ:∀e,e<bs.length->0<=(bD bs e).s/\(bD bs e).s<=4) (h:val=g8 S bs):0<=val:=by
 rw[h,sF]
 have:=pU (f:=fun _=>0) (g:=fun i=>if S (bD bs i).a=S (bD bs i).b then 0 else(bD bs i).s) (n:=bs.length) fun i hi=>by
  have:=dQ i hi
  split<;>omega
 rw[jd fun _ _=>rfl]at this
 exact this
theorem sn.done {bs:List PB} {cnt:Nat} {iq:Int} (hc:2<=cnt) (h:sn bs cnt iq cnt) (t:Int):t<=iq↔jN cnt bs t:=by
 rcases h with⟨h,_⟩|⟨_,h1,S,h2,⟨z,hz,kF⟩,h3⟩
 ·omega
 ·constructor
  ·intro ht S h0 ⟨y,hy,hy2⟩
   have:y≠0:=by rintro rfl;rw[h0]at hy2;cases hy2
   have:=h1 y ab hy S h0 hy2
   omega
  ·intro hH
   rw[h3];exact hH S h2 ⟨z,hz,kF⟩
theorem wO (cnt:Nat) (h2:2<=cnt) (hn:cnt<=1048576) (bs:List PB) (ok:l5 cnt bs) (oY:bs.length<=1048576) (dQ:∀e,e<bs.length->0<=(bD bs e).s/\(bD bs e).s<=4):
  qO Tryz.prog 128 [.int .i64 cnt,.sl (bs.map au)] fun r=>∃iq p,r=.ib [.int .i64 iq,p]/\∀t:Int,t<=iq↔jN cnt bs t:=by
 refine qO.body dN rfl fun hl σ=>?_
 clear hl
 (try((repeat(revert hN;revert N;apply Pn.out));refine wk @Nat.zero_add ?_;(repeat(refine Pn.mk ?_;intro N hN))))
 have z0:∀(g:Rows) (id:Id),g id=some ⟨true,1,[]⟩->V.fz (dz g) 6 (.own id 0 0)=some (.sl (([]:List Nat).map eN))/\V.fz g 5 (.own id 0 0)=some (.sl (([]:List Nat).map eN)):=fun g id h=>by
  have h':dz g id=some ⟨true,1,[]⟩:=by simp[dz,h]
  constructor
  ·rw[fP];simp only[h',if_true];rw[if_pos (by simp)];simp[m8]
  ·rw[fP];simp only[h,if_true];rw[if_pos (by simp)];simp[m8]
 refine aL (fun m env st=>∃(k:Nat) (iq:Int) (l:List Nat) (p:AV),m=cnt-k/\1<=k/\k<=cnt/\env 8=.int .i64 (k:Int)/\env 6=.int .i64 iq/\env 7=p/\V.fz (dz st.get) 6 p=some (.sl (l.map eN))/\V.fz st.get 5 p=some (.sl (l.map eN))/\l.length<=cnt/\sn bs cnt iq k) (cnt-1) ⟨1,-1,[],.own ⟨128002000,σ.next+1+1⟩ 0 0,rfl,ab,ab,by(simp only[go_sem, ↓reduceIte,Nat.reduceEqDiff,Nat.reduceAdd,Nat.reduceSub,Nat.reduceLeDiff,reduceCtorEq])<;>rfl,by(simp only[go_sem, ↓reduceIte,Nat.reduceEqDiff,Nat.reduceAdd,Nat.reduceSub,Nat.reduceLeDiff,reduceCtorEq])<;>rfl,by(simp only[go_sem, ↓reduceIte,Nat.reduceEqDiff,Nat.reduceAdd,Nat.reduceSub,Nat.reduceLeDiff,reduceCtorEq])<;>rfl,(z0 _ _ (sd @Nat.zero_add)).1,(z0 _ _ (sd @Nat.zero_add)).2,by simp,.inl ⟨rfl,rfl⟩⟩ ?_
 rintro m env_b st_b ⟨k,iq,l,p,rfl,rj,sS,b8,b6,b7,xJ,kF,hl,hB⟩ bfr
 have b0:=bfr 0 (by kernel_rfl)
 have b1:=bfr 1 (by kernel_rfl)
 simp only[go_sem, ↓reduceIte,Nat.reduceEqDiff,Nat.reduceAdd,Nat.reduceSub,Nat.reduceLeDiff,reduceCtorEq]at b0 b1
 clear bfr z0
 by_cases hk:(k:Int)<(cnt:Int)
 ·have eY:k<cnt:=ab
  have hFl:=DN cnt hn bs ok oY dQ 0 k ab eY ab
  rw[show(((0:Nat):Int))=0 from rfl]at hFl
  (try((repeat(revert hN;revert N;apply Pn.out));refine wk (tw @b0 (tw @b1 (tw @b6 (tw @b7 (tw @b8 @hk))))) ?_;(repeat(refine Pn.mk ?_;intro N hN))))
  refine .inr (aO _ _ _ _ _ (fun r σ1 hq=>?_) (hFl.x mixed))
  obtain⟨⟨f,val,rfl,hf,S,Ih,Ii,Mv⟩,rfl⟩:=hq
  refine hN _ _ ?_
  clear hN N
  have ID:=tD dQ hf.le
  have oL:=jk.nn (val:=val) dQ Mv
  (try((repeat(revert hN;revert N;apply Pn.out));refine wk (tw @b0 (tw @b1 (tw @b6 (tw @b7 @b8)))) ?_;(repeat(refine Pn.mk ?_;intro N hN))))
  refine .inr (aO _ _ _ _ _ (fun r σ1 hq=>?_) ((DO cnt hn bs ok oY f ID k eY).x mixed (by simp only[ad,aj,aW,aH,Option.map_some])))
  obtain⟨⟨l',rfl,HF⟩,rfl⟩:=hq
  refine hN _ _ ?_
  clear hN N
  have hw:IntKind.i64.wrap ((k:Int)+1)=((k+1:Nat):Int):=ax ab
  have OB:(∀z,1<=z->z<k->∀S:Nat->Bool,S 0=true->S z=false->val<=g8 S bs)->sn bs cnt val (k+1):=fun h=>.inr ⟨oL,fun z xJ kF S' h0 h1=>by
   by_cases rm:z=k
   ·subst rm;exact hf.bound h0 h1
   ·exact h z xJ ab S' h0 h1,S,Ih,⟨k,eY,Ii⟩,Mv⟩
  by_cases jr:iq<0
  ·have yE:k=1:=by
    rcases hB with⟨h,_⟩|⟨h,_⟩
    ·exact h
    ·omega
   (try((repeat(revert hN;revert N;apply Pn.out));refine wk (tw @b0 (tw @b1 (tw @b6 (tw @b7 (tw @b8 (tw @jr @hw)))))) ?_;(repeat(refine Pn.mk ?_;intro N hN))))
   refine⟨_,?_,k+1,val,l',.sl (l'.map eN),rfl,ab,ab,sd (tw @b8 @hw),sd @Nat.zero_add,sd @Nat.zero_add,cl _ _ _,cl _ _ _,HF,OB fun z h1 h2=>ab⟩
   omega
  ·have yE:(∀z,1<=z->z<k->∀S:Nat->Bool,S 0=true->S z=false->iq<=g8 S bs)/\∃S:Nat->Bool,S 0=true/\(∃z,z<cnt/\S z=false)/\iq=g8 S bs:=by
    rcases hB with⟨_,h⟩|⟨_,h⟩
    ·omega
    ·exact h
   (try((repeat(revert hN;revert N;apply Pn.out));refine wk (tw @b0 (tw @b1 (tw @b6 (tw @b7 (tw @b8 (tw @jr @hw)))))) ?_;(repeat(refine Pn.mk ?_;intro N hN))))
   refine .inr (aO _ _ _ _ _ (fun r σ1 hq=>?_) ((yY val iq l' l ab ab).x mixed (by simp only[ad,aj,cl,aH,xJ,Option.map_some])))
   obtain⟨⟨b,rfl,Hw,r8⟩,rfl⟩:=hq
   refine hN _ _ ?_
   clear hN N
   cases b with
   |true=>
    have QV:val<=iq:=by
     rcases Int.lt_or_le iq val with h|h
     ·exact absurd (r8 h) (by simp)
     ·exact h
    (try((repeat(revert hN;revert N;apply Pn.out));refine wk (tw @b0 (tw @b1 (tw @b6 (tw @b7 (tw @b8 @hw))))) ?_;(repeat(refine Pn.mk ?_;intro N hN))))
    refine⟨_,?_,k+1,val,l',.sl (l'.map eN),rfl,ab,ab,sd (tw @b8 @hw),sd @Nat.zero_add,sd @Nat.zero_add,cl _ _ _,cl _ _ _,HF,OB fun z h1 h2 S' h3 h4=>by have:=yE.1 z h1 h2 S' h3 h4;omega⟩
    omega
   |false=>
    have QV:iq<=val:=by
     rcases Int.lt_or_le val iq with h|h
     ·exact absurd (Hw h) (by simp)
     ·exact h
    (try((repeat(revert hN;revert N;apply Pn.out));refine wk (tw @b0 (tw @b1 (tw @b6 (tw @b7 (tw @b8 @hw))))) ?_;(repeat(refine Pn.mk ?_;intro N hN))))
    refine⟨_,?_,k+1,iq,l,p,rfl,ab,ab,sd (tw @b8 @hw),sd @b6,sd @b7,xJ,kF,hl,.inr ⟨ab,fun z h1 h2 S' h3 h4=>?_,yE.2⟩⟩
    ·omega
    ·by_cases rm:z=k
     ·subst rm;have:=hf.bound h3 h4;omega
     ·exact yE.1 z h1 ab S' h3 h4
 ·have ki:k=cnt:=ab
  (try((repeat(revert hN;revert N;apply Pn.out));refine wk (tw @b0 (tw @b1 (tw @b6 (tw @b7 (tw @b8 @hk))))) ?_;(repeat(refine Pn.mk ?_;intro N hN))))
  exact⟨[.int .i64 iq,p],sd @Nat.zero_add,.ib [.int .i64 iq,.sl (l.map eN)],by simp only[dU,bz,ad,aj,kF,aH,Option.map_some],iq,_,rfl,sn.done h2 (ki▸hB)⟩
theorem Jo {s:aq} (hS:lu s) (a d:Int):tE s (cJ (cH s a) d)<=4:=by
 have hF:=hS.form
 have fy:cJ (cH s a) d=0∨(0<=cJ (cH s a) d/\cJ (cH s a) d<=s.ar.length):=by
  unfold cJ cH
  rw[List.getD_eq_getElem?_getD,List.getD_eq_getElem?_getD]
  rcases ht:s.ae[a.toNat]? with _|t
  ·exact .inl (by simp[A9])
  ·have htm:=List.mem_of_getElem? ht
   simp only[Option.getD_some]
   rcases hg:t.aX[d.toNat]? with _|g
   ·exact .inl rfl
   ·exact .inr (hF.re t htm g (List.mem_of_getElem? hg))
 unfold tE
 by_cases h0:cJ (cH s a) d=0
 ·rw[if_pos h0];omega
 ·rw[if_neg h0]
  have hk:(cJ (cH s a) d-1).toNat<s.ar.length:=ab
  have:=dt (hS.PS _ hk).2.1
  unfold oh at this
  unfold iV
  omega
theorem Fm {s:aq} (hS:lu s) (a d b:Int):iu s a d b<=4:=by
 unfold iu
 split
 ·exact Jo hS a d
 ·omega
theorem CV {s:aq} {l:List ak} (hS:lu s) {i:Nat} (hi:i<l.length) {d:Int}:∀b∈lz s l i d,b.a<l.length/\b.b<l.length/\0<=b.s/\b.s<=4:=by
 intro b hb
 unfold lz at hb
 split at hb
 ·rename_i h
  simp only[List.mem_singleton]at hb
  subst hb
  exact⟨hi,(sb h.1).1,by simp only;omega,Fm hS ..⟩
 ·cases hb
theorem uM {s:aq} {l:List ak} (hS:lu s):∀b∈cj s l,b.a<l.length/\b.b<l.length/\0<=b.s/\b.s<=4:=by
 intro b hb
 simp only[cj,fM,fj,List.mem_flatMap,List.mem_range]at hb
 obtain⟨i,hi,j,_,hb⟩:=hb
 exact CV hS hi b hb
theorem ox {s:aq} {l:List ak} (hF:jM l):(cj s l).length<=1000:=by
 have:=qS s l l.length
 have:=hF.EH
 rw[cj];omega
theorem Fg {bs:List PB} {e:Nat} (h:e<bs.length):bD bs e∈bs:=by
 rw[bD,List.getD_eq_getElem?_getD,List.getElem?_eq_getElem h];exact List.getElem_mem h
theorem Dr {n:Nat} {bs:List PB} {t:Int} (h:n<2):jN n bs t:=fun S h0 ⟨y,hy,hf⟩=>by
 have:y=0:=ab
 subst this;rw[h0]at hf;cases hf
def gz (s:aq) (l:List ak) (t:Int):Nat:=(leads l.length (dI (aD t (cj s l)))).length
noncomputable def me (s:aq) (l:List ak) (t:Int):Bool:=@decide (nE l.length (cj s l) t) (Classical.propDecidable _)
def qn (s:aq) (l:List ak) (t:Int):Int:=if 64<gz s l t then 4 else 0
theorem lk {s:aq} {l:List ak} {t:Int} {p:Prop} [Decidable p] (h:p↔nE l.length (cj s l) t):decide p=me s l t:=by
 letI:=Classical.propDecidable (nE l.length (cj s l) t)
 unfold me
 by_cases hp:p
 ·rw[decide_eq_true hp];exact(decide_eq_true (h.1 hp)).symm
 ·rw[decide_eq_false hp];exact(decide_eq_false fun k=>hp (h.2 k)).symm
theorem y4 (s:aq) (l:List ak) (t:Int) (hS:lu s) (hA:rI s l):ai Tryz.prog 94 [.cK (aa s),.cK [.sl (l.map ah)],.int .i64 t] (.ib [.bool (me s l t),.int .i64 (qn s l t)]):=by
 refine ai.body dN rfl fun hl n0=>?_
 clear hl
 have hb:=uM (l:=l) hS
 have oY:=ox (s:=s) hA.1
 have NJ:=hA.1.EH
 have yG:=AX s l hS.form hA
 have HI:=yZ l.length ab (cj s l) (fun b h=>⟨(hb b h).1,(hb b h).2.1⟩) ab t
 have hL:=rq (aD t (cj s l))
 have fy:=Bv hL (fun b h=>⟨(hb b h).1,(hb b h).2.1⟩)
 have hlen:=(lQ (dI (aD t (cj s l))) (cj s l)).2
 have mm:=iX l.length (dI (aD t (cj s l)))
 have fu:(l.map ah).length=l.length:=by simp
 by_cases rP:(64:Int)<(gz s l t:Int)
 ·have rQ:64<gz s l t:=ab
  have hd:me s l t=false:=(lk (p:=False) ⟨False.elim,fun h=>by have:=h.1;unfold gz at rQ;omega⟩).symm.trans (by simp)
  rw[gz]at rP
  (repeat(first|((repeat(revert hN;revert N;apply Pn.out));refine wk (tw @aa.eq_1 (tw @rP @fu)) ?_;(repeat(refine Pn.mk ?_;intro N hN)))|((try apply Or.inl);refine⟨_,ai.x (yG) (sd (tw @aa.eq_1 (tw @rP @fu))),?_⟩;refine hN _ _ ?_;clear hN N)|((try apply Or.inl);refine⟨_,ai.x (HI) (sd (tw @aa.eq_1 (tw @rP @fu))),?_⟩;refine hN _ _ ?_;clear hN N)))
  exact iJ (.inl rfl) (r1:=.bool false) (r2:=.int .i64 4) (sd @Nat.zero_add) (sd @Nat.zero_add) (by rw[hd,qn,if_pos rQ];simp only[eJ,bd,bE,eO,dV,Option.map_some])
 have rQ:¬64<gz s l t:=ab
 have hf:qn s l t=0:=by rw[qn,if_neg rQ]
 by_cases h2:(gz s l t:Int)<2
 ·have hd:me s l t=true:=(lk (p:=True) ⟨fun _=>⟨by unfold gz at rQ;omega,Dr (by unfold gz at h2;omega)⟩,fun _=>trivial⟩).symm.trans (by simp)
  rw[gz]at rP h2
  (repeat(first|((repeat(revert hN;revert N;apply Pn.out));refine wk (tw @aa.eq_1 (tw @rP (tw @h2 @fu))) ?_;(repeat(refine Pn.mk ?_;intro N hN)))|((try apply Or.inl);refine⟨_,ai.x (yG) (sd (tw @aa.eq_1 (tw @rP (tw @h2 @fu)))),?_⟩;refine hN _ _ ?_;clear hN N)|((try apply Or.inl);refine⟨_,ai.x (HI) (sd (tw @aa.eq_1 (tw @rP (tw @h2 @fu)))),?_⟩;refine hN _ _ ?_;clear hN N)))
  exact iJ (.inl rfl) (r1:=.bool true) (r2:=.int .i64 0) (sd @Nat.zero_add) (sd @Nat.zero_add) (by rw[hd,hf];simp only[eJ,bd,bE,eO,dV,Option.map_some])
 have ve:=wO (gz s l t) ab (by unfold gz;omega) (eF (dI (aD t (cj s l))) (cj s l)) (fun e he=>by have:=fy _ (Fg he);exact⟨this.1,this.2.1,this.2.2.1⟩) ab (fun e he=>by
  obtain⟨_,_,_,c,hc,dh⟩:=fy _ (Fg he)
  rw[dh];have:=hb c hc;omega)
 rw[gz]at rP h2 ve
 (repeat(first|((repeat(revert hN;revert N;apply Pn.out));refine wk (tw @aa.eq_1 (tw @rP (tw @h2 @fu))) ?_;(repeat(refine Pn.mk ?_;intro N hN)))|((try apply Or.inl);refine⟨_,ai.x (yG) (sd (tw @aa.eq_1 (tw @rP (tw @h2 @fu)))),?_⟩;refine hN _ _ ?_;clear hN N)|((try apply Or.inl);refine⟨_,ai.x (HI) (sd (tw @aa.eq_1 (tw @rP (tw @h2 @fu)))),?_⟩;refine hN _ _ ?_;clear hN N)))
 refine .inr (aO _ _ _ _ _ (fun r σ1 hq=>?_) (ve.x mixed))
 obtain⟨⟨iq,p,rfl,NA⟩,rfl⟩:=hq
 refine hN _ _ ?_
 clear hN N
 (try((repeat(revert hN;revert N;apply Pn.out));refine wk @Nat.zero_add ?_;(repeat(refine Pn.mk ?_;intro N hN))))
 exact iJ (.inl rfl) (r1:=.bool (decide (t<=iq))) (r2:=.int .i64 0) (sd @Nat.zero_add) (sd @Nat.zero_add) (by
  rw[hf,lk (s:=s) (l:=l) (t:=t) (p:=t<=iq) ((NA t).trans (AI.trans ⟨fun h=>⟨by unfold gz at rQ;omega,h⟩,fun h=>h.2⟩))]
  simp only[eJ,bd,bE,eO,dV,Option.map_some])
theorem qy (t:Int):ai Tryz.prog 93 [.int .i64 t] (.bool (gD t 1 16)):=by
 refine ai.body dN rfl fun hl n0=>?_
 clear hl
 have h:=jf t 1 16
 (repeat(first|((repeat(revert hN;revert N;apply Pn.out));refine wk @Nat.zero_add ?_;(repeat(refine Pn.mk ?_;intro N hN)))|((try apply Or.inl);refine⟨_,ai.x (h) (sd @Nat.zero_add),?_⟩;refine hN _ _ ?_;clear hN N)))
 exact aJ (b:=gD t 1 16) (.inl rfl) (sd @Nat.zero_add) rfl
structure Fb (s:ck):Prop where
 set:lu s.aA
 LO:rI s.aA s.bJ.ae
 some:1<=s.bJ.ae.length
 LX:gD s.aE 1 16=true
 holds:nE s.bJ.ae.length (cj s.aA s.bJ.ae) s.aE
noncomputable def lT (s:ck):Bool:=@decide (Fb s) (Classical.propDecidable _)
theorem tG {s:ck}:lT s=true↔Fb s:=by simp[lT]
theorem jj {s:ck} (h:¬Fb s):false=lT s:=by simp[lT,h]
theorem zp {s:ck} (h:Fb s):true=lT s:=by simp[lT,h]
theorem nP {s:aq} {l:List ak} {t:Int}:me s l t=true↔nE l.length (cj s l) t:=by simp[me]
theorem IQ (s:ck) (hn:fC s.aA) (hg:s.aA.ar.length<=1048576) (ht:s.aA.ae.length<=1048576):ai Tryz.prog 65 [.cK (ay s)] (.bool (lT s)):=by
 refine ai.body dN rfl fun hl n0=>?_
 clear hl
 have h1:=(IN s.aA hn hg ht).cut mixed (.ptr _ [.sl (s.bJ.ae.map ah),.int .i64 s.aE] .nil)
 by_cases hS:lu s.aA
 ·rw[lj.2 hS]at h1
  have h2:=(Cp s.aA s.bJ.ae).cut mixed (.ptr _ [.sl (s.bJ.ae.map ah),.int .i64 s.aE] (.ptr _ [.int .i64 s.aE] .nil))
  by_cases hA:rI s.aA s.bJ.ae
  ·rw[kX.2 hA]at h2
   by_cases h0:(s.bJ.ae.length:Int)=0
   ·have hd:decide ((s.bJ.ae.length:Int)=0)=true:=decide_eq_true h0
    have jI:false=lT s:=jj fun h=>by have:=h.some;omega
    generalize fu:(s.bJ.ae.map ah).length=len at *
    (repeat(first|((repeat(revert hN;revert N;apply Pn.out));refine wk (tw @ay.eq_1 (tw @aa.eq_1 @hd)) ?_;(repeat(refine Pn.mk ?_;intro N hN)))|((try apply Or.inl);refine⟨_,ai.x (h1) (sd (tw @ay.eq_1 (tw @aa.eq_1 @hd))),?_⟩;refine hN _ _ ?_;clear hN N)|((try apply Or.inl);refine⟨_,ai.x (h2) (sd (tw @ay.eq_1 (tw @aa.eq_1 @hd))),?_⟩;refine hN _ _ ?_;clear hN N)))
    exact aJ (b:=false) (.inl rfl) (sd @Nat.zero_add) jI
   ·have hd:decide ((s.bJ.ae.length:Int)=0)=false:=decide_eq_false h0
    have h3:=qy s.aE
    cases hT:gD s.aE 1 16
    ·rw[hT]at h3
     (repeat(first|((repeat(revert hN;revert N;apply Pn.out));refine wk (tw @ay.eq_1 (tw @aa.eq_1 @hd)) ?_;(repeat(refine Pn.mk ?_;intro N hN)))|((try apply Or.inl);refine⟨_,ai.x (h1) (sd (tw @ay.eq_1 (tw @aa.eq_1 @hd))),?_⟩;refine hN _ _ ?_;clear hN N)|((try apply Or.inl);refine⟨_,ai.x (h2) (sd (tw @ay.eq_1 (tw @aa.eq_1 @hd))),?_⟩;refine hN _ _ ?_;clear hN N)|((try apply Or.inl);refine⟨_,ai.x (h3) (sd (tw @ay.eq_1 (tw @aa.eq_1 @hd))),?_⟩;refine hN _ _ ?_;clear hN N)))
     exact aJ (b:=false) (.inl rfl) (sd @Nat.zero_add) (jj fun h=>by have:=h.LX;rw[hT]at this;cases this)
    ·rw[hT]at h3
     have h4:=(y4 s.aA s.bJ.ae s.aE hS hA).cut mixed (.ptr _ [.sl (s.bJ.ae.map ah),.int .i64 s.aE] (.ptr _ [.int .i64 s.aE] (.same _ .nil)))
     cases hB:me s.aA s.bJ.ae s.aE
     ·rw[hB]at h4
      (repeat(first|((repeat(revert hN;revert N;apply Pn.out));refine wk (tw @ay.eq_1 (tw @aa.eq_1 @hd)) ?_;(repeat(refine Pn.mk ?_;intro N hN)))|((try apply Or.inl);refine⟨_,ai.x (h1) (sd (tw @ay.eq_1 (tw @aa.eq_1 @hd))),?_⟩;refine hN _ _ ?_;clear hN N)|((try apply Or.inl);refine⟨_,ai.x (h2) (sd (tw @ay.eq_1 (tw @aa.eq_1 @hd))),?_⟩;refine hN _ _ ?_;clear hN N)|((try apply Or.inl);refine⟨_,ai.x (h3) (sd (tw @ay.eq_1 (tw @aa.eq_1 @hd))),?_⟩;refine hN _ _ ?_;clear hN N)|((try apply Or.inl);refine⟨_,ai.x (h4) (sd (tw @ay.eq_1 (tw @aa.eq_1 @hd))),?_⟩;refine hN _ _ ?_;clear hN N)))
      exact aJ (b:=false) (.inl rfl) (sd @Nat.zero_add) (jj fun h=>by have:=nP.2 h.holds;rw[hB]at this;cases this)
     ·have hP:=nP.1 hB
      have hf:qn s.aA s.bJ.ae s.aE=0:=by
       have:=hP.1
       rw[qn,if_neg (by unfold gz;omega)]
      rw[hB,hf]at h4
      (repeat(first|((repeat(revert hN;revert N;apply Pn.out));refine wk (tw @ay.eq_1 (tw @aa.eq_1 @hd)) ?_;(repeat(refine Pn.mk ?_;intro N hN)))|((try apply Or.inl);refine⟨_,ai.x (h1) (sd (tw @ay.eq_1 (tw @aa.eq_1 @hd))),?_⟩;refine hN _ _ ?_;clear hN N)|((try apply Or.inl);refine⟨_,ai.x (h2) (sd (tw @ay.eq_1 (tw @aa.eq_1 @hd))),?_⟩;refine hN _ _ ?_;clear hN N)|((try apply Or.inl);refine⟨_,ai.x (h3) (sd (tw @ay.eq_1 (tw @aa.eq_1 @hd))),?_⟩;refine hN _ _ ?_;clear hN N)|((try apply Or.inl);refine⟨_,ai.x (h4) (sd (tw @ay.eq_1 (tw @aa.eq_1 @hd))),?_⟩;refine hN _ _ ?_;clear hN N)))
      exact aJ (b:=true) (.inl rfl) (sd @Nat.zero_add) (zp ⟨hS,hA,ab,hT,hP⟩)
  ·have hb:nV s.aA s.bJ.ae=false:=Bool.eq_false_iff.2 fun h=>hA (kX.1 h)
   rw[hb]at h2
   (repeat(first|((repeat(revert hN;revert N;apply Pn.out));refine wk (tw @ay.eq_1 @aa.eq_1) ?_;(repeat(refine Pn.mk ?_;intro N hN)))|((try apply Or.inl);refine⟨_,ai.x (h1) (sd (tw @ay.eq_1 @aa.eq_1)),?_⟩;refine hN _ _ ?_;clear hN N)|((try apply Or.inl);refine⟨_,ai.x (h2) (sd (tw @ay.eq_1 @aa.eq_1)),?_⟩;refine hN _ _ ?_;clear hN N)))
   exact aJ (b:=false) (.inl rfl) (sd @Nat.zero_add) (jj fun h=>hA h.LO)
 ·have hb:oU s.aA=false:=Bool.eq_false_iff.2 fun h=>hS (lj.1 h)
  rw[hb]at h1
  (repeat(first|((repeat(revert hN;revert N;apply Pn.out));refine wk (tw @ay.eq_1 @aa.eq_1) ?_;(repeat(refine Pn.mk ?_;intro N hN)))|((try apply Or.inl);refine⟨_,ai.x (h1) (sd (tw @ay.eq_1 @aa.eq_1)),?_⟩;refine hN _ _ ?_;clear hN N)))
  exact aJ (b:=false) (.inl rfl) (sd @Nat.zero_add) (jj fun h=>hS h.set)
theorem xT {s:aq} {l:List ak} (hA:rI s l) {p:bI} (h:0<=xu l p):fU s (xu l p)=true:=by
 unfold xu at h ⊢
 split at h
 ·rename_i h0
  rw[if_pos h0]
  exact hA.2 _ (pJ (sb h0).1)
 ·omega
noncomputable def qe (s:ck) (l:List ak):Bool:=lT s&&nV s.aA l
theorem AY (s:ck) (l:List ak) (hn:fC s.aA) (hg:s.aA.ar.length<=1048576) (ht:s.aA.ae.length<=1048576):ai Tryz.prog 35 [.cK (ay s),.cK [.sl (l.map ah)]] (.int .i64 (if qe s l then 0 else 1)):=by
 refine ai.body dN rfl fun hl n0=>?_
 clear hl
 have h1:=IQ s hn hg ht
 have h2:=(Cp s.aA l).cut mixed (.ptr _ [.sl (s.bJ.ae.map ah),.int .i64 s.aE] (.same _ .nil))
 cases b1:lT s
 ·rw[b1]at h1
  (repeat(first|((repeat(revert hN;revert N;apply Pn.out));refine wk @Nat.zero_add ?_;(repeat(refine Pn.mk ?_;intro N hN)))|((try apply Or.inl);refine⟨_,ai.x (h1) (sd @Nat.zero_add),?_⟩;refine hN _ _ ?_;clear hN N)))
  exact bq (b:=1) (.inl rfl) (sd @Nat.zero_add) (by rw[qe,b1];rfl)
 rw[b1]at h1
 rw[ay]at h1 ⊢
 cases b2:nV s.aA l
 ·rw[b2]at h2
  (repeat(first|((repeat(revert hN;revert N;apply Pn.out));refine wk @aa.eq_1 ?_;(repeat(refine Pn.mk ?_;intro N hN)))|((try apply Or.inl);refine⟨_,ai.x (h1) (sd @aa.eq_1),?_⟩;refine hN _ _ ?_;clear hN N)|((try apply Or.inl);refine⟨_,ai.x (h2) (sd @aa.eq_1),?_⟩;refine hN _ _ ?_;clear hN N)))
  exact bq (b:=1) (.inl rfl) (sd @Nat.zero_add) (by rw[qe,b1,b2];rfl)
 ·rw[b2]at h2
  (repeat(first|((repeat(revert hN;revert N;apply Pn.out));refine wk @aa.eq_1 ?_;(repeat(refine Pn.mk ?_;intro N hN)))|((try apply Or.inl);refine⟨_,ai.x (h1) (sd @aa.eq_1),?_⟩;refine hN _ _ ?_;clear hN N)|((try apply Or.inl);refine⟨_,ai.x (h2) (sd @aa.eq_1),?_⟩;refine hN _ _ ?_;clear hN N)))
  exact bq (b:=0) (.inl rfl) (sd @Nat.zero_add) (by rw[qe,b1,b2];rfl)
theorem xS {s:ck} {l:List ak}:qe s l=true↔Fb s/\rI s.aA l:=by simp[qe,tG,kX]
end Go.Proofs.YtihgaadadaekmaaGreatDoor.V

namespace Go.Proofs.YtihgaadadaekmaaGreatDoor.V
open Go.RowKit
def gO (n:Nat):ByteArray:=⟨(if n<10 then[UInt8.ofNat (48+n)]else[UInt8.ofNat (48+n / 10),UInt8.ofNat (48+n % 10)]).toArray⟩
theorem C4 {n:Nat} (h:n<10):gO n=⟨#[UInt8.ofNat (48+n)]⟩:=by rw[gO,if_pos h]
theorem Fu (n:Nat):(gO n).size<=2:=by
 unfold gO
 split<;>simp[ByteArray.size]
def mT (s:ByteArray) (i:Nat):Nat:=((s[i]?).map UInt8.toNat).getD 0
theorem ql {s:ByteArray} {i:Nat} (h:i<s.size):s[i]? =some s[i]:=by
 rw[getElem?_pos s i h]
theorem mU {s:ByteArray} {i:Nat} (h:i<s.size):mT s i=s[i].toNat:=by
 rw[mT,ql h];rfl
def lF (nm pre:ByteArray) (nJ:Nat):Int:=if nm.size=pre.size+1/\nm.extract 0 pre.size=pre/\48<=mT nm pre.size/\mT nm pre.size<48+nJ then(mT nm pre.size:Int)-48 else -1
theorem zU {a b:ByteArray} (h:a.data.toList=b.data.toList):a=b:=ByteArray.ext (Array.ext' h)
theorem Gy {nm pre:ByteArray} {n:Nat} (h:n<10):nm=pre++gO n↔nm.size=pre.size+1/\nm.extract 0 pre.size=pre/\mT nm pre.size=48+n:=by
 rw[C4 h]
 constructor
 ·rintro rfl
  have hs:(pre++(⟨#[UInt8.ofNat (48+n)]⟩:ByteArray)).size=pre.size+1:=by rw[ByteArray.size_append];rfl
  refine⟨hs,?_,?_⟩
  ·rw[ByteArray.extract_append]
   refine zU ?_
   simp
  ·rw[mU ab,ByteArray.getElem_append_right (Nat.le_refl _)]
   simp only[Nat.sub_self]
   show(UInt8.ofNat (48+n)).toNat= _
   rw[UInt8.toNat_ofNat']
   omega
 ·rintro⟨h1,h2,h3⟩
  rw[mU ab]at h3
  refine zU ?_
  have e:nm.data.toList=nm.data.toList.take pre.size++nm.data.toList.drop pre.size:=(List.take_append_drop _ _).symm
  have xx:nm.data.toList.take pre.size=pre.data.toList:=by
   have:=congrArg (fun b:ByteArray=>b.data.toList) h2
   simpa using this
  have hl:nm.data.toList.length=pre.size+1:=by rw[<-h1];simp
  have h4:nm.data.toList.drop pre.size=[UInt8.ofNat (48+n)]:=by
   rw[List.drop_eq_getElem_cons ab,List.drop_eq_nil_of_le ab]
   congr 1
   rw[ByteArray.getElem_eq_getElem_data]at h3
   rw[Array.getElem_toList,<-h3]
   simp
  rw[e,xx,h4]
  simp
theorem yh {nm pre:ByteArray} {n nJ:Nat} (h:n<nJ) (hl:nJ<=10):nm=pre++gO n↔lF nm pre nJ=(n:Int):=by
 rw[Gy ab,lF]
 constructor
 ·rintro⟨h1,h2,h3⟩
  rw[if_pos ⟨h1,h2,ab,ab⟩,h3];omega
 ·split
  ·rename_i h5
   intro h6
   exact⟨h5.1,h5.2.1,ab⟩
  ·intro h6;omega
theorem Ia (nm pre:ByteArray) (nJ:Nat):lF nm pre nJ= -1∨(0<=lF nm pre nJ/\lF nm pre nJ<nJ):=by
 unfold lF
 split
 ·exact .inr ab
 ·exact .inl rfl
theorem Dc {nm pre:ByteArray} {nJ:Nat} (hl:nJ<=10) (h:∀n,n<nJ->nm≠pre++gO n):lF nm pre nJ= -1:=by
 rcases Ia nm pre nJ with h1|h1
 ·exact h1
 ·exact absurd ((yh (nm:=nm) (pre:=pre) (n:=(lF nm pre nJ).toNat) ab hl).2 ab) (h _ ab)
theorem Db {nm:ByteArray} {c:UInt8} {nJ:Nat}:lF nm ⟨#[c]⟩ nJ=if nm.size=2/\mT nm 0=c.toNat/\48<=mT nm 1/\mT nm 1<48+nJ then(mT nm 1:Int)-48 else -1:=by
 have hs:(⟨#[c]⟩:ByteArray).size=1:=rfl
 unfold lF
 rw[hs]
 by_cases h1:nm.size=2
 ·have e:nm.extract 0 1=⟨#[c]⟩↔mT nm 0=c.toNat:=by
   rw[mU ab,ByteArray.getElem_eq_getElem_data]
   obtain⟨⟨l⟩⟩:=nm
   have hl:l.length=2:=h1
   match l,hl with
   |[a,b],_=>
    constructor
    ·intro h
     have:=congrArg (fun b:ByteArray=>b.data.toList) h
     simp at this
     simp[this]
    ·intro h
     simp at h
     refine zU ?_
     simp
     exact UInt8.toNat_inj.1 h
  simp only[h1,e]
 ·rw[if_neg (fun e=>h1 e.1),if_neg (fun e=>h1 e.1)]
def EI (s:aq) (l:List ak) (p:bI) (d:Int):ByteArray:=if xu l p<0 then⟨#[]⟩else if cJ (cH s (xu l p)) d=0 then⟨#[]⟩else(iV s (cJ (cH s (xu l p)) d-1)).aB
theorem yi {pre:ByteArray} {nJ:Nat}:lF ⟨#[]⟩ pre nJ= -1:=by
 rw[lF,if_neg]
 intro h
 have:=h.1
 have h0:(⟨#[]⟩:ByteArray).size=0:=rfl
 omega
def nu (s:aq) (l:List ak) (y x:Nat):Int:=lF (EI s l ⟨(x:Int)+1,(y:Int)+1⟩ 0) ⟨#[113]⟩ 10
def kO (s:aq) (l:List ak) (y x:Nat):List Int:=(List.range x).map (nu s l y)
theorem lg (s:aq) (l:List ak) (y x:Nat):(kO s l y x).length=x:=by simp[kO]
theorem vJ (s:aq) (l:List ak) (y x:Nat):kO s l y (x+1)=kO s l y x++[nu s l y x]:=by simp[kO,List.range_succ]
def GO (s:aq) (l:List ak) (w h:Nat):Bool:=(List.range h).all fun y=>(List.range w).all fun x=>decide (0<=nu s l y x)
theorem Cx {s:aq} {l:List ak} {w h:Nat} (q:∀y,y<h->∀x,x<w->0<=nu s l y x):GO s l w h=true:=by
 simpa[GO]using q
theorem Bi {s:aq} {l:List ak} {w h y x:Nat} (hy:y<h) (hx:x<w) (q:nu s l y x<0):GO s l w h=false:=by
 simp only[GO,List.all_eq_false,List.mem_range,Bool.not_eq_true]
 exact⟨y,hy,x,hx,decide_eq_false ab⟩
def rL (s:aq) (l:List ak) (w h:Nat):List (List Int):=(List.range h).map fun y=>kO s l y w
theorem tp (s:aq) (l:List ak) (w h:Nat):(rL s l w h).length=h:=by simp[rL]
theorem w6 (s:aq) (l:List ak) (w h:Nat):rL s l w (h+1)=rL s l w h++[kO s l h w]:=by simp[rL,List.range_succ]
noncomputable def jB (s:ck) (a:dd) (w h:Int):List (List Int)×Int:=
 if qe s a.ae=true then(if (gD w 1 15&&gD h 1 15)=true then(if GO s.aA a.ae w.toNat h.toNat=true then(rL s.aA a.ae w.toNat h.toNat,0)else([],9))else([],2))else([],1)
theorem GN (s:aq) (l:List ak) (w:Nat):∀h,((rL s l w h).map List.length).sum=h*w
 |0=>by simp[rL]
 |h+1=>by
  rw[w6,List.map_append,List.sum_append,GN s l w h,Nat.succ_mul]
  simp[lg]
end Go.Proofs.YtihgaadadaekmaaGreatDoor.V

namespace Go.Proofs.YtihgaadadaekmaaGreatDoor.V
open Go.RowKit
attribute [local irreducible] dP wpOps gN Call
attribute [local go_sem] aI fI eE fW fV cv upd cq K.av cL AV.cells AV.cell rowOf rowsOf part ld rowAt bK bY dH eh ij bL da eA fZ eX dr eo cY cX dR dS bR bf cQ bQ cT cR ej ep ek cP bU cZ ei bP aM cV cz ig br cI bS aZ dD bp dJ AV.undef bB bH dX ef dO ea cF ez eC cu eu er cU cW List.getD_cons_zero List.getD_cons_succ List.getD_nil List.all_cons List.all_nil Bool.and_true Bool.true_and Bool.and_self Bool.not_true Bool.not_false Option.map_some Option.map_none Option.bind_some Option.bind_none List.length_cons List.length_nil List.take_succ_cons List.take_zero List.take_nil List.drop_succ_cons List.drop_zero List.drop_nil List.head?_cons List.map_cons List.map_nil List.getElem?_cons_zero List.getElem?_cons_succ List.cons_append List.nil_append List.append_nil List.length_map List.set_cons_zero List.set_cons_succ Nat.reduceMul eq_self Int.toNat_natCast Int.natCast_nonneg and_self true_and and_true decide_true decide_false Bool.false_eq_true Nat.zero_add Nat.add_zero List.contains_cons List.contains_nil Bool.or_false Bool.false_or beq_self_eq_true Nat.reduceBEq ne_eq not_true_eq_false not_false_eq_true Id.mk.injEq false_and and_false Nat.reduceLT Int.reduceLE Int.reduceLT Int.reduceToNat Int.reduceNeg Int.reduceAdd Nat.le_refl List.length_append beq_true beq_false Bool.not_eq_eq_eq_not or_false false_or dz ad aj aH bx cl aQ bj aW bh cN bz
theorem AT (n:Int):ai Tryz.prog 68 [.int .u8 n] (.bool (iw n)):=by
 refine ai.body dN rfl fun hl n0=>?_
 clear hl
 by_cases h1:48<=n
 ·(try((repeat(revert hN;revert N;apply Pn.out));refine wk @h1 ?_;(repeat(refine Pn.mk ?_;intro N hN))))
  exact aJ (b:=decide (n<=57)) (.inl rfl) (sd @Nat.zero_add) (by simp[iw,h1])
 ·(try((repeat(revert hN;revert N;apply Pn.out));refine wk @h1 ?_;(repeat(refine Pn.mk ?_;intro N hN))))
  exact aJ (b:=false) (.inl rfl) (sd @Nat.zero_add) (by simp[iw,h1])
def uZ (s:aq) (g:Int) (c:UInt8):Int:=if g=0 then -1 else lF (iV s (g-1)).aB ⟨#[c]⟩ 10
theorem AZ (s:aq) (g:Int) (h0:0<=g) (h1:g<=s.ar.length):ai Tryz.prog 38 [.cK (aa s),.int .i64 g] (.int .i64 (uZ s g 113)):=by
 refine ai.body dN rfl fun hl n0=>?_
 have hn:s.ar.length<=9223372036854775807:=by
  have h1:=(hl (.cK (aa s)) (by simp)).vn (a:=.sl (s.ar.map aT)) (by simp[aa])
  simpa using h1.len
 clear hl
 by_cases hg:g=0
 ·have e:decide (g=0)=true:=decide_eq_true hg
  (try((repeat(revert hN;revert N;apply Pn.out));refine wk (tw @aa.eq_1 @e) ?_;(repeat(refine Pn.mk ?_;intro N hN))))
  exact bq (b:=-1) (.inl rfl) (sd @Nat.zero_add) (by rw[uZ,if_pos hg])
 ·have e:decide (g=0)=false:=decide_eq_false hg
  have hw:IntKind.i64.wrap (g-1)=g-1:=aY ab
  have kK:0<=g-1:=ab
  have dE:(s.ar.map aT)[(g-1).toNat]? =some (aT (iV s (g-1))):=getD_map aT ab
  rw[uZ,if_neg hg,Db]
  obtain⟨u,hu⟩:∃u,iV s (g-1)=u:=⟨_,rfl⟩
  rw[hu]at dE ⊢
  obtain⟨nm,st⟩:=u
  (try dsimp only)
  by_cases hs:nm.size=2
  ·have es:decide ((nm.size:Int)=2)=true:=decide_eq_true ab
   have b0:=ql (s:=nm) (i:=0) ab
   have b1:=ql (s:=nm) (i:=1) ab
   have c0:=mU (s:=nm) (i:=0) ab
   have c1:=mU (s:=nm) (i:=1) ab
   generalize nm[0]=x0 at b0 c0
   generalize nm[1]=x1 at b1 c1
   have vg:=x1.toNat_lt
   by_cases hc:x0.toNat=113
   ·have ec:decide ((x0.toNat:Int)=113)=true:=decide_eq_true ab
    have hd:=AT (x1.toNat:Int)
    by_cases h48:48<=x1.toNat/\x1.toNat<58
    ·have Qn:iw (x1.toNat:Int)=true:=by simp[iw];omega
     rw[Qn]at hd
     have hw8:IntKind.u8.wrap ((x1.toNat:Int)-48)=(x1.toNat:Int)-48:=by
      unfold IntKind.wrap
      simp[IntKind.signed,IntKind.bits]
      omega
     have Ob:IntKind.i64.wrap ((x1.toNat:Int)-48)=(x1.toNat:Int)-48:=aY ab
     (repeat(first|((repeat(revert hN;revert N;apply Pn.out));refine wk (tw @aa.eq_1 (tw @aT.eq_1 (tw @e (tw @hw (tw @kK (tw @dE (tw @es (tw @b0 (tw @b1 (tw @ec (tw @hw8 @Ob))))))))))) ?_;(repeat(refine Pn.mk ?_;intro N hN)))|((try apply Or.inl);refine⟨_,ai.x (hd) (sd (tw @aa.eq_1 (tw @aT.eq_1 (tw @e (tw @hw (tw @kK (tw @dE (tw @es (tw @b0 (tw @b1 (tw @ec (tw @hw8 @Ob)))))))))))),?_⟩;refine hN _ _ ?_;clear hN N)))
     exact bq (b:=(x1.toNat:Int)-48) (.inl rfl) (sd @Nat.zero_add) (by rw[if_pos ⟨hs,by rw[c0];exact hc,ab,ab⟩,c1])
    ·have Qn:iw (x1.toNat:Int)=false:=by simp[iw];omega
     rw[Qn]at hd
     (repeat(first|((repeat(revert hN;revert N;apply Pn.out));refine wk (tw @aa.eq_1 (tw @aT.eq_1 (tw @e (tw @hw (tw @kK (tw @dE (tw @es (tw @b0 (tw @b1 @ec))))))))) ?_;(repeat(refine Pn.mk ?_;intro N hN)))|((try apply Or.inl);refine⟨_,ai.x (hd) (sd (tw @aa.eq_1 (tw @aT.eq_1 (tw @e (tw @hw (tw @kK (tw @dE (tw @es (tw @b0 (tw @b1 @ec)))))))))),?_⟩;refine hN _ _ ?_;clear hN N)))
     exact bq (b:=-1) (.inl rfl) (sd @Nat.zero_add) (by rw[if_neg (fun q=>h48 ab)])
   ·have ec:decide ((x0.toNat:Int)=113)=false:=decide_eq_false ab
    (try((repeat(revert hN;revert N;apply Pn.out));refine wk (tw @aa.eq_1 (tw @aT.eq_1 (tw @e (tw @hw (tw @kK (tw @dE (tw @es (tw @b0 @ec)))))))) ?_;(repeat(refine Pn.mk ?_;intro N hN))))
    exact bq (b:=-1) (.inl rfl) (sd @Nat.zero_add) (by rw[if_neg (fun q=>hc (by rw[<-c0];exact q.2.1))])
  ·have es:decide ((nm.size:Int)=2)=false:=decide_eq_false ab
   (try((repeat(revert hN;revert N;apply Pn.out));refine wk (tw @aa.eq_1 (tw @aT.eq_1 (tw @e (tw @hw (tw @kK (tw @dE @es)))))) ?_;(repeat(refine Pn.mk ?_;intro N hN))))
   exact bq (b:=-1) (.inl rfl) (sd @Nat.zero_add) (by rw[if_neg (fun q=>hs q.1)])
end Go.Proofs.YtihgaadadaekmaaGreatDoor.V

namespace Go.Proofs.YtihgaadadaekmaaGreatDoor.V
open Go.RowKit
section
variable {α:Type} {R:tT α} {z:Nat}
theorem fh.push (ok:ou R z) {lo m n':Nat} {L:List α} {o o':Id} {rows:List (List AV)} {is:List Id} {g g':Rows} {x:α} {cs:List AV} {ic:List Id} (hR:cD R g rows L is) (hN:dZ lo m (o::is)) (hf:∀y:Id,lo<=y.bV->y.bV<m->y≠o->g' y=g y) (hx:R g' cs x ic) (EM:dZ m o'.bV ic) (hm:m<=o'.bV) (AH:o'.bV<n') (jz:lo<=m) (hg:g' o'=some ⟨true,z,rows++[cs]⟩):
  ∃ids,fh R z g' (.own o' 0 (L++[x]).length) (L++[x]) ids/\dZ lo n' ids:=by
 obtain⟨n1,n2⟩:=List.nodup_cons.1 hN.1
 have hb:=fun i (hi:i∈is)=>hN.2 i (by simp[hi])
 have K0:cD R g' rows L is:=hR.frame ok fun i hi=>hf i (hb i hi).1 (hb i hi).2 fun e=>n1 (e▸hi)
 refine⟨o'::(is++ic),⟨o',_,_,rfl,hg,K0.app (cD.one hx),rfl⟩,List.nodup_cons.2 ⟨fun h=>?_,List.nodup_append.2 ⟨n2,EM.1,fun x hx y hy e=>?_⟩⟩,fun i hi=>?_⟩
 ·rcases List.mem_append.1 h with h|h
  ·have:=hb _ h;omega
  ·have:=EM.2 _ h;omega
 ·have h1:=hb _ hx;have h2:=EM.2 _ hy;rw[e]at h1;omega
 ·rcases List.mem_cons.1 hi with rfl|hi
  ·omega
  ·rcases List.mem_append.1 hi with h|h
   ·have:=hb _ h;omega
   ·have:=EM.2 _ h;omega
end
end Go.Proofs.YtihgaadadaekmaaGreatDoor.V

namespace Go.Proofs.YtihgaadadaekmaaGreatDoor.V
open Go.RowKit
attribute [local irreducible] dP wpOps gN Call
attribute [local go_sem] aI fI eE fW fV cv upd cq K.av cL AV.cells AV.cell rowOf rowsOf part ld rowAt bK bY dH eh ij bL da eA fZ eX dr eo cY cX dR dS bR bf cQ bQ cT cR ej ep ek cP bU cZ ei bP aM cV cz ig br cI bS aZ dD bp dJ AV.undef bB bH dX ef dO ea cF ez eC cu eu er cU cW List.getD_cons_zero List.getD_cons_succ List.getD_nil List.all_cons List.all_nil Bool.and_true Bool.true_and Bool.and_self Bool.not_true Bool.not_false Option.map_some Option.map_none Option.bind_some Option.bind_none List.length_cons List.length_nil List.take_succ_cons List.take_zero List.take_nil List.drop_succ_cons List.drop_zero List.drop_nil List.head?_cons List.map_cons List.map_nil List.getElem?_cons_zero List.getElem?_cons_succ List.cons_append List.nil_append List.append_nil List.length_map List.set_cons_zero List.set_cons_succ Nat.reduceMul eq_self Int.toNat_natCast Int.natCast_nonneg and_self true_and and_true decide_true decide_false Bool.false_eq_true Nat.zero_add Nat.add_zero List.contains_cons List.contains_nil Bool.or_false Bool.false_or beq_self_eq_true Nat.reduceBEq ne_eq not_true_eq_false not_false_eq_true Id.mk.injEq false_and and_false Nat.reduceLT Int.reduceLE Int.reduceLT Int.reduceToNat Int.reduceNeg Int.reduceAdd Nat.le_refl List.length_append beq_true beq_false Bool.not_eq_eq_eq_not or_false false_or dz ad aj aH bx cl aQ bj aW bh cN bz
theorem Gf {g:Rows} {cs:List AV} {x:List Int} {ids:List Id} (n:Nat) (h:jm g cs x ids):bW g (n+2) cs=some (oX x):=by
 obtain⟨i,rfl,h2,_⟩:=h
 have h3:V.fz g (n+2) (.own i 0 x.length)=some (.sl (x.map az)):=fA (e:=az) (sz:=1) h2 rfl fun y=>by simp[az,ad,aj,aH]
 simp only[ad,aj,h3,Option.map_some,oX]
theorem Gm {α:Type} {R:tT α} {z n:Nat} {e:α->List AV} {g:Rows} {o:Id} {rows:List (List AV)} {xs:List α} {is:List Id} (h2:g o=some ⟨true,z,rows⟩) (h3:cD R g rows xs is) (hz:∀{cs x ids},R g cs x ids->bW g n cs=some (e x)):V.fz g (n+1) (.own o 0 xs.length)=some (.sl (xs.map e)):=by
 have hl:=h3.len
 have key:∀{rows:List (List AV)} {xs:List α} {is:List Id},cD R g rows xs is->dq g n rows=some (xs.map e):=fun h=>by
  induction h with
  |nil=>rw[dq];rfl
  |cons h1 _ ih=>rw[dq,hz h1,ih];rfl
 rw[fP]
 simp only[h2,if_true]
 rw[if_pos ab,List.drop_zero,List.take_of_length_le ab,key h3];rfl
theorem An {s:aq} {l:List ak} {p:bI} {c:UInt8} {t:Int} (ht:xu l p=t) (h0:0<=t) (d:Int):lF (EI s l p d) ⟨#[c]⟩ 10=uZ s (cJ (cH s t) d) c:=by
 rw[EI,ht,if_neg ab,uZ]
 split
 ·exact yi
 ·rfl
theorem vU (s:ck) (a:dd) (w h:Int) (hn:fC s.aA) (hg:s.aA.ar.length<=1048576) (ht:s.aA.ae.length<=1048576):
  ∃u,lZ oX (jB s a w h).1 u/\jC Tryz.prog 9 [.agg (ay s),.agg (aC a),.int .i64 w,.int .i64 h] (.ib [u,.int .i64 (jB s a w h).2]):=by
 obtain⟨l⟩:=a
 have h1:=AY s l hn hg ht
 rw[aC]
 (try dsimp only)
 cases hask:qe s l
 ·rw[hask]at h1
  have hr:jB s ⟨l⟩ w h=([],1):=by rw[jB,hask];rfl
  rw[hr]
  refine⟨.bC,.inl ⟨rfl,rfl⟩,?_⟩
  refine jC.body dN rfl fun rR σ=>?_
  clear rR
  rw[ay]at h1 ⊢
  (repeat(first|((repeat(revert hN;revert N;apply Pn.out));refine wk @Nat.zero_add ?_;(repeat(refine Pn.mk ?_;intro N hN)))|((try apply Or.inl);refine⟨_,ai.x (h1) (sd @Nat.zero_add),?_⟩;refine hN _ _ ?_;clear hN N)))
  exact qE (.inl rfl) (vs:=[.bC,.int .i64 1]) (sd @Nat.zero_add) (by simp[dU,bz,ad,aj,aH,aQ])
 rw[hask]at h1
 obtain⟨hP,hA⟩:=xS.1 hask
 have hF:=hP.set.form
 have i1:=jf w 1 15
 have i2:=jf h 1 15
 cases r8:gD w 1 15
 ·have hr:jB s ⟨l⟩ w h=([],2):=by rw[jB,hask,if_pos rfl,r8];rfl
  rw[hr]
  refine⟨.bC,.inl ⟨rfl,rfl⟩,?_⟩
  refine jC.body dN rfl fun rR σ=>?_
  clear rR
  rw[r8]at i1
  rw[ay]at h1 ⊢
  (repeat(first|((repeat(revert hN;revert N;apply Pn.out));refine wk @Nat.zero_add ?_;(repeat(refine Pn.mk ?_;intro N hN)))|((try apply Or.inl);refine⟨_,ai.x (h1) (sd @Nat.zero_add),?_⟩;refine hN _ _ ?_;clear hN N)|((try apply Or.inl);refine⟨_,ai.x (i1) (sd @Nat.zero_add),?_⟩;refine hN _ _ ?_;clear hN N)))
  exact qE (.inl rfl) (vs:=[.bC,.int .i64 2]) (sd @Nat.zero_add) (by simp[dU,bz,ad,aj,aH,aQ])
 rw[r8]at i1
 cases mo:gD h 1 15
 ·have hr:jB s ⟨l⟩ w h=([],2):=by rw[jB,hask,if_pos rfl,r8,mo];rfl
  rw[hr]
  refine⟨.bC,.inl ⟨rfl,rfl⟩,?_⟩
  refine jC.body dN rfl fun rR σ=>?_
  clear rR
  rw[mo]at i2
  rw[ay]at h1 ⊢
  (repeat(first|((repeat(revert hN;revert N;apply Pn.out));refine wk @Nat.zero_add ?_;(repeat(refine Pn.mk ?_;intro N hN)))|((try apply Or.inl);refine⟨_,ai.x (h1) (sd @Nat.zero_add),?_⟩;refine hN _ _ ?_;clear hN N)|((try apply Or.inl);refine⟨_,ai.x (i1) (sd @Nat.zero_add),?_⟩;refine hN _ _ ?_;clear hN N)|((try apply Or.inl);refine⟨_,ai.x (i2) (sd @Nat.zero_add),?_⟩;refine hN _ _ ?_;clear hN N)))
  exact qE (.inl rfl) (vs:=[.bC,.int .i64 2]) (sd @Nat.zero_add) (by simp[dU,bz,ad,aj,aH,aQ])
 rw[mo]at i2
 have kb:=dt r8
 have kd:=dt mo
 obtain⟨wn,rfl⟩:∃n:Nat,w=(n:Int):=⟨w.toNat,ab⟩
 obtain⟨hm,rfl⟩:∃n:Nat,h=(n:Int):=⟨h.toNat,ab⟩
 have hr:jB s ⟨l⟩ wn hm=if GO s.aA l wn hm=true then(rL s.aA l wn hm,0)else([],9):=by rw[jB,hask,if_pos rfl,r8,mo];rfl
 rw[hr]
 have key:∀(u:AV) (c:Int),(if GO s.aA l wn hm=true then u=.sl ((rL s.aA l wn hm).map oX)/\c=0 else u=.bC/\c=9)->
   jC Tryz.prog 9 [.agg (ay s),.agg [.sl (l.map ah)],.int .i64 (wn:Int),.int .i64 (hm:Int)] (.ib [u,.int .i64 c]):=by
  intro u c hw
  refine jC.body dN rfl fun rR σ=>?_
  clear rR
  rw[ay]at h1 ⊢
  (repeat(first|((repeat(revert hN;revert N;apply Pn.out));refine wk @Nat.zero_add ?_;(repeat(refine Pn.mk ?_;intro N hN)))|((try apply Or.inl);refine⟨_,ai.x (h1) (sd @Nat.zero_add),?_⟩;refine hN _ _ ?_;clear hN N)|((try apply Or.inl);refine⟨_,ai.x (i1) (sd @Nat.zero_add),?_⟩;refine hN _ _ ?_;clear hN N)|((try apply Or.inl);refine⟨_,ai.x (i2) (sd @Nat.zero_add),?_⟩;refine hN _ _ ?_;clear hN N)))
  refine aL (fun n env st=>∃k:Nat,n=hm-k/\k<=hm/\(∀y,y<k->∀x,x<wn->0<=nu s.aA l y x)/\env 12=.int .i64 ((k:Int)+1)/\(∃oo rows is,env 11=.own oo 0 (rL s.aA l wn k).length/\st.get oo=some ⟨true,1,rows⟩/\cD jm st.get rows (rL s.aA l wn k) is/\dZ (σ.next+1) st.next (oo::is))/\st.get ⟨9000000,σ.next⟩=some ⟨true,4,[[.sl (s.aA.ar.map aT),.sl (s.aA.ae.map aU),.sl (s.bJ.ae.map ah),.int .i64 s.aE]]⟩/\st.get ⟨9000001,σ.next⟩=some ⟨true,1,[[.sl (l.map ah)]]⟩/\σ.next<st.next) hm ⟨0,rfl,ab,fun j hj=>absurd hj (Nat.not_lt_zero j),by(simp only[go_sem, ↓reduceIte,Nat.reduceEqDiff,Nat.reduceAdd,Nat.reduceSub,Nat.reduceLeDiff,reduceCtorEq])<;>rfl,⟨⟨9006000,σ.next+1+1+1+1⟩,[],[],sl @Nat.zero_add,sl @Nat.zero_add,.nil,⟨List.nodup_cons.2 ⟨by simp,List.nodup_nil⟩,fun i hi=>by rw[List.mem_singleton.1 hi];(try dsimp only);omega⟩⟩,sd @Nat.zero_add,sd @Nat.zero_add,bt⟩ ?_
  rintro n env_a st_a ⟨k,rfl,hk,di,e12,⟨oo,rows,is,e11,Ix,hRR,hNI⟩,hg4,hg5,sa⟩ hkp
  have e4:=hkp 4 (by kernel_rfl)
  have e5:=hkp 5 (by kernel_rfl)
  have e2:=hkp 2 (by kernel_rfl)
  have e3:=hkp 3 (by kernel_rfl)
  simp only[go_sem, ↓reduceIte,Nat.reduceEqDiff,Nat.reduceAdd,Nat.reduceSub,Nat.reduceLeDiff,reduceCtorEq]at e2 e3 e4 e5
  clear hkp
  have mz:=hRR.len
  rw[tp]at mz e11
  by_cases rj:(k:Int)+1<=(hm:Int)
  ·have FX:k<hm:=ab
   (try((repeat(revert hN;revert N;apply Pn.out));refine wk (tw @e12 (tw @e3 (tw @rj (tw @e2 (tw @e4 (tw @e5 (tw @e11 (tw @hg4 @hg5)))))))) ?_;(repeat(refine Pn.mk ?_;intro N hN))))
   refine aL (fun n env st=>∃x:Nat,n=wn-x/\x<=wn/\(∀j,j<x->0<=nu s.aA l k j)/\env 14=.int .i64 ((x:Int)+1)/\(∃r:Id,env 13=.own r 0 x/\st.get r=some ⟨true,1,(kO s.aA l k x).map az⟩/\st_a.next<=r.bV/\r.bV<st.next)/\st_a.next<=st.next/\∀i:Id,i.bV<st_a.next->st.get i=st_a.get i) wn ⟨0,rfl,ab,fun j hj=>absurd hj (Nat.not_lt_zero j),by(simp only[go_sem, ↓reduceIte,Nat.reduceEqDiff,Nat.reduceAdd,Nat.reduceSub,Nat.reduceLeDiff,reduceCtorEq])<;>rfl,⟨⟨9010000,st_a.next+1⟩,sl @Nat.zero_add,sl @Nat.zero_add,bt,bt⟩,bt,fun i hi=>(by have h9:=eD hi;simp only[go_sem, ↓reduceIte,Nat.reduceEqDiff,Nat.reduceAdd,Nat.reduceSub,Nat.reduceLeDiff,reduceCtorEq,h9])⟩ ?_
   rintro n env_b st_b ⟨x,rfl,hx,hxall,f14,⟨r,f13,F5,AK,hr3⟩,Aw,hbF⟩ hkp
   have f2:=hkp 2 (by kernel_rfl)
   have f3:=hkp 3 (by kernel_rfl)
   have f4:=hkp 4 (by kernel_rfl)
   have f5:=hkp 5 (by kernel_rfl)
   have f11:=hkp 11 (by kernel_rfl)
   have f12:=hkp 12 (by kernel_rfl)
   simp only[go_sem, ↓reduceIte,Nat.reduceEqDiff,Nat.reduceAdd,Nat.reduceSub,Nat.reduceLeDiff,reduceCtorEq,e2,e3,e4,e5,e11,e12]at f2 f3 f4 f5 f11 f12
   clear hkp
   have g4:=(hbF ⟨9000000,σ.next⟩ sa).trans hg4
   have g5:=(hbF ⟨9000001,σ.next⟩ sa).trans hg5
   by_cases vg:(x:Int)+1<=(wn:Int)
   ·have J5:x<wn:=ab
    have xC:=IP l ⟨(x:Int)+1,(k:Int)+1⟩ hA.1.Pr (by have:=hA.1.EH;omega)
    rw[ao]at xC
    have NB:nu s.aA l k x=lF (EI s.aA l ⟨(x:Int)+1,(k:Int)+1⟩ 0) ⟨#[113]⟩ 10:=rfl
    obtain⟨t,Pj⟩:∃t,xu l ⟨(x:Int)+1,(k:Int)+1⟩=t:=⟨_,rfl⟩
    by_cases h0:t<0
    ·have jI:GO s.aA l wn hm=false:=Bi FX J5 (by rw[NB,EI,Pj,if_pos h0,yi];omega)
     rw[Pj]at xC
     rw[jI,if_neg (by simp)]at hw
     obtain⟨rfl,rfl⟩:=hw
     (repeat(first|((repeat(revert hN;revert N;apply Pn.out));refine wk (tw @f14 (tw @f2 (tw @vg (tw @f12 (tw @f4 (tw @f5 (tw @g4 (tw @g5 @h0)))))))) ?_;(repeat(refine Pn.mk ?_;intro N hN)))|((try apply Or.inl);refine⟨_,ai.x (xC) (sd (tw @f14 (tw @f2 (tw @vg (tw @f12 (tw @f4 (tw @f5 (tw @g4 (tw @g5 @h0))))))))),?_⟩;refine hN _ _ ?_;clear hN N)))
     exact qE (.inl rfl) (vs:=[.bC,.int .i64 9]) (sd @Nat.zero_add) (by simp[dU,bz,ad,aj,aH,aQ])
    ·have EP:=xT hA (p:=⟨(x:Int)+1,(k:Int)+1⟩) ab
     have NG:=An (s:=s.aA) (c:=113) Pj ab 0
     rw[<-NB]at NG
     rw[Pj]at xC EP
     obtain⟨MT,MU,Q5⟩:=ke EP
     have s1:((cH s.aA t).aX.map az)[0]? =some [.int .i64 (cJ (cH s.aA t) 0)]:=j8 (d:=0) (hF.ny _ Q5) (nh ab)
     have gl:=hF.re _ Q5 _ (pQ (d:=0) (hF.ny _ Q5) (nh ab))
     have hv:=(AZ s.aA (cJ (cH s.aA t) 0) gl.1 gl.2).cut mixed (.ptr _ [.sl (s.bJ.ae.map ah),.int .i64 s.aE] (.same _ .nil))
     rw[aa]at hv
     simp only[List.cons_append,List.nil_append]at hv
     generalize uZ s.aA (cJ (cH s.aA t) 0) 113=v at hv NG
     by_cases jT:v<0
     ·have jI:GO s.aA l wn hm=false:=Bi FX J5 (by rw[NG];exact jT)
      rw[jI,if_neg (by simp)]at hw
      obtain⟨rfl,rfl⟩:=hw
      (repeat(first|((repeat(revert hN;revert N;apply Pn.out));refine wk (tw @f14 (tw @f2 (tw @vg (tw @f12 (tw @f4 (tw @f5 (tw @g4 (tw @g5 (tw @h0 (tw @MT (tw @MU (tw @aU.eq_1 (tw @s1 @jT))))))))))))) ?_;(repeat(refine Pn.mk ?_;intro N hN)))|((try apply Or.inl);refine⟨_,ai.x (xC) (sd (tw @f14 (tw @f2 (tw @vg (tw @f12 (tw @f4 (tw @f5 (tw @g4 (tw @g5 (tw @h0 (tw @MT (tw @MU (tw @aU.eq_1 (tw @s1 @jT)))))))))))))),?_⟩;refine hN _ _ ?_;clear hN N)|((try apply Or.inl);refine⟨_,ai.x (hv) (sd (tw @f14 (tw @f2 (tw @vg (tw @f12 (tw @f4 (tw @f5 (tw @g4 (tw @g5 (tw @h0 (tw @MT (tw @MU (tw @aU.eq_1 (tw @s1 @jT)))))))))))))),?_⟩;refine hN _ _ ?_;clear hN N)))
      exact qE (.inl rfl) (vs:=[.bC,.int .i64 9]) (sd @Nat.zero_add) (by simp[dU,bz,ad,aj,aH,aQ])
     ·have Ga:(kO s.aA l k (x+1)).map az=(kO s.aA l k x).map az++[[.int .i64 v]]:=by rw[vJ,List.map_append,NG];rfl
      have xE:((kO s.aA l k x).map az).length=x:=by rw[List.length_map,lg]
      have HK:x<=16777215:=ab
      have vr:=eD hr3
      have xG:IntKind.i64.wrap ((x:Int)+1+1)=((x+1:Nat):Int)+1:=by rw[aY ab];rfl
      generalize (kO s.aA l k x).map az=M at F5 Ga xE
      (repeat(first|((repeat(revert hN;revert N;apply Pn.out));refine wk (tw @f14 (tw @f2 (tw @vg (tw @f12 (tw @f4 (tw @f5 (tw @g4 (tw @g5 (tw @h0 (tw @MT (tw @MU (tw @aU.eq_1 (tw @s1 (tw @jT (tw @f13 (tw @F5 (tw @vr (tw @xE (tw @HK @xG))))))))))))))))))) ?_;(repeat(refine Pn.mk ?_;intro N hN)))|((try apply Or.inl);refine⟨_,ai.x (xC) (sd (tw @f14 (tw @f2 (tw @vg (tw @f12 (tw @f4 (tw @f5 (tw @g4 (tw @g5 (tw @h0 (tw @MT (tw @MU (tw @aU.eq_1 (tw @s1 (tw @jT (tw @f13 (tw @F5 (tw @vr (tw @xE (tw @HK @xG)))))))))))))))))))),?_⟩;refine hN _ _ ?_;clear hN N)|((try apply Or.inl);refine⟨_,ai.x (hv) (sd (tw @f14 (tw @f2 (tw @vg (tw @f12 (tw @f4 (tw @f5 (tw @g4 (tw @g5 (tw @h0 (tw @MT (tw @MU (tw @aU.eq_1 (tw @s1 (tw @jT (tw @f13 (tw @F5 (tw @vr (tw @xE (tw @HK @xG)))))))))))))))))))),?_⟩;refine hN _ _ ?_;clear hN N)))
      exact⟨wn-(x+1),ab,x+1,rfl,ab,fun j hj=>by
       rcases Nat.lt_or_ge j x with h|h
       ·exact hxall j h
       ·have:j=x:=ab
        rw[this,NG];omega,sd (tw @f14 @xG),⟨⟨9020003,st_b.next+1+1+1+1+1⟩,sl @Nat.zero_add,by rw[Ga];simp only[go_sem, ↓reduceIte,Nat.reduceEqDiff,Nat.reduceAdd,Nat.reduceSub,Nat.reduceLeDiff,reduceCtorEq]<;>rfl,bt,bt⟩,bt,fun i hi=>by
       have h9:=eD (i:=i) (n:=st_b.next) ab
       have h8:=hbF i hi
       have h7:=dj (a:=i) (b:=r) ab
       simp only[go_sem, ↓reduceIte,Nat.reduceEqDiff,Nat.reduceAdd,Nat.reduceSub,Nat.reduceLeDiff,reduceCtorEq,h9,h8,h7]⟩
   ·have J5:x=wn:=ab
    subst J5
    have hoob:=hNI.2 oo (by simp)
    have fo:=(hbF oo ab).trans Ix
    have vo:=eD (i:=oo) (n:=st_b.next) ab
    have vr:=eD hr3
    have ki:k<=16777215:=ab
    have IC:=lg s.aA l k x
    have ve:IntKind.i64.wrap ((k:Int)+1+1)=((k+1:Nat):Int)+1:=by rw[aY ab];rfl
    have ro:=dj (a:=oo) (b:=r) ab
    have o4:=dj (a:=⟨9000000,σ.next⟩) (b:=oo) bt
    have o5:=dj (a:=⟨9000001,σ.next⟩) (b:=oo) bt
    (try((repeat(revert hN;revert N;apply Pn.out));refine wk (tw @f14 (tw @f2 (tw @vg (tw @f12 (tw @f11 (tw @fo (tw @vo (tw @f13 (tw @mz (tw @ki @ve)))))))))) ?_;(repeat(refine Pn.mk ?_;intro N hN))))
    refine⟨hm-(k+1),ab,k+1,rfl,ab,fun y hy x' oM=>by
     rcases Nat.lt_or_ge y k with h|h
     ·exact di y h x' oM
     ·have:y=k:=ab
      rw[this];exact hxall x' oM,sd (tw @f12 @ve),?_,sd (tw @o4 @g4),sd (tw @o5 @g5),bt⟩
    have Qb:cD jm st_b.get rows (rL s.aA l x k) is:=hRR.frame qw fun i hi=>hbF i (by have:=hNI.2 i (by simp[hi]);omega)
    have fin:∀(v':AV) (g':Rows),v'=.own ⟨9021003,st_b.next+1⟩ 0 (k+1)->g' ⟨9021003,st_b.next+1⟩=some ⟨true,1,rows++[[.own r 0 x]]⟩->(∀y:Id,y.bV<st_b.next->y≠oo->g' y=st_b.get y)->∃Q3 rD J6,v'=.own Q3 0 (rL s.aA l x (k+1)).length/\g' Q3=some ⟨true,1,rD⟩/\cD jm g' rD (rL s.aA l x (k+1)) J6/\dZ (σ.next+1) (st_b.next+1+1+1) (Q3::J6):=by
     intro v' g' h0 h1 h2
     obtain⟨ids,⟨o2,rD,J6,q1,q2,q3,rfl⟩,q5⟩:=fh.push (z:=1) (lo:=σ.next+1) (m:=st_a.next) (n':=st_b.next+1+1+1) (x:=kO s.aA l k x) (cs:=[.own r 0 (kO s.aA l k x).length]) (ic:=[r]) (o':=⟨9021003,st_b.next+1⟩) (g':=g') qw Qb hNI (fun y y1 y2 y3=>h2 y ab y3) ⟨r,rfl,(h2 r hr3 fun e=>by rw[e]at AK;omega).trans F5,rfl⟩ ⟨List.nodup_cons.2 ⟨by simp,List.nodup_nil⟩,fun i hi=>by rw[List.mem_singleton.1 hi];(try dsimp only);omega⟩ bt bt ab (by rw[h1,IC])
     rw[<-w6]at q1 q3
     refine⟨o2,rD,J6,by rw[h0,<-q1,tp],q2,q3,q5⟩
    exact fin _ _ (sl @Nat.zero_add) (sl @Nat.zero_add) (fun y y1 y2=>(by
     have h9:=eD y1
     have h8:=eq_false y2
     simp only[go_sem, ↓reduceIte,Nat.reduceEqDiff,Nat.reduceAdd,Nat.reduceSub,Nat.reduceLeDiff,reduceCtorEq,h9,h8]))
  ·have FX:k=hm:=ab
   subst FX
   have Gc:=Cx (s:=s.aA) (l:=l) (w:=wn) (h:=k) di
   rw[Gc,if_pos rfl]at hw
   obtain⟨rfl,rfl⟩:=hw
   (try((repeat(revert hN;revert N;apply Pn.out));refine wk (tw @e12 (tw @e3 (tw @rj @e11))) ?_;(repeat(refine Pn.mk ?_;intro N hN))))
   exact qE (.inl rfl) (vs:=[.own oo 0 (rL s.aA l wn k).length,.int .i64 0]) (sd (tw @e11 @tp)) (by
    have hz:=Gm (n:=4) (e:=oX) Ix hRR fun h=>Gf 2 h
    simp only[dU,bz,ad,aj,aH,hz,Option.map_some])
 cases h0:GO s.aA l wn hm
 ·rw[if_neg (by simp)]
  exact⟨.bC,.inl ⟨rfl,rfl⟩,key _ _ (by rw[h0,if_neg (by simp)];exact⟨rfl,rfl⟩)⟩
 ·rw[if_pos rfl]
  exact⟨_,.inr rfl,key _ _ (by rw[h0,if_pos rfl];exact⟨rfl,rfl⟩)⟩
structure l6 (n:Nat) (px:Nat->Option Nat) (L:Nat->Nat):Prop where
 top:∀k,k<n->px k=none->L k=k
 up:∀k j,k<n->px k=some j->j<k/\L j=L k
theorem l6.root {n:Nat} {px:Nat->Option Nat} {L:Nat->Nat} (h:l6 n px L) (hL:iQ L) {k:Nat} (hk:k<n) (hr:L k=k):px k=none:=by
 rcases hp:px k with _|j
 ·rfl
 ·obtain⟨h1,h2⟩:=h.up k j hk hp
  have:=hL.le j
  omega
theorem l6.start (n:Nat):l6 n (fun _=>none) id:=⟨fun _ _ _=>rfl,fun _ _ _ h=>by cases h⟩
theorem l6.join {n:Nat} {px:Nat->Option Nat} {L:Nat->Nat} (h:l6 n px L) (hL:iQ L) (b:PB) (dF:min (L b.a) (L b.b)<max (L b.a) (L b.b)):l6 n (fun k=>if k=max (L b.a) (L b.b)then some (min (L b.a) (L b.b))else px k) (dW L b):=by
 have ha:=hL.idem b.a
 have hb:=hL.idem b.b
 have wJ:L (min (L b.a) (L b.b))=min (L b.a) (L b.b):=by
  rcases Nat.le_total (L b.a) (L b.b)with h|h
  ·rw[Nat.min_eq_left h,ha]
  ·rw[Nat.min_eq_right h,hb]
 have NW:L (max (L b.a) (L b.b))=max (L b.a) (L b.b):=by
  rcases Nat.le_total (L b.a) (L b.b)with h|h
  ·rw[Nat.max_eq_right h,hb]
  ·rw[Nat.max_eq_left h,ha]
 unfold dW
 generalize min (L b.a) (L b.b)=lo at *
 generalize max (L b.a) (L b.b)=hi at *
 refine⟨fun k hk hp=>?_,fun k j hk hp=>?_⟩
 ·by_cases HD:k=hi
  ·rw[if_pos HD]at hp;cases hp
  ·rw[if_neg HD]at hp
   have:=h.top k hk hp
   rw[if_neg ab];exact this
 ·by_cases HD:k=hi
  ·rw[if_pos HD]at hp
   cases hp
   subst HD
   exact⟨dF,by rw[if_neg ab,if_pos NW,wJ]⟩
  ·rw[if_neg HD]at hp
   obtain⟨h1,h2⟩:=h.up k j hk hp
   exact⟨h1,by rw[h2]⟩
theorem wP {L:Nat->Nat} {b:PB} (h:L b.a=L b.b):dW L b=L:=by
 funext k
 unfold dW
 rw[h,Nat.max_self,Nat.min_self]
 split
 ·rename_i h;exact h.symm
 ·rfl
def qo (G:Nat->Id) (px:Nat->Option Nat) (k:Nat):List AV:=[match px k with|none=>.gj|some j=>.ptr (G j) 0 0,.int .i64 (k:Int)]
def rK (g:Rows) (G:Nat->Id) (n:Nat) (px:Nat->Option Nat):Prop:=∀k,k<n->g (G k)=some ⟨true,2,[qo G px k]⟩
theorem rK.frame {g g':Rows} {G:Nat->Id} {n:Nat} {px:Nat->Option Nat} (h:rK g G n px) (hf:∀k,k<n->g' (G k)=g (G k)):rK g' G n px:=fun k hk=>(hf k hk).trans (h k hk)
theorem kC {G:Nat->Id} {px:Nat->Option Nat} {k:Nat} (h:px k=none):qo G px k=[.gj,.int .i64 (k:Int)]:=by rw[qo,h]
theorem rf {G:Nat->Id} {px:Nat->Option Nat} {k j:Nat} (h:px k=some j):qo G px k=[.ptr (G j) 0 0,.int .i64 (k:Int)]:=by rw[qo,h]
theorem wo (G:Nat->Id) (n:Nat) (px:Nat->Option Nat) (L:Nat->Nat) (h:l6 n px L) (k:Nat) (hk:k<n) (σ:aw) (hG:rK σ.get G n px):
  Call Tryz.prog 184 [.ptr (G k) 0 0] σ fun r σ'=>r=.ptr (G (L k)) 0 0/\σ'.get=σ.get/\σ.next<=σ'.next:=by
 refine eZ dN rfl fun hl=>?_
 clear hl
 (try((repeat(revert hN;revert N;apply Pn.out));refine wk @Nat.zero_add ?_;(repeat(refine Pn.mk ?_;intro N hN))))
 refine aL (fun m env st=>∃j:Nat,m=j/\j<n/\env 0=.ptr (G j) 0 0/\L j=L k/\st.get=σ.get/\σ.next<=st.next) k ⟨k,rfl,hk,sd @Nat.zero_add,rfl,by(try dsimp only),bt⟩ ?_
 rintro m env_b st_b ⟨j,rfl,hj,b0,hLj,hg,hle⟩ bfr
 clear bfr
 have fu:=hG m hj
 rcases hp:px m with _|j
 ·rw[kC hp]at fu
  (try((repeat(revert hN;revert N;apply Pn.out));refine wk (tw @b0 (tw @hg @fu)) ?_;(repeat(refine Pn.mk ?_;intro N hN))))
  exact gn (.inl rfl) (vs:=[.ptr (G m) 0 0]) (sd @Nat.zero_add) ⟨by rw[<-hLj,h.top m hj hp];rfl,by first|trivial|rfl|exact hg,bt⟩
 ·rw[rf hp]at fu
  obtain⟨h1,h2⟩:=h.up m j hj hp
  (try((repeat(revert hN;revert N;apply Pn.out));refine wk (tw @b0 (tw @hg @fu)) ?_;(repeat(refine Pn.mk ?_;intro N hN))))
  exact⟨j,h1,j,rfl,ab,sd @Nat.zero_add,ab,by first|trivial|rfl|exact hg,bt⟩
end Go.Proofs.YtihgaadadaekmaaGreatDoor.V

namespace Go.Proofs.YtihgaadadaekmaaGreatDoor.V
open Go.RowKit
attribute [local irreducible] dP wpOps gN Call
attribute [local go_sem] aI fI eE fW fV cv upd cq K.av cL AV.cells AV.cell rowOf rowsOf part ld rowAt bK bY dH eh ij bL da eA fZ eX dr eo cY cX dR dS bR bf cQ bQ cT cR ej ep ek cP bU cZ ei bP aM cV cz ig br cI bS aZ dD bp dJ AV.undef bB bH dX ef dO ea cF ez eC cu eu er cU cW List.getD_cons_zero List.getD_cons_succ List.getD_nil List.all_cons List.all_nil Bool.and_true Bool.true_and Bool.and_self Bool.not_true Bool.not_false Option.map_some Option.map_none Option.bind_some Option.bind_none List.length_cons List.length_nil List.take_succ_cons List.take_zero List.take_nil List.drop_succ_cons List.drop_zero List.drop_nil List.head?_cons List.map_cons List.map_nil List.getElem?_cons_zero List.getElem?_cons_succ List.cons_append List.nil_append List.append_nil List.length_map List.set_cons_zero List.set_cons_succ eq_self Int.toNat_natCast Int.natCast_nonneg and_self true_and and_true decide_true decide_false Bool.false_eq_true Nat.zero_add Nat.add_zero List.contains_cons List.contains_nil Bool.or_false Bool.false_or beq_self_eq_true ne_eq not_true_eq_false not_false_eq_true Id.mk.injEq false_and and_false Nat.le_refl List.length_append beq_true beq_false Bool.not_eq_eq_eq_not or_false false_or dz ad aj aH bx cl aQ bj aW bh cN bz
abbrev mI:MK:=⟨false,[.tI]⟩
def qv (l:List (Nat×Nat)):List (List AV):=l.map fun p=>[.int .i64 (p.1:Int),.int .i64 (p.2:Int)]
theorem yS (r:Nat):∀(l:List (Nat×Nat)) (i:Nat),((∀p∈l,p.1≠r)->gG mI [.int .i64 (r:Int)] (qv l) i=some none)/\(∀j v,l[j]? =some (r,v)->(∀x y,x<j->l[x]? =some y->y.1≠r)->gG mI [.int .i64 (r:Int)] (qv l) i=some (some (i+j)))
 |[],i=>⟨fun _=>rfl,fun j v h=>by simp at h⟩
 |p::l,i=>by
  obtain⟨h1,h2⟩:=yS r l (i+1)
  by_cases h:p.1=r
  ·refine⟨fun hp=>absurd h (hp p (by simp)),fun j v hj hf=>?_⟩
   have hj0:j=0:=by
    rcases Nat.eq_zero_or_pos j with h0|h0
    ·exact h0
    ·exact absurd h (hf 0 p h0 (by simp))
   subst hj0
   simp[qv,gG,eX,fZ,MK.ks,h]
  ·have hd:¬((r:Int)=(p.1:Int)):=ab
   have mo:¬r=p.1:=fun he=>h he.symm
   have step:gG mI [.int .i64 (r:Int)] (qv (p::l)) i=gG mI [.int .i64 (r:Int)] (qv l) (i+1):=by
    unfold qv
    simp[gG,MK.ks,eX,fZ,hd,mo,h]
   rw[step]
   refine⟨fun hp=>h1 fun q hq=>hp q (by simp[hq]),fun j v hj hf=>?_⟩
   cases j with
   |zero=>simp at hj;rw[hj]at h;exact absurd rfl h
   |succ j=>
    rw[h2 j v (by simpa using hj) fun x y hx hy=>hf (x+1) y ab (by simpa using hy)]
    congr 2;omega
theorem vm {r:Nat} {l:List (Nat×Nat)}:((∀p∈l,p.1≠r)->gx mI (.int .i64 (r:Int)) (qv l)=some none)/\(∀j v,l[j]? =some (r,v)->(∀x y,x<j->l[x]? =some y->y.1≠r)->gx mI (.int .i64 (r:Int)) (qv l)=some (some j)):=by
 have e:gx mI (.int .i64 (r:Int)) (qv l)=gG mI [.int .i64 (r:Int)] (qv l) 0:=by
  unfold gx
  rw[if_pos ⟨rfl,rfl,rfl⟩];rfl
 obtain⟨h1,h2⟩:=yS r l 0
 rw[e]
 exact⟨h1,fun j v hj hf=>by rw[h2 j v hj hf,Nat.zero_add]⟩
def jW (k:Nat) (L:Nat->Nat):List (List AV):=qv (leads k L).zipIdx
theorem A5 {k:Nat} {L:Nat->Nat} (h:L k=k):jW (k+1) L=jW k L++[[.int .i64 (k:Int),.int .i64 ((leads k L).length:Int)]]:=by
 unfold jW
 rw[fQ,if_pos h,List.zipIdx_append]
 simp[qv]
theorem A4 {k:Nat} {L:Nat->Nat} (h:L k≠k):jW (k+1) L=jW k L:=by
 unfold jW
 rw[fQ,if_neg h,List.append_nil]
theorem DP {k:Nat} {L:Nat->Nat} (h:L k=k):gx mI (.int .i64 (k:Int)) (jW k L)=some none:=by
 refine vm.1 fun p hp=>?_
 have:=List.fst_mem_of_mem_zipIdx hp
 have:=(vz.1 this).1
 omega
theorem vw {n:Nat} {L:Nat->Nat} {x y:Nat} (hx:x<(leads n L).length) (hy:y<(leads n L).length) (h:(leads n L)[x]=(leads n L)[y]):x=y:=by
 have hp:=List.pairwise_iff_getElem.1 (rr n L)
 rcases Nat.lt_trichotomy x y with dF|he|dF
 ·exact absurd h (hp x y hx hy dF)
 ·exact he
 ·exact absurd h.symm (hp y x hy hx dF)
theorem vq {k:Nat} {L:Nat->Nat} (hL:iQ L) (h:L k≠k):gx mI (.int .i64 (L k:Int)) (jW k L)=some (some (bl L k))/\(jW k L)[bl L k]? =some [.int .i64 (L k:Int),.int .i64 (bl L k:Int)]/\bl L k<(leads k L).length:=by
 have dF:L k<k:=Nat.lt_of_le_of_ne (hL.le k) h
 have hn:bl L (L k)=bl L k:=by rw[bl,hL.idem,bl]
 have hg:=nI hL dF
 rw[hn,hL.idem]at hg
 have hl:bl L k<(leads k L).length:=(List.getElem?_eq_some_iff.1 hg).1
 have hz:(leads k L).zipIdx[bl L k]? =some (L k,bl L k):=by simp[List.getElem?_zipIdx,hg]
 refine⟨vm.2 _ _ hz fun x y hx hy=>?_,by unfold jW qv;rw[List.getElem?_map,hz];rfl,hl⟩
 intro he
 rw[List.getElem?_zipIdx]at hy
 have HK:x<(leads k L).length:=ab
 rw[List.getElem?_eq_getElem HK]at hy
 simp at hy
 rw[<-hy]at he
 simp at he
 have e2:(leads k L)[bl L k]=L k:=(List.getElem?_eq_some_iff.1 hg).2
 have:=vw HK hl (he.trans e2.symm)
 omega
def iW (k:Nat) (L:Nat->Nat):List (List Nat):=(leads k L).map (members k L)
theorem oG (k:Nat) (L:Nat->Nat):(iW k L).length=(leads k L).length:=by simp[iW]
theorem Ao {k:Nat} {L:Nat->Nat} (hL:iQ L) (h:L k=k):iW (k+1) L=iW k L++[[k]]:=by
 unfold iW
 rw[fQ,if_pos h,List.map_append,List.map_cons,List.map_nil,iC,if_pos h,lK hL (Nat.le_refl k),List.nil_append]
 congr 1
 refine List.map_congr_left fun r hr=>?_
 have:=(vz.1 hr).1
 rw[iC,if_neg ab,List.append_nil]
theorem Ap {k:Nat} {L:Nat->Nat} (hL:iQ L) (h:L k≠k):(iW k L)[bl L k]? =some (members k L (L k))/\iW (k+1) L=(iW k L).set (bl L k) (members k L (L k)++[k]):=by
 obtain⟨_,_,hl⟩:=vq hL h
 have dF:L k<k:=Nat.lt_of_le_of_ne (hL.le k) h
 have hg:=nI hL dF
 have hn:bl L (L k)=bl L k:=by rw[bl,hL.idem,bl]
 rw[hn,hL.idem]at hg
 refine⟨by unfold iW;rw[List.getElem?_map,hg];rfl,?_⟩
 unfold iW
 rw[fQ,if_neg h,List.append_nil]
 refine List.ext_getElem? fun i=>?_
 rw[List.getElem?_set,List.getElem?_map,List.length_map]
 by_cases hi:bl L k=i
 ·subst hi
  rw[if_pos rfl,if_pos hl,hg,Option.map_some,iC,if_pos rfl]
 ·rw[if_neg hi,List.getElem?_map]
  rcases hr:(leads k L)[i]? with _|r
  ·rfl
  ·rw[Option.map_some,Option.map_some,iC,if_neg,List.append_nil]
   rintro rfl
   obtain⟨oj,he⟩:=List.getElem?_eq_some_iff.1 hr
   have e2:(leads k L)[bl L k]=L k:=(List.getElem?_eq_some_iff.1 hg).2
   exact hi (vw hl oj (e2.trans he.symm))
theorem y8 (k:Nat) (L:Nat->Nat) (r:Nat):(members k L r).length<=k:=by
 have:=List.length_filter_le (fun x=>L x==r) (List.range k)
 simpa[members]using this
def Ht (g:Rows) (o:Id) (L:List (List Nat)) (nx:Nat):Prop:=∃rows ids,g o=some ⟨true,1,rows⟩/\cD Mn g rows L ids/\ids.Nodup/\(∀i∈ids,i.site=168026008/\i.bV<nx)/\o.site=168025002/\o.bV<nx
theorem Ic {g':Rows} {v v' uz j:Nat} (h1:g' ⟨168025002,v⟩=some ⟨true,1,[[.own ⟨168026008,v'⟩ 0 1]]⟩) (h2:g' ⟨168026008,v'⟩=some ⟨true,1,[eN j]⟩) (hv:v<uz) (mA:v'<uz):Ht g' ⟨168025002,v⟩ [[j]] uz:=
 ⟨_,[⟨168026008,v'⟩],h1,.one ⟨_,rfl,h2,rfl⟩,by simp,fun i hi=>by rw[List.mem_singleton.1 hi];exact⟨rfl,mA⟩,rfl,hv⟩
theorem Ht.new {g:Rows} {o:Id} {L:List (List Nat)} {nx:Nat} (h:Ht g o L nx) (j:Nat):∃rows,g o=some ⟨true,1,rows⟩/\rows.length=L.length/\∀(g':Rows) (v v' uz:Nat),nx<=v'->v<uz->v'<uz->g' ⟨168025002,v⟩=some ⟨true,1,rows++[[.own ⟨168026008,v'⟩ 0 1]]⟩->g' ⟨168026008,v'⟩=some ⟨true,1,[eN j]⟩->(∀i:Id,i.site=168026008->i.bV<nx->g' i=g i)->Ht g' ⟨168025002,v⟩ (L++[[j]]) uz:=by
 obtain⟨rows,ids,h1,h2,h3,h4,h5,h6⟩:=h
 refine⟨rows,h1,h2.len,fun g' v v' uz hv vd Lt q1 q2 q3=>⟨_,ids++[⟨168026008,v'⟩],q1,(h2.frame Lz fun i hi=>q3 i (h4 i hi).1 (h4 i hi).2).app (.one ⟨_,rfl,q2,rfl⟩),?_,fun i hi=>?_,rfl,vd⟩⟩
 ·refine List.nodup_append.2 ⟨h3,by simp,fun a ha b hb rh=>?_⟩
  rw[List.mem_singleton.1 hb]at rh
  have:=(h4 a ha).2
  rw[rh]at this
  simp only at this
  omega
 ·rcases List.mem_append.1 hi with hi|hi
  ·have:=h4 i hi;exact⟨this.1,ab⟩
  ·rw[List.mem_singleton.1 hi];exact⟨rfl,Lt⟩
theorem Ht.add {g:Rows} {o:Id} {L:List (List Nat)} {nx k:Nat} {La:List Nat} (h:Ht g o L nx) (hk:L[k]? =some La) (j:Nat):∃rows id,g o=some ⟨true,1,rows⟩/\rows.length=L.length/\rows[k]? =some [.own id 0 La.length]/\g id=some ⟨true,1,La.map eN⟩/\id.site=168026008/\id.bV<nx/\∀(g':Rows) (v' uz:Nat),nx<=v'->v'<uz->g' o=some ⟨true,1,rows.set k [.own ⟨168026008,v'⟩ 0 (La.length+1)]⟩->g' ⟨168026008,v'⟩=some ⟨true,1,La.map eN++[[.int .i64 (j:Int)]]⟩->(∀i:Id,i.site=168026008->i.bV<nx->(i=id)=False->g' i=g i)->Ht g' o (L.set k (La++[j])) uz:=by
 obtain⟨rows,ids,h1,h2,h3,h4,h5,h6⟩:=h
 have ki:k<L.length:=(List.getElem?_eq_some_iff.1 hk).1
 have OW:=jP hk ki
 obtain⟨cs,ic,dh,Mu,EM,sW⟩:=h2.Ox Lz h3 k ki
 rw[OW]at Mu
 obtain⟨id,rfl,q1,rfl⟩:=Mu
 have hid:=h4 id (EM id (by simp))
 refine⟨rows,id,h1,h2.len,dh,q1,hid.1,hid.2,fun g' v' uz hv vd r1 r2 r3=>?_⟩
 obtain⟨AQ,s1,s2,s3⟩:=sW g' [.own ⟨168026008,v'⟩ 0 (La.length+1)] (La++[j]) [⟨168026008,v'⟩] ⟨_,by simp,by rw[r2];simp[eN],rfl⟩ (fun i hi MC=>r3 i (h4 i hi).1 (h4 i hi).2 (by
  simp only[eq_iff_iff,iff_false];rintro rfl;exact MC (by simp))) (by simp) fun i hi hc=>by
   rw[List.mem_singleton.1 hi]at hc
   have:=(h4 _ hc).2
   simp only at this
   omega
 refine⟨_,AQ,r1,s1,s2,fun i hi=>?_,h5,ab⟩
 rcases s3 i hi with h|h
 ·rw[List.mem_singleton.1 h];exact⟨rfl,vd⟩
 ·have:=h4 i h;exact⟨this.1,ab⟩
def kT (G:Nat->Id) (n k:Nat):List (List AV):=(List.range n).map fun i=>[if i<k then .ptr (G i) 0 0 else .gj]
theorem ll (G:Nat->Id) (n k:Nat):(kT G n k).length=n:=by simp[kT]
theorem Er (G:Nat->Id) (n:Nat):List.replicate n [AV.gj]=kT G n 0:=by
 refine List.ext_getElem? fun i=>?_
 by_cases h:i<n
 ·rw[List.getElem?_replicate,if_pos h];simp[kT,h]
 ·rw[List.getElem?_eq_none (by simp;omega),List.getElem?_eq_none (by rw[ll];omega)]
theorem tH {G:Nat->Id} {n i:Nat} (h:i<n):(kT G n n)[i]? =some [.ptr (G i) 0 0]:=by simp[kT,h]
theorem G8 {G:Nat->Id} {n k:Nat} (h:k<n):(kT G n k).set k [.ptr (G k) 0 0]=kT G n (k+1):=by
 refine List.ext_getElem? fun i=>?_
 rw[List.getElem?_set,ll]
 by_cases hi:k=i
 ·subst hi;rw[if_pos rfl,if_pos h];simp[kT,h]
 ·rw[if_neg hi]
  by_cases fy:i<n
  ·simp only[kT,List.getElem?_map,List.getElem?_range fy,Option.map_some]
   by_cases u5:i<k
   ·rw[if_pos u5,if_pos ab]
   ·rw[if_neg u5,if_neg ab]
  ·rw[List.getElem?_eq_none (by rw[ll];omega),List.getElem?_eq_none (by rw[ll];omega)]
end Go.Proofs.YtihgaadadaekmaaGreatDoor.V

namespace Go.Proofs.YtihgaadadaekmaaGreatDoor.V
open Go.RowKit
attribute [local irreducible] dP wpOps gN Call
attribute [local go_sem] aI fI eE fW fV cv upd cq K.av cL AV.cells AV.cell rowOf rowsOf part ld rowAt bK bY dH eh ij bL da eA fZ eX dr eo cY cX dR dS bR bf cQ bQ cT cR ej ep ek cP bU cZ ei bP aM cV cz ig br cI bS aZ dD bp dJ AV.undef bB bH dX ef dO ea cF ez eC cu eu er cU cW List.getD_cons_zero List.getD_cons_succ List.getD_nil List.all_cons List.all_nil Bool.and_true Bool.true_and Bool.and_self Bool.not_true Bool.not_false Option.map_some Option.map_none Option.bind_some Option.bind_none List.length_cons List.length_nil List.take_succ_cons List.take_zero List.take_nil List.drop_succ_cons List.drop_zero List.drop_nil List.head?_cons List.map_cons List.map_nil List.getElem?_cons_zero List.getElem?_cons_succ List.cons_append List.nil_append List.append_nil List.length_map List.set_cons_zero List.set_cons_succ Nat.reduceMul eq_self Int.toNat_natCast Int.natCast_nonneg and_self true_and and_true decide_true decide_false Bool.false_eq_true Nat.zero_add Nat.add_zero List.contains_cons List.contains_nil Bool.or_false Bool.false_or beq_self_eq_true Nat.reduceBEq ne_eq not_true_eq_false not_false_eq_true Id.mk.injEq false_and and_false Nat.reduceLT Int.reduceLE Int.reduceLT Int.reduceToNat Int.reduceNeg Int.reduceAdd Nat.le_refl List.length_append beq_true beq_false Bool.not_eq_eq_eq_not or_false false_or dz ad aj aH bx cl aQ bj aW bh cN bz
theorem fS {o:Id} {a:Nat} (h:o.site=a) {b v:Nat} (rh:(a==b)=false):(o=⟨b,v⟩)=False/\((⟨b,v⟩:Id)=o)=False:=by
 have h1:=xc h (v:=v) rh
 refine⟨h1,?_⟩
 simp only[eq_iff_iff,iff_false]at h1 ⊢
 exact fun h=>h1 h.symm
theorem sP (cnt:Nat) (uq:1<=cnt) (hn:cnt<=1048576) (bs:List PB) (hb:∀b∈bs,b.a<cnt/\b.b<cnt) (oY:bs.length<=1048576):ai Tryz.prog 168 [.int .i64 cnt,.sl (bs.map au)] (.sl ((eP cnt (dI bs)).map xw)):=by
 intro n0
 refine EZ Ky rfl fun hl=>?_
 try simp only[q]
 clear hl
 have iS:(0:Int)<=(cnt:Int):=ab
 have oi:(cnt:Int)<=((16777216:Nat):Int):=ab
 obtain⟨G,hG⟩:∃G:Nat->Id,G=fun k=>⟨168005004,n0+3+4*k+2⟩:=⟨_,rfl⟩
 have OV:∀k,(G k).site=168005004:=fun k=>by rw[hG]
 have P5:∀k,(G k).bV=n0+3+4*k+2:=fun k=>by rw[hG]
 have P3:∀i j,i≠j->(G i=G j)=False:=fun i j h=>by
  simp only[eq_iff_iff,iff_false]
  intro he
  have h1:=P5 i
  rw[he,P5 j]at h1
  omega
 have Ig:∀i s v,(168005004==s)=false->(G i=⟨s,v⟩)=False:=fun i s v h=>xc (OV i) h
 have hz:=Er G cnt
 (try((repeat(revert hN;revert N;apply Pn.out));refine wk (tw @iS (tw @oi (tw @Int.le_refl @hz))) ?_;(repeat(refine Pn.mk ?_;intro N hN))))
 refine aL (fun n env st=>∃k:Nat,n=(cnt)-k/\k<=(cnt)/\env 21=.int .i64 (k:Int)/\st.get ⟨168001001,n0+1⟩=some ⟨true,1,kT G cnt k⟩/\(st.next=n0+3+4*k/\∀j:Nat,j<k->st.get (G j)=some ⟨true,2,[[.gj,.int .i64 (j:Int)]]⟩)) (cnt) ⟨0,ab,ab,sl @hz,sl @hz,⟨rfl,fun j hj=>ab⟩⟩ ?_
 rintro n_a env_a st_a ⟨k,rfl,ale,a21,ag0,lx⟩ dC
 have a0:=dC 0 (by kernel_rfl);have a1:=dC 1 (by kernel_rfl);have a5:=dC 5 (by kernel_rfl);have Ko:=dC 19 (by kernel_rfl);have Kp:=dC 20 (by kernel_rfl)
 simp only[go_sem, ↓reduceIte,Nat.reduceEqDiff,Nat.reduceAdd,Nat.reduceSub,Nat.reduceLeDiff,reduceCtorEq,hz]at a0 a1 a5 Ko Kp
 clear dC
 obtain⟨lx,kj⟩:=lx
 by_cases hk:(k:Int)<(cnt:Int)
 ·have bZ:∀{e:Env} {gg:Rows} {nx:Nat},(e 21=.int .i64 (IntKind.i64.wrap ((k:Int)+1)))->(gg ⟨168001001,n0+1⟩=some ⟨true,1,kT G cnt (k+1)⟩)->(nx=n0+3+4*(k+1)/\∀j:Nat,j<(k+1)->gg (G j)=some ⟨true,2,[[.gj,.int .i64 (j:Int)]]⟩)->∃m0,m0<(cnt)-k/\∃k:Nat,m0=(cnt)-k/\k<=(cnt)/\e 21=.int .i64 (k:Int)/\gg ⟨168001001,n0+1⟩=some ⟨true,1,kT G cnt k⟩/\(nx=n0+3+4*k/\∀j:Nat,j<k->gg (G j)=some ⟨true,2,[[.gj,.int .i64 (j:Int)]]⟩):=fun x1 x2 x3=>⟨_,ab,k+1,rfl,ab,(by rw[x1,ax ab]),x2,x3⟩
  have eY:k<cnt:=ab
  have tl:=ll G cnt k
  have dK:=G8 (G:=G) eY
  have eB:(kT G cnt k)[k]? =some [.gj]:=by simp[kT,eY]
  have OT:(⟨168005004,st_a.next+1+1⟩:Id)=G k:=by rw[hG,lx]
  have hGf:∀j,j<k->(G j=G k)=False:=fun j hj=>P3 j k ab
  have wG:∀j,(G j=(⟨168001001,n0+1⟩:Id))=False:=fun j=>Ig j _ _ (by decide)
  have Au:∀j,((⟨168001001,n0+1⟩:Id)=G j)=False:=fun j=>by
   have:=wG j
   simp only[eq_iff_iff,iff_false]at this ⊢
   exact fun h=>this h.symm
  (try((repeat(revert hN;revert N;apply Pn.out));refine wk (tw @a21 (tw @ag0 (tw @a0 (tw @a1 (tw @a5 (tw @Ko (tw @Kp (tw @hk (tw @tl (tw @OT (tw @wG (tw @Au (tw @dK @eB))))))))))))) ?_;(repeat(refine Pn.mk ?_;intro N hN))))
  refine bZ ?_ ?_ (by
   refine⟨by(try dsimp only)<;>omega,fun j hj=>?_⟩
   by_cases u6:j=k
   ·subst u6;simp only[go_sem, ↓reduceIte,Nat.reduceEqDiff,Nat.reduceAdd,Nat.reduceSub,Nat.reduceLeDiff,reduceCtorEq,OT,wG,Au]
   ·have hold:=kj j ab
    have gF:=hGf j ab
    simp only[go_sem, ↓reduceIte,Nat.reduceEqDiff,Nat.reduceAdd,Nat.reduceSub,Nat.reduceLeDiff,reduceCtorEq,OT,wG,Au,gF,hold])
  all_goals simp only[go_sem, ↓reduceIte,Nat.reduceEqDiff,Nat.reduceAdd,Nat.reduceSub,Nat.reduceLeDiff,reduceCtorEq,a21,ag0,a0,a1,a5,Ko,Kp,OT,wG,Au,dK]
 have ki:cnt=k:=ab
 subst ki
 (try((repeat(revert hN;revert N;apply Pn.out));refine wk (tw @a21 (tw @ag0 (tw @a0 (tw @a1 (tw @a5 (tw @Ko (tw @Kp @hk))))))) ?_;(repeat(refine Pn.mk ?_;intro N hN))))
 refine aL (fun n env st=>∃i:Nat,n=(bs.length)-i/\i<=(bs.length)/\env 33=.int .i64 (i:Int)/\st.get ⟨168001001,n0+1⟩=some ⟨true,1,kT G cnt cnt⟩/\(n0+3+4*cnt<=st.next)/\(∃px,l6 cnt px (dI (bs.take i))/\rK st.get G cnt px)) (bs.length) ⟨0,ab,ab,sl (tw @a21 (tw @ag0 (tw @a0 (tw @a1 (tw @a5 (tw @Ko @Kp)))))),sl (tw @a21 (tw @ag0 (tw @a0 (tw @a1 (tw @a5 (tw @Ko @Kp)))))),bt,⟨fun _=>none,l6.start cnt,kj⟩⟩ ?_
 rintro n_b env_b st_b ⟨i,rfl,ble,mC,bg0,bI0,bI1⟩ bfr
 have b0:=bfr 0 (by kernel_rfl);have b1:=bfr 1 (by kernel_rfl);have b5:=bfr 5 (by kernel_rfl);have uJ:=bfr 31 (by kernel_rfl);have uK:=bfr 32 (by kernel_rfl)
 simp only[go_sem, ↓reduceIte,Nat.reduceEqDiff,Nat.reduceAdd,Nat.reduceSub,Nat.reduceLeDiff,reduceCtorEq,a21,ag0,a0,a1,a5,Ko,Kp]at b0 b1 b5 uJ uK
 clear bfr
 obtain⟨px,HH,OU⟩:=bI1
 have tl:=ll G cnt cnt
 have Nr:∀j v,(G j=(⟨168009002,v⟩:Id))=False:=fun j v=>Ig j _ v (by decide)
 have wG:∀j v,(G j=(⟨168001001,v⟩:Id))=False:=fun j v=>Ig j _ v (by decide)
 have Au:∀j v,((⟨168001001,v⟩:Id)=G j)=False:=fun j v=>by
  have:=wG j v
  simp only[eq_iff_iff,iff_false]at this ⊢
  exact fun h=>this h.symm
 have hGn:∀j,j<cnt->(G j).bV<st_b.next:=fun j hj=>by rw[P5];omega
 by_cases hi:(i:Int)<(bs.length:Int)
 ·have iF:∀{e:Env} {gg:Rows} {nx:Nat},(e 33=.int .i64 (IntKind.i64.wrap ((i:Int)+1)))->(gg ⟨168001001,n0+1⟩=some ⟨true,1,kT G cnt cnt⟩)->(n0+3+4*cnt<=nx)->(∃px,l6 cnt px (dI (bs.take (i+1)))/\rK gg G cnt px)->∃m0,m0<(bs.length)-i/\∃i:Nat,m0=(bs.length)-i/\i<=(bs.length)/\e 33=.int .i64 (i:Int)/\gg ⟨168001001,n0+1⟩=some ⟨true,1,kT G cnt cnt⟩/\(n0+3+4*cnt<=nx)/\(∃px,l6 cnt px (dI (bs.take i))/\rK gg G cnt px):=fun x1 x2 x3 x4=>⟨_,ab,i+1,rfl,ab,(by rw[x1,ax ab]),x2,x3,x4⟩
  have fy:i<bs.length:=ab
  have nH:(bs.map au)[i]? =some (au bs[i]):=by simp[fy]
  have Dl:=hb _ (List.getElem_mem fy)
  have oJ:bs.take (i+1)=bs.take i++[bs[i]]:=List.take_succ_eq_append_getElem fy
  have kE:dI (bs.take (i+1))=dW (dI (bs.take i)) bs[i]:=by rw[oJ,s7]
  have hL:=rq (bs.take i)
  generalize dI (bs.take i)=L at *
  generalize bs[i]=b at *
  have gA:=tH (G:=G) Dl.1
  have gB:=tH (G:=G) Dl.2
  have fK:(b.a:Int)<(cnt:Int):=ab
  have fc:(b.b:Int)<(cnt:Int):=ab
  (try((repeat(revert hN;revert N;apply Pn.out));refine wk (tw @mC (tw @bg0 (tw @b0 (tw @b1 (tw @b5 (tw @uJ (tw @uK (tw @hi (tw @nH (tw @au.eq_1 (tw @gA (tw @gB (tw @fK (tw @fc @tl)))))))))))))) ?_;(repeat(refine Pn.mk ?_;intro N hN))))
  refine Hm (fun e s=>e 0=.int .i64 cnt/\e 1=.sl (bs.map au)/\e 5=.own ⟨168001001,n0+1⟩ 0 cnt/\e 31=.sl (bs.map au)/\e 32=.int .i64 bs.length/\e 33=.int .i64 i/\e 9=.ptr (G (L b.a)) 0 0/\e 10=.ptr (G (L b.b)) 0 0/\(∀j:Id,j.bV<st_b.next->s.get j=st_b.get j)/\st_b.next<=s.next) ?_ ?_
  ·rintro e1 s1 ⟨m0,m1,m5,m31,m32,m33,m9,m10,mf,mn⟩
   refine hN _ _ ?_
   clear hN N
   have mG:rK s1.get G cnt px:=OU.frame fun k hk=>mf _ (hGn k hk)
   have mt:=(mf ⟨168001001,n0+1⟩ bt).trans bg0
   have Qx:L b.a<cnt:=Nat.lt_of_le_of_lt (hL.le _) Dl.1
   have NT:L b.b<cnt:=Nat.lt_of_le_of_lt (hL.le _) Dl.2
   have ra:=mG _ Qx
   have rb:=mG _ NT
   rw[kC (HH.root hL Qx (hL.idem _))]at ra
   rw[kC (HH.root hL NT (hL.idem _))]at rb
   have put:∀(g':Rows) (lo hi:Nat),hi<cnt->g' (G hi)=some ⟨true,2,[[.ptr (G lo) 0 0,.int .i64 (hi:Int)]]⟩->(∀k,k≠hi->k<cnt->g' (G k)=s1.get (G k))->rK g' G cnt (fun k=>if k=hi then some lo else px k):=fun g' lo hi _ h1 h2 k hk=>by
    by_cases HD:k=hi
    ·subst HD;rw[h1,rf (j:=lo) (if_pos rfl)]
    ·rw[h2 k HD hk,mG k hk]
     unfold qo
     simp only[if_neg HD]
   rcases Nat.lt_trichotomy (L b.a) (L b.b)with dF|heq|dF
   ·have Ld:(L b.a:Int)<(L b.b:Int):=ab
    have hj:=HH.join hL b ab
    rw[Nat.max_eq_right ab,Nat.min_eq_left ab,<-kE]at hj
    (try((repeat(revert hN;revert N;apply Pn.out));refine wk (tw @m0 (tw @m1 (tw @m5 (tw @m31 (tw @m32 (tw @m33 (tw @m9 (tw @m10 (tw @ra (tw @rb @Ld)))))))))) ?_;(repeat(refine Pn.mk ?_;intro N hN))))
    refine iF ?_ ?_ bt (⟨_,hj,put _ _ _ NT (sd @Nat.zero_add) (fun k hk _=>by
     have gF:=P3 k _ hk
     simp only[go_sem, ↓reduceIte,Nat.reduceEqDiff,Nat.reduceAdd,Nat.reduceSub,Nat.reduceLeDiff,reduceCtorEq,gF])⟩)
    all_goals simp only[go_sem, ↓reduceIte,Nat.reduceEqDiff,Nat.reduceAdd,Nat.reduceSub,Nat.reduceLeDiff,reduceCtorEq,m0,m1,m5,m31,m32,m33,mt,wG,Au]
   ·have uq:¬(L b.a:Int)<(L b.b:Int):=ab
    have NX:¬(L b.b:Int)<(L b.a:Int):=ab
    have ID:=wP heq
    rw[ID]at kE
    (try((repeat(revert hN;revert N;apply Pn.out));refine wk (tw @m0 (tw @m1 (tw @m5 (tw @m31 (tw @m32 (tw @m33 (tw @m9 (tw @m10 (tw @ra (tw @rb (tw @uq @NX))))))))))) ?_;(repeat(refine Pn.mk ?_;intro N hN))))
    refine iF ?_ ?_ bt (⟨_,kE▸HH,mG.frame fun k hk=>rfl⟩)
    all_goals simp only[go_sem, ↓reduceIte,Nat.reduceEqDiff,Nat.reduceAdd,Nat.reduceSub,Nat.reduceLeDiff,reduceCtorEq,m0,m1,m5,m31,m32,m33,mt]
   ·have Ld:(L b.b:Int)<(L b.a:Int):=ab
    have uq:¬(L b.a:Int)<(L b.b:Int):=ab
    have hj:=HH.join hL b ab
    rw[Nat.max_eq_left ab,Nat.min_eq_right ab,<-kE]at hj
    (try((repeat(revert hN;revert N;apply Pn.out));refine wk (tw @m0 (tw @m1 (tw @m5 (tw @m31 (tw @m32 (tw @m33 (tw @m9 (tw @m10 (tw @ra (tw @rb (tw @Ld @uq))))))))))) ?_;(repeat(refine Pn.mk ?_;intro N hN))))
    refine iF ?_ ?_ bt (⟨_,hj,put _ _ _ Qx (sd @Nat.zero_add) (fun k hk _=>by
     have gF:=P3 k _ hk
     simp only[go_sem, ↓reduceIte,Nat.reduceEqDiff,Nat.reduceAdd,Nat.reduceSub,Nat.reduceLeDiff,reduceCtorEq,gF])⟩)
    all_goals simp only[go_sem, ↓reduceIte,Nat.reduceEqDiff,Nat.reduceAdd,Nat.reduceSub,Nat.reduceLeDiff,reduceCtorEq,m0,m1,m5,m31,m32,m33,mt,wG,Au]
  ·intro N hN
   refine eH ?_ ?_<;>(try((repeat(revert hN;revert N;apply Pn.out));refine wk (tw @mC (tw @bg0 (tw @b0 (tw @b1 (tw @b5 (tw @uJ (tw @uK (tw @hi (tw @nH (tw @au.eq_1 (tw @gA (tw @gB (tw @fK (tw @fc @tl)))))))))))))) ?_;(repeat(refine Pn.mk ?_;intro N hN))))<;>(try refine eH ?_ ?_)<;>(try((repeat(revert hN;revert N;apply Pn.out));refine wk (tw @mC (tw @bg0 (tw @b0 (tw @b1 (tw @b5 (tw @uJ (tw @uK (tw @hi (tw @nH (tw @au.eq_1 (tw @gA (tw @gB (tw @fK (tw @fc @tl)))))))))))))) ?_;(repeat(refine Pn.mk ?_;intro N hN))))<;>(try refine eH ?_ ?_)<;>(try((repeat(revert hN;revert N;apply Pn.out));refine wk (tw @mC (tw @bg0 (tw @b0 (tw @b1 (tw @b5 (tw @uJ (tw @uK (tw @hi (tw @nH (tw @au.eq_1 (tw @gA (tw @gB (tw @fK (tw @fc @tl)))))))))))))) ?_;(repeat(refine Pn.mk ?_;intro N hN))))
   all_goals
    refine .inr (aO _ _ _ _ _ (fun r σ1 hq=>?_) (wo G cnt px L HH b.a Dl.1 _ (OU.frame fun k hk=>sd @Nr)))
    obtain⟨g1,x1⟩:=σ1
    obtain⟨rfl,xD,It⟩:=hq
    (try dsimp only at xD It)
    subst xD
    refine hN _ _ ?_
    clear hN N
    (try((repeat(revert hN;revert N;apply Pn.out));refine wk (tw @mC (tw @bg0 (tw @b0 (tw @b1 (tw @b5 (tw @uJ (tw @uK (tw @hi (tw @nH (tw @au.eq_1 (tw @gA (tw @gB (tw @fK (tw @fc @tl)))))))))))))) ?_;(repeat(refine Pn.mk ?_;intro N hN))))
    refine .inr (aO _ _ _ _ _ (fun r σ1 hq=>?_) (wo G cnt px L HH b.b Dl.2 _ (OU.frame fun k hk=>sd @Nr)))
    obtain⟨g1,x2⟩:=σ1
    obtain⟨rfl,xD,lJ⟩:=hq
    (try dsimp only at xD lJ)
    subst xD
    refine hN _ _ ?_
    clear hN N
    (try((repeat(revert hN;revert N;apply Pn.out));refine wk (tw @mC (tw @bg0 (tw @b0 (tw @b1 (tw @b5 (tw @uJ (tw @uK (tw @hi (tw @nH (tw @au.eq_1 (tw @gA (tw @gB (tw @fK (tw @fc @tl)))))))))))))) ?_;(repeat(refine Pn.mk ?_;intro N hN))))
    exact⟨sd (tw @mC (tw @bg0 (tw @b0 (tw @b1 (tw @b5 (tw @uJ @uK)))))),sd (tw @mC (tw @bg0 (tw @b0 (tw @b1 (tw @b5 (tw @uJ @uK)))))),sd (tw @mC (tw @bg0 (tw @b0 (tw @b1 (tw @b5 (tw @uJ @uK)))))),sd (tw @mC (tw @bg0 (tw @b0 (tw @b1 (tw @b5 (tw @uJ @uK)))))),sd (tw @mC (tw @bg0 (tw @b0 (tw @b1 (tw @b5 (tw @uJ @uK)))))),sd (tw @mC (tw @bg0 (tw @b0 (tw @b1 (tw @b5 (tw @uJ @uK)))))),sd (tw @mC (tw @bg0 (tw @b0 (tw @b1 (tw @b5 (tw @uJ @uK)))))),sd (tw @mC (tw @bg0 (tw @b0 (tw @b1 (tw @b5 (tw @uJ @uK)))))),fun j hj=>by
     have hv:=eD hj
     simp only[go_sem, ↓reduceIte,Nat.reduceEqDiff,Nat.reduceAdd,Nat.reduceSub,Nat.reduceLeDiff,reduceCtorEq,hv],bt⟩
 have oj:i=bs.length:=ab
 subst oj
 rw[List.take_length]at HH
 have hL:=rq bs
 generalize dI bs=L at *
 (try((repeat(revert hN;revert N;apply Pn.out));refine wk (tw @mC (tw @bg0 (tw @b0 (tw @b1 (tw @b5 (tw @uJ (tw @uK (tw @hi @tl)))))))) ?_;(repeat(refine Pn.mk ?_;intro N hN))))
 have l0:jW 0 L=[]:=rfl
 have oS:(none:Option Nat).isSome=false:=rfl
 have oT:∀a:Nat,(some a).isSome=true:=fun _=>rfl
 refine aL (fun n env st=>∃x:Nat,n=(cnt)-x/\x<=(cnt)/\env 81=.int .i64 (x:Int)/\st.get ⟨168001001,n0+1⟩=some ⟨true,1,kT G cnt cnt⟩/\st.get ⟨168017000,st_b.next+1+1⟩=some ⟨true,mI.Bp,jW x L⟩/\(st_b.next+3<=st.next/\rK st.get G cnt px)/\((x=0/\env 11=.bC)∨∃o:Id,env 11=.own o 0 (leads x L).length/\Ht st.get o (iW x L) st.next)) (cnt) ⟨0,ab,ab,sl (tw @mC (tw @bg0 (tw @b0 (tw @b1 (tw @b5 (tw @uJ (tw @uK @l0))))))),sl (tw @mC (tw @bg0 (tw @b0 (tw @b1 (tw @b5 (tw @uJ (tw @uK @l0))))))),sl (tw @mC (tw @bg0 (tw @b0 (tw @b1 (tw @b5 (tw @uJ (tw @uK @l0))))))),⟨bt,OU.frame fun k hk=>by(have gF:=Ig k 168017000 (st_b.next+1+1) (by decide));simp only[go_sem, ↓reduceIte,Nat.reduceEqDiff,Nat.reduceAdd,Nat.reduceSub,Nat.reduceLeDiff,reduceCtorEq,gF]⟩,.inl ⟨rfl,sd @Nat.zero_add⟩⟩ ?_
 rintro n_c env_c st_c ⟨x,rfl,cle,c81,cg0,cg1,cI0,cI1⟩ cfr
 have v7:=cfr 12 (by kernel_rfl);have HX:=cfr 79 (by kernel_rfl);have HY:=cfr 80 (by kernel_rfl)
 simp only[go_sem, ↓reduceIte,Nat.reduceEqDiff,Nat.reduceAdd,Nat.reduceSub,Nat.reduceLeDiff,reduceCtorEq,mC,bg0,b0,b1,b5,uJ,uK,l0]at v7 HX HY
 clear cfr
 obtain⟨sa,M7⟩:=cI0
 have KX:∀j v,(G j=(⟨168017000,v⟩:Id))=False:=fun j v=>Ig j _ v (by decide)
 have KT:∀j v,(G j=(⟨168025002,v⟩:Id))=False:=fun j v=>Ig j _ v (by decide)
 have KV:∀j v,(G j=(⟨168025001,v⟩:Id))=False:=fun j v=>Ig j _ v (by decide)
 have KW:∀j v,(G j=(⟨168026007,v⟩:Id))=False:=fun j v=>Ig j _ v (by decide)
 have KU:∀j v,(G j=(⟨168026008,v⟩:Id))=False:=fun j v=>Ig j _ v (by decide)
 by_cases hx:(x:Int)<(cnt:Int)
 ·have gp:∀{e:Env} {gg:Rows} {nx:Nat},(e 81=.int .i64 (IntKind.i64.wrap ((x:Int)+1)))->(gg ⟨168001001,n0+1⟩=some ⟨true,1,kT G cnt cnt⟩)->(gg ⟨168017000,st_b.next+1+1⟩=some ⟨true,mI.Bp,jW (x+1) L⟩)->(st_b.next+3<=nx/\rK gg G cnt px)->(((x+1)=0/\e 11=.bC)∨∃o:Id,e 11=.own o 0 (leads (x+1) L).length/\Ht gg o (iW (x+1) L) nx)->∃m0,m0<(cnt)-x/\∃x:Nat,m0=(cnt)-x/\x<=(cnt)/\e 81=.int .i64 (x:Int)/\gg ⟨168001001,n0+1⟩=some ⟨true,1,kT G cnt cnt⟩/\gg ⟨168017000,st_b.next+1+1⟩=some ⟨true,mI.Bp,jW x L⟩/\(st_b.next+3<=nx/\rK gg G cnt px)/\((x=0/\e 11=.bC)∨∃o:Id,e 11=.own o 0 (leads x L).length/\Ht gg o (iW x L) nx):=fun x1 x2 x3 x4 x5=>⟨_,ab,x+1,rfl,ab,(by rw[x1,ax ab]),x2,x3,x4,x5⟩
  have MN:x<cnt:=ab
  have gX:=tH (G:=G) MN
  have hlx:L x<cnt:=Nat.lt_of_le_of_lt (hL.le _) MN
  have ra:=M7 _ hlx
  rw[kC (HH.root hL hlx (hL.idem _))]at ra
  have kD:=iX x L
  (try((repeat(revert hN;revert N;apply Pn.out));refine wk (tw @c81 (tw @cg0 (tw @cg1 (tw @v7 (tw @HX (tw @HY (tw @hx (tw @gX @tl)))))))) ?_;(repeat(refine Pn.mk ?_;intro N hN))))
  refine .inr (aO _ _ _ _ _ (fun r σ1 hq=>?_) (wo G cnt px L HH x MN _ (M7.frame fun k hk=>sd @Nat.zero_add)))
  obtain⟨g1,x1⟩:=σ1
  obtain⟨rfl,xD,It⟩:=hq
  (try dsimp only at xD It)
  subst xD
  refine hN _ _ ?_
  clear hN N
  by_cases hr:L x=x
  ·rw[hr]at ra ⊢
   have mv:=DP hr
   have Pf:(leads (x+1) L).length=(leads x L).length+1:=by rw[fQ,if_pos hr];simp
   have MI:=A5 hr
   have O9:=Ao hL hr
   rcases cI1 with⟨rfl,mj⟩|⟨o,mj,cS⟩
   ·have QP:jW 1 L=[[.int .i64 ((0:Nat):Int),.int .i64 ((0:Nat):Int)]]:=MI
    (try((repeat(revert hN;revert N;apply Pn.out));refine wk (tw @c81 (tw @cg0 (tw @cg1 (tw @v7 (tw @HX (tw @HY (tw @mj (tw @ra (tw @mv (tw @l0 (tw @oS (tw @oT (tw @Bool.not_false @Bool.not_true))))))))))))) ?_;(repeat(refine Pn.mk ?_;intro N hN))))
    refine gp ?_ ?_ ?_ (by(try dsimp only);exact⟨ab,M7.frame fun k hk=>sd (tw @KX (tw @KT (tw @KU (tw @KV @KW))))⟩) (.inr ⟨⟨168025002,x1+1+1+1+1⟩,by simp only[go_sem, ↓reduceIte,Nat.reduceEqDiff,Nat.reduceAdd,Nat.reduceSub,Nat.reduceLeDiff,reduceCtorEq,Pf];rfl,by rw[O9];exact Ic (v':=x1+1+1+1+1+1) (sd @Nat.zero_add) (sd @eN.eq_1) bt bt⟩)
    all_goals simp only[go_sem, ↓reduceIte,Nat.reduceEqDiff,Nat.reduceAdd,Nat.reduceSub,Nat.reduceLeDiff,reduceCtorEq,c81,cg0,cg1,v7,HX,HY,QP]
   ·obtain⟨rows,uj,mz,jS⟩:=cS.new x
    rw[oG]at mz
    have zG:o.site=168025002:=by obtain⟨_,_,_,_,_,_,h,_⟩:=cS;exact h
    have rS:o.bV<x1:=by obtain⟨_,_,_,_,_,_,_,h⟩:=cS;omega
    have jT:=eD rS
    have N2:=fS (o:=o) zG (b:=168017000) (v:=st_b.next+1+1) (by decide)
    have MD:=fS (o:=o) zG (b:=168001001) (v:=n0+1) (by decide)
    have KY:∀k,(G k=o)=False:=fun k=>by simp only[eq_iff_iff,iff_false];intro h;have h1:=OV k;rw[h,zG]at h1;cases h1
    have oZ:(rows++[[AV.bC]])[(leads x L).length]? =some [.bC]:=by rw[<-mz];simp
    have tW:∀a:List AV,(rows++[[AV.bC]]).set (leads x L).length a=rows++[a]:=fun a=>by rw[<-mz];simp
    have e1:(leads x L).length+1<=16777216:=ab
    have e2:((leads x L).length:Int)<(((leads x L).length+1:Nat):Int):=ab
    (try((repeat(revert hN;revert N;apply Pn.out));refine wk (tw @c81 (tw @cg0 (tw @cg1 (tw @v7 (tw @HX (tw @HY (tw @mj (tw @ra (tw @mv (tw @uj (tw @mz (tw @jT (tw @N2 (tw @oZ (tw @tW (tw @e1 (tw @e2 (tw @oS (tw @oT (tw @Bool.not_false @Bool.not_true)))))))))))))))))))) ?_;(repeat(refine Pn.mk ?_;intro N hN))))
    refine gp ?_ ?_ ?_ (by(try dsimp only);exact⟨ab,M7.frame fun k hk=>sd (tw @KX (tw @KT (tw @KU (tw @KV (tw @KW @KY)))))⟩) (.inr ⟨⟨168025002,x1+1+1+1+1⟩,sd @Pf,by rw[O9];exact jS _ _ (x1+1+1+1+1+1) _ ab bt bt (sd @tW) (sd @eN.eq_1) (fun j hj hv=>by
     have q1:=eD (i:=j) (n:=x1) ab
     have q2:=fS hj (b:=168017000) (v:=st_b.next+1+1) (by decide)
     have q3:(j=o)=False:=by simp only[eq_iff_iff,iff_false];intro h;rw[h,zG]at hj;cases hj
     simp only[go_sem, ↓reduceIte,Nat.reduceEqDiff,Nat.reduceAdd,Nat.reduceSub,Nat.reduceLeDiff,reduceCtorEq,q1,q2,q3])⟩)
    all_goals simp only[go_sem, ↓reduceIte,Nat.reduceEqDiff,Nat.reduceAdd,Nat.reduceSub,Nat.reduceLeDiff,reduceCtorEq,c81,cg0,cg1,v7,HX,HY,MI,jT,N2,MD]
  ·obtain⟨mv,Dt,dF⟩:=vq hL hr
   obtain⟨NN,O9⟩:=Ap hL hr
   have Pf:(leads (x+1) L).length=(leads x L).length:=by rw[fQ,if_neg hr];simp
   have ID:=A4 hr
   rcases cI1 with⟨rfl,mj⟩|⟨o,mj,cS⟩
   ·exact absurd (Nat.le_zero.1 (hL.le 0)) hr
   ·obtain⟨rows,id,uj,mz,hrk,hid,FV,hidv,Qe⟩:=cS.add NN x
    rw[oG]at mz
    have zG:o.site=168025002:=by obtain⟨_,_,_,_,_,_,h,_⟩:=cS;exact h
    have rS:o.bV<x1:=by obtain⟨_,_,_,_,_,_,_,h⟩:=cS;omega
    have jT:=eD rS
    have vd:=eD (i:=id) (n:=x1) ab
    have nH:(bl L x:Int)<((leads x L).length:Int):=ab
    have NW:=y8 x L (L x)
    have hma:((members x L (L x)).map eN).length=(members x L (L x)).length:=by simp
    have e1:(members x L (L x)).length+1<=16777216:=ab
    have JX:(o=id)=False:=by simp only[eq_iff_iff,iff_false];rintro rfl;rw[FV]at zG;cases zG
    have JS:(id=o)=False:=by simp only[eq_iff_iff,iff_false];rintro rfl;rw[FV]at zG;cases zG
    have N2:=fS (o:=o) zG (b:=168017000) (v:=st_b.next+1+1) (by decide)
    have MD:=fS (o:=o) zG (b:=168001001) (v:=n0+1) (by decide)
    have hiM:=fS (o:=id) FV (b:=168017000) (v:=st_b.next+1+1) (by decide)
    have hiT:=fS (o:=id) FV (b:=168001001) (v:=n0+1) (by decide)
    have KY:∀k,(G k=o)=False:=fun k=>by simp only[eq_iff_iff,iff_false];intro h;have h1:=OV k;rw[h,zG]at h1;cases h1
    have P4:∀k,(G k=id)=False:=fun k=>by simp only[eq_iff_iff,iff_false];intro h;have h1:=OV k;rw[h,FV]at h1;cases h1
    (try((repeat(revert hN;revert N;apply Pn.out));refine wk (tw @c81 (tw @cg0 (tw @cg1 (tw @v7 (tw @HX (tw @HY (tw @mj (tw @ra (tw @mv (tw @Dt (tw @uj (tw @mz (tw @hrk (tw @hid (tw @jT (tw @vd (tw @nH (tw @hma (tw @e1 (tw @JX (tw @JS (tw @N2 (tw @MD (tw @hiM (tw @hiT (tw @oS (tw @oT (tw @Bool.not_false @Bool.not_true)))))))))))))))))))))))))))) ?_;(repeat(refine Pn.mk ?_;intro N hN))))
    refine gp ?_ ?_ ?_ (by(try dsimp only);exact⟨ab,M7.frame fun k hk=>sd (tw @KX (tw @KT (tw @KU (tw @KV (tw @KW (tw @KY @P4))))))⟩) (.inr ⟨o,sd (tw @Pf @mj),by rw[O9];exact Qe _ (x1+1+1) _ ab bt (sd @Nat.zero_add) (sd (tw @jT (tw @vd (tw @JX @JS)))) (fun j hj hv lq=>by
     have q1:=eD (i:=j) (n:=x1) ab
     have q2:=fS hj (b:=168017000) (v:=st_b.next+1+1) (by decide)
     have q3:(j=o)=False:=by simp only[eq_iff_iff,iff_false];intro h;rw[h,zG]at hj;cases hj
     simp only[go_sem, ↓reduceIte,Nat.reduceEqDiff,Nat.reduceAdd,Nat.reduceSub,Nat.reduceLeDiff,reduceCtorEq,q1,q2,q3,lq])⟩)
    all_goals simp only[go_sem, ↓reduceIte,Nat.reduceEqDiff,Nat.reduceAdd,Nat.reduceSub,Nat.reduceLeDiff,reduceCtorEq,c81,cg0,cg1,v7,HX,HY,ID,jT,vd,N2,MD,hiM,hiT]
 have QX:x=cnt:=ab
 rcases cI1 with⟨h0,_⟩|⟨o,mj,rows,ids,uj,hR,_,_,_,_⟩
 ·omega
 have mz:=hR.len
 rw[oG]at mz
 (try((repeat(revert hN;revert N;apply Pn.out));refine wk (tw @c81 (tw @cg0 (tw @cg1 (tw @v7 (tw @HX (tw @HY (tw @hx (tw @mj @uj)))))))) ?_;(repeat(refine Pn.mk ?_;intro N hN))))
 refine tv (.inl rfl) (by simp only[go_sem, ↓reduceIte,Nat.reduceEqDiff,Nat.reduceAdd,Nat.reduceSub,Nat.reduceLeDiff,reduceCtorEq];rfl) ?_
 rw[pk uj ab (rows':=(eP cnt L).map xw) (by
  rw[List.drop_zero,List.take_of_length_le ab]
  rw[QX]at hR;exact Gq 3 hR)]
end Go.Proofs.YtihgaadadaekmaaGreatDoor.V
