/- Groups by pointers: the walk. -/
import Derived.Test.YtgoljkjaameagaaGreatRxD
import Derived.Test.YtgoljkjaameagaaGreatRxB
import Derived.Test.YtgoljkjaameagaaGreatRxC
import Derived.RangeFuncNested
import Derived.RangeFuncBound
import Derived.RangeFuncCalls
import Derived.RangeFuncLeaves
import Derived.Shelf.Abstract
import Derived.Shelf.RegionOpen
import Derived.WalkKit
import Derived.OwnWalkIn
import Derived.TacticsInMore
import Derived.LoopNIn
import Derived.LoopIn
import Derived.BigQuiet
import Derived.RangeFuncBox
import Derived.RangeFuncWrites
import Derived.Maps.AppendAt
import Derived.OrdersIn
set_option linter.unusedVariables false
set_option linter.unusedSimpArgs false
set_option maxRecDepth 100000
set_option maxHeartbeats 16000000
namespace Go.Proofs.YtgoljkjaameagaaGreat.V
open Go.RowKit
attribute [local irreducible] dL wpOps fu Call
attribute [local go_sem] az eQ ec eY eW cJ upd bJ K.av b4 AV.cells AV.cell rowOf rowsOf part ld rowAt bH bG cX dr fR bo cE dD e6 eF cQ dx cC cz db dc br aJ ck bq cq cm dv dy dw cj bx cD dt bp aA cu bQ fQ bd bY bt aH cW aX cY AV.undef bj bl de dn da dj bV dC dE bK dB dz cr cw List.getD_cons_zero List.getD_cons_succ List.getD_nil List.all_cons List.all_nil Bool.and_true Bool.true_and Bool.and_self Bool.not_true Bool.not_false Option.map_some Option.map_none Option.bind_some Option.bind_none List.length_cons List.length_nil List.take_succ_cons List.take_zero List.take_nil List.drop_succ_cons List.drop_zero List.drop_nil List.head?_cons List.map_cons List.map_nil List.getElem?_cons_zero List.getElem?_cons_succ List.cons_append List.nil_append List.append_nil List.length_map List.set_cons_zero List.set_cons_succ eq_self Int.toNat_natCast Int.natCast_nonneg and_self true_and and_true decide_true decide_false Bool.false_eq_true Nat.zero_add Nat.add_zero List.contains_cons List.contains_nil Bool.or_false Bool.false_or beq_self_eq_true ne_eq not_true_eq_false not_false_eq_true Id.mk.injEq false_and and_false Nat.le_refl List.length_append beq_true beq_false Bool.not_eq_eq_eq_not or_false false_or dd ae ai ay bh bD aG aM aD aL bZ bm
abbrev mI:MK:=⟨false,[.tI]⟩
def rN (l:List (Nat×Nat)):List (List AV):=l.map fun p=>[.int .i64 (p.1:Int),.int .i64 (p.2:Int)]
theorem AA (r:Nat):∀(l:List (Nat×Nat)) (i:Nat),((∀p∈l,p.1≠r)->ib mI [.int .i64 (r:Int)] (rN l) i=some none)/\(∀j v,l[j]? =some (r,v)->(∀x y,x<j->l[x]? =some y->y.1≠r)->ib mI [.int .i64 (r:Int)] (rN l) i=some (some (i+j)))
 |[],i=>⟨fun _=>rfl,fun j v h=>by simp at h⟩
 |p::l,i=>by
  obtain⟨h1,h2⟩:=AA r l (i+1)
  by_cases h:p.1=r
  ·refine⟨fun hp=>absurd h (hp p (by simp)),fun j v hj hf=>?_⟩
   have hj0:j=0:=by
    rcases Nat.eq_zero_or_pos j with h0|h0
    ·exact h0
    ·exact absurd h (hf 0 p h0 (by simp))
   subst hj0
   simp[rN,ib,eF,e6,MK.ks,h]
  ·have hd:¬((r:Int)=(p.1:Int)):=by omega
   have sY:¬r=p.1:=fun he=>h he.symm
   have step:ib mI [.int .i64 (r:Int)] (rN (p::l)) i=ib mI [.int .i64 (r:Int)] (rN l) (i+1):=by
    unfold rN
    simp[ib,MK.ks,eF,e6,hd,sY,h]
   rw[step]
   refine⟨fun hp=>h1 fun q hq=>hp q (by simp[hq]),fun j v hj hf=>?_⟩
   cases j with
   |zero=>simp at hj;rw[hj]at h;exact absurd rfl h
   |succ j=>
    rw[h2 j v (by simpa using hj) fun x y hx hy=>hf (x+1) y (by omega) (by simpa using hy)]
    congr 2;omega
theorem xi {r:Nat} {l:List (Nat×Nat)}:((∀p∈l,p.1≠r)->gS mI (.int .i64 (r:Int)) (rN l)=some none)/\(∀j v,l[j]? =some (r,v)->(∀x y,x<j->l[x]? =some y->y.1≠r)->gS mI (.int .i64 (r:Int)) (rN l)=some (some j)):=by
 have e:gS mI (.int .i64 (r:Int)) (rN l)=ib mI [.int .i64 (r:Int)] (rN l) 0:=by
  unfold gS
  rw[if_pos ⟨rfl,rfl,rfl⟩];rfl
 obtain⟨h1,h2⟩:=AA r l 0
 rw[e]
 exact⟨h1,fun j v hj hf=>by rw[h2 j v hj hf,Nat.zero_add]⟩
def km (k:Nat) (L:Nat->Nat):List (List AV):=rN (leads k L).zipIdx
theorem CW {k:Nat} {L:Nat->Nat} (h:L k=k):km (k+1) L=km k L++[[.int .i64 (k:Int),.int .i64 ((leads k L).length:Int)]]:=by
 unfold km
 rw[gy,if_pos h,List.zipIdx_append]
 simp[rN]
theorem CV {k:Nat} {L:Nat->Nat} (h:L k≠k):km (k+1) L=km k L:=by
 unfold km
 rw[gy,if_neg h,List.append_nil]
theorem FN {k:Nat} {L:Nat->Nat} (h:L k=k):gS mI (.int .i64 (k:Int)) (km k L)=some none:=by
 refine xi.1 fun p hp=>?_
 have:=List.fst_mem_of_mem_zipIdx hp
 have:=(xp.1 this).1
 omega
theorem xo {n:Nat} {L:Nat->Nat} {x y:Nat} (hx:x<(leads n L).length) (hy:y<(leads n L).length) (h:(leads n L)[x]=(leads n L)[y]):x=y:=by
 have hp:=List.pairwise_iff_getElem.1 (sG n L)
 rcases Nat.lt_trichotomy x y with dV|he|dV
 ·exact absurd h (hp x y hx hy dV)
 ·exact he
 ·exact absurd h.symm (hp y x hy hx dV)
theorem xn {k:Nat} {L:Nat->Nat} (hL:jn L) (h:L k≠k):gS mI (.int .i64 (L k:Int)) (km k L)=some (some (bR L k))/\(km k L)[bR L k]? =some [.int .i64 (L k:Int),.int .i64 (bR L k:Int)]/\bR L k<(leads k L).length:=by
 have dV:L k<k:=Nat.lt_of_le_of_ne (hL.le k) h
 have hn:bR L (L k)=bR L k:=by rw[bR,hL.idem,bR]
 have hg:=oB hL dV
 rw[hn,hL.idem]at hg
 have hl:bR L k<(leads k L).length:=(List.getElem?_eq_some_iff.1 hg).1
 have hz:(leads k L).zipIdx[bR L k]? =some (L k,bR L k):=by simp[List.getElem?_zipIdx,hg]
 refine⟨xi.2 _ _ hz fun x y hx hy=>?_,by unfold km rN;rw[List.getElem?_map,hz];rfl,hl⟩
 intro he
 rw[List.getElem?_zipIdx]at hy
 have O0:x<(leads k L).length:=by omega
 rw[List.getElem?_eq_getElem O0]at hy
 simp at hy
 rw[<-hy]at he
 simp at he
 have e2:(leads k L)[bR L k]=L k:=(List.getElem?_eq_some_iff.1 hg).2
 have:=xo O0 hl (he.trans e2.symm)
 omega
def jt (k:Nat) (L:Nat->Nat):List (List Nat):=(leads k L).map (members k L)
theorem pC (k:Nat) (L:Nat->Nat):(jt k L).length=(leads k L).length:=by simp[jt]
theorem Cr {k:Nat} {L:Nat->Nat} (hL:jn L) (h:L k=k):jt (k+1) L=jt k L++[[k]]:=by
 unfold jt
 rw[gy,if_pos h,List.map_append,List.map_cons,List.map_nil,ja,if_pos h,mi hL (Nat.le_refl k),List.nil_append]
 congr 1
 refine List.map_congr_left fun r hr=>?_
 have:=(xp.1 hr).1
 rw[ja,if_neg (by omega),List.append_nil]
theorem Ct {k:Nat} {L:Nat->Nat} (hL:jn L) (h:L k≠k):(jt k L)[bR L k]? =some (members k L (L k))/\jt (k+1) L=(jt k L).set (bR L k) (members k L (L k)++[k]):=by
 obtain⟨_,_,hl⟩:=xn hL h
 have dV:L k<k:=Nat.lt_of_le_of_ne (hL.le k) h
 have hg:=oB hL dV
 have hn:bR L (L k)=bR L k:=by rw[bR,hL.idem,bR]
 rw[hn,hL.idem]at hg
 refine⟨by unfold jt;rw[List.getElem?_map,hg];rfl,?_⟩
 unfold jt
 rw[gy,if_neg h,List.append_nil]
 refine List.ext_getElem? fun i=>?_
 rw[List.getElem?_set,List.getElem?_map,List.length_map]
 by_cases hi:bR L k=i
 ·subst hi
  rw[if_pos rfl,if_pos hl,hg,Option.map_some,ja,if_pos rfl]
 ·rw[if_neg hi,List.getElem?_map]
  rcases hr:(leads k L)[i]? with _|r
  ·rfl
  ·rw[Option.map_some,Option.map_some,ja,if_neg,List.append_nil]
   rintro rfl
   obtain⟨o7,he⟩:=List.getElem?_eq_some_iff.1 hr
   have e2:(leads k L)[bR L k]=L k:=(List.getElem?_eq_some_iff.1 hg).2
   exact hi (xo hl o7 (e2.trans he.symm))
theorem AR (k:Nat) (L:Nat->Nat) (r:Nat):(members k L r).length<=k:=by
 have:=List.length_filter_le (fun x=>L x==r) (List.range k)
 simpa[members]using this
def Jb (g:Rows) (o:Id) (L:List (List Nat)) (nx:Nat):Prop:=∃rows ids,g o=some ⟨true,1,rows⟩/\ev Oz g rows L ids/\ids.Nodup/\(∀i∈ids,i.site=320026008/\i.bW<nx)/\o.site=320025002/\o.bW<nx
theorem JY {g':Rows} {v v' wj j:Nat} (h1:g' ⟨320025002,v⟩=some ⟨true,1,[[.own ⟨320026008,v'⟩ 0 1]]⟩) (h2:g' ⟨320026008,v'⟩=some ⟨true,1,[eN j]⟩) (hv:v<wj) (nf:v'<wj):Jb g' ⟨320025002,v⟩ [[j]] wj:=
 ⟨_,[⟨320026008,v'⟩],h1,.one ⟨_,rfl,h2,rfl⟩,by simp,fun i hi=>by rw[List.mem_singleton.1 hi];exact⟨rfl,nf⟩,rfl,hv⟩
theorem Jb.new {g:Rows} {o:Id} {L:List (List Nat)} {nx:Nat} (h:Jb g o L nx) (j:Nat):∃rows,g o=some ⟨true,1,rows⟩/\rows.length=L.length/\∀(g':Rows) (v v' wj:Nat),nx<=v'->v<wj->v'<wj->g' ⟨320025002,v⟩=some ⟨true,1,rows++[[.own ⟨320026008,v'⟩ 0 1]]⟩->g' ⟨320026008,v'⟩=some ⟨true,1,[eN j]⟩->(∀i:Id,i.site=320026008->i.bW<nx->g' i=g i)->Jb g' ⟨320025002,v⟩ (L++[[j]]) wj:=by
 obtain⟨rows,ids,h1,h2,h3,h4,h5,h6⟩:=h
 refine⟨rows,h1,h2.len,fun g' v v' wj hv xe NC q1 q2 q3=>⟨_,ids++[⟨320026008,v'⟩],q1,(h2.frame NM fun i hi=>q3 i (h4 i hi).1 (h4 i hi).2).app (.one ⟨_,rfl,q2,rfl⟩),?_,fun i hi=>?_,rfl,xe⟩⟩
 ·refine List.nodup_append.2 ⟨h3,by simp,fun a ha b hb qk=>?_⟩
  rw[List.mem_singleton.1 hb]at qk
  have:=(h4 a ha).2
  rw[qk]at this
  simp only at this
  omega
 ·rcases List.mem_append.1 hi with hi|hi
  ·have:=h4 i hi;exact⟨this.1,by omega⟩
  ·rw[List.mem_singleton.1 hi];exact⟨rfl,NC⟩
theorem Jb.add {g:Rows} {o:Id} {L:List (List Nat)} {nx k:Nat} {La:List Nat} (h:Jb g o L nx) (hk:L[k]? =some La) (j:Nat):∃rows id,g o=some ⟨true,1,rows⟩/\rows.length=L.length/\rows[k]? =some [.own id 0 La.length]/\g id=some ⟨true,1,La.map eN⟩/\id.site=320026008/\id.bW<nx/\∀(g':Rows) (v' wj:Nat),nx<=v'->v'<wj->g' o=some ⟨true,1,rows.set k [.own ⟨320026008,v'⟩ 0 (La.length+1)]⟩->g' ⟨320026008,v'⟩=some ⟨true,1,La.map eN++[[.int .i64 (j:Int)]]⟩->(∀i:Id,i.site=320026008->i.bW<nx->(i=id)=False->g' i=g i)->Jb g' o (L.set k (La++[j])) wj:=by
 obtain⟨rows,ids,h1,h2,h3,h4,h5,h6⟩:=h
 have kJ:k<L.length:=(List.getElem?_eq_some_iff.1 hk).1
 have SF:=ke hk kJ
 obtain⟨cs,ic,di,OJ,P6,uv⟩:=h2.QO NM h3 k kJ
 rw[SF]at OJ
 obtain⟨id,rfl,q1,rfl⟩:=OJ
 have hid:=h4 id (P6 id (by simp))
 refine⟨rows,id,h1,h2.len,di,q1,hid.1,hid.2,fun g' v' wj hv xe r1 r2 r3=>?_⟩
 obtain⟨CK,s1,s2,s3⟩:=uv g' [.own ⟨320026008,v'⟩ 0 (La.length+1)] (La++[j]) [⟨320026008,v'⟩] ⟨_,by simp,by rw[r2];simp[eN],rfl⟩ (fun i hi RK=>r3 i (h4 i hi).1 (h4 i hi).2 (by
  simp only[eq_iff_iff,iff_false];rintro rfl;exact RK (by simp))) (by simp) fun i hi hc=>by
   rw[List.mem_singleton.1 hi]at hc
   have:=(h4 _ hc).2
   simp only at this
   omega
 refine⟨_,CK,r1,s1,s2,fun i hi=>?_,h5,by omega⟩
 rcases s3 i hi with h|h
 ·rw[List.mem_singleton.1 h];exact⟨rfl,xe⟩
 ·have:=h4 i h;exact⟨this.1,by omega⟩
def lr (G:Nat->Id) (n k:Nat):List (List AV):=(List.range n).map fun i=>[if i<k then .ptr (G i) 0 0 else .gI]
theorem lU (G:Nat->Id) (n k:Nat):(lr G n k).length=n:=by simp[lr]
theorem Gg (G:Nat->Id) (n:Nat):List.replicate n [AV.gI]=lr G n 0:=by
 refine List.ext_getElem? fun i=>?_
 by_cases h:i<n
 ·rw[List.getElem?_replicate,if_pos h];simp[lr,h]
 ·rw[List.getElem?_eq_none (by simp;omega),List.getElem?_eq_none (by rw[lU];omega)]
theorem vk {G:Nat->Id} {n i:Nat} (h:i<n):(lr G n n)[i]? =some [.ptr (G i) 0 0]:=by simp[lr,h]
theorem IS {G:Nat->Id} {n k:Nat} (h:k<n):(lr G n k).set k [.ptr (G k) 0 0]=lr G n (k+1):=by
 refine List.ext_getElem? fun i=>?_
 rw[List.getElem?_set,lU]
 by_cases hi:k=i
 ·subst hi;rw[if_pos rfl,if_pos h];simp[lr,h]
 ·rw[if_neg hi]
  by_cases fJ:i<n
  ·simp only[lr,List.getElem?_map,List.getElem?_range fJ,Option.map_some]
   by_cases w8:i<k
   ·rw[if_pos w8,if_pos (by omega)]
   ·rw[if_neg w8,if_neg (by omega)]
  ·rw[List.getElem?_eq_none (by rw[lU];omega),List.getElem?_eq_none (by rw[lU];omega)]
end Go.Proofs.YtgoljkjaameagaaGreat.V

namespace Go.Proofs.YtgoljkjaameagaaGreat.V
open Go.RowKit
attribute [local irreducible] dL wpOps fu Call
attribute [local go_sem] az eQ ec eY eW cJ upd bJ K.av b4 AV.cells AV.cell rowOf rowsOf part ld rowAt bH bG cX dr fR bo cE dD e6 eF cQ dx cC cz db dc br aJ ck bq cq cm dv dy dw cj bx cD dt bp aA cu bQ fQ bd bY bt aH cW aX cY AV.undef bj bl de dn da dj bV dC dE bK dB dz cr cw List.getD_cons_zero List.getD_cons_succ List.getD_nil List.all_cons List.all_nil Bool.and_true Bool.true_and Bool.and_self Bool.not_true Bool.not_false Option.map_some Option.map_none Option.bind_some Option.bind_none List.length_cons List.length_nil List.take_succ_cons List.take_zero List.take_nil List.drop_succ_cons List.drop_zero List.drop_nil List.head?_cons List.map_cons List.map_nil List.getElem?_cons_zero List.getElem?_cons_succ List.cons_append List.nil_append List.append_nil List.length_map List.set_cons_zero List.set_cons_succ Nat.reduceMul eq_self Int.toNat_natCast Int.natCast_nonneg and_self true_and and_true decide_true decide_false Bool.false_eq_true Nat.zero_add Nat.add_zero List.contains_cons List.contains_nil Bool.or_false Bool.false_or beq_self_eq_true Nat.reduceBEq ne_eq not_true_eq_false not_false_eq_true Id.mk.injEq false_and and_false Nat.reduceLT Int.reduceLE Int.reduceLT Int.reduceToNat Int.reduceNeg Int.reduceAdd Nat.le_refl List.length_append beq_true beq_false Bool.not_eq_eq_eq_not or_false false_or dd ae ai ay bh bD aG aM aD aL bZ bm
theorem eV {o:Id} {a:Nat} (h:o.site=a) {b v:Nat} (qk:(a==b)=false):(o=⟨b,v⟩)=False/\((⟨b,v⟩:Id)=o)=False:=by
 have h1:=za h (v:=v) qk
 refine⟨h1,?_⟩
 simp only[eq_iff_iff,iff_false]at h1 ⊢
 exact fun h=>h1 h.symm
theorem um (cnt:Nat) (rK:1<=cnt) (hn:cnt<=1048576) (bs:List PB) (hb:∀b∈bs,b.a<cnt/\b.b<cnt) (nk:bs.length<=1048576):ak Tryz.prog 320 [.int .i64 cnt,.sl (bs.map aw)] (.sl ((fh cnt (ei bs)).map zr)):=by
 intro n0
 refine tK Mt rfl fun hl=>?_
 try simp only[q]
 clear hl
 have jr:(0:Int)<=(cnt:Int):=by omega
 have o6:(cnt:Int)<=((16777216:Nat):Int):=by omega
 obtain⟨G,hG⟩:∃G:Nat->Id,G=fun k=>⟨320005004,n0+3+4*k+2⟩:=⟨_,rfl⟩
 have Rl:∀k,(G k).site=320005004:=fun k=>by rw[hG]
 have SC:∀k,(G k).bW=n0+3+4*k+2:=fun k=>by rw[hG]
 have Sz:∀i j,i≠j->(G i=G j)=False:=fun i j h=>by
  simp only[eq_iff_iff,iff_false]
  intro he
  have h1:=SC i
  rw[he,SC j]at h1
  omega
 have JZ:∀i s v,(320005004==s)=false->(G i=⟨s,v⟩)=False:=fun i s v h=>za (Rl i) h
 have hz:=Gg G cnt
 (try((repeat(revert hN;revert N;apply Pn.out));refine wk (tw @jr (tw @o6 (tw @Int.le_refl @hz))) ?_;(repeat(refine Pn.mk ?_;intro N hN))))
 refine aY (fun n env st=>∃k:Nat,n=(cnt)-k/\k<=(cnt)/\env 21=.int .i64 (k:Int)/\st.get ⟨320001001,n0+1⟩=some ⟨true,1,lr G cnt k⟩/\(st.next=n0+3+4*k/\∀j:Nat,j<k->st.get (G j)=some ⟨true,2,[[.gI,.int .i64 (j:Int)]]⟩)) (cnt) ⟨0,by omega,by omega,sl @hz,sl @hz,⟨rfl,fun j hj=>by omega⟩⟩ ?_
 rintro n_a env_a st_a ⟨k,rfl,ale,a21,ag0,mJ⟩ dU
 have a0:=dU 0 (by kernel_rfl);have a1:=dU 1 (by kernel_rfl);have a5:=dU 5 (by kernel_rfl);have Mi:=dU 19 (by kernel_rfl);have a20:=dU 20 (by kernel_rfl)
 simp only[go_sem, ↓reduceIte,Nat.reduceEqDiff,Nat.reduceAdd,Nat.reduceSub,Nat.reduceLeDiff,reduceCtorEq,hz]at a0 a1 a5 Mi a20
 clear dU
 obtain⟨mJ,lv⟩:=mJ
 by_cases hk:(k:Int)<(cnt:Int)
 ·have cK:∀{e:Env} {gg:Rows} {nx:Nat},(e 21=.int .i64 (IntKind.i64.wrap ((k:Int)+1)))->(gg ⟨320001001,n0+1⟩=some ⟨true,1,lr G cnt (k+1)⟩)->(nx=n0+3+4*(k+1)/\∀j:Nat,j<(k+1)->gg (G j)=some ⟨true,2,[[.gI,.int .i64 (j:Int)]]⟩)->∃m0,m0<(cnt)-k/\∃k:Nat,m0=(cnt)-k/\k<=(cnt)/\e 21=.int .i64 (k:Int)/\gg ⟨320001001,n0+1⟩=some ⟨true,1,lr G cnt k⟩/\(nx=n0+3+4*k/\∀j:Nat,j<k->gg (G j)=some ⟨true,2,[[.gI,.int .i64 (j:Int)]]⟩):=fun x1 x2 x3=>⟨_,by omega,k+1,rfl,by omega,(by rw[x1,ax (by omega)]),x2,x3⟩
  have eU:k<cnt:=by omega
  have tl:=lU G cnt k
  have eo:=IS (G:=G) eU
  have ea:(lr G cnt k)[k]? =some [.gI]:=by simp[lr,eU]
  have Rj:(⟨320005004,st_a.next+1+1⟩:Id)=G k:=by rw[hG,mJ]
  have hGf:∀j,j<k->(G j=G k)=False:=fun j hj=>Sz j k (by omega)
  have yl:∀j,(G j=(⟨320001001,n0+1⟩:Id))=False:=fun j=>JZ j _ _ (by decide)
  have Cw:∀j,((⟨320001001,n0+1⟩:Id)=G j)=False:=fun j=>by
   have:=yl j
   simp only[eq_iff_iff,iff_false]at this ⊢
   exact fun h=>this h.symm
  (try((repeat(revert hN;revert N;apply Pn.out));refine wk (tw @a21 (tw @ag0 (tw @a0 (tw @a1 (tw @a5 (tw @Mi (tw @a20 (tw @hk (tw @tl (tw @Rj (tw @yl (tw @Cw (tw @eo @ea))))))))))))) ?_;(repeat(refine Pn.mk ?_;intro N hN))))
  refine cK ?_ ?_ (by
   refine⟨by(try dsimp only)<;>omega,fun j hj=>?_⟩
   by_cases w9:j=k
   ·subst w9;simp only[go_sem, ↓reduceIte,Nat.reduceEqDiff,Nat.reduceAdd,Nat.reduceSub,Nat.reduceLeDiff,reduceCtorEq,Rj,yl,Cw]
   ·have hold:=lv j (by omega)
    have gF:=hGf j (by omega)
    simp only[go_sem, ↓reduceIte,Nat.reduceEqDiff,Nat.reduceAdd,Nat.reduceSub,Nat.reduceLeDiff,reduceCtorEq,Rj,yl,Cw,gF,hold])
  all_goals simp only[go_sem, ↓reduceIte,Nat.reduceEqDiff,Nat.reduceAdd,Nat.reduceSub,Nat.reduceLeDiff,reduceCtorEq,a21,ag0,a0,a1,a5,Mi,a20,Rj,yl,Cw,eo]
 have kJ:cnt=k:=by omega
 subst kJ
 (try((repeat(revert hN;revert N;apply Pn.out));refine wk (tw @a21 (tw @ag0 (tw @a0 (tw @a1 (tw @a5 (tw @Mi (tw @a20 @hk))))))) ?_;(repeat(refine Pn.mk ?_;intro N hN))))
 refine aY (fun n env st=>∃i:Nat,n=(bs.length)-i/\i<=(bs.length)/\env 33=.int .i64 (i:Int)/\st.get ⟨320001001,n0+1⟩=some ⟨true,1,lr G cnt cnt⟩/\(n0+3+4*cnt<=st.next)/\(∃px,mE cnt px (ei (bs.take i))/\sO st.get G cnt px)) (bs.length) ⟨0,by omega,by omega,sl (tw @a21 (tw @ag0 (tw @a0 (tw @a1 (tw @a5 (tw @Mi @a20)))))),sl (tw @a21 (tw @ag0 (tw @a0 (tw @a1 (tw @a5 (tw @Mi @a20)))))),(by(try dsimp only);omega),⟨fun _=>none,mE.start cnt,lv⟩⟩ ?_
 rintro n_b env_b st_b ⟨i,rfl,ble,b33,bg0,bI0,bI1⟩ bfr
 have b0:=bfr 0 (by kernel_rfl);have b1:=bfr 1 (by kernel_rfl);have b5:=bfr 5 (by kernel_rfl);have wI:=bfr 31 (by kernel_rfl);have wJ:=bfr 32 (by kernel_rfl)
 simp only[go_sem, ↓reduceIte,Nat.reduceEqDiff,Nat.reduceAdd,Nat.reduceSub,Nat.reduceLeDiff,reduceCtorEq,a21,ag0,a0,a1,a5,Mi,a20]at b0 b1 b5 wI wJ
 clear bfr
 obtain⟨px,Jm,Rk⟩:=bI1
 have tl:=lU G cnt cnt
 have PG:∀j v,(G j=(⟨320009002,v⟩:Id))=False:=fun j v=>JZ j _ v (by decide)
 have yl:∀j v,(G j=(⟨320001001,v⟩:Id))=False:=fun j v=>JZ j _ v (by decide)
 have Cw:∀j v,((⟨320001001,v⟩:Id)=G j)=False:=fun j v=>by
  have:=yl j v
  simp only[eq_iff_iff,iff_false]at this ⊢
  exact fun h=>this h.symm
 have hGn:∀j,j<cnt->(G j).bW<st_b.next:=fun j hj=>by rw[SC];omega
 by_cases hi:(i:Int)<(bs.length:Int)
 ·have gK:∀{e:Env} {gg:Rows} {nx:Nat},(e 33=.int .i64 (IntKind.i64.wrap ((i:Int)+1)))->(gg ⟨320001001,n0+1⟩=some ⟨true,1,lr G cnt cnt⟩)->(n0+3+4*cnt<=nx)->(∃px,mE cnt px (ei (bs.take (i+1)))/\sO gg G cnt px)->∃m0,m0<(bs.length)-i/\∃i:Nat,m0=(bs.length)-i/\i<=(bs.length)/\e 33=.int .i64 (i:Int)/\gg ⟨320001001,n0+1⟩=some ⟨true,1,lr G cnt cnt⟩/\(n0+3+4*cnt<=nx)/\(∃px,mE cnt px (ei (bs.take i))/\sO gg G cnt px):=fun x1 x2 x3 x4=>⟨_,by omega,i+1,rfl,by omega,(by rw[x1,ax (by omega)]),x2,x3,x4⟩
  have fJ:i<bs.length:=by omega
  have mW:(bs.map aw)[i]? =some (aw bs[i]):=by simp[fJ]
  have Fh:=hb _ (List.getElem_mem fJ)
  have nq:bs.take (i+1)=bs.take i++[bs[i]]:=List.take_succ_eq_append_getElem fJ
  have kY:ei (bs.take (i+1))=eB (ei (bs.take i)) bs[i]:=by rw[nq,uE]
  have hL:=sF (bs.take i)
  generalize ei (bs.take i)=L at *
  generalize bs[i]=b at *
  have gA:=vk (G:=G) Fh.1
  have gB:=vk (G:=G) Fh.2
  have gq:(b.a:Int)<(cnt:Int):=by omega
  have fM:(b.b:Int)<(cnt:Int):=by omega
  (try((repeat(revert hN;revert N;apply Pn.out));refine wk (tw @b33 (tw @bg0 (tw @b0 (tw @b1 (tw @b5 (tw @wI (tw @wJ (tw @hi (tw @mW (tw @aw.eq_1 (tw @gA (tw @gB (tw @gq (tw @fM @tl)))))))))))))) ?_;(repeat(refine Pn.mk ?_;intro N hN))))
  refine I5 (fun e s=>e 0=.int .i64 cnt/\e 1=.sl (bs.map aw)/\e 5=.own ⟨320001001,n0+1⟩ 0 cnt/\e 31=.sl (bs.map aw)/\e 32=.int .i64 bs.length/\e 33=.int .i64 i/\e 9=.ptr (G (L b.a)) 0 0/\e 10=.ptr (G (L b.b)) 0 0/\(∀j:Id,j.bW<st_b.next->s.get j=st_b.get j)/\st_b.next<=s.next) ?_ ?_
  ·rintro e1 s1 ⟨m0,m1,m5,m31,m32,m33,m9,m10,mf,mn⟩
   refine hN _ _ ?_
   clear hN N
   have mG:sO s1.get G cnt px:=Rk.frame fun k hk=>mf _ (hGn k hk)
   have mt:=(mf ⟨320001001,n0+1⟩ (by(try dsimp only);omega)).trans bg0
   have Tc:L b.a<cnt:=Nat.lt_of_le_of_lt (hL.le _) Fh.1
   have Qa:L b.b<cnt:=Nat.lt_of_le_of_lt (hL.le _) Fh.2
   have ra:=mG _ Tc
   have rb:=mG _ Qa
   rw[kV (Jm.root hL Tc (hL.idem _))]at ra
   rw[kV (Jm.root hL Qa (hL.idem _))]at rb
   have put:∀(g':Rows) (lo hi:Nat),hi<cnt->g' (G hi)=some ⟨true,2,[[.ptr (G lo) 0 0,.int .i64 (hi:Int)]]⟩->(∀k,k≠hi->k<cnt->g' (G k)=s1.get (G k))->sO g' G cnt (fun k=>if k=hi then some lo else px k):=fun g' lo hi _ h1 h2 k hk=>by
    by_cases Jk:k=hi
    ·subst Jk;rw[h1,su (j:=lo) (if_pos rfl)]
    ·rw[h2 k Jk hk,mG k hk]
     unfold rE
     simp only[if_neg Jk]
   rcases Nat.lt_trichotomy (L b.a) (L b.b)with dV|heq|dV
   ·have Nj:(L b.a:Int)<(L b.b:Int):=by omega
    have hj:=Jm.join hL b (by omega)
    rw[Nat.max_eq_right (by omega),Nat.min_eq_left (by omega),<-kY]at hj
    (try((repeat(revert hN;revert N;apply Pn.out));refine wk (tw @m0 (tw @m1 (tw @m5 (tw @m31 (tw @m32 (tw @m33 (tw @m9 (tw @m10 (tw @ra (tw @rb @Nj)))))))))) ?_;(repeat(refine Pn.mk ?_;intro N hN))))
    refine gK ?_ ?_ (by(try dsimp only);omega) (⟨_,hj,put _ _ _ Qa (sd @Nat.zero_add) (fun k hk _=>by
     have gF:=Sz k _ hk
     simp only[go_sem, ↓reduceIte,Nat.reduceEqDiff,Nat.reduceAdd,Nat.reduceSub,Nat.reduceLeDiff,reduceCtorEq,gF])⟩)
    all_goals simp only[go_sem, ↓reduceIte,Nat.reduceEqDiff,Nat.reduceAdd,Nat.reduceSub,Nat.reduceLeDiff,reduceCtorEq,m0,m1,m5,m31,m32,m33,mt,yl,Cw]
   ·have rK:¬(L b.a:Int)<(L b.b:Int):=by omega
    have HG:¬(L b.b:Int)<(L b.a:Int):=by omega
    have BE:=yK heq
    rw[BE]at kY
    (try((repeat(revert hN;revert N;apply Pn.out));refine wk (tw @m0 (tw @m1 (tw @m5 (tw @m31 (tw @m32 (tw @m33 (tw @m9 (tw @m10 (tw @ra (tw @rb (tw @rK @HG))))))))))) ?_;(repeat(refine Pn.mk ?_;intro N hN))))
    refine gK ?_ ?_ (by(try dsimp only);omega) (⟨_,kY▸Jm,mG.frame fun k hk=>rfl⟩)
    all_goals simp only[go_sem, ↓reduceIte,Nat.reduceEqDiff,Nat.reduceAdd,Nat.reduceSub,Nat.reduceLeDiff,reduceCtorEq,m0,m1,m5,m31,m32,m33,mt]
   ·have Nj:(L b.b:Int)<(L b.a:Int):=by omega
    have rK:¬(L b.a:Int)<(L b.b:Int):=by omega
    have hj:=Jm.join hL b (by omega)
    rw[Nat.max_eq_left (by omega),Nat.min_eq_right (by omega),<-kY]at hj
    (try((repeat(revert hN;revert N;apply Pn.out));refine wk (tw @m0 (tw @m1 (tw @m5 (tw @m31 (tw @m32 (tw @m33 (tw @m9 (tw @m10 (tw @ra (tw @rb (tw @Nj @rK))))))))))) ?_;(repeat(refine Pn.mk ?_;intro N hN))))
    refine gK ?_ ?_ (by(try dsimp only);omega) (⟨_,hj,put _ _ _ Tc (sd @Nat.zero_add) (fun k hk _=>by
     have gF:=Sz k _ hk
     simp only[go_sem, ↓reduceIte,Nat.reduceEqDiff,Nat.reduceAdd,Nat.reduceSub,Nat.reduceLeDiff,reduceCtorEq,gF])⟩)
    all_goals simp only[go_sem, ↓reduceIte,Nat.reduceEqDiff,Nat.reduceAdd,Nat.reduceSub,Nat.reduceLeDiff,reduceCtorEq,m0,m1,m5,m31,m32,m33,mt,yl,Cw]
  ·intro N hN
   refine eK ?_ ?_<;>(try((repeat(revert hN;revert N;apply Pn.out));refine wk (tw @b33 (tw @bg0 (tw @b0 (tw @b1 (tw @b5 (tw @wI (tw @wJ (tw @hi (tw @mW (tw @aw.eq_1 (tw @gA (tw @gB (tw @gq (tw @fM @tl)))))))))))))) ?_;(repeat(refine Pn.mk ?_;intro N hN))))<;>(try refine eK ?_ ?_)<;>(try((repeat(revert hN;revert N;apply Pn.out));refine wk (tw @b33 (tw @bg0 (tw @b0 (tw @b1 (tw @b5 (tw @wI (tw @wJ (tw @hi (tw @mW (tw @aw.eq_1 (tw @gA (tw @gB (tw @gq (tw @fM @tl)))))))))))))) ?_;(repeat(refine Pn.mk ?_;intro N hN))))<;>(try refine eK ?_ ?_)<;>(try((repeat(revert hN;revert N;apply Pn.out));refine wk (tw @b33 (tw @bg0 (tw @b0 (tw @b1 (tw @b5 (tw @wI (tw @wJ (tw @hi (tw @mW (tw @aw.eq_1 (tw @gA (tw @gB (tw @gq (tw @fM @tl)))))))))))))) ?_;(repeat(refine Pn.mk ?_;intro N hN))))
   all_goals
    refine .inr (aE _ _ _ _ _ (fun r σ1 hq=>?_) (yc G cnt px L Jm b.a Fh.1 _ (Rk.frame fun k hk=>sd @PG)))
    obtain⟨g1,x1⟩:=σ1
    obtain⟨rfl,qU,J9⟩:=hq
    (try dsimp only at qU J9)
    subst qU
    refine hN _ _ ?_
    clear hN N
    (try((repeat(revert hN;revert N;apply Pn.out));refine wk (tw @b33 (tw @bg0 (tw @b0 (tw @b1 (tw @b5 (tw @wI (tw @wJ (tw @hi (tw @mW (tw @aw.eq_1 (tw @gA (tw @gB (tw @gq (tw @fM @tl)))))))))))))) ?_;(repeat(refine Pn.mk ?_;intro N hN))))
    refine .inr (aE _ _ _ _ _ (fun r σ1 hq=>?_) (yc G cnt px L Jm b.b Fh.2 _ (Rk.frame fun k hk=>sd @PG)))
    obtain⟨g1,x2⟩:=σ1
    obtain⟨rfl,qU,lf⟩:=hq
    (try dsimp only at qU lf)
    subst qU
    refine hN _ _ ?_
    clear hN N
    (try((repeat(revert hN;revert N;apply Pn.out));refine wk (tw @b33 (tw @bg0 (tw @b0 (tw @b1 (tw @b5 (tw @wI (tw @wJ (tw @hi (tw @mW (tw @aw.eq_1 (tw @gA (tw @gB (tw @gq (tw @fM @tl)))))))))))))) ?_;(repeat(refine Pn.mk ?_;intro N hN))))
    exact⟨sd (tw @b33 (tw @bg0 (tw @b0 (tw @b1 (tw @b5 (tw @wI @wJ)))))),sd (tw @b33 (tw @bg0 (tw @b0 (tw @b1 (tw @b5 (tw @wI @wJ)))))),sd (tw @b33 (tw @bg0 (tw @b0 (tw @b1 (tw @b5 (tw @wI @wJ)))))),sd (tw @b33 (tw @bg0 (tw @b0 (tw @b1 (tw @b5 (tw @wI @wJ)))))),sd (tw @b33 (tw @bg0 (tw @b0 (tw @b1 (tw @b5 (tw @wI @wJ)))))),sd (tw @b33 (tw @bg0 (tw @b0 (tw @b1 (tw @b5 (tw @wI @wJ)))))),sd (tw @b33 (tw @bg0 (tw @b0 (tw @b1 (tw @b5 (tw @wI @wJ)))))),sd (tw @b33 (tw @bg0 (tw @b0 (tw @b1 (tw @b5 (tw @wI @wJ)))))),fun j hj=>by
     have hv:=ef hj
     simp only[go_sem, ↓reduceIte,Nat.reduceEqDiff,Nat.reduceAdd,Nat.reduceSub,Nat.reduceLeDiff,reduceCtorEq,hv],by(try dsimp only);omega⟩
 have o7:i=bs.length:=by omega
 subst o7
 rw[List.take_length]at Jm
 have hL:=sF bs
 generalize ei bs=L at *
 (try((repeat(revert hN;revert N;apply Pn.out));refine wk (tw @b33 (tw @bg0 (tw @b0 (tw @b1 (tw @b5 (tw @wI (tw @wJ (tw @hi @tl)))))))) ?_;(repeat(refine Pn.mk ?_;intro N hN))))
 have l0:km 0 L=[]:=rfl
 have oS:(none:Option Nat).isSome=false:=rfl
 have oT:∀a:Nat,(some a).isSome=true:=fun _=>rfl
 refine aY (fun n env st=>∃x:Nat,n=(cnt)-x/\x<=(cnt)/\env 81=.int .i64 (x:Int)/\st.get ⟨320001001,n0+1⟩=some ⟨true,1,lr G cnt cnt⟩/\st.get ⟨320017000,st_b.next+1+1⟩=some ⟨true,mI.y7,km x L⟩/\(st_b.next+3<=st.next/\sO st.get G cnt px)/\((x=0/\env 11=.bP)∨∃o:Id,env 11=.own o 0 (leads x L).length/\Jb st.get o (jt x L) st.next)) (cnt) ⟨0,by omega,by omega,sl (tw @b33 (tw @bg0 (tw @b0 (tw @b1 (tw @b5 (tw @wI (tw @wJ @l0))))))),sl (tw @b33 (tw @bg0 (tw @b0 (tw @b1 (tw @b5 (tw @wI (tw @wJ @l0))))))),sl (tw @b33 (tw @bg0 (tw @b0 (tw @b1 (tw @b5 (tw @wI (tw @wJ @l0))))))),⟨by(try dsimp only);omega,Rk.frame fun k hk=>by(have gF:=JZ k 320017000 (st_b.next+1+1) (by decide));simp only[go_sem, ↓reduceIte,Nat.reduceEqDiff,Nat.reduceAdd,Nat.reduceSub,Nat.reduceLeDiff,reduceCtorEq,gF]⟩,.inl ⟨rfl,sd @Nat.zero_add⟩⟩ ?_
 rintro n_c env_c st_c ⟨x,rfl,cle,c81,cg0,cg1,cI0,cI1⟩ cfr
 have xS:=cfr 12 (by kernel_rfl);have JJ:=cfr 79 (by kernel_rfl);have JK:=cfr 80 (by kernel_rfl)
 simp only[go_sem, ↓reduceIte,Nat.reduceEqDiff,Nat.reduceAdd,Nat.reduceSub,Nat.reduceLeDiff,reduceCtorEq,b33,bg0,b0,b1,b5,wI,wJ,l0]at xS JJ JK
 clear cfr
 obtain⟨vG,Pe⟩:=cI0
 have MY:∀j v,(G j=(⟨320017000,v⟩:Id))=False:=fun j v=>JZ j _ v (by decide)
 have MT:∀j v,(G j=(⟨320025002,v⟩:Id))=False:=fun j v=>JZ j _ v (by decide)
 have MV:∀j v,(G j=(⟨320025001,v⟩:Id))=False:=fun j v=>JZ j _ v (by decide)
 have MX:∀j v,(G j=(⟨320026007,v⟩:Id))=False:=fun j v=>JZ j _ v (by decide)
 have MU:∀j v,(G j=(⟨320026008,v⟩:Id))=False:=fun j v=>JZ j _ v (by decide)
 by_cases hx:(x:Int)<(cnt:Int)
 ·have gL:∀{e:Env} {gg:Rows} {nx:Nat},(e 81=.int .i64 (IntKind.i64.wrap ((x:Int)+1)))->(gg ⟨320001001,n0+1⟩=some ⟨true,1,lr G cnt cnt⟩)->(gg ⟨320017000,st_b.next+1+1⟩=some ⟨true,mI.y7,km (x+1) L⟩)->(st_b.next+3<=nx/\sO gg G cnt px)->(((x+1)=0/\e 11=.bP)∨∃o:Id,e 11=.own o 0 (leads (x+1) L).length/\Jb gg o (jt (x+1) L) nx)->∃m0,m0<(cnt)-x/\∃x:Nat,m0=(cnt)-x/\x<=(cnt)/\e 81=.int .i64 (x:Int)/\gg ⟨320001001,n0+1⟩=some ⟨true,1,lr G cnt cnt⟩/\gg ⟨320017000,st_b.next+1+1⟩=some ⟨true,mI.y7,km x L⟩/\(st_b.next+3<=nx/\sO gg G cnt px)/\((x=0/\e 11=.bP)∨∃o:Id,e 11=.own o 0 (leads x L).length/\Jb gg o (jt x L) nx):=fun x1 x2 x3 x4 x5=>⟨_,by omega,x+1,rfl,by omega,(by rw[x1,ax (by omega)]),x2,x3,x4,x5⟩
  have O1:x<cnt:=by omega
  have gX:=vk (G:=G) O1
  have hlx:L x<cnt:=Nat.lt_of_le_of_lt (hL.le _) O1
  have ra:=Pe _ hlx
  rw[kV (Jm.root hL hlx (hL.idem _))]at ra
  have gR:=jw x L
  (try((repeat(revert hN;revert N;apply Pn.out));refine wk (tw @c81 (tw @cg0 (tw @cg1 (tw @xS (tw @JJ (tw @JK (tw @hx (tw @gX @tl)))))))) ?_;(repeat(refine Pn.mk ?_;intro N hN))))
  refine .inr (aE _ _ _ _ _ (fun r σ1 hq=>?_) (yc G cnt px L Jm x O1 _ (Pe.frame fun k hk=>sd @Nat.zero_add)))
  obtain⟨g1,x1⟩:=σ1
  obtain⟨rfl,qU,J9⟩:=hq
  (try dsimp only at qU J9)
  subst qU
  refine hN _ _ ?_
  clear hN N
  by_cases hr:L x=x
  ·rw[hr]at ra ⊢
   have mZ:=FN hr
   have RI:(leads (x+1) L).length=(leads x L).length+1:=by rw[gy,if_pos hr];simp
   have OY:=CW hr
   have RB:=Cr hL hr
   rcases cI1 with⟨rfl,mU⟩|⟨o,mU,cS⟩
   ·have Tx:km 1 L=[[.int .i64 ((0:Nat):Int),.int .i64 ((0:Nat):Int)]]:=OY
    (try((repeat(revert hN;revert N;apply Pn.out));refine wk (tw @c81 (tw @cg0 (tw @cg1 (tw @xS (tw @JJ (tw @JK (tw @mU (tw @ra (tw @mZ (tw @l0 (tw @oS (tw @oT (tw @Bool.not_false @Bool.not_true))))))))))))) ?_;(repeat(refine Pn.mk ?_;intro N hN))))
    refine gL ?_ ?_ ?_ (by(try dsimp only);exact⟨by omega,Pe.frame fun k hk=>sd (tw @MY (tw @MT (tw @MU (tw @MV @MX))))⟩) (.inr ⟨⟨320025002,x1+1+1+1+1⟩,by simp only[go_sem, ↓reduceIte,Nat.reduceEqDiff,Nat.reduceAdd,Nat.reduceSub,Nat.reduceLeDiff,reduceCtorEq,RI];rfl,by rw[RB];exact JY (v':=x1+1+1+1+1+1) (sd @Nat.zero_add) (sd @eN.eq_1) (by(try dsimp only);omega) (by(try dsimp only);omega)⟩)
    all_goals simp only[go_sem, ↓reduceIte,Nat.reduceEqDiff,Nat.reduceAdd,Nat.reduceSub,Nat.reduceLeDiff,reduceCtorEq,c81,cg0,cg1,xS,JJ,JK,Tx]
   ·obtain⟨rows,vY,mb,kh⟩:=cS.new x
    rw[pC]at mb
    have Ft:o.site=320025002:=by obtain⟨_,_,_,_,_,_,h,_⟩:=cS;exact h
    have s4:o.bW<x1:=by obtain⟨_,_,_,_,_,_,_,h⟩:=cS;omega
    have qW:=ef s4
    have Qj:=eV (o:=o) Ft (b:=320017000) (v:=st_b.next+1+1) (by decide)
    have OR:=eV (o:=o) Ft (b:=320001001) (v:=n0+1) (by decide)
    have MZ:∀k,(G k=o)=False:=fun k=>by simp only[eq_iff_iff,iff_false];intro h;have h1:=Rl k;rw[h,Ft]at h1;cases h1
    have qm:(rows++[[AV.bP]])[(leads x L).length]? =some [.bP]:=by rw[<-mb];simp
    have sC:∀a:List AV,(rows++[[AV.bP]]).set (leads x L).length a=rows++[a]:=fun a=>by rw[<-mb];simp
    have e1:(leads x L).length+1<=16777216:=by omega
    have e2:((leads x L).length:Int)<(((leads x L).length+1:Nat):Int):=by omega
    (try((repeat(revert hN;revert N;apply Pn.out));refine wk (tw @c81 (tw @cg0 (tw @cg1 (tw @xS (tw @JJ (tw @JK (tw @mU (tw @ra (tw @mZ (tw @vY (tw @mb (tw @qW (tw @Qj (tw @qm (tw @sC (tw @e1 (tw @e2 (tw @oS (tw @oT (tw @Bool.not_false @Bool.not_true)))))))))))))))))))) ?_;(repeat(refine Pn.mk ?_;intro N hN))))
    refine gL ?_ ?_ ?_ (by(try dsimp only);exact⟨by omega,Pe.frame fun k hk=>sd (tw @MY (tw @MT (tw @MU (tw @MV (tw @MX @MZ)))))⟩) (.inr ⟨⟨320025002,x1+1+1+1+1⟩,sd @RI,by rw[RB];exact kh _ _ (x1+1+1+1+1+1) _ (by omega) (by(try dsimp only);omega) (by(try dsimp only);omega) (sd @sC) (sd @eN.eq_1) (fun j hj hv=>by
     have q1:=ef (i:=j) (n:=x1) (by omega)
     have q2:=eV hj (b:=320017000) (v:=st_b.next+1+1) (by decide)
     have q3:(j=o)=False:=by simp only[eq_iff_iff,iff_false];intro h;rw[h,Ft]at hj;cases hj
     simp only[go_sem, ↓reduceIte,Nat.reduceEqDiff,Nat.reduceAdd,Nat.reduceSub,Nat.reduceLeDiff,reduceCtorEq,q1,q2,q3])⟩)
    all_goals simp only[go_sem, ↓reduceIte,Nat.reduceEqDiff,Nat.reduceAdd,Nat.reduceSub,Nat.reduceLeDiff,reduceCtorEq,c81,cg0,cg1,xS,JJ,JK,OY,qW,Qj,OR]
  ·obtain⟨mZ,HN,dV⟩:=xn hL hr
   obtain⟨P0,RB⟩:=Ct hL hr
   have RI:(leads (x+1) L).length=(leads x L).length:=by rw[gy,if_neg hr];simp
   have BE:=CV hr
   rcases cI1 with⟨rfl,mU⟩|⟨o,mU,cS⟩
   ·exact absurd (Nat.le_zero.1 (hL.le 0)) hr
   ·obtain⟨rows,id,vY,mb,hrk,hid,HD,hidv,SI⟩:=cS.add P0 x
    rw[pC]at mb
    have Ft:o.site=320025002:=by obtain⟨_,_,_,_,_,_,h,_⟩:=cS;exact h
    have s4:o.bW<x1:=by obtain⟨_,_,_,_,_,_,_,h⟩:=cS;omega
    have qW:=ef s4
    have xe:=ef (i:=id) (n:=x1) (by omega)
    have mW:(bR L x:Int)<((leads x L).length:Int):=by omega
    have Qf:=AR x L (L x)
    have LI:((members x L (L x)).map eN).length=(members x L (L x)).length:=by simp
    have e1:(members x L (L x)).length+1<=16777216:=by omega
    have OS:(o=id)=False:=by simp only[eq_iff_iff,iff_false];rintro rfl;rw[HD]at Ft;cases Ft
    have ON:(id=o)=False:=by simp only[eq_iff_iff,iff_false];rintro rfl;rw[HD]at Ft;cases Ft
    have Qj:=eV (o:=o) Ft (b:=320017000) (v:=st_b.next+1+1) (by decide)
    have OR:=eV (o:=o) Ft (b:=320001001) (v:=n0+1) (by decide)
    have hiM:=eV (o:=id) HD (b:=320017000) (v:=st_b.next+1+1) (by decide)
    have hiT:=eV (o:=id) HD (b:=320001001) (v:=n0+1) (by decide)
    have MZ:∀k,(G k=o)=False:=fun k=>by simp only[eq_iff_iff,iff_false];intro h;have h1:=Rl k;rw[h,Ft]at h1;cases h1
    have SB:∀k,(G k=id)=False:=fun k=>by simp only[eq_iff_iff,iff_false];intro h;have h1:=Rl k;rw[h,HD]at h1;cases h1
    (try((repeat(revert hN;revert N;apply Pn.out));refine wk (tw @c81 (tw @cg0 (tw @cg1 (tw @xS (tw @JJ (tw @JK (tw @mU (tw @ra (tw @mZ (tw @HN (tw @vY (tw @mb (tw @hrk (tw @hid (tw @qW (tw @xe (tw @mW (tw @LI (tw @e1 (tw @OS (tw @ON (tw @Qj (tw @OR (tw @hiM (tw @hiT (tw @oS (tw @oT (tw @Bool.not_false @Bool.not_true)))))))))))))))))))))))))))) ?_;(repeat(refine Pn.mk ?_;intro N hN))))
    refine gL ?_ ?_ ?_ (by(try dsimp only);exact⟨by omega,Pe.frame fun k hk=>sd (tw @MY (tw @MT (tw @MU (tw @MV (tw @MX (tw @MZ @SB))))))⟩) (.inr ⟨o,sd (tw @RI @mU),by rw[RB];exact SI _ (x1+1+1) _ (by omega) (by(try dsimp only);omega) (sd @Nat.zero_add) (sd (tw @qW (tw @xe (tw @OS @ON)))) (fun j hj hv lX=>by
     have q1:=ef (i:=j) (n:=x1) (by omega)
     have q2:=eV hj (b:=320017000) (v:=st_b.next+1+1) (by decide)
     have q3:(j=o)=False:=by simp only[eq_iff_iff,iff_false];intro h;rw[h,Ft]at hj;cases hj
     simp only[go_sem, ↓reduceIte,Nat.reduceEqDiff,Nat.reduceAdd,Nat.reduceSub,Nat.reduceLeDiff,reduceCtorEq,q1,q2,q3,lX])⟩)
    all_goals simp only[go_sem, ↓reduceIte,Nat.reduceEqDiff,Nat.reduceAdd,Nat.reduceSub,Nat.reduceLeDiff,reduceCtorEq,c81,cg0,cg1,xS,JJ,JK,BE,qW,xe,Qj,OR,hiM,hiT]
 have TF:x=cnt:=by omega
 rcases cI1 with⟨h0,_⟩|⟨o,mU,rows,ids,vY,hR,_,_,_,_⟩
 ·omega
 have mb:=hR.len
 rw[pC]at mb
 (try((repeat(revert hN;revert N;apply Pn.out));refine wk (tw @c81 (tw @cg0 (tw @cg1 (tw @xS (tw @JJ (tw @JK (tw @hx (tw @mU @vY)))))))) ?_;(repeat(refine Pn.mk ?_;intro N hN))))
 refine uV (.inl rfl) (by simp only[go_sem, ↓reduceIte,Nat.reduceEqDiff,Nat.reduceAdd,Nat.reduceSub,Nat.reduceLeDiff,reduceCtorEq];rfl) ?_
 rw[qi vY (by omega) (rows':=(fh cnt L).map zr) (by
  rw[List.drop_zero,List.take_of_length_le (by omega)]
  rw[TF]at hR;exact H9 3 hR)]
theorem I6 (b:PB) (t:Int):ak Tryz.prog 323 [.agg (aw b),.cN [.int .i64 t]] (.bool (decide (b.s<t))):=by
 refine ak.body eb rfl fun hl n0=>?_
 clear hl
 (try((repeat(revert hN;revert N;apply Pn.out));refine wk @aw.eq_1 ?_;(repeat(refine Pn.mk ?_;intro N hN))))
 exact aQ (b:=decide (b.s<t)) (.inl rfl) (sd @Nat.zero_add) rfl
theorem xh (bs:List PB) (t:Int) (hl:bs.length<=1048576):ak Tryz.prog 335 [.sl (bs.map aw),.fn 323 [.cN [.int .i64 t]]] (.int .i64 (gV (fun b:PB=>decide (b.s<t)) bs)):=
 nS He (show lx Tryz.prog 335=some (pH 335 3 true) by kernel_rfl) bs hl 323 _ _ (fun x _=>I6 x t) fun g=>by simp only[ae,ai,aD,Option.map_some]
theorem G9 (bs:List PB) (hp:0<bs.length) (hl:bs.length<=1048576) (σ:ar):
  Call Tryz.prog 322 [.sl (bs.map aw)] σ fun r σ'=>∃o:Id,r=.own o 0 bs.length/\σ'.get o=some ⟨true,3,bs.map aw⟩/\σ.next<=o.bW/\o.bW<σ'.next/\∀i:Id,i.bW<σ.next->σ'.get i=σ.get i:=by
 refine eO eb rfl fun hl=>?_
 clear hl
 have hz:=all_map (l:=bs) Ma
 obtain⟨b,r,rfl⟩:∃b r,bs=b::r:=by
  cases bs with
  |nil=>simp at hp
  |cons b r=>exact⟨b,r,rfl⟩
 have gR:(List.map aw (b::r)).length=(b::r).length:=by simp
 have e1:r.length<=16777215:=by simp at hl;omega
 rw[List.map_cons]at hz gR ⊢
 (try((repeat(revert hN;revert N;apply Pn.out));refine wk (tw @hz (tw @gR @e1)) ?_;(repeat(refine Pn.mk ?_;intro N hN))))
 refine fI (.inl rfl) (vs:=[.own ⟨322003002,σ.next+1+1⟩ 0 (b::r).length]) (by simp only[eX,gM,go_sem, ↓reduceIte,Nat.reduceEqDiff,Nat.reduceAdd,Nat.reduceSub,Nat.reduceLeDiff,reduceCtorEq,List.length_cons]) ⟨⟨322003002,σ.next+1+1⟩,rfl,sd @Nat.zero_add,by(try dsimp only);omega,by(try dsimp only);omega,fun i hi=>?_⟩
 have hv:=ef hi
 simp only[go_sem, ↓reduceIte,Nat.reduceEqDiff,Nat.reduceAdd,Nat.reduceSub,Nat.reduceLeDiff,reduceCtorEq,hv]
theorem og {t:Int} {bs:List PB} {j:Nat} (hj:j<bs.length):aI t (bs.take (j+1))=aI t (bs.take j)++if decide (bs[j].s<t)=true then[]else[bs[j]]:=by
 rw[sL t bs j hj]
 congr 1
 by_cases h:bs[j].s<t
 ·rw[if_neg (by omega),if_pos (decide_eq_true h)]
 ·rw[if_pos (by omega),if_neg (by simp only[decide_eq_true_eq];exact h)]
theorem sK {t:Int} {bs:List PB} (h:∀b∈bs,¬b.s<t):aI t bs=bs:=by
 unfold aI
 rw[List.filter_eq_self]
 intro b hb
 have:=h b hb
 exact decide_eq_true (by omega)
structure sN (t:Int) (bs:List PB) (j:Nat) (R:List PB):Prop where
 len:R.length=bs.length
 pre:R.take (aI t (bs.take j)).length=aI t (bs.take j)
 post:∀x,j<=x->R[x]? =bs[x]?
 lt:(aI t (bs.take j)).length<j
theorem sN.start {t:Int} {bs:List PB} {i:Nat} (hi:i<bs.length) (hw:bs[i].s<t) (hp:∀x (h:x<i),¬bs[x].s<t):sN t bs (i+1) bs/\(aI t (bs.take (i+1))).length=i:=by
 have h1:aI t (bs.take i)=bs.take i:=sK fun b hb=>by
  obtain⟨x,hx,rfl⟩:=List.getElem_of_mem hb
  rw[List.length_take]at hx
  rw[List.getElem_take]
  exact hp x (by omega)
 have h2:aI t (bs.take (i+1))=bs.take i:=by rw[og hi,if_pos (decide_eq_true hw),List.append_nil,h1]
 have h3:(bs.take i).length=i:=by rw[List.length_take];omega
 exact⟨⟨rfl,by rw[h2,h3],fun _ _=>rfl,by rw[h2,h3];omega⟩,by rw[h2,h3]⟩
theorem sN.Od {t:Int} {bs R:List PB} {j:Nat} (h:sN t bs j R) (hj:j<bs.length) (hw:bs[j].s<t):sN t bs (j+1) R/\(aI t (bs.take (j+1))).length=(aI t (bs.take j)).length:=by
 have h2:aI t (bs.take (j+1))=aI t (bs.take j):=by rw[og hj,if_pos (decide_eq_true hw),List.append_nil]
 exact⟨⟨h.len,by rw[h2];exact h.pre,fun x hx=>h.post x (by omega),by rw[h2];have:=h.lt;omega⟩,by rw[h2]⟩
theorem sN.rP {t:Int} {bs R:List PB} {j:Nat} (h:sN t bs j R) (hj:j<bs.length) (hw:¬bs[j].s<t):sN t bs (j+1) (R.set (aI t (bs.take j)).length bs[j])/\(aI t (bs.take (j+1))).length=(aI t (bs.take j)).length+1:=by
 have h2:aI t (bs.take (j+1))=aI t (bs.take j)++[bs[j]]:=by rw[og hj,if_neg (by simp only[decide_eq_true_eq];exact hw)]
 have dV:=h.lt
 have hlen:=h.len
 have oW:=h.pre
 generalize hc:(aI t (bs.take j)).length=c at *
 refine⟨⟨by rw[List.length_set];exact hlen,?_,fun x hx=>?_,by rw[h2,List.length_append,hc];simp;omega⟩,by rw[h2,List.length_append,hc];rfl⟩
 ·rw[h2,List.length_append,hc,List.length_singleton,List.take_succ_eq_append_getElem (by rw[List.length_set];omega),List.getElem_set_self,List.take_set_of_le (Nat.le_refl _),oW]
 ·rw[List.getElem?_set_ne (by omega)];exact h.post x (by omega)
theorem sN.at_ {t:Int} {bs R:List PB} {j:Nat} (h:sN t bs j R) (hj:j<bs.length):(R.map aw)[j]? =some (aw bs[j]):=by
 rw[List.getElem?_map,h.post j (Nat.le_refl j),List.getElem?_eq_getElem hj];rfl
theorem Ch {p:PB->Bool} {bs:List PB} (h:¬0<=gV p bs):∀b∈bs,p b=false:=by
 intro b hb
 unfold gV at h
 split at h
 ·omega
 ·rename_i h1
  rw[List.findIdx_lt_length]at h1
  cases hp:p b
  ·rfl
  ·exact absurd ⟨b,hb,hp⟩ h1
theorem Ci {p:PB->Bool} {bs:List PB} (h:0<=gV p bs):∃i,∃hi:i<bs.length,gV p bs=(i:Int)/\p bs[i]=true/\∀x (hx:x<i),p (bs[x]'(by omega))=false:=by
 unfold gV at h ⊢
 split
 ·rename_i h1
  exact⟨bs.findIdx p,h1,rfl,List.findIdx_getElem,fun x hx=>by simpa using List.not_of_lt_findIdx hx⟩
 ·rename_i h1;rw[if_neg h1]at h;omega
theorem E0 (bs:List PB) (t:Int) (hl:bs.length<=1048576) (o T:Id) (σ:ar) (ho:σ.get o=some ⟨true,3,bs.map aw⟩) (hT:σ.get T=some ⟨true,1,[[.int .i64 t]]⟩) (s4:o.bW<σ.next) (hTv:T.bW<σ.next) (OR:o≠T):
  Call Tryz.prog 321 [.own o 0 bs.length,.fn 323 [.ptr T 0 0]] σ fun r σ'=>∃rows,r=.own o 0 (aI t bs).length/\σ'.get o=some ⟨true,3,rows⟩/\rows.take (aI t bs).length=(aI t bs).map aw/\(aI t bs).length<=rows.length/\σ.next<=σ'.next/\∀i:Id,i.bW<σ.next->i≠o->σ'.get i=σ.get i:=by
 refine eO eb rfl fun nP=>?_
 clear nP
 have yu:=xh bs t hl
 have hzT:∀(g:Rows),g T=some ⟨true,1,[[.int .i64 t]]⟩->V.fz (dd g) 5 (.ptr T 0 0)=some (.cN [.int .i64 t]):=fun g hg=>rD (sz:=1) (rows:=[[.int .i64 t]]) (by simp[dd,hg]) rfl (by simp only[List.drop_zero,ae,ai,ay,Option.map_some])
 have xf:∀(g:Rows),g T=some ⟨true,1,[[.int .i64 t]]⟩->g o=some ⟨true,3,bs.map aw⟩->cI (dd g) 6 [.own o 0 bs.length,.fn 323 [.ptr T 0 0]]=some [.sl (bs.map aw),.fn 323 [.cN [.int .i64 t]]]:=fun g h1 h2=>by
  have q1:=gx (g:=dd g) (n:=5) (e:=aw) (sz:=3) (len:=bs.length) (l:=bs) (id:=o) (by simp[dd,h2]) rfl fun b=>yd _ 4 b
  have q2:=hzT g h1
  simp only[ae,ai,q1,bZ,List.all_cons,List.all_nil,AV.cell,Bool.and_true,if_true,q2,Option.map_some]
 have kK:∀(g:Rows),g T=some ⟨true,1,[[.int .i64 t]]⟩->∀b:PB,cI (dd g) 6 [.agg (aw b),.ptr T 0 0]=some [.agg (aw b),.cN [.int .i64 t]]:=fun g h1 b=>by
  have q3:V.fz (dd g) 6 (.ptr T 0 0)=some (.cN [.int .i64 t]):=rD (sz:=1) (rows:=[[.int .i64 t]]) (by simp[dd,h1]) rfl (by simp only[List.drop_zero,ae,ai,ay,Option.map_some])
  simp only[ae,ai,aM,yd,q3,Option.map_some]
 (try((repeat(revert hN;revert N;apply Pn.out));refine wk @Nat.zero_add ?_;(repeat(refine Pn.mk ?_;intro N hN))))
 refine .inl ⟨_,ak.x yu (xf _ hT ho),?_⟩
 refine hN _ _ ?_
 clear hN N
 by_cases h0:0<=gV (fun b:PB=>decide (b.s<t)) bs
 ·obtain⟨i,hi,GA,Tr,Fu⟩:=Ci h0
  rw[GA]at *
  have Fq:decide ((i:Int)= -1)=false:=decide_eq_false (by omega)
  have LQ:IntKind.i64.wrap ((i:Int)+1)=((i+1:Nat):Int):=ax (by omega)
  obtain⟨er,sC⟩:=sN.start (t:=t) hi (by simpa using Tr) (fun x hx=>by simpa using Fu x hx)
  (try((repeat(revert hN;revert N;apply Pn.out));refine wk (tw @Fq @LQ) ?_;(repeat(refine Pn.mk ?_;intro N hN))))
  refine aY (fun m env st=>∃(j:Nat) (R:List PB),m=bs.length-j/\env 6=.int .i64 (j:Int)/\env 5=.int .i64 ((aI t (bs.take j)).length:Int)/\st.get o=some ⟨true,3,R.map aw⟩/\sN t bs j R/\j<=bs.length/\σ.next<=st.next/\∀x:Id,x.bW<σ.next->(x=o)=False->st.get x=σ.get x) (bs.length-(i+1)) ⟨i+1,bs,rfl,sd @LQ,sd @sC,sd @ho,er,by omega,by(try dsimp only);omega,fun x _ _=>sd @Nat.zero_add⟩ ?_
  rintro m env_b st_b ⟨j,R,rfl,b6,b5,bg,hD,gC,hle,jY⟩ bfr
  have b0:=bfr 0 (by kernel_rfl)
  have b1:=bfr 1 (by kernel_rfl)
  simp only[go_sem, ↓reduceIte,Nat.reduceEqDiff,Nat.reduceAdd,Nat.reduceSub,Nat.reduceLeDiff,reduceCtorEq]at b0 b1
  clear bfr
  have bT:=(jY T hTv (by simp only[eq_iff_iff,iff_false];exact fun h=>OR h.symm)).trans hT
  have mN:=ef (i:=o) (n:=st_b.next) (by omega)
  have TC:=ef (i:=T) (n:=st_b.next) (by omega)
  have Rp:=hD.len
  have M1:(R.map aw).length=bs.length:=by rw[List.length_map,Rp]
  have dV:=hD.lt
  by_cases hj:(j:Int)<(bs.length:Int)
  ·have iH:j<bs.length:=by omega
   have D9:=hD.at_ iH
   have Kk:=I6 bs[j] t
   have Kj:IntKind.i64.wrap ((j:Int)+1)=((j+1:Nat):Int):=ax (by omega)
   have PD:=hD.Od iH
   have PE:=hD.rP iH
   generalize bs[j]=b at *
   (try((repeat(revert hN;revert N;apply Pn.out));refine wk (tw @b0 (tw @b1 (tw @b5 (tw @b6 (tw @bg (tw @hj (tw @D9 (tw @aw.eq_1 (tw @mN (tw @TC @M1)))))))))) ?_;(repeat(refine Pn.mk ?_;intro N hN))))
   refine .inl ⟨_,ak.x Kk (kK _ (sd (tw @TC @bT)) b),?_⟩
   refine hN _ _ ?_
   clear hN N
   by_cases hw:b.s<t
   ·obtain⟨MS,MR⟩:=PD hw
    have hd:decide (b.s<t)=true:=decide_eq_true hw
    (try((repeat(revert hN;revert N;apply Pn.out));refine wk (tw @b0 (tw @b1 (tw @b5 (tw @b6 (tw @hd @Kj))))) ?_;(repeat(refine Pn.mk ?_;intro N hN))))
    refine⟨_,?_,j+1,R,rfl,sd @Kj,sd (tw @b5 @MR),sd (tw @bg @mN),MS,by omega,by(try dsimp only);omega,fun x hx yz=>?_⟩
    ·omega
    ·have Jr:=ef (i:=x) (n:=st_b.next) (by omega)
     have:=jY x hx yz
     simp only[go_sem, ↓reduceIte,Nat.reduceEqDiff,Nat.reduceAdd,Nat.reduceSub,Nat.reduceLeDiff,reduceCtorEq,Jr,this]
   ·obtain⟨MS,MR⟩:=PE hw
    have hd:decide (b.s<t)=false:=decide_eq_false hw
    have M6:((aI t (bs.take j)).length:Int)<(bs.length:Int):=by omega
    have Qw:IntKind.i64.wrap (((aI t (bs.take j)).length:Int)+1)=(((aI t (bs.take j)).length+1:Nat):Int):=ax (by omega)
    have eo:(R.map aw).set (aI t (bs.take j)).length [.int .i64 (b.a:Int),.int .i64 (b.b:Int),.int .i64 b.s]=(R.set (aI t (bs.take j)).length b).map aw:=by rw[List.map_set];rfl
    have J4:∃y,(R.map aw)[(aI t (bs.take j)).length]? =some (aw y):=⟨R[(aI t (bs.take j)).length]'(by omega),by rw[List.getElem?_map,List.getElem?_eq_getElem (by omega)];rfl⟩
    obtain⟨y,J4⟩:=J4
    rw[aw]at J4
    (try((repeat(revert hN;revert N;apply Pn.out));refine wk (tw @b0 (tw @b1 (tw @b5 (tw @b6 (tw @bg (tw @hd (tw @Kj (tw @Qw (tw @M6 (tw @eo (tw @J4 (tw @mN (tw @TC @M1))))))))))))) ?_;(repeat(refine Pn.mk ?_;intro N hN))))
    refine⟨_,?_,j+1,_,rfl,sd @Kj,sd (tw @Qw @MR),sd @eo,MS,by omega,by(try dsimp only);omega,fun x hx yz=>?_⟩
    ·omega
    ·have Jr:=ef (i:=x) (n:=st_b.next) (by omega)
     have:=jY x hx yz
     simp only[go_sem, ↓reduceIte,Nat.reduceEqDiff,Nat.reduceAdd,Nat.reduceSub,Nat.reduceLeDiff,reduceCtorEq,Jr,this,yz]
  ·have gC:j=bs.length:=by omega
   subst gC
   have oW:=hD.pre
   rw[List.take_length]at b5 dV oW
   have M6:((aI t bs).length:Int)<=(bs.length:Int):=by omega
   have OL:(aI t bs).length<=bs.length:=by omega
   have nR:(aI t bs).length+(bs.length-(aI t bs).length)=bs.length:=by omega
   have sC:=mu t bs
   (try((repeat(revert hN;revert N;apply Pn.out));refine wk (tw @b0 (tw @b1 (tw @b5 (tw @b6 (tw @bg (tw @hj (tw @M1 (tw @M6 (tw @OL (tw @nR (tw @Nat.le_refl (tw @Nat.sub_zero (tw @Int.le_refl @mN))))))))))))) ?_;(repeat(refine Pn.mk ?_;intro N hN))))
   refine fI (.inl rfl) (vs:=[.own o 0 (aI t bs).length]) (sd @Nat.zero_add) ⟨_,rfl,by simp only[go_sem, ↓reduceIte,Nat.reduceEqDiff,Nat.reduceAdd,Nat.reduceSub,Nat.reduceLeDiff,reduceCtorEq];rfl,?_,?_,by(try dsimp only);omega,fun x hx yz=>?_⟩
   ·have hm:List.take (aI t bs).length (List.map aw R)=(aI t bs).map aw:=by rw[<-List.map_take,oW]
    rw[hm,List.append_assoc,List.take_append_of_le_length (by simp),List.take_of_length_le (by simp)]
   ·have hm:List.take (aI t bs).length (List.map aw R)=(aI t bs).map aw:=by rw[<-List.map_take,oW]
    rw[hm]
    simp only[List.length_append,List.length_map]
    omega
   ·have HU:(x=o)=False:=by simp only[eq_iff_iff,iff_false];exact yz
    have:=jY x hx HU
    simp only[go_sem, ↓reduceIte,Nat.reduceEqDiff,Nat.reduceAdd,Nat.reduceSub,Nat.reduceLeDiff,reduceCtorEq,HU,this]
 ·have hn:=Ch h0
  have er:=sK (t:=t) (bs:=bs) fun b hb=>by simpa using hn b hb
  have hd:decide (gV (fun b:PB=>decide (b.s<t)) bs= -1)=true:=decide_eq_true (by
   unfold gV at h0 ⊢
   split
   ·rename_i h;rw[if_pos h]at h0;omega
   ·rfl)
  (try((repeat(revert hN;revert N;apply Pn.out));refine wk @hd ?_;(repeat(refine Pn.mk ?_;intro N hN))))
  refine fI (.inl rfl) (vs:=[.own o 0 bs.length]) (sd @Nat.zero_add) ⟨bs.map aw,by rw[er];rfl,sd @ho,by rw[er,List.take_of_length_le (by simp)],by rw[er];simp,by(try dsimp only);omega,fun x _ _=>rfl⟩
def sE (p:aP->Bool) (l:List aP):List aP:=l.filter fun x=> !p x
theorem NJ {p:aP->Bool} {l:List aP} {j:Nat} (hj:j<l.length):sE p (l.take (j+1))=sE p (l.take j)++if p l[j]=true then[]else[l[j]]:=by
 unfold sE
 rw[List.take_succ_eq_append_getElem hj,List.filter_append]
 congr 1
 cases h:p l[j]<;>simp[h]
theorem NI {p:aP->Bool} {l:List aP} (h:∀b∈l,p b=false):sE p l=l:=by
 unfold sE
 rw[List.filter_eq_self]
 intro b hb
 rw[h b hb];rfl
structure DlP (p:aP->Bool) (bs:List aP) (j:Nat) (R:List aP):Prop where
 len:R.length=bs.length
 pre:R.take (sE p (bs.take j)).length=sE p (bs.take j)
 post:∀x,j<=x->R[x]? =bs[x]?
 lt:(sE p (bs.take j)).length<j
theorem LZ (a b:aP):(decide (a.fE=b.fE)&&decide (a.e8=b.e8))=decide (a=b):=by
 obtain⟨x,y⟩:=a
 obtain⟨x',y'⟩:=b
 rw[Bool.eq_iff_iff]
 simp
theorem FB (L:List aP) (p:aP) (hlen:L.length<=1048576):∃z:Int,(0<=z↔p∈L)/\ak Tryz.prog 248 [.sl (L.map aj),.agg (aj p)] (.int .i64 z):=by
 have key:∀m:Nat,m<=L.length->(∀j (hj:j<L.length),j<m->¬p=L[j])->(∀hm:m<L.length,p=L[m])->ak Tryz.prog 248 [.sl (L.map aj),.agg (aj p)] (.int .i64 (if m<L.length then(m:Int)else -1)):=by
  intro m hm hb ha
  refine ak.body eb rfl fun hl n0=>?_
  clear hl
  have gR:(L.map aj).length=L.length:=by simp
  (try((repeat(revert hN;revert N;apply Pn.out));refine wk (tw @aj.eq_1 @gR) ?_;(repeat(refine Pn.mk ?_;intro N hN))))
  refine aY (fun n env st=>∃k:Nat,n=(L.length)-k/\k<=(L.length)/\env 8=.int .i64 (k:Int)/\st.get ⟨248000000,n0⟩=some ⟨true,2,[aj p]⟩/\(k<=m)) (L.length) ⟨0,by omega,by omega,sl (tw @aj.eq_1 @gR),sl (tw @aj.eq_1 @gR),Nat.zero_le _⟩ ?_
  rintro n_a env_a st_a ⟨k,rfl,ale,a8,ag0,mJ⟩ dU
  have a0:=dU 0 (by kernel_rfl);have a3:=dU 3 (by kernel_rfl);have a7:=dU 7 (by kernel_rfl)
  simp only[go_sem, ↓reduceIte,Nat.reduceEqDiff,Nat.reduceAdd,Nat.reduceSub,Nat.reduceLeDiff,reduceCtorEq,aj,gR]at a0 a3 a7
  clear dU
  by_cases hk:(k:Int)<(L.length:Int)
  ·have cK:∀{e:Env} {gg:Rows},(e 8=.int .i64 (IntKind.i64.wrap ((k:Int)+1)))->(gg ⟨248000000,n0⟩=some ⟨true,2,[aj p]⟩)->((k+1)<=m)->∃m0,m0<(L.length)-k/\∃k:Nat,m0=(L.length)-k/\k<=(L.length)/\e 8=.int .i64 (k:Int)/\gg ⟨248000000,n0⟩=some ⟨true,2,[aj p]⟩/\(k<=m):=fun x1 x2 x3=>⟨_,by omega,k+1,rfl,by omega,(by rw[x1,ax (by omega)]),x2,x3⟩
   have hi:k<L.length:=by omega
   have mW:(L.map aj)[k]? =some (aj L[k]):=by simp[hi]
   by_cases Nh:k=m
   ·have he:=ha (by omega)
    have hq:(decide (p.fE=L[k].fE)&&decide (p.e8=L[k].e8))=true:=by
     rw[LZ];subst Nh;exact decide_eq_true he
    generalize L[k]=c at *
    (try((repeat(revert hN;revert N;apply Pn.out));refine wk (tw @a8 (tw @ag0 (tw @a0 (tw @a3 (tw @a7 (tw @hk (tw @mW (tw @hq (tw @gR @aj.eq_1))))))))) ?_;(repeat(refine Pn.mk ?_;intro N hN))))
    exact bL (b:=(k:Int)) (.inl rfl) (sd @Nat.zero_add) (by rw[if_pos (by omega),Nh])
   ·have hq:(decide (p.fE=L[k].fE)&&decide (p.e8=L[k].e8))=false:=by
     rw[LZ];exact decide_eq_false (hb k hi (by omega))
    generalize L[k]=c at *
    (try((repeat(revert hN;revert N;apply Pn.out));refine wk (tw @a8 (tw @ag0 (tw @a0 (tw @a3 (tw @a7 (tw @hk (tw @mW (tw @hq (tw @gR @aj.eq_1))))))))) ?_;(repeat(refine Pn.mk ?_;intro N hN))))
    refine cK ?_ ?_ (by omega)
    all_goals simp only[go_sem, ↓reduceIte,Nat.reduceEqDiff,Nat.reduceAdd,Nat.reduceSub,Nat.reduceLeDiff,reduceCtorEq,a8,ag0,a0,a3,a7,gR,aj]
  ·(try((repeat(revert hN;revert N;apply Pn.out));refine wk (tw @a8 (tw @ag0 (tw @a0 (tw @a3 (tw @a7 @hk))))) ?_;(repeat(refine Pn.mk ?_;intro N hN))))
   exact bL (b:=-1) (.inl rfl) (sd @Nat.zero_add) (by rw[if_neg (by omega)])
 by_cases h:p∈L
 ·refine⟨_,?_,key (L.findIdx fun x=>decide (p=x)) List.findIdx_le_length (fun j hj dV=>?_) fun hm=>?_⟩
  ·have dV:(L.findIdx fun x=>decide (p=x))<L.length:=List.findIdx_lt_length.2 ⟨p,h,by simp⟩
   rw[if_pos dV]
   exact⟨fun _=>h,fun _=>by omega⟩
  ·have:=List.not_of_lt_findIdx dV
   simpa using this
  ·have:=List.findIdx_getElem (w:=hm)
   simpa using this
 ·refine⟨_,?_,key L.length (Nat.le_refl _) (fun j hj _ he=>h (he▸List.getElem_mem hj)) fun hm=>absurd hm (Nat.lt_irrefl _)⟩
  rw[if_neg (Nat.lt_irrefl _)]
  exact⟨fun h=>by omega,fun h'=>absurd h' h⟩
theorem xY (L:List aP) (p:aP) (hlen:L.length<=1048576):ak Tryz.prog 182 [.sl (L.map aj),.agg (aj p)] (.bool (decide (p∈L))):=by
 refine ak.body eb rfl fun hl n0=>?_
 clear hl
 obtain⟨z,hz,hi⟩:=FB L p hlen
 (repeat(first|((repeat(revert hN;revert N;apply Pn.out));refine wk @aj.eq_1 ?_;(repeat(refine Pn.mk ?_;intro N hN)))|((try apply Or.inl);refine⟨_,ak.x (hi) (sd @aj.eq_1),?_⟩;refine hN _ _ ?_;clear hN N)))
 exact aQ (.inl rfl) (by simp only[go_sem, ↓reduceIte,Nat.reduceEqDiff,Nat.reduceAdd,Nat.reduceSub,Nat.reduceLeDiff,reduceCtorEq];rfl) (by rw[Bool.eq_iff_iff];simp[hz])
def pI (qs:List aP) (x:ad):Bool:=decide (x.aW∈qs)
theorem vB (qs:List aP) (hq:qs.length<=1048576) (x:ad):ak Tryz.prog 181 [.agg (aa x),.cN [.sl (qs.map aj)]] (.bool (pI qs x)):=by
 refine ak.body eb rfl fun hl n0=>?_
 clear hl
 have h:=xY qs x.aW hq
 rw[aj]at h
 (repeat(first|((repeat(revert hN;revert N;apply Pn.out));refine wk @aa.eq_1 ?_;(repeat(refine Pn.mk ?_;intro N hN)))|((try apply Or.inl);refine⟨_,ak.x (h) (sd @aa.eq_1),?_⟩;refine hN _ _ ?_;clear hN N)))
 exact aQ (b:=decide (x.aW∈qs)) (.inl rfl) (sd @Nat.zero_add) rfl
theorem Ko (qs:List aP) (hq:qs.length<=1048576) (ps:List ad) (hl:ps.length<=1048576):ak Tryz.prog 247 [.sl (ps.map aa),.fn 181 [.cN [.sl (qs.map aj)]]] (.int .i64 (gV (pI qs) ps)):=
 nS pw (show lx Tryz.prog 247=some (pH 247 3 true) by kernel_rfl) ps hl 181 _ _ (fun x _=>vB qs hq x) fun g=>by simp only[ae,ai,aD,Option.map_some]
def eA (p:ad->Bool) (l:List ad):List ad:=l.filter fun x=> !p x
theorem pJ {p:ad->Bool} {l:List ad} {j:Nat} (hj:j<l.length):eA p (l.take (j+1))=eA p (l.take j)++if p l[j]=true then[]else[l[j]]:=by
 unfold eA
 rw[List.take_succ_eq_append_getElem hj,List.filter_append]
 congr 1
 cases h:p l[j]<;>simp[h]
theorem uD {p:ad->Bool} {l:List ad} (h:∀b∈l,p b=false):eA p l=l:=by
 unfold eA
 rw[List.filter_eq_self]
 intro b hb
 rw[h b hb];rfl
structure Gw (p:ad->Bool) (bs:List ad) (j:Nat) (R:List ad):Prop where
 len:R.length=bs.length
 pre:R.take (eA p (bs.take j)).length=eA p (bs.take j)
 post:∀x,j<=x->R[x]? =bs[x]?
 lt:(eA p (bs.take j)).length<j
theorem Gw.start {p:ad->Bool} {bs:List ad} {i:Nat} (hi:i<bs.length) (hw:p bs[i]=true) (hp:∀x (h:x<i),p bs[x]=false):Gw p bs (i+1) bs/\(eA p (bs.take (i+1))).length=i:=by
 have h1:eA p (bs.take i)=bs.take i:=uD fun b hb=>by
  obtain⟨x,hx,rfl⟩:=List.getElem_of_mem hb
  rw[List.length_take]at hx
  rw[List.getElem_take]
  exact hp x (by omega)
 have h2:eA p (bs.take (i+1))=bs.take i:=by rw[pJ hi,if_pos hw,List.append_nil,h1]
 have h3:(bs.take i).length=i:=by rw[List.length_take];omega
 exact⟨⟨rfl,by rw[h2,h3],fun _ _=>rfl,by rw[h2,h3];omega⟩,by rw[h2,h3]⟩
theorem Gw.Od {p:ad->Bool} {bs R:List ad} {j:Nat} (h:Gw p bs j R) (hj:j<bs.length) (hw:p bs[j]=true):Gw p bs (j+1) R/\(eA p (bs.take (j+1))).length=(eA p (bs.take j)).length:=by
 have h2:eA p (bs.take (j+1))=eA p (bs.take j):=by rw[pJ hj,if_pos hw,List.append_nil]
 exact⟨⟨h.len,by rw[h2];exact h.pre,fun x hx=>h.post x (by omega),by rw[h2];have:=h.lt;omega⟩,by rw[h2]⟩
theorem Gw.rP {p:ad->Bool} {bs R:List ad} {j:Nat} (h:Gw p bs j R) (hj:j<bs.length) (hw:p bs[j]=false):Gw p bs (j+1) (R.set (eA p (bs.take j)).length bs[j])/\(eA p (bs.take (j+1))).length=(eA p (bs.take j)).length+1:=by
 have h2:eA p (bs.take (j+1))=eA p (bs.take j)++[bs[j]]:=by rw[pJ hj,hw];rfl
 have dV:=h.lt
 have hlen:=h.len
 have oW:=h.pre
 generalize hc:(eA p (bs.take j)).length=c at *
 refine⟨⟨by rw[List.length_set];exact hlen,?_,fun x hx=>?_,by rw[h2,List.length_append,hc];simp;omega⟩,by rw[h2,List.length_append,hc];rfl⟩
 ·rw[h2,List.length_append,hc,List.length_singleton,List.take_succ_eq_append_getElem (by rw[List.length_set];omega),List.getElem_set_self,List.take_set_of_le (Nat.le_refl _),oW]
 ·rw[List.getElem?_set_ne (by omega)];exact h.post x (by omega)
theorem Gw.at_ {p:ad->Bool} {bs R:List ad} {j:Nat} (h:Gw p bs j R) (hj:j<bs.length):(R.map aa)[j]? =some (aa bs[j]):=by
 rw[List.getElem?_map,h.post j (Nat.le_refl j),List.getElem?_eq_getElem hj];rfl
theorem Cj {p:ad->Bool} {bs:List ad} (h:¬0<=gV p bs):∀b∈bs,p b=false:=by
 intro b hb
 unfold gV at h
 split at h
 ·omega
 ·rename_i h1
  rw[List.findIdx_lt_length]at h1
  cases hp:p b
  ·rfl
  ·exact absurd ⟨b,hb,hp⟩ h1
theorem Ck {p:ad->Bool} {bs:List ad} (h:0<=gV p bs):∃i,∃hi:i<bs.length,gV p bs=(i:Int)/\p bs[i]=true/\∀x (hx:x<i),p (bs[x]'(by omega))=false:=by
 unfold gV at h ⊢
 split
 ·rename_i h1
  exact⟨bs.findIdx p,h1,rfl,List.findIdx_getElem,fun x hx=>by simpa using List.not_of_lt_findIdx hx⟩
 ·rename_i h1;rw[if_neg h1]at h;omega
theorem E3 (qs:List aP) (Qk:qs.length<=1048576) (ps X:List ad) (hl:ps.length<=1048576) (o A:Id) (σ:ar) (ho:σ.get o=some ⟨true,3,(ps++X).map aa⟩) (Rz:σ.get A=some ⟨true,1,[[.sl (qs.map aj)]]⟩) (s4:o.bW<σ.next) (hAv:A.bW<σ.next) (hoA:o≠A):
  Call Tryz.prog 180 [.own o 0 ps.length,.fn 181 [.ptr A 0 0]] σ fun r σ'=>∃J:List ad,r=.own o 0 (eA (pI qs) ps).length/\σ'.get o=some ⟨true,3,(eA (pI qs) ps++J).map aa⟩/\σ.next<=σ'.next/\∀i:Id,i.bW<σ.next->i≠o->σ'.get i=σ.get i:=by
 refine eO eb rfl fun nP=>?_
 clear nP
 have yu:=Ko qs Qk ps hl
 have hzA:∀(g:Rows) (n:Nat),g A=some ⟨true,1,[[.sl (qs.map aj)]]⟩->V.fz (dd g) (n+1+1) (.ptr A 0 0)=some (.cN [.sl (qs.map aj)]):=fun g n hg=>rD (sz:=1) (rows:=[[.sl (qs.map aj)]]) (by simp[dd,hg]) rfl (by simp only[List.drop_zero,ae,ai,bD,Option.map_some])
 have xf:∀(g:Rows),g A=some ⟨true,1,[[.sl (qs.map aj)]]⟩->g o=some ⟨true,3,(ps++X).map aa⟩->cI (dd g) 6 [.own o 0 ps.length,.fn 181 [.ptr A 0 0]]=some [.sl (ps.map aa),.fn 181 [.cN [.sl (qs.map aj)]]]:=fun g h1 h3=>by
  have q1:V.fz (dd g) 6 (.own o 0 ps.length)=some (.sl (ps.map aa)):=by
   rw[gi]
   have:dd g o=some ⟨true,3,(ps++X).map aa⟩:=by simp[dd,h3]
   simp only[this,if_true]
   have h4:((ps++X).map aa).take ps.length=ps.map aa:=by rw[<-List.map_take,List.take_append_of_le_length (Nat.le_refl _),List.take_length]
   rw[if_pos (by simp),List.drop_zero,h4,kd fun x=>by simp only[aa,ae,ai,ay,Option.map_some]];rfl
  have q2:=hzA g 3 h1
  simp only[ae,ai,q1,bZ,List.all_cons,List.all_nil,AV.cell,Bool.and_true,if_true,q2,Option.map_some]
 have kK:∀(g:Rows),g A=some ⟨true,1,[[.sl (qs.map aj)]]⟩->∀b:ad,cI (dd g) 6 [.agg (aa b),.ptr A 0 0]=some [.agg (aa b),.cN [.sl (qs.map aj)]]:=fun g h1 b=>by
  have q2:=hzA g 4 h1
  simp only[ae,ai,aM,aa,ay,q2,Option.map_some]
 have nk:(ps++X).length=ps.length+X.length:=List.length_append
 have nq:∀j,j<=ps.length->(ps++X).take j=ps.take j:=fun j hj=>List.take_append_of_le_length hj
 have oA:∀j (hj:j<ps.length),(ps++X)[j]'(by rw[nk];omega)=ps[j]:=fun j hj=>List.getElem_append_left hj
 (try((repeat(revert hN;revert N;apply Pn.out));refine wk @Nat.zero_add ?_;(repeat(refine Pn.mk ?_;intro N hN))))
 refine .inl ⟨_,ak.x yu (xf _ Rz ho),?_⟩
 refine hN _ _ ?_
 clear hN N
 by_cases h0:0<=gV (pI qs) ps
 ·obtain⟨i,hi,GA,Tr,Fu⟩:=Ck h0
  rw[GA]at *
  have Fq:decide ((i:Int)= -1)=false:=decide_eq_false (by omega)
  have LQ:IntKind.i64.wrap ((i:Int)+1)=((i+1:Nat):Int):=ax (by omega)
  obtain⟨er,sC⟩:=Gw.start (p:=pI qs) (bs:=ps++X) (i:=i) (by rw[nk];omega) (by rw[oA i hi];exact Tr) (fun x hx=>by rw[oA x (by omega)];exact Fu x hx)
  (try((repeat(revert hN;revert N;apply Pn.out));refine wk (tw @Fq @LQ) ?_;(repeat(refine Pn.mk ?_;intro N hN))))
  refine aY (fun m env st=>∃(j:Nat) (R:List ad),m=ps.length-j/\env 6=.int .i64 (j:Int)/\env 5=.int .i64 ((eA (pI qs) (ps.take j)).length:Int)/\st.get o=some ⟨true,3,R.map aa⟩/\Gw (pI qs) (ps++X) j R/\j<=ps.length/\σ.next<=st.next/\∀x:Id,x.bW<σ.next->(x=o)=False->st.get x=σ.get x) (ps.length-(i+1)) ⟨i+1,ps++X,rfl,sd @LQ,by rw[<-nq (i+1) (by omega)];simp only[go_sem, ↓reduceIte,Nat.reduceEqDiff,Nat.reduceAdd,Nat.reduceSub,Nat.reduceLeDiff,reduceCtorEq,sC],sd @ho,er,by omega,by(try dsimp only);omega,fun x _ _=>sd @Nat.zero_add⟩ ?_
  rintro m env_b st_b ⟨j,R,rfl,b6,b5,bg,hD,gC,hle,jY⟩ bfr
  have b0:=bfr 0 (by kernel_rfl)
  have b1:=bfr 1 (by kernel_rfl)
  simp only[go_sem, ↓reduceIte,Nat.reduceEqDiff,Nat.reduceAdd,Nat.reduceSub,Nat.reduceLeDiff,reduceCtorEq]at b0 b1
  clear bfr
  have bA:=(jY A hAv (by simp only[eq_iff_iff,iff_false];exact fun h=>hoA h.symm)).trans Rz
  have mN:=ef (i:=o) (n:=st_b.next) (by omega)
  have hvA:=ef (i:=A) (n:=st_b.next) (by omega)
  have Rp:=hD.len
  rw[nk]at Rp
  have M1:(R.map aa).length=ps.length+X.length:=by rw[List.length_map,Rp]
  have dV:=hD.lt
  by_cases hj:(j:Int)<(ps.length:Int)
  ·have iH:j<ps.length:=by omega
   have S8:j<(ps++X).length:=by omega
   have D9:=hD.at_ S8
   have Kk:=vB qs Qk (ps++X)[j]
   have Kj:IntKind.i64.wrap ((j:Int)+1)=((j+1:Nat):Int):=ax (by omega)
   have PD:=hD.Od S8
   have PE:=hD.rP S8
   rw[nq j (by omega)]at PD PE dV
   rw[nq (j+1) (by omega)]at PD PE
   generalize (ps++X)[j]=b at *
   (try((repeat(revert hN;revert N;apply Pn.out));refine wk (tw @b0 (tw @b1 (tw @b5 (tw @b6 (tw @bg (tw @hj (tw @D9 (tw @aa.eq_1 (tw @mN (tw @hvA @M1)))))))))) ?_;(repeat(refine Pn.mk ?_;intro N hN))))
   refine .inl ⟨_,ak.x Kk (kK _ (sd (tw @hvA @bA)) b),?_⟩
   refine hN _ _ ?_
   clear hN N
   cases hw:pI qs b
   ·obtain⟨MS,MR⟩:=PE hw
    have M6:((eA (pI qs) (ps.take j)).length:Int)<(ps.length:Int):=by omega
    have Qw:IntKind.i64.wrap (((eA (pI qs) (ps.take j)).length:Int)+1)=(((eA (pI qs) (ps.take j)).length+1:Nat):Int):=ax (by omega)
    have eo:(R.map aa).set (eA (pI qs) (ps.take j)).length [.int .i64 b.aW.fE,.int .i64 b.aW.e8,.int .i64 b.aZ]=(R.set (eA (pI qs) (ps.take j)).length b).map aa:=by rw[List.map_set];rfl
    have J4:∃y,(R.map aa)[(eA (pI qs) (ps.take j)).length]? =some (aa y):=⟨R[(eA (pI qs) (ps.take j)).length]'(by omega),by rw[List.getElem?_map,List.getElem?_eq_getElem (by omega)];rfl⟩
    obtain⟨y,J4⟩:=J4
    rw[aa]at J4
    (try((repeat(revert hN;revert N;apply Pn.out));refine wk (tw @b0 (tw @b1 (tw @b5 (tw @b6 (tw @bg (tw @hw (tw @Kj (tw @Qw (tw @M6 (tw @eo (tw @J4 (tw @mN @M1)))))))))))) ?_;(repeat(refine Pn.mk ?_;intro N hN))))
    refine⟨_,?_,j+1,_,rfl,sd @Kj,sd (tw @Qw @MR),sd @eo,MS,by omega,by(try dsimp only);omega,fun x hx yz=>?_⟩
    ·omega
    ·have Jr:=ef (i:=x) (n:=st_b.next) (by omega)
     have:=jY x hx yz
     simp only[go_sem, ↓reduceIte,Nat.reduceEqDiff,Nat.reduceAdd,Nat.reduceSub,Nat.reduceLeDiff,reduceCtorEq,Jr,this,yz]
   ·obtain⟨MS,MR⟩:=PD hw
    (try((repeat(revert hN;revert N;apply Pn.out));refine wk (tw @b0 (tw @b1 (tw @b5 (tw @b6 (tw @hw @Kj))))) ?_;(repeat(refine Pn.mk ?_;intro N hN))))
    refine⟨_,?_,j+1,R,rfl,sd @Kj,sd (tw @b5 @MR),sd (tw @bg @mN),MS,by omega,by(try dsimp only);omega,fun x hx yz=>?_⟩
    ·omega
    ·have Jr:=ef (i:=x) (n:=st_b.next) (by omega)
     have:=jY x hx yz
     simp only[go_sem, ↓reduceIte,Nat.reduceEqDiff,Nat.reduceAdd,Nat.reduceSub,Nat.reduceLeDiff,reduceCtorEq,Jr,this]
  ·have gC:j=ps.length:=by omega
   subst gC
   have oW:=hD.pre
   rw[nq _ (Nat.le_refl _)]at dV oW
   rw[List.take_length]at b5 dV oW
   have M6:((eA (pI qs) ps).length:Int)<=(ps.length:Int):=by omega
   have OL:(eA (pI qs) ps).length<=ps.length:=by omega
   have nR:(eA (pI qs) ps).length+(ps.length-(eA (pI qs) ps).length)=ps.length:=by omega
   have lf:ps.length<=ps.length+X.length:=by omega
   (try((repeat(revert hN;revert N;apply Pn.out));refine wk (tw @b0 (tw @b1 (tw @b5 (tw @b6 (tw @bg (tw @hj (tw @M1 (tw @M6 (tw @OL (tw @nR (tw @lf (tw @Nat.le_refl (tw @Nat.sub_zero (tw @Int.le_refl @mN)))))))))))))) ?_;(repeat(refine Pn.mk ?_;intro N hN))))
   have hm:List.take (eA (pI qs) ps).length (List.map aa R)=(eA (pI qs) ps).map aa:=by rw[<-List.map_take,oW]
   have hz9:∀n:Nat,List.replicate n [AV.int .i64 0,AV.int .i64 0,AV.int .i64 0]=(List.replicate n (⟨⟨0,0⟩,0⟩:ad)).map aa:=fun n=>by rw[List.map_replicate];rfl
   refine fI (.inl rfl) (vs:=[.own o 0 (eA (pI qs) ps).length]) (sd @Nat.zero_add) ⟨List.replicate (ps.length-(eA (pI qs) ps).length) ⟨⟨0,0⟩,0⟩++R.drop ps.length,rfl,?_,by(try dsimp only);omega,fun x hx yz=>?_⟩
   ·simp only[go_sem, ↓reduceIte,Nat.reduceEqDiff,Nat.reduceAdd,Nat.reduceSub,Nat.reduceLeDiff,reduceCtorEq]
    rw[hm,hz9,<-List.map_drop,<-List.map_append,<-List.map_append,List.append_assoc]
   ·have HU:(x=o)=False:=by simp only[eq_iff_iff,iff_false];exact yz
    have:=jY x hx HU
    simp only[go_sem, ↓reduceIte,Nat.reduceEqDiff,Nat.reduceAdd,Nat.reduceSub,Nat.reduceLeDiff,reduceCtorEq,HU,this]
 ·have hn:=Cj h0
  have er:=uD (p:=pI qs) hn
  have hd:decide (gV (pI qs) ps= -1)=true:=decide_eq_true (by
   unfold gV at h0 ⊢
   split
   ·rename_i h;rw[if_pos h]at h0;omega
   ·rfl)
  (try((repeat(revert hN;revert N;apply Pn.out));refine wk @hd ?_;(repeat(refine Pn.mk ?_;intro N hN))))
  refine fI (.inl rfl) (vs:=[.own o 0 ps.length]) (sd @Nat.zero_add) ⟨X,by rw[er];rfl,by rw[er];simp only[go_sem, ↓reduceIte,Nat.reduceEqDiff,Nat.reduceAdd,Nat.reduceSub,Nat.reduceLeDiff,reduceCtorEq,ho],by(try dsimp only);omega,fun x _ _=>rfl⟩
theorem Lr (g:Rows) (n:Nat) (x:ad):dR g (n+1) (aa x)=some (aa x):=by simp[aa,bC,cG,ek]
def Jw (n:Nat) (L:List ad) (r:AV) (σ':ar):Prop:=∃o:Id,r=.agg [.own o 0 L.length]/\σ'.get o=some ⟨true,3,L.map aa⟩/\n<=o.bW/\o.bW<σ'.next
theorem Jw.val {f:Nat} {args eD:List AV} {L:List ad} {σ:ar} (h:∀n,Call Tryz.prog f eD ⟨fun _=>none,n⟩ (Jw n L)) (hv:cI (dd σ.get) 6 args=some eD):Call Tryz.prog f args σ (fun r σ'=>Jw σ.next L r σ'/\Kept σ σ'):=by
 refine tM mixed hv (aE _ _ _ _ _ (fun r σ' hq=>?_) (qZ mixed (h σ.next)))
 obtain⟨⟨o,rfl,h2,h3,h4⟩,hn⟩:=hq
 refine⟨[o],rfl,fun i hi=>?_,⟨o,rfl,(oi (by simp)).trans h2,h3,h4⟩,hn,fun j hj=>lV fun hc=>?_⟩
 ·rw[List.mem_singleton.1 hi]
  exact⟨_,h2,rfl,fun cs di a ha=>by
   obtain⟨x,_,rfl⟩:=List.mem_map.1 di
   simp[aa]at ha
   rcases ha with rfl|rfl|rfl<;>rfl⟩
 ·rw[List.mem_singleton.1 hc]at hj;omega
theorem H0 (l:List ad) (hl:l.length<=1048576) (n0:Nat):Call Tryz.prog 96 [.cN [.sl (l.map aa)]] ⟨fun _=>none,n0⟩ (Jw n0 l):=by
 refine eO eb rfl fun nP=>?_
 clear nP
 have Kb:(l.map aa).length<=16777216:=by simp;omega
 have dH:(l.map aa).all (fun c=>c.length==3&&c.all AV.cell)=true:=all_map fun x=>⟨rfl,rfl⟩
 have Al:(l.map aa).length=l.length:=by simp
 generalize nQ:l.map aa=rows at Kb dH Al
 (try((repeat(revert hN;revert N;apply Pn.out));refine wk (tw @Kb @dH) ?_;(repeat(refine Pn.mk ?_;intro N hN))))
 exact fI (.inl rfl) (vs:=[.agg [.own ⟨96001005,n0+1⟩ 0 rows.length]]) (sd @Nat.zero_add) ⟨⟨96001005,n0+1⟩,by rw[Al];rfl,by rw[nQ];simp only[go_sem, ↓reduceIte,Nat.reduceEqDiff,Nat.reduceAdd,Nat.reduceSub,Nat.reduceLeDiff,reduceCtorEq],by(try dsimp only);omega,by(try dsimp only);omega⟩
theorem wR (ps:List ad) (hp:0<ps.length) (hl:ps.length<=1048576) (σ:ar):
  Call Tryz.prog 166 [.sl (ps.map aa)] σ fun r σ'=>∃o:Id,r=.own o 0 ps.length/\σ'.get o=some ⟨true,3,ps.map aa⟩/\σ.next<=o.bW/\o.bW<σ'.next/\∀i:Id,i.bW<σ.next->σ'.get i=σ.get i:=by
 refine eO eb rfl fun hl=>?_
 clear hl
 have hz:(ps.map aa).all (fun c=>c.length==3&&c.all AV.cell)=true:=all_map fun x=>by simp[aa,AV.cell]
 obtain⟨b,r,rfl⟩:∃b r,ps=b::r:=by
  cases ps with
  |nil=>simp at hp
  |cons b r=>exact⟨b,r,rfl⟩
 have gR:(List.map aa (b::r)).length=(b::r).length:=by simp
 have e1:r.length<=16777215:=by simp at hl;omega
 rw[List.map_cons]at hz gR ⊢
 (try((repeat(revert hN;revert N;apply Pn.out));refine wk (tw @hz (tw @gR @e1)) ?_;(repeat(refine Pn.mk ?_;intro N hN))))
 refine fI (.inl rfl) (vs:=[.own ⟨166003002,σ.next+1+1⟩ 0 (b::r).length]) (by simp only[eX,gM,go_sem, ↓reduceIte,Nat.reduceEqDiff,Nat.reduceAdd,Nat.reduceSub,Nat.reduceLeDiff,reduceCtorEq,List.length_cons]) ⟨⟨166003002,σ.next+1+1⟩,rfl,sd @Nat.zero_add,by(try dsimp only);omega,by(try dsimp only);omega,fun i hi=>?_⟩
 have hv:=ef hi
 simp only[go_sem, ↓reduceIte,Nat.reduceEqDiff,Nat.reduceAdd,Nat.reduceSub,Nat.reduceLeDiff,reduceCtorEq,hv]
def OA (n:Nat) (L:List ad) (r:AV) (σ':ar):Prop:=∃(o:Id) (J:List ad),r=.agg [.own o 0 L.length]/\σ'.get o=some ⟨true,3,(L++J).map aa⟩/\n<=o.bW/\o.bW<σ'.next
theorem OA.val {f:Nat} {args eD:List AV} {L:List ad} {σ:ar} (h:∀n,Call Tryz.prog f eD ⟨fun _=>none,n⟩ (OA n L)) (hv:cI (dd σ.get) 6 args=some eD):Call Tryz.prog f args σ (fun r σ'=>OA σ.next L r σ'/\Kept σ σ'):=by
 refine tM mixed hv (aE _ _ _ _ _ (fun r σ' hq=>?_) (qZ mixed (h σ.next)))
 obtain⟨⟨o,J,rfl,h2,h3,h4⟩,hn⟩:=hq
 refine⟨[o],rfl,fun i hi=>?_,⟨o,J,rfl,(oi (by simp)).trans h2,h3,h4⟩,hn,fun j hj=>lV fun hc=>?_⟩
 ·rw[List.mem_singleton.1 hi]
  exact⟨_,h2,rfl,fun cs di a ha=>by
   obtain⟨x,_,rfl⟩:=List.mem_map.1 di
   simp[aa]at ha
   rcases ha with rfl|rfl|rfl<;>rfl⟩
 ·rw[List.mem_singleton.1 hc]at hj;omega
theorem xJ (a:List ad) (qs:List aP) (h0:0<a.length) (ha:a.length<=1048576) (hq:qs.length<=1048576) (n0:Nat):Call Tryz.prog 111 [.agg [.sl (a.map aa)],.sl (qs.map aj)] ⟨fun _=>none,n0⟩ (OA n0 (eA (pI qs) a)):=by
 refine eO eb rfl fun hl=>?_
 clear hl
 have hc:=fun σ=>wR a h0 ha σ
 (try((repeat(revert hN;revert N;apply Pn.out));refine wk @Nat.zero_add ?_;(repeat(refine Pn.mk ?_;intro N hN))))
 refine .inr (aE _ _ _ _ _ (fun r σ1 xc=>?_) (hc _))
 obtain⟨g1,x1⟩:=σ1
 obtain⟨o,rfl,q1,q2,q3,q4⟩:=xc
 (try dsimp only at q1 q2 q3 q4)
 have kA:=q4 ⟨111000001,n0⟩ (by(try dsimp only);omega)
 have kC:=q4 ⟨111000002,n0⟩ (by(try dsimp only);omega)
 simp only[go_sem, ↓reduceIte,Nat.reduceEqDiff,Nat.reduceAdd,Nat.reduceSub,Nat.reduceLeDiff,reduceCtorEq]at kA kC
 refine hN _ _ ?_
 clear hN N
 (try((repeat(revert hN;revert N;apply Pn.out));refine wk @Nat.zero_add ?_;(repeat(refine Pn.mk ?_;intro N hN))))
 refine .inr (aE _ _ _ _ _ (fun r σ2 l9=>?_) (E3 qs hq a [] ha o ⟨111000001,n0⟩ _ (by rw[List.append_nil];exact q1) kA (by(try dsimp only);omega) (by(try dsimp only);omega) (fun e=>by first|(rw[e]at q2;(try dsimp only at q2);omega)|(rw[<-e]at q2;(try dsimp only at q2);omega))))
 obtain⟨g2,x2⟩:=σ2
 obtain⟨J,rfl,u1,u4,u5⟩:=l9
 (try dsimp only at u1 u4 u5)
 have kC2:=(u5 ⟨111000002,n0⟩ (by(try dsimp only);omega) (fun e=>by first|(rw[e]at q2;(try dsimp only at q2);omega)|(rw[<-e]at q2;(try dsimp only at q2);omega))).trans kC
 refine hN _ _ ?_
 clear hN N
 (try((repeat(revert hN;revert N;apply Pn.out));refine wk @kC2 ?_;(repeat(refine Pn.mk ?_;intro N hN))))
 have oc:(o=(⟨111000002,n0⟩:Id))=False:=eq_false fun e=>by rw[e]at q2;(try dsimp only at q2);omega
 exact fI (.inl rfl) (vs:=[.agg [.own o 0 (eA (pI qs) a).length]]) (sd @Nat.zero_add) ⟨o,J,rfl,sd (tw @oc @u1),by omega,by(try dsimp only);omega⟩
theorem yX {g:Rows} {X o:Id} {L:List ad} (hX:g X=some ⟨true,1,[[.own o 0 L.length]]⟩) (ho:g o=some ⟨true,3,L.map aa⟩):fz (dd g) 6 (.ptr X 0 0)=some (.cN [.sl (L.map aa)]):=by
 have h1:fz (dd g) 5 (.own o 0 L.length)=some (.sl (L.map aa)):=gx (e:=aa) (sz:=3) (by simp[dd,ho]) rfl fun x=>by simp[aa,ae,ai,ay]
 exact rD (n:=5) (sz:=1) (rows:=[[.own o 0 L.length]]) (cs:=[.own o 0 L.length]) (by simp[dd,hX]) rfl (by simp[ae,ai,h1])
def InL (X:Id) (st:BO) (e7:AV) (g:Rows) (n:Nat):Prop:=∃o u:Id,g X=some ⟨true,1,[[.own o 0 st.2.length]]⟩/\g o=some ⟨true,3,st.2.map aa⟩/\e7=.own u 0 st.1.length/\g u=some ⟨true,3,st.1.map aa⟩/\o.bW<u.bW/\X.bW<u.bW/\u.bW<n/\o≠X
theorem F3 (q:ad):∀l:List ad,(l++[q]).Perm (qC l q)
 |[]=>List.Perm.refl _
 |x::l=>by
  have ih:=F3 q l
  rw[qC]
  split
  ·exact List.perm_append_comm (l₁:=x::l) (l₂:=[q])
  ·exact ih.cons x
structure SameT (s:aU) (S:BO):Prop where
 at_:∀q,iE (s.bf.ah++S.1) q=iE S.2 q
 perm:(s.bf.ah++S.1).Perm S.2
structure InR (σ:ar) (m:Nat) (c T O:Id) (s:aU) (l:List ad) (S:BO) (e7:AV) (g:Rows) (n:Nat):Prop where
 cry:R0 g n c T O s (s.bf.ah++S.1)
 u:(S.1=[]/\e7=.bP)∨∃u:Id,e7=.own u 0 S.1.length/\g u=some ⟨true,3,S.1.map aa⟩/\m<=u.bW/\u.bW<n/\0<S.1.length
 lo:m<=n
 fr:∀x:Id,x.bW<m->x≠T->x≠O->x≠c->g x=σ.get x
theorem xx {s:aU} {l:List ad}:iM s l=0↔BT s/\gN s.aV l/\jI s.bf.ah l=true:=by
 unfold iM
 cases b:p4 s l
 ·simp;intro h1 h2;exact absurd (p7.2 ⟨h1,h2⟩) (by rw[b];simp)
 ·obtain⟨h1,h2⟩:=p7.1 b
  cases jI s.bf.ah l<;>simp[h1,h2]
structure Wr2 (g:Rows) (n:Nat) (A S C c T O:Id) (s:aU) (l:List ad):Prop where
 a:∃b,g A=some ⟨b,1,[[.sl (l.map aa)]]⟩
 sy:∃b,g S=some ⟨b,4,[ao s]⟩
 p:∃b,g C=some ⟨b,1,[[.ptr c 0 0]]⟩
 cry:Cry g n c T O s l
 av:A.bW<n
 sv:S.bW<n
 pv:C.bW<n
end Go.Proofs.YtgoljkjaameagaaGreat.V

namespace Go.Proofs.YtgoljkjaameagaaGreat.V
open Go.RowKit Go.Shelf
attribute [local go_sem] Oper.semAt_some
structure oO (W:World) (v:Value) (l:List ad):Prop where
 sl:∃A c,v=.slice A l.length c/\(l.length<=c/\c<=maxLen)/\(l=[]∨∃b o,A=some ⟨b,o,none⟩/\∀i,i<l.length->W.cell? ⟨b,o+(i*3+0),none⟩=some (.int .i64 (bc l i).aW.fE)/\W.cell? ⟨b,o+(i*3+1),none⟩=some (.int .i64 (bc l i).aW.e8)/\W.cell? ⟨b,o+(i*3+2),none⟩=some (.int .i64 (bc l i).aZ))
structure GK (K:World->World->Prop) (v:Value) (l:List ad):Prop where
 refl:∀W,K W W
 trans:∀{A B C:World},K A B->K B C->K A C
 of:∀{W W':World},Below W.heap.size W W'->K W W'
 size:∀{W W':World},K W W'->W.heap.size<=W'.heap.size
 typed:∀{W W':World},K W W'->∀(b:Nat) (cells:Array Value) (T:TypeId) (fr:Nat×Nat),W.heap[b]? =some (Obj.cells cells T fr)->T≠179->T≠254->W'.heap[b]? =W.heap[b]?
 pl:∀{W W':World},K W W'->oO W v l->oO W' v l
theorem td {W:World} {b x:Nat} {v:Value} (h:W.cell? ⟨b,x,none⟩=some v):b<W.heap.size:=by
 rcases Nat.lt_or_ge b W.heap.size with h1|h1
 ·exact h1
 ·simp[World.cell?,Array.getElem?_eq_none h1]at h
theorem oO.below {W W':World} {v:Value} {l:List ad} (h:oO W v l) (k:Below W.heap.size W W'):oO W' v l:=by
 obtain⟨A,c,rfl,hm,hc⟩:=h.sl
 refine⟨A,c,rfl,hm,?_⟩
 rcases hc with h0|⟨b,o,rfl,j0⟩
 ·exact .inl h0
 ·refine .inr ⟨b,o,rfl,fun i hi=>?_⟩
  obtain⟨h1,h2,h3⟩:=j0 i hi
  have hb:=td h1
  exact⟨(k.cell (p:=⟨b,_,none⟩) hb).trans h1,(k.cell (p:=⟨b,_,none⟩) hb).trans h2,(k.cell (p:=⟨b,_,none⟩) hb).trans h3⟩
theorem oO.eH {P:Program} {W:World} {v:Value} {l:List ad} (h:oO W v l):jK P W (fun b=>b<W.heap.size) (.sl (l.map aa)) v:=by
 obtain⟨A,c,rfl,hm,hc⟩:=h.sl
 rcases hc with rfl|⟨b,o,rfl,j0⟩
 ·exact .BI A c (by simpa using hm.2)
 by_cases RF:l=[]
 ·subst RF;exact .BI _ c (by simpa using hm.2)
 ·have jZ:0<l.length:=List.length_pos_iff.2 RF
  have hb:=td (j0 0 jZ).1
  refine .sl (l.map aa) b o l.length c 3 (fun i j=>if j=0 then .int .i64 (bc l i).aW.fE else if j=1 then .int .i64 (bc l i).aW.e8 else .int .i64 (bc l i).aZ) (by simp) hm.1 hm.2 hb (fun cs di=>?_) (fun cs di a ha=>?_) (fun i j hi hj=>?_) (fun i j cs a hi hj=>?_)
  ·obtain⟨x,_,rfl⟩:=List.mem_map.1 di;rfl
  ·obtain⟨x,_,rfl⟩:=List.mem_map.1 di
   simp[aa]at ha
   rcases ha with rfl|rfl|rfl<;>rfl
  ·obtain⟨h1,h2,h3⟩:=j0 i hi
   match j,hj with
   |0,_=>exact h1
   |1,_=>exact h2
   |2,_=>exact h3
   |j+3,hj=>omega
  ·have o7:i<l.length:=by have:=(List.getElem?_eq_some_iff.1 hi).1;simpa using this
   rw[fH o7]at hi
   injection hi with hi
   subst hi
   match j,hj with
   |0,hj=>simp[aa]at hj;subst hj;exact .int _ _
   |1,hj=>simp[aa]at hj;subst hj;exact .int _ _
   |2,hj=>simp[aa]at hj;subst hj;exact .int _ _
   |j+3,hj=>simp[aa]at hj
theorem zM {P:Program} (hm:P.follows .mixedOrders=true) {f:Nat} {args:List AV} {vs:Array Value} {w:World} {r:AV} (h:ak P f args r) (hr:∀g r0,ga g 6 r0=some r->r0=r) (hA:eZ P w (fun b=>b<w.heap.size) (fun _=>none) args vs):
  Calls P f vs w fun e w'=>∃D ι u,e=.returned u/\cV P w' D ι r u/\Below w.heap.size w w':=by
 have hs:=gP hm (h 0) w.heap.size (fun b=>b<w.heap.size) (fun _=>none) w vs ⟨Nat.le_refl _,fun _ h=>h,fun id r h=>(by cases h),fun id ki r r' B B' h=>(by cases h)⟩ (fun id h=>absurd rfl h) hA
 refine hs.mono ?_
 rintro e w' ⟨r0,g',n',D',ι',u,rfl,⟨r',hz,rfl⟩,er,hsim,_,_,gH⟩
 have:=hr _ _ hz
 subst this
 exact⟨D',ι',u,rfl,gH,er.below⟩
theorem nN {g:Rows} {n:Nat} {a:AV} {k:IntKind} {m:Int} (h:ga g (n+1) a=some (.int k m)):a=.int k m:=by
 cases a<;>rw[ga]at h<;>simp_all
 all_goals (repeat' (split at h))<;>simp_all
theorem Cp {g:Rows} {a:AV} {x y:Int} (h:ga g 6 a=some (.agg [.int .i64 x,.int .i64 y])):a=.agg [.int .i64 x,.int .i64 y]:=by
 cases a with
 |agg cs=>
  rw[yf]at h
  simp only[Option.map_eq_some_iff,AV.agg.injEq,exists_eq_right]at h
  match cs,h with
  |[],h=>rw[cG]at h;simp at h
  |[a],h=>
   rw[bC,cG]at h
   cases ha:ga g 5 a<;>simp[ha]at h
  |[a,b],h=>
   rw[bC,bC,cG]at h
   cases ha:ga g 5 a<;>cases hb:ga g 5 b<;>simp[ha,hb]at h
   obtain⟨rfl,rfl⟩:=h
   rw[nN ha,nN hb]
  |a::b::c::r,h=>
   rw[bC,bC,bC]at h
   cases ha:ga g 5 a<;>cases hb:ga g 5 b<;>cases hc:ga g 5 c<;>cases hd:dR g 5 r<;>simp[ha,hb,hc,hd]at h
 |_=>rw[ga]at h<;>simp_all<;>(repeat' (split at h))<;>simp_all
theorem Dm (W:World) (p:aP) (d:Int) (hd:iI d 0 3=true) (hx:iB p.fE) (hy:iB p.e8):Calls Tryz.prog 228 #[.agg #[.int .i64 p.fE,.int .i64 p.e8],.int .i64 d] W fun e W'=>e=.returned (.agg #[.int .i64 (dM p d).fE,.int .i64 (dM p d).e8])/\Below W.heap.size W W':=by
 refine(zM mixed (IG p d hd hx hy) (fun g r0 h=>Cp h) ?_:Calls _ _ _ _ _).mono ?_
 ·exact lP (vs:= #[.int .i64 d]) (.agg _ _ (fun j=>if j=0 then .int .i64 p.fE else .int .i64 p.e8) rfl (fun a ha=>by simp[aj]at ha;rcases ha with rfl|rfl<;>rfl) (fun j hj=>by match j,hj with|0,_=>rfl|1,_=>rfl|j+2,hj=>simp[aj]at hj;omega) (fun j a ha=>by match j,ha with|0,ha=>simp[aj]at ha;subst ha;exact .int _ _|1,ha=>simp[aj]at ha;subst ha;exact .int _ _|j+2,ha=>simp[aj]at ha)) (lP (vs:= #[]) (.int _ _) uR)
 ·rintro e W' ⟨D,ι,u,rfl,hr,hB⟩
  refine⟨?_,hB⟩
  obtain⟨vs,f,rfl,fb,_,h1,h2⟩:=iA hr
  have v0:=h1 0 (by simp[aj])
  have v1:=h1 1 (by simp[aj])
  rw[dh (h2 0 _ rfl)]at v0
  rw[dh (h2 1 _ rfl)]at v1
  obtain⟨vl⟩:=vs
  match vl,fb with
  |[a,b],_=>
   simp at v0 v1
   rw[v0,v1]
theorem wm (W:World) (l:List ad) (v:Value) (hP:oO W v l) (p:aP) (hR:ji l) (Fg:l.length<=1048576):Calls Tryz.prog 303 #[.agg #[v],.agg #[.int .i64 p.fE,.int .i64 p.e8]] W fun e W'=>e=.returned (.int .i64 (eG l p))/\Below W.heap.size W W':=by
 refine(zM mixed (F0 l p hR Fg) (fun g r0 h=>nN h) ?_:Calls _ _ _ _ _).mono ?_
 ·exact lP (vs:= #[.agg #[.int .i64 p.fE,.int .i64 p.e8]]) (.agg _ _ (fun _=>v) rfl (fun a ha=>by simp at ha;rw[ha];rfl) (fun j hj=>by match j,hj with|0,_=>rfl|j+1,hj=>simp at hj) (fun j a ha=>by match j,ha with|0,ha=>simp at ha;subst ha;exact hP.eH|j+1,ha=>simp at ha)) (lP (vs:= #[]) (.agg _ _ (fun j=>if j=0 then .int .i64 p.fE else .int .i64 p.e8) rfl (fun a ha=>by simp[aj]at ha;rcases ha with rfl|rfl<;>rfl) (fun j hj=>by match j,hj with|0,_=>rfl|1,_=>rfl|j+2,hj=>simp[aj]at hj;omega) (fun j a ha=>by match j,ha with|0,ha=>simp[aj]at ha;subst ha;exact .int _ _|1,ha=>simp[aj]at ha;subst ha;exact .int _ _|j+2,ha=>simp[aj]at ha)) uR)
 ·rintro e W' ⟨D,ι,u,rfl,hr,hB⟩
  exact⟨by rw[dh hr],hB⟩
theorem grown_of {W W':World} (h:Below W.heap.size W W'):W.grownBy W' none:=⟨h.os,h.tape,h.output,h.size,fun k hk _=>h.block k hk⟩
def AY (l:List ad) (i:Nat) (d:Int):List (Nat×Nat×Int):=if 0<=eG l (dM (bc l i).aW d)then[(i,(eG l (dM (bc l i).aW d)).toNat,d)]else[]
def ko (l:List ad) (i m:Nat):List (Nat×Nat×Int):=(List.range m).flatMap fun j:Nat=>AY l i (1-(j:Int))
def kP (l:List ad) (n:Nat):List (Nat×Nat×Int):=(List.range n).flatMap fun i=>ko l i 2
theorem lO (l:List ad) (n:Nat):kP l (n+1)=kP l n++ko l n 2:=by simp[kP,List.range_succ]
theorem mj (l:List ad) (i m:Nat):ko l i (m+1)=ko l i m++AY l i (1-(m:Int)):=by simp[ko,List.range_succ]
theorem NP (l:List ad) {k m:Nat} (hk:k<l.length) (hm:m<=2):kP l k++ko l k m <+:kP l l.length:=by
 have h1:∀d,kP l k <+:kP l (k+d):=fun d=>by
  induction d with
  |zero=>exact List.prefix_refl _
  |succ d ih=>rw[<-Nat.add_assoc,lO l (k+d)];exact ih.trans (List.prefix_append _ _)
 have h2:∀d,kP l (k+1) <+:kP l (k+1+d):=fun d=>by
  induction d with
  |zero=>exact List.prefix_refl _
  |succ d ih=>rw[<-Nat.add_assoc,lO l (k+1+d)];exact ih.trans (List.prefix_append _ _)
 have h3:=h2 (l.length-(k+1))
 rw[show k+1+(l.length-(k+1))=l.length by omega,lO]at h3
 refine List.IsPrefix.trans ?_ h3
 have h4:ko l k m <+:ko l k 2:=by
  have:m=0∨m=1∨m=2:=by omega
  rcases this with rfl|rfl|rfl
  ·exact List.nil_prefix
  ·rw[mj l k 1];exact List.prefix_append _ _
  ·exact List.prefix_refl _
 exact(List.prefix_append_right_inj _).2 h4
def O7 (l:List ad) (x:Nat×Nat×Int):Prop:=x.1<l.length/\x.2.1<l.length/\(0<=x.2.2/\x.2.2<=1)
def DT (x:Nat×Nat×Int):Array Value:= #[.agg #[.int .i64 (x.1:Int),.int .i64 (x.2.1:Int)],.int .i64 x.2.2]
theorem Kn (l:List ad) (p:aP) (h:0<l.length:=by omega):eG l p<(l.length:Int):=by
 unfold eG
 split<;>omega
theorem QJ (l:List ad) (hA:jm l) (q Ba:Nat) (vS:Value) (K:World->World->Prop) (kl:GK K vS l) (J Jx:List (Nat×Nat×Int)->World->Prop) (n:Nat) (hn:1<=n)
  (hY:∀pre x W,J pre W->pre.length<(kP l l.length).length->O7 l x->YieldAt Fence.wide (n-1) Tryz.prog q (DT x) W fun e W'=>
   (e=.returned (.bool true)/\J (pre++[x]) W'/\K W W')∨(e=.returned (.bool false)/\Jx (pre++[x]) W'))
  (W:World) (hJ:AbidesFrom W.heap.size J) (MO:W.heap[Ba]? =some (.cells #[vS] 42 (0,0))) (hP:oO W vS l) (h0:J [] W):
  CallsIn Fence.wide n Tryz.prog 302 #[.func (.yield q) #[] #[],.pointer (some ⟨Ba,0,none⟩)] W fun e W'=>(∃v,e=.returned v)/\
   ((∃ys,ys=kP l l.length/\J ys W')∨(∃pre,pre <+:kP l l.length/\Jx pre W')):=by
 obtain⟨A,cp,rfl,_,_⟩:=hP.sl
 refine callsIn_of_wp Tryz.func302 rfl trivial ?_ rfl
 simp only[Tryz.ntmps302,List.size_toArray,List.length_cons,List.length_nil,Nat.reduceAdd,Nat.reduceSub,Array.replicate_succ,Array.replicate_zero,List.push_toArray,List.append_toArray,List.nil_append,List.cons_append]
 have jr:W.cell? ⟨Ba,0,none⟩=some (.slice A l.length cp):=by simp[World.cell?,MO]
 gi_wp2
 gi_loopw [11] (fun i wr=>∃k:Nat,k<=l.length/\i=.int .i64 k/\J (kP l k) wr/\K W wr)
  (fun i _=>l.length-(intOf i).toNat)
 case atStart=>exact⟨0,Nat.zero_le _,rfl,h0,kl.refl _⟩
 case round=>
  obtain⟨k,hk,rfl,hJs,hKt⟩:=hrel
  by_cases dV:k<l.length
  ·have di:∃b o,A=some ⟨b,o,none⟩/\wr.cell? ⟨b,o+k*3,none⟩=some (.int .i64 (bc l k).aW.fE)/\wr.cell? ⟨b,o+k*3+1,none⟩=some (.int .i64 (bc l k).aW.e8)/\wr.cell? ⟨b,o+k*3+2,none⟩=some (.int .i64 (bc l k).aZ):=by
    obtain⟨A',c',hv,_,hc⟩:=(kl.pl hKt hP).sl
    cases hv
    rcases hc with rfl|⟨b,o,rfl,j0⟩
    ·simp at dV
    ·obtain⟨h1,h2,h3⟩:=j0 k dV
     exact⟨b,o,rfl,by simpa using h1,by rw[Nat.add_assoc];exact h2,by rw[Nat.add_assoc];exact h3⟩
   obtain⟨b,o,rfl,hx,hy',ht⟩:=di
   gi_wp2
   obtain⟨W2,PL⟩:∃W2,(wr.alloc (.cells #[.int .i64 (bc l k).aW.fE,.int .i64 (bc l k).aW.e8,.int .i64 (bc l k).aZ] 171)).alloc (.cells #[.int .i64 1,.int .i64 0] 2)=W2:=⟨_,rfl⟩
   have oU:Below wr.heap.size wr W2:=by rw[<-PL];exact((Below.refl _ wr).alloc (Nat.le_refl _) _).alloc (by simp) _
   have SE:W2.heap[wr.heap.size]? =some (.cells #[.int .i64 (bc l k).aW.fE,.int .i64 (bc l k).aW.e8,.int .i64 (bc l k).aZ] 171 (0,0)):=by
    rw[<-PL,Below.heap_alloc _ _ _ (by simp)];exact World.alloc_heap_new _ _
   have SD:W2.heap[wr.heap.size+1]? =some (.cells #[.int .i64 1,.int .i64 0] 2 (0,0)):=by
    have:=World.alloc_heap_new (wr.alloc (.cells #[.int .i64 (bc l k).aW.fE,.int .i64 (bc l k).aW.e8,.int .i64 (bc l k).aZ] 171)) (.cells #[.int .i64 1,.int .i64 0] 2)
    rw[World.size_alloc]at this
    rw[<-PL];exact this
   have tp:K W W2:=kl.trans hKt (kl.of oU)
   have hJ2:J (kP l k++ko l k 0) W2:=by
    have:=hJ _ _ _ none hJs (grown_of oU) (fun r h=>by cases h)
    simpa[ko]using this
   rw[PL]
   clear PL
   generalize wr=w1 at *
   gi_loopw [18] (fun j wr=>∃m:Nat,m<=2/\j=.int .i64 m/\J (kP l k++ko l k m) wr/\K W2 wr)
    (fun j _=>2-(intOf j).toNat)
   case atStart=>exact⟨0,by omega,rfl,hJ2,kl.refl _⟩
   case round=>
    obtain⟨m,hm,rfl,hJm,Lt⟩:=hrel
    have hm0:m=0∨m=1∨m=2:=by omega
    by_cases LH:m<2
    ·have hkd:=kl.typed Lt _ _ _ _ SD (by decide) (by decide)
     have J8:=kl.typed Lt _ _ _ _ SE (by decide) (by decide)
     have hka:=kl.typed (kl.trans tp Lt) _ _ _ _ MO (by decide) (by decide)
     have cd:wr.cell? ⟨w1.heap.size+1,m,none⟩=some (.int .i64 (1-(m:Int))):=by
      rw[World.cell?_of_block hkd]
      rcases hm0 with rfl|rfl|rfl
      ·simp[World.cell?,SD]
      ·simp[World.cell?,SD]
      ·omega
     have ct0:wr.cell? ⟨w1.heap.size,0,none⟩=some (.int .i64 (bc l k).aW.fE):=by rw[World.cell?_of_block J8];simp[World.cell?,SE]
     have ct1:wr.cell? ⟨w1.heap.size,1,none⟩=some (.int .i64 (bc l k).aW.e8):=by rw[World.cell?_of_block J8];simp[World.cell?,SE]
     have ca:wr.cell? ⟨Ba,0,none⟩=some (.slice (some ⟨b,o,none⟩) l.length cp):=by rw[World.cell?_of_block hka];simp[World.cell?,MO]
     have hPw:oO wr (.slice (some ⟨b,o,none⟩) l.length cp) l:=kl.pl (kl.trans tp Lt) hP
     have hba:Ba<wr.heap.size:=by
      have h1:=(Array.getElem?_eq_some_iff.1 MO).1
      have h2:=kl.size (kl.trans tp Lt)
      omega
     have hdm:iI (1-(m:Int)) 0 3=true:=mh (by omega)
     have hpb:=yW (hA.pt dV)
     have OY:=fun w0=>Dm w0 (bc l k).aW (1-(m:Int)) hdm hpb.1 hpb.2
     have hPd:oO wr.drew (.slice (some ⟨b,o,none⟩) l.length cp) l:=hPw.below ⟨rfl,rfl,rfl,Nat.le_refl _,fun _ _=>rfl⟩
     have cad:wr.drew.cell? ⟨Ba,0,none⟩=some (.slice (some ⟨b,o,none⟩) l.length cp):=ca
     have ctd0:wr.drew.cell? ⟨w1.heap.size,0,none⟩=some (.int .i64 (bc l k).aW.fE):=ct0
     have ctd1:wr.drew.cell? ⟨w1.heap.size,1,none⟩=some (.int .i64 (bc l k).aW.e8):=ct1
     have PZ:=hA.sU
     have Qa:=hA.zz
     have Tf:=mixed
     gi_wp2
     gi_region_with_o (first|(refine⟨trivial,?_⟩;gi_at_call 228;refine(callsIn_wide.2 (OY _)).mono ?_;rintro e w3 ⟨rfl,Ah⟩;have ca3:=(Ah.cell (p:=⟨Ba,0,none⟩) hba).trans cad)|(refine⟨trivial,?_⟩;gi_at_call 303;refine(callsIn_wide.2 (wm _ l _ (hPd.below Ah) (dM (bc l k).aW (1-(m:Int))) Qa (by omega))).mono ?_;rintro e w4 ⟨rfl,hB4⟩))
     all_goals
      have MN:Below wr.heap.size wr w4:=(show Below wr.heap.size wr wr.drew from⟨rfl,rfl,rfl,Nat.le_refl _,fun _ _=>rfl⟩).trans (Ah.trans (hB4.mono Ah.size))
      have hJ4:J (kP l k++ko l k m) w4:=hJ _ _ _ none hJm (grown_of MN) (fun r h=>by cases h)
      have oW:=NP l dV (m:=m+1) (by omega)
      rw[mj,<-List.append_assoc]at oW
      have vG:=mj l k m
      have hw:wrap64 ((m:Int)+1)=((m+1:Nat):Int):=by unfold wrap64;omega
      by_cases yp:0<=eG l (dM (bc l k).aW (1-(m:Int)))
      ·have fJ:((eG l (dM (bc l k).aW (1-(m:Int)))).toNat:Int)=eG l (dM (bc l k).aW (1-(m:Int))):=by omega
       rw[AY,if_pos yp]at oW vG
       obtain⟨fn,tmps,assign,body,hy,hR⟩:=hY _ (k,(eG l (dM (bc l k).aW (1-(m:Int)))).toNat,1-(m:Int)) w4 hJ4 (by
        have:=oW.length_le
        simp only[List.length_append,List.length_cons,List.length_nil]at this ⊢
        omega) ⟨dV,by
        have:eG l (dM (bc l k).aW (1-(m:Int)))<(l.length:Int):=Kn _ _
        show(eG l (dM (bc l k).aW (1-(m:Int)))).toNat<l.length
        omega,by show 0<=1-(m:Int);omega,by show 1-(m:Int)<=1;omega⟩
       simp only[DT,fJ]at hy
       gi_wp2
       refine hR.mono ?_
       rintro e W3 (⟨rfl,hJ3,S9⟩|⟨rfl,hJx3⟩)
       ·gi_wp2
        go_roundw
        case rel=>exact⟨m+1,by omega,by simp,by rw[vG,<-List.append_assoc];exact hJ3,kl.trans (kl.trans Lt (kl.of MN)) S9⟩
        case measure=>simp[intOf];omega
       ·gi_wp2
        refine bodyPost_ret (results_none rfl _ _ _) rfl ?_
        exact⟨⟨_,rfl⟩,.inr ⟨_,oW,hJx3⟩⟩
      ·rw[AY,if_neg yp,List.append_nil]at vG
       gi_wp2
       refine⟨fun _ h=>(by cases h),?_⟩
       gi_wp2
       go_roundw
       case rel=>exact⟨m+1,by omega,by simp,by rw[vG];exact hJ4,kl.trans Lt (kl.of MN)⟩
       case measure=>simp[intOf];omega
    ·obtain rfl:m=2:=by omega
     have PZ:=hA.sU
     gi_wp2
     go_roundw
     case rel=>exact⟨k+1,by omega,by simp,by rw[lO];exact hJm,kl.trans tp Lt⟩
     case measure=>simp[intOf];omega
  ·obtain rfl:k=l.length:=by omega
   gi_wp2
   go_end0
   exact⟨⟨_,rfl⟩,.inl ⟨_,rfl,hJs⟩⟩
theorem yR (n:Nat) (vS:Value) (w:World):CallsIn Fence.wide n Tryz.prog 260 #[.agg #[vS]] w fun e w'=>e=.returned (.func (.func 302) #[] #[.pointer (some ⟨w.heap.size,0,none⟩)])/\w'=w.alloc (.cells #[vS] 42):=by
 refine callsIn_of_wp Tryz.func260 rfl trivial ?_ rfl
 simp only[Tryz.ntmps260,List.size_toArray,List.length_cons,List.length_nil,Nat.reduceAdd,Nat.reduceSub,Array.replicate_succ,Array.replicate_zero,List.push_toArray,List.append_toArray,List.nil_append,List.cons_append]
 gi_wp2
 go_ret
 exact⟨rfl,rfl⟩
abbrev Mc (l:List ad):Type:={x:Nat×Nat×Int // O7 l x}
theorem Ih (l:List ad) (hA:jm l) (Ba n:Nat) (hn:1<=n) (vS:Value) (K:World->World->Prop) (kl:GK K vS l) (w:World) (MO:w.heap[Ba]? =some (.cells #[vS] 42 (0,0))) (hP:oO w vS l):
  SeqStopsK Fence.wide n Tryz.prog 302 #[.pointer (some ⟨Ba,0,none⟩)] (fun x:Mc l=>DT x.1) K (fun ys=>ys.map (·.1)=kP l l.length) (fun _=>True) (kP l l.length).length w:=fun q J Jx W hW hJ _ hY h0=>by
 refine(QJ l hA q Ba vS K kl (fun ys W=>∃zs:List (Mc l),zs.map (·.1)=ys/\J zs W) (fun ys W=>∃zs:List (Mc l),zs.map (·.1)=ys/\Jx zs W) n hn (fun pre x W1 hJ1 dV qo=>?_) W (fun s A B row ⟨zs,e,h⟩ hg hr=>⟨zs,e,hJ zs A B row h hg hr⟩) ((hW.block Ba (Array.getElem?_eq_some_iff.1 MO).1).trans MO) (hP.below hW) ⟨[],rfl,h0⟩).mono ?_
 ·obtain⟨zs,rfl,h1⟩:=hJ1
  refine YieldAt.mono (hY zs ⟨x,qo⟩ W1 h1 (by simpa using dV)) ?_
  rintro e W' (⟨h2,h3,h4⟩|⟨h2,h3⟩)
  ·exact .inl ⟨h2,⟨zs++[⟨x,qo⟩],by simp,h3⟩,h4⟩
  ·exact .inr ⟨h2,⟨zs++[⟨x,qo⟩],by simp,h3⟩⟩
 ·rintro e W' ⟨h1,⟨ys,rfl,zs,h2,h3⟩|⟨pre,_,zs,h2,h3⟩⟩
  ·exact⟨h1,.inl ⟨zs,h2,h3⟩⟩
  ·exact⟨h1,.inr ⟨zs,trivial,h3⟩⟩
def xR (s:aq) (l:List ad) (x:Nat×Nat×Int):List PB:=if 0<gD s (bc l x.1).aZ x.2.2 (bc l x.2.1).aZ then[⟨x.1,x.2.1,gD s (bc l x.1).aZ x.2.2 (bc l x.2.1).aZ⟩]else[]
theorem G6 (s:aq) (l:List ad):cL s l=(kP l l.length).flatMap (xR s l):=by
 have h1:∀i d,l7 s l i d=(AY l i d).flatMap (xR s l):=fun i d=>by
  unfold l7 AY
  by_cases h:0<=eG l (dM (bc l i).aW d)
  ·rw[if_pos h]
   simp only[List.flatMap_cons,List.flatMap_nil,List.append_nil,xR]
   by_cases h2:0<gD s (bc l i).aZ d (bc l (eG l (dM (bc l i).aW d)).toNat).aZ
   ·rw[if_pos ⟨h,h2⟩,if_pos h2]
   ·rw[if_neg fun hc=>h2 hc.2,if_neg h2]
  ·rw[if_neg h,if_neg fun hc=>h hc.1];rfl
 unfold cL gu kP
 rw[List.flatMap_assoc]
 congr 1
 funext i
 unfold fU ko
 rw[List.flatMap_assoc]
 congr 1
 funext j
 exact h1 i _
end Go.Proofs.YtgoljkjaameagaaGreat.V

namespace Go.Proofs.YtgoljkjaameagaaGreat.V
open Go.RowKit
attribute [local irreducible] dL wpOps fu Call
attribute [local go_sem] az eQ ec eY eW cJ upd bJ K.av b4 AV.cells AV.cell rowOf rowsOf part ld rowAt bH bG cX dr fR bo cE dD e6 eF cQ dx cC cz db dc br aJ ck bq cq cm dv dy dw cj bx cD dt bp aA cu bQ fQ bd bY bt aH cW aX cY AV.undef bj bl de dn da dj bV dC dE bK dB dz cr cw List.getD_cons_zero List.getD_cons_succ List.getD_nil List.all_cons List.all_nil Bool.and_true Bool.true_and Bool.and_self Bool.not_true Bool.not_false Option.map_some Option.map_none Option.bind_some Option.bind_none List.length_cons List.length_nil List.take_succ_cons List.take_zero List.take_nil List.drop_succ_cons List.drop_zero List.drop_nil List.head?_cons List.map_cons List.map_nil List.getElem?_cons_zero List.getElem?_cons_succ List.cons_append List.nil_append List.append_nil List.length_map List.set_cons_zero List.set_cons_succ Nat.reduceMul eq_self Int.toNat_natCast Int.natCast_nonneg and_self true_and and_true decide_true decide_false Bool.false_eq_true Nat.zero_add Nat.add_zero List.contains_cons List.contains_nil Bool.or_false Bool.false_or beq_self_eq_true Nat.reduceBEq ne_eq not_true_eq_false not_false_eq_true Id.mk.injEq false_and and_false Nat.reduceLT Int.reduceLE Int.reduceLT Int.reduceToNat Int.reduceNeg Int.reduceAdd Nat.le_refl List.length_append beq_true beq_false Bool.not_eq_eq_eq_not or_false false_or dd ae ai ay bh bD aG aM aD aL bZ bm
def zb (bs:List PB):AV:=if bs=[]then .bP else .sl (bs.map aw)
theorem K2:zb []=.bP:=rfl
theorem zd {bs:List PB} (h:0<bs.length):zb bs=.sl (bs.map aw):=by
 unfold zb
 rw[if_neg (by rintro rfl;simp at h)]
theorem vP (cnt:Nat) (rK:1<=cnt) (hn:cnt<=1048576) (bs:List PB) (hb:∀b∈bs,b.a<cnt/\b.b<cnt) (hp:0<bs.length) (nk:bs.length<=1048576) (t:Int):ak Tryz.prog 287 [.int .i64 cnt,.sl (bs.map aw),.int .i64 t] (.ij [.int .i64 (leads cnt (ei (aI t bs))).length,zb (dm (ei (aI t bs)) bs)]):=by
 refine ak.body eb rfl fun hl n0=>?_
 clear hl
 (try((repeat(revert hN;revert N;apply Pn.out));refine wk @Nat.zero_add ?_;(repeat(refine Pn.mk ?_;intro N hN))))
 refine .inr (aE _ _ _ _ _ (fun r σ1 hq=>?_) (G9 bs hp nk _))
 obtain⟨o,rfl,ho,Ke,Kf,PY⟩:=hq
 (try dsimp only at ho Ke Kf PY)
 refine hN _ _ ?_
 clear hN N
 (try((repeat(revert hN;revert N;apply Pn.out));refine wk @Nat.zero_add ?_;(repeat(refine Pn.mk ?_;intro N hN))))
 refine .inr (aE _ _ _ _ _ (fun r σ2 hq=>?_) (E0 bs t nk o ⟨287000000,n0⟩ _ ho (by rw[PY _ (by(try dsimp only);omega)];simp only[go_sem, ↓reduceIte,Nat.reduceEqDiff,Nat.reduceAdd,Nat.reduceSub,Nat.reduceLeDiff,reduceCtorEq]) (by(try dsimp only);omega) (by(try dsimp only);omega) (by rintro rfl;simp only at Ke;omega)))
 obtain⟨rows,rfl,fV,hrt,mb,lf,HB⟩:=hq
 (try dsimp only at lf HB)
 refine hN _ _ ?_
 clear hN N
 have Ea:=um cnt rK hn (aI t bs) (fun b h=>hb b (ve h)) (by have:=mu t bs;omega)
 have hL:=sF (aI t bs)
 have hz:∀x,cI (dd σ2.get) 6 [.int .i64 x,.own o 0 (aI t bs).length]=some [.int .i64 x,.sl ((aI t bs).map aw)]:=fun x=>by
  have:V.fz (dd σ2.get) 6 (.own o 0 (aI t bs).length)=some (.sl ((aI t bs).map aw)):=by
   rw[gi];simp only[dd,fV,Option.map_some,if_true]
   rw[if_pos (by omega),List.drop_zero,hrt,kd fun b=>yd _ 4 b];rfl
  simp only[ae,ai,ay,this,Option.map_some]
 (try((repeat(revert hN;revert N;apply Pn.out));refine wk @Nat.zero_add ?_;(repeat(refine Pn.mk ?_;intro N hN))))
 refine .inl ⟨_,ak.x Ea (hz _),?_⟩
 refine hN _ _ ?_
 clear hN N
 generalize ei (aI t bs)=L at *
 have qm:((fh cnt L).map zr).length=(leads cnt L).length:=by simp[fh]
 have RH:=jw cnt L
 have jr:(0:Int)<=(cnt:Int):=by omega
 have o6:(cnt:Int)<=((16777216:Nat):Int):=by omega
 have gH:List.replicate cnt [AV.int .i64 0]=dI (cP cnt L 0 0) cnt:=by rw[vn,nU]
 (try((repeat(revert hN;revert N;apply Pn.out));refine wk (tw @jr (tw @o6 (tw @Int.le_refl (tw @qm @gH)))) ?_;(repeat(refine Pn.mk ?_;intro N hN))))
 refine aY (fun n env st=>∃i:Nat,n=((leads cnt L).length)-i/\i<=((leads cnt L).length)/\env 27=.int .i64 (i:Int)/\st.get ⟨287002001,σ2.next+1⟩=some ⟨true,1,dI (cP cnt L i 0) cnt⟩/\(σ2.next+1<st.next)) ((leads cnt L).length) ⟨0,by omega,by omega,sl (tw @gH @qm),sl (tw @gH @qm),(by(try dsimp only);omega)⟩ ?_
 rintro n_c env_c st_c ⟨i,rfl,cle,c27,cg0,cI0⟩ cfr
 have c1:=cfr 1 (by kernel_rfl);have c8:=cfr 8 (by kernel_rfl);have c9:=cfr 9 (by kernel_rfl);have vM:=cfr 25 (by kernel_rfl);have vN:=cfr 26 (by kernel_rfl)
 simp only[go_sem, ↓reduceIte,Nat.reduceEqDiff,Nat.reduceAdd,Nat.reduceSub,Nat.reduceLeDiff,reduceCtorEq,gH,qm]at c1 c8 c9 vM vN
 clear cfr
 by_cases hi:(i:Int)<((leads cnt L).length:Int)
 ·have gL:∀{e:Env} {gg:Rows} {nx:Nat},(e 27=.int .i64 (IntKind.i64.wrap ((i:Int)+1)))->(gg ⟨287002001,σ2.next+1⟩=some ⟨true,1,dI (cP cnt L (i+1) 0) cnt⟩)->(σ2.next+1<nx)->∃m0,m0<((leads cnt L).length)-i/\∃i:Nat,m0=((leads cnt L).length)-i/\i<=((leads cnt L).length)/\e 27=.int .i64 (i:Int)/\gg ⟨287002001,σ2.next+1⟩=some ⟨true,1,dI (cP cnt L i 0) cnt⟩/\(σ2.next+1<nx):=fun x1 x2 x3=>⟨_,by omega,i+1,rfl,by omega,(by rw[x1,ax (by omega)]),x2,x3⟩
  have fJ:i<(leads cnt L).length:=by omega
  have mW:((fh cnt L).map zr)[i]? =some (zr (members cnt L (leads cnt L)[i])):=by simp[fh,fJ]
  have tt:(leads cnt L).getD i 0=(leads cnt L)[i]:=by simp[List.getD_eq_getElem?_getD,fJ]
  have wc:∀m,cP cnt L i m=fun x=>if bR L x<i then bR L x else if x∈(members cnt L (leads cnt L)[i]).take m then i else 0:=fun m=>by unfold cP;rw[tt]
  have qn:=fun x (hx:x<cnt)=>rT hL (n:=cnt) (k:=x) (i:=i) hx fJ
  have lY:(members cnt L (leads cnt L)[i]).Nodup:=List.nodup_range.filter _
  have BC:∀x∈members cnt L (leads cnt L)[i],x<cnt:=fun x hx=>(k6.1 hx).1
  have hMc:(members cnt L (leads cnt L)[i]).length<=cnt:=by
   have:=List.length_filter_le (fun k=>L k==(leads cnt L)[i]) (List.range cnt)
   simpa[members]using this
  generalize members cnt L (leads cnt L)[i]=M at *
  have BA:(M.map eN).length=M.length:=by simp
  (try((repeat(revert hN;revert N;apply Pn.out));refine wk (tw @c27 (tw @cg0 (tw @c1 (tw @c8 (tw @c9 (tw @vM (tw @vN (tw @hi (tw @qm (tw @mW (tw @zr.eq_1 @BA))))))))))) ?_;(repeat(refine Pn.mk ?_;intro N hN))))
  refine aY (fun n env st=>∃m:Nat,n=(M.length)-m/\m<=(M.length)/\env 34=.int .i64 (m:Int)/\st.get ⟨287002001,σ2.next+1⟩=some ⟨true,1,dI (cP cnt L i m) cnt⟩/\(σ2.next+1<st.next)) (M.length) ⟨0,by omega,by omega,sl (tw @c27 (tw @cg0 (tw @c1 (tw @c8 (tw @c9 (tw @vM (tw @vN @BA))))))),sl (tw @c27 (tw @cg0 (tw @c1 (tw @c8 (tw @c9 (tw @vM (tw @vN @BA))))))),(by(try dsimp only);omega)⟩ ?_
  rintro n_d env_d st_d ⟨m,rfl,dle,d34,dg0,dI0⟩ dfr
  have d1:=dfr 1 (by kernel_rfl);have d8:=dfr 8 (by kernel_rfl);have d9:=dfr 9 (by kernel_rfl);have d10:=dfr 10 (by kernel_rfl);have d25:=dfr 25 (by kernel_rfl);have d26:=dfr 26 (by kernel_rfl);have d27:=dfr 27 (by kernel_rfl);have d32:=dfr 32 (by kernel_rfl);have d33:=dfr 33 (by kernel_rfl)
  simp only[go_sem, ↓reduceIte,Nat.reduceEqDiff,Nat.reduceAdd,Nat.reduceSub,Nat.reduceLeDiff,reduceCtorEq,c27,cg0,c1,c8,c9,vM,vN,BA]at d1 d8 d9 d10 d25 d26 d27 d32 d33
  clear dfr
  have tl:=fW (cP cnt L i m) cnt
  by_cases hm:(m:Int)<(M.length:Int)
  ·have sH:∀{e:Env} {gg:Rows} {nx:Nat},(e 34=.int .i64 (IntKind.i64.wrap ((m:Int)+1)))->(gg ⟨287002001,σ2.next+1⟩=some ⟨true,1,dI (cP cnt L i (m+1)) cnt⟩)->(σ2.next+1<nx)->∃m0,m0<(M.length)-m/\∃m:Nat,m0=(M.length)-m/\m<=(M.length)/\e 34=.int .i64 (m:Int)/\gg ⟨287002001,σ2.next+1⟩=some ⟨true,1,dI (cP cnt L i m) cnt⟩/\(σ2.next+1<nx):=fun x1 x2 x3=>⟨_,by omega,m+1,rfl,by omega,(by rw[x1,ax (by omega)]),x2,x3⟩
   have yv:m<M.length:=by omega
   have ur:(M.map eN)[m]? =some (eN M[m]):=by simp[yv]
   have uz:=BC _ (List.getElem_mem yv)
   have BH:(M[m]:Int)<(cnt:Int):=by omega
   have BG:=fa (f:=cP cnt L i m) uz
   have eo:(dI (cP cnt L i m) cnt).set M[m] (eN i)=dI (cP cnt L i (m+1)) cnt:=oM uz (by
    have h1:=(qn _ uz).1 (List.getElem_mem yv)
    rw[wc]
    simp only[]
    rw[if_neg (by omega),if_pos (by rw[List.take_succ_eq_append_getElem yv];exact List.mem_append_right _ (List.mem_singleton.2 rfl))]) fun x hx gF=>by
    rw[wc,wc]
    simp only[]
    rw[List.take_succ_eq_append_getElem yv]
    simp only[List.mem_append,List.mem_singleton,gF,or_false]
   rw[eN]at eo BG
   generalize M[m]=xm at *
   (try((repeat(revert hN;revert N;apply Pn.out));refine wk (tw @d34 (tw @dg0 (tw @d1 (tw @d8 (tw @d9 (tw @d10 (tw @d25 (tw @d26 (tw @d27 (tw @d32 (tw @d33 (tw @hm (tw @hi (tw @ur (tw @BA (tw @BH (tw @BG (tw @tl (tw @eo @eN.eq_1))))))))))))))))))) ?_;(repeat(refine Pn.mk ?_;intro N hN))))
   refine sH ?_ ?_ (by(try dsimp only);omega)
   all_goals simp only[go_sem, ↓reduceIte,Nat.reduceEqDiff,Nat.reduceAdd,Nat.reduceSub,Nat.reduceLeDiff,reduceCtorEq,d34,dg0,d1,d8,d9,d10,d25,d26,d27,d32,d33,eo]
  ·have gR:m=M.length:=by omega
   subst gR
   have vG:dI (cP cnt L i M.length) cnt=dI (cP cnt L (i+1) 0) cnt:=gG fun x hx=>by
    rw[wc,List.take_length]
    simp only[cP,List.take_zero,List.not_mem_nil,if_false]
    have h1:=qn x hx
    by_cases h2:bR L x<i
    ·rw[if_pos h2,if_pos (by omega)]
    ·rw[if_neg h2]
     by_cases h3:x∈M
     ·rw[if_pos h3,if_pos (by have:=h1.1 h3;omega),h1.1 h3]
     ·rw[if_neg h3,if_neg fun h4=>h3 (h1.2 (by omega))]
   (try((repeat(revert hN;revert N;apply Pn.out));refine wk (tw @d34 (tw @dg0 (tw @d1 (tw @d8 (tw @d9 (tw @d10 (tw @d25 (tw @d26 (tw @d27 (tw @d32 (tw @d33 (tw @hm (tw @hi (tw @qm @BA)))))))))))))) ?_;(repeat(refine Pn.mk ?_;intro N hN))))
   refine gL ?_ ?_ (by(try dsimp only);omega)
   all_goals simp only[go_sem, ↓reduceIte,Nat.reduceEqDiff,Nat.reduceAdd,Nat.reduceSub,Nat.reduceLeDiff,reduceCtorEq,c27,cg0,c1,c8,c9,vM,vN,d34,dg0,d1,d8,d9,d10,d25,d26,d27,d32,d33,vG]
 have o7:i=(leads cnt L).length:=by omega
 subst o7
 have HI:dI (cP cnt L (leads cnt L).length 0) cnt=dI (bR L) cnt:=gG fun x hx=>by rw[cP,if_pos (jP hL hx)]
 rw[HI]at cg0
 have tl:=fW (bR L) cnt
 have Rr:(bs.map aw).length=bs.length:=by simp
 (try((repeat(revert hN;revert N;apply Pn.out));refine wk (tw @c27 (tw @cg0 (tw @c1 (tw @c8 (tw @c9 (tw @vM (tw @vN (tw @hi (tw @qm @Rr))))))))) ?_;(repeat(refine Pn.mk ?_;intro N hN))))
 have OL:σ2.next+1<st_c.next:=cI0
 refine aY (fun n env st=>∃j:Nat,n=(bs.length)-j/\j<=(bs.length)/\env 46=.int .i64 (j:Int)/\st.get ⟨287002001,σ2.next+1⟩=some ⟨true,1,dI (bR L) cnt⟩/\(st_c.next<=st.next/\((dm L (bs.take j)=[]/\env 14=.bP)∨∃p:Id,env 14=.own p 0 (dm L (bs.take j)).length/\st.get p=some ⟨true,3,(dm L (bs.take j)).map aw⟩/\st_c.next<=p.bW/\p.bW<st.next/\0<(dm L (bs.take j)).length))) (bs.length) ⟨0,by omega,by omega,sl (tw @c27 (tw @cg0 (tw @c1 (tw @c8 (tw @c9 (tw @vM (tw @vN @Rr))))))),sl (tw @c27 (tw @cg0 (tw @c1 (tw @c8 (tw @c9 (tw @vM (tw @vN @Rr))))))),⟨by(try dsimp only);omega,.inl ⟨rfl,by(simp only[go_sem, ↓reduceIte,Nat.reduceEqDiff,Nat.reduceAdd,Nat.reduceSub,Nat.reduceLeDiff,reduceCtorEq])⟩⟩⟩ ?_
 rintro n_f env_f st_f ⟨j,rfl,fle,f46,fg0,fI0⟩ ffr
 have f1:=ffr 1 (by kernel_rfl);have f8:=ffr 8 (by kernel_rfl);have f9:=ffr 9 (by kernel_rfl);have f44:=ffr 44 (by kernel_rfl);have f45:=ffr 45 (by kernel_rfl)
 simp only[go_sem, ↓reduceIte,Nat.reduceEqDiff,Nat.reduceAdd,Nat.reduceSub,Nat.reduceLeDiff,reduceCtorEq,c27,cg0,c1,c8,c9,vM,vN,Rr]at f1 f8 f9 f44 f45
 clear ffr
 obtain⟨Ry,fO⟩:=fI0
 have HS:=ef (i:=⟨287002001,σ2.next+1⟩) (n:=st_f.next) (by(try dsimp only);omega)
 have sC:=(mo L (bs.take j)).1
 rw[List.length_take]at sC
 by_cases hj:(j:Int)<(bs.length:Int)
 ·have qz:∀{e:Env} {gg:Rows} {nx:Nat},(e 46=.int .i64 (IntKind.i64.wrap ((j:Int)+1)))->(gg ⟨287002001,σ2.next+1⟩=some ⟨true,1,dI (bR L) cnt⟩)->(st_c.next<=nx/\((dm L (bs.take (j+1))=[]/\e 14=.bP)∨∃p:Id,e 14=.own p 0 (dm L (bs.take (j+1))).length/\gg p=some ⟨true,3,(dm L (bs.take (j+1))).map aw⟩/\st_c.next<=p.bW/\p.bW<nx/\0<(dm L (bs.take (j+1))).length))->∃m0,m0<(bs.length)-j/\∃j:Nat,m0=(bs.length)-j/\j<=(bs.length)/\e 46=.int .i64 (j:Int)/\gg ⟨287002001,σ2.next+1⟩=some ⟨true,1,dI (bR L) cnt⟩/\(st_c.next<=nx/\((dm L (bs.take j)=[]/\e 14=.bP)∨∃p:Id,e 14=.own p 0 (dm L (bs.take j)).length/\gg p=some ⟨true,3,(dm L (bs.take j)).map aw⟩/\st_c.next<=p.bW/\p.bW<nx/\0<(dm L (bs.take j)).length)):=fun x1 x2 x3=>⟨_,by omega,j+1,rfl,by omega,(by rw[x1,ax (by omega)]),x2,x3⟩
  have iH:j<bs.length:=by omega
  have D9:(bs.map aw)[j]? =some (aw bs[j]):=by simp[iH]
  have Lv:=hb _ (List.getElem_mem iH)
  have hs:=y8 L (bs.take j) bs[j]
  rw[<-List.take_succ_eq_append_getElem iH]at hs
  generalize bs[j]=b at *
  have hA:=fa (f:=bR L) Lv.1
  have hB:=fa (f:=bR L) Lv.2
  have gq:(b.a:Int)<(cnt:Int):=by omega
  have fM:(b.b:Int)<(cnt:Int):=by omega
  rw[eN]at hA hB
  have e1:(dm L (bs.take j)).length+1<=16777216:=by omega
  have gR:((dm L (bs.take j)).map aw).length=(dm L (bs.take j)).length:=by simp
  by_cases he:bR L b.a=bR L b.b
  ·rw[if_pos he,List.append_nil]at hs
   have vE:decide ((bR L b.a:Int)=(bR L b.b:Int))=true:=decide_eq_true (by rw[he])
   (try((repeat(revert hN;revert N;apply Pn.out));refine wk (tw @f46 (tw @fg0 (tw @f1 (tw @f8 (tw @f9 (tw @f44 (tw @f45 (tw @hj (tw @D9 (tw @hA (tw @hB (tw @gq (tw @fM (tw @tl (tw @vE (tw @HS (tw @aw.eq_1 (tw @Bool.not_true @Bool.not_false)))))))))))))))))) ?_;(repeat(refine Pn.mk ?_;intro N hN))))
   refine qz ?_ ?_ (by(try dsimp only);exact⟨by omega,by
    rw[hs]
    rcases fO with⟨h1,h2⟩|⟨p,h1,h2,h3,h4,h5⟩
    ·exact .inl ⟨h1,sd @h2⟩
    ·have zw:=ef h4
     exact .inr ⟨p,sd @h1,sd (tw @h2 @zw),h3,by omega,h5⟩⟩)
   all_goals simp only[go_sem, ↓reduceIte,Nat.reduceEqDiff,Nat.reduceAdd,Nat.reduceSub,Nat.reduceLeDiff,reduceCtorEq,f46,fg0,f1,f8,f9,f44,f45,HS]
  ·rw[if_neg he]at hs
   have vE:decide ((bR L b.a:Int)=(bR L b.b:Int))=false:=decide_eq_false fun h=>he (by omega)
   rcases fO with⟨h1,f14⟩|⟨p,f14,fg,Np,LK,hp3⟩
   ·rw[h1]at hs
    (try((repeat(revert hN;revert N;apply Pn.out));refine wk (tw @f46 (tw @fg0 (tw @f1 (tw @f8 (tw @f9 (tw @f44 (tw @f45 (tw @f14 (tw @hj (tw @D9 (tw @hA (tw @hB (tw @gq (tw @fM (tw @tl (tw @vE (tw @HS (tw @aw.eq_1 (tw @Bool.not_true @Bool.not_false))))))))))))))))))) ?_;(repeat(refine Pn.mk ?_;intro N hN))))
    refine qz ?_ ?_ (by(try dsimp only);exact⟨by omega,.inr ⟨⟨287017015,st_f.next+1+1+1⟩,by rw[hs];simp only[go_sem, ↓reduceIte,Nat.reduceEqDiff,Nat.reduceAdd,Nat.reduceSub,Nat.reduceLeDiff,reduceCtorEq,List.nil_append,List.length_cons,List.length_nil],by rw[hs];simp only[go_sem, ↓reduceIte,Nat.reduceEqDiff,Nat.reduceAdd,Nat.reduceSub,Nat.reduceLeDiff,reduceCtorEq,aw,List.nil_append,List.map_cons,List.map_nil],by(try dsimp only);omega,by(try dsimp only);omega,by rw[hs];simp⟩⟩)
    all_goals simp only[go_sem, ↓reduceIte,Nat.reduceEqDiff,Nat.reduceAdd,Nat.reduceSub,Nat.reduceLeDiff,reduceCtorEq,f46,fg0,f1,f8,f9,f44,f45,HS]
   ·have x1:=du (a:=⟨287002001,σ2.next+1⟩) (b:=p) (by(try dsimp only);omega)
    have zw:=ef LK
    (try((repeat(revert hN;revert N;apply Pn.out));refine wk (tw @f46 (tw @fg0 (tw @f1 (tw @f8 (tw @f9 (tw @f44 (tw @f45 (tw @f14 (tw @fg (tw @hj (tw @D9 (tw @hA (tw @hB (tw @gq (tw @fM (tw @tl (tw @vE (tw @x1 (tw @zw (tw @HS (tw @e1 (tw @gR (tw @aw.eq_1 (tw @Bool.not_true @Bool.not_false)))))))))))))))))))))))) ?_;(repeat(refine Pn.mk ?_;intro N hN))))
    refine qz ?_ ?_ (by(try dsimp only);exact⟨by omega,.inr ⟨⟨287017015,st_f.next+1+1+1⟩,by rw[hs,List.length_append];simp only[go_sem, ↓reduceIte,Nat.reduceEqDiff,Nat.reduceAdd,Nat.reduceSub,Nat.reduceLeDiff,reduceCtorEq,List.length_cons,List.length_nil],by rw[hs,List.map_append,List.map_cons,List.map_nil];simp only[go_sem, ↓reduceIte,Nat.reduceEqDiff,Nat.reduceAdd,Nat.reduceSub,Nat.reduceLeDiff,reduceCtorEq,aw],by(try dsimp only);omega,by(try dsimp only);omega,by rw[hs];simp⟩⟩)
    all_goals simp only[go_sem, ↓reduceIte,Nat.reduceEqDiff,Nat.reduceAdd,Nat.reduceSub,Nat.reduceLeDiff,reduceCtorEq,f46,fg0,f1,f8,f9,f44,f45,x1,HS]
 ·have gC:j=bs.length:=by omega
  subst gC
  rw[List.take_length]at fO
  rcases fO with⟨h1,f14⟩|⟨p,f14,fg,Np,LK,hp3⟩
  ·(try((repeat(revert hN;revert N;apply Pn.out));refine wk (tw @f46 (tw @fg0 (tw @f1 (tw @f8 (tw @f9 (tw @f44 (tw @f45 (tw @f14 (tw @hj @qm))))))))) ?_;(repeat(refine Pn.mk ?_;intro N hN))))
   refine jf (.inl rfl) (r1:=.int .i64 ((leads cnt L).length:Int)) (sd @Nat.zero_add) (by simp only[go_sem, ↓reduceIte,Nat.reduceEqDiff,Nat.reduceAdd,Nat.reduceSub,Nat.reduceLeDiff,reduceCtorEq];rfl) ?_
   simp only[eR,bC,cG,ek,iV,h1,K2,Option.map_some]
  ·(try((repeat(revert hN;revert N;apply Pn.out));refine wk (tw @f46 (tw @fg0 (tw @f1 (tw @f8 (tw @f9 (tw @f44 (tw @f45 (tw @f14 (tw @hj @qm))))))))) ?_;(repeat(refine Pn.mk ?_;intro N hN))))
   refine jf (.inl rfl) (r1:=.int .i64 ((leads cnt L).length:Int)) (sd @Nat.zero_add) (by simp only[go_sem, ↓reduceIte,Nat.reduceEqDiff,Nat.reduceAdd,Nat.reduceSub,Nat.reduceLeDiff,reduceCtorEq];rfl) ?_
   have h1:ga st_f.get 5 (.own p 0 (dm L bs).length)=some (.sl ((dm L bs).map aw)):=eS (sz:=3) fg rfl fun b=>tj _ 3 b
   simp only[eR,bC,cG,ek,h1,zd hp3,Option.map_some]
theorem vO (cnt:Nat) (rK:1<=cnt) (hn:cnt<=1048576) (t:Int):ak Tryz.prog 287 [.int .i64 cnt,.bP,.int .i64 t] (.ij [.int .i64 cnt,.bP]):=by
 refine ak.body eb rfl fun hl n0=>?_
 clear hl
 have h1:ak Tryz.prog 322 [.bP] .bP:=by
  refine ak.body eb rfl fun hl n0=>?_
  clear hl
  (try((repeat(revert hN;revert N;apply Pn.out));refine wk @Nat.zero_add ?_;(repeat(refine Pn.mk ?_;intro N hN))))
  exact uV (.inl rfl) (r0:=.bP) (sd @Nat.zero_add) (iV _ _)
 have h2:ak Tryz.prog 321 [.bP,.fn 323 [.cN [.int .i64 t]]] .bP:=by
  have yu:=(xh [] t (by simp)).cut mixed (.bP (.same _ .nil))
  refine ak.body eb rfl fun hl n0=>?_
  clear hl
  (try((repeat(revert hN;revert N;apply Pn.out));refine wk @Nat.zero_add ?_;(repeat(refine Pn.mk ?_;intro N hN))))
  refine .inl ⟨_,ak.x yu (by simp only[ae,ai,aG,bZ,aD,List.all_cons,List.all_nil,AV.cell,Bool.and_true,if_true,Option.map_some]),?_⟩
  refine hN _ _ ?_
  clear hN N
  have hd:decide (gV (fun b:PB=>decide (b.s<t)) []= -1)=true:=rfl
  (try((repeat(revert hN;revert N;apply Pn.out));refine wk @hd ?_;(repeat(refine Pn.mk ?_;intro N hN))))
  exact uV (.inl rfl) (r0:=.bP) (sd @Nat.zero_add) (iV _ _)
 have Ea:=(um cnt rK hn [] (fun b h=>by cases h) (by simp)).cut mixed (.same _ (.bP .nil))
 (repeat(first|((repeat(revert hN;revert N;apply Pn.out));refine wk @Nat.zero_add ?_;(repeat(refine Pn.mk ?_;intro N hN)))|((try apply Or.inl);refine⟨_,ak.x (h1) (sd @Nat.zero_add),?_⟩;refine hN _ _ ?_;clear hN N)))
 refine .inl ⟨_,ak.x h2 ?_,?_⟩
 ·have:V.fz (dd (bH (fun _=>none) ⟨287000000,n0⟩ ⟨true,1,[[.int .i64 t]]⟩)) 5 (.ptr ⟨287000000,n0⟩ 0 0)=some (.cN [.int .i64 t]):=rD (sz:=1) (rows:=[[.int .i64 t]]) (by simp[dd,bH]) rfl (by simp only[List.drop_zero,ae,ai,ay,Option.map_some])
  simp only[ae,ai,aG,bZ,this,List.all_cons,List.all_nil,AV.cell,Bool.and_true,if_true,Option.map_some]
 refine hN _ _ ?_
 clear hN N
 have fM:ei ([]:List PB)=id:=rfl
 rw[fM]at Ea
 have hL:jn id:=fM▸sF ([]:List PB)
 have OQ:(leads cnt id).length=cnt:=by rw[leads,List.filter_eq_self.2 (fun a _=>by simp)];simp
 generalize (id:Nat->Nat)=L at *
 have qm:((fh cnt L).map zr).length=(leads cnt L).length:=by simp[fh]
 have RH:=jw cnt L
 have jr:(0:Int)<=(cnt:Int):=by omega
 have o6:(cnt:Int)<=((16777216:Nat):Int):=by omega
 have gH:List.replicate cnt [AV.int .i64 0]=dI (cP cnt L 0 0) cnt:=by rw[vn,nU]
 (repeat(first|((repeat(revert hN;revert N;apply Pn.out));refine wk (tw @jr (tw @o6 (tw @Int.le_refl (tw @qm @gH)))) ?_;(repeat(refine Pn.mk ?_;intro N hN)))|((try apply Or.inl);refine⟨_,ak.x (Ea) (sd (tw @jr (tw @o6 (tw @Int.le_refl (tw @qm @gH))))),?_⟩;refine hN _ _ ?_;clear hN N)))
 refine aY (fun n env st=>∃i:Nat,n=((leads cnt L).length)-i/\i<=((leads cnt L).length)/\env 27=.int .i64 (i:Int)/\st.get ⟨287002001,n0+1+1⟩=some ⟨true,1,dI (cP cnt L i 0) cnt⟩/\(n0+1+1<st.next)) ((leads cnt L).length) ⟨0,by omega,by omega,sl (tw @gH @qm),sl (tw @gH @qm),(by(try dsimp only);omega)⟩ ?_
 rintro n_c env_c st_c ⟨i,rfl,cle,c27,cg0,cI0⟩ cfr
 have c1:=cfr 1 (by kernel_rfl);have c8:=cfr 8 (by kernel_rfl);have c9:=cfr 9 (by kernel_rfl);have vM:=cfr 25 (by kernel_rfl);have vN:=cfr 26 (by kernel_rfl)
 simp only[go_sem, ↓reduceIte,Nat.reduceEqDiff,Nat.reduceAdd,Nat.reduceSub,Nat.reduceLeDiff,reduceCtorEq,gH,qm]at c1 c8 c9 vM vN
 clear cfr
 by_cases hi:(i:Int)<((leads cnt L).length:Int)
 ·have gL:∀{e:Env} {gg:Rows} {nx:Nat},(e 27=.int .i64 (IntKind.i64.wrap ((i:Int)+1)))->(gg ⟨287002001,n0+1+1⟩=some ⟨true,1,dI (cP cnt L (i+1) 0) cnt⟩)->(n0+1+1<nx)->∃m0,m0<((leads cnt L).length)-i/\∃i:Nat,m0=((leads cnt L).length)-i/\i<=((leads cnt L).length)/\e 27=.int .i64 (i:Int)/\gg ⟨287002001,n0+1+1⟩=some ⟨true,1,dI (cP cnt L i 0) cnt⟩/\(n0+1+1<nx):=fun x1 x2 x3=>⟨_,by omega,i+1,rfl,by omega,(by rw[x1,ax (by omega)]),x2,x3⟩
  have fJ:i<(leads cnt L).length:=by omega
  have mW:((fh cnt L).map zr)[i]? =some (zr (members cnt L (leads cnt L)[i])):=by simp[fh,fJ]
  have tt:(leads cnt L).getD i 0=(leads cnt L)[i]:=by simp[List.getD_eq_getElem?_getD,fJ]
  have wc:∀m,cP cnt L i m=fun x=>if bR L x<i then bR L x else if x∈(members cnt L (leads cnt L)[i]).take m then i else 0:=fun m=>by unfold cP;rw[tt]
  have qn:=fun x (hx:x<cnt)=>rT hL (n:=cnt) (k:=x) (i:=i) hx fJ
  have lY:(members cnt L (leads cnt L)[i]).Nodup:=List.nodup_range.filter _
  have BC:∀x∈members cnt L (leads cnt L)[i],x<cnt:=fun x hx=>(k6.1 hx).1
  have hMc:(members cnt L (leads cnt L)[i]).length<=cnt:=by
   have:=List.length_filter_le (fun k=>L k==(leads cnt L)[i]) (List.range cnt)
   simpa[members]using this
  generalize members cnt L (leads cnt L)[i]=M at *
  have BA:(M.map eN).length=M.length:=by simp
  (try((repeat(revert hN;revert N;apply Pn.out));refine wk (tw @c27 (tw @cg0 (tw @c1 (tw @c8 (tw @c9 (tw @vM (tw @vN (tw @hi (tw @qm (tw @mW (tw @zr.eq_1 @BA))))))))))) ?_;(repeat(refine Pn.mk ?_;intro N hN))))
  refine aY (fun n env st=>∃m:Nat,n=(M.length)-m/\m<=(M.length)/\env 34=.int .i64 (m:Int)/\st.get ⟨287002001,n0+1+1⟩=some ⟨true,1,dI (cP cnt L i m) cnt⟩/\(n0+1+1<st.next)) (M.length) ⟨0,by omega,by omega,sl (tw @c27 (tw @cg0 (tw @c1 (tw @c8 (tw @c9 (tw @vM (tw @vN @BA))))))),sl (tw @c27 (tw @cg0 (tw @c1 (tw @c8 (tw @c9 (tw @vM (tw @vN @BA))))))),(by(try dsimp only);omega)⟩ ?_
  rintro n_d env_d st_d ⟨m,rfl,dle,d34,dg0,dI0⟩ dfr
  have d1:=dfr 1 (by kernel_rfl);have d8:=dfr 8 (by kernel_rfl);have d9:=dfr 9 (by kernel_rfl);have d10:=dfr 10 (by kernel_rfl);have d25:=dfr 25 (by kernel_rfl);have d26:=dfr 26 (by kernel_rfl);have d27:=dfr 27 (by kernel_rfl);have d32:=dfr 32 (by kernel_rfl);have d33:=dfr 33 (by kernel_rfl)
  simp only[go_sem, ↓reduceIte,Nat.reduceEqDiff,Nat.reduceAdd,Nat.reduceSub,Nat.reduceLeDiff,reduceCtorEq,c27,cg0,c1,c8,c9,vM,vN,BA]at d1 d8 d9 d10 d25 d26 d27 d32 d33
  clear dfr
  have tl:=fW (cP cnt L i m) cnt
  by_cases hm:(m:Int)<(M.length:Int)
  ·have sH:∀{e:Env} {gg:Rows} {nx:Nat},(e 34=.int .i64 (IntKind.i64.wrap ((m:Int)+1)))->(gg ⟨287002001,n0+1+1⟩=some ⟨true,1,dI (cP cnt L i (m+1)) cnt⟩)->(n0+1+1<nx)->∃m0,m0<(M.length)-m/\∃m:Nat,m0=(M.length)-m/\m<=(M.length)/\e 34=.int .i64 (m:Int)/\gg ⟨287002001,n0+1+1⟩=some ⟨true,1,dI (cP cnt L i m) cnt⟩/\(n0+1+1<nx):=fun x1 x2 x3=>⟨_,by omega,m+1,rfl,by omega,(by rw[x1,ax (by omega)]),x2,x3⟩
   have yv:m<M.length:=by omega
   have ur:(M.map eN)[m]? =some (eN M[m]):=by simp[yv]
   have uz:=BC _ (List.getElem_mem yv)
   have BH:(M[m]:Int)<(cnt:Int):=by omega
   have BG:=fa (f:=cP cnt L i m) uz
   have eo:(dI (cP cnt L i m) cnt).set M[m] (eN i)=dI (cP cnt L i (m+1)) cnt:=oM uz (by
    have h1:=(qn _ uz).1 (List.getElem_mem yv)
    rw[wc]
    simp only[]
    rw[if_neg (by omega),if_pos (by rw[List.take_succ_eq_append_getElem yv];exact List.mem_append_right _ (List.mem_singleton.2 rfl))]) fun x hx gF=>by
    rw[wc,wc]
    simp only[]
    rw[List.take_succ_eq_append_getElem yv]
    simp only[List.mem_append,List.mem_singleton,gF,or_false]
   rw[eN]at eo BG
   generalize M[m]=xm at *
   (try((repeat(revert hN;revert N;apply Pn.out));refine wk (tw @d34 (tw @dg0 (tw @d1 (tw @d8 (tw @d9 (tw @d10 (tw @d25 (tw @d26 (tw @d27 (tw @d32 (tw @d33 (tw @hm (tw @hi (tw @ur (tw @BA (tw @BH (tw @BG (tw @tl (tw @eo @eN.eq_1))))))))))))))))))) ?_;(repeat(refine Pn.mk ?_;intro N hN))))
   refine sH ?_ ?_ (by(try dsimp only);omega)
   all_goals simp only[go_sem, ↓reduceIte,Nat.reduceEqDiff,Nat.reduceAdd,Nat.reduceSub,Nat.reduceLeDiff,reduceCtorEq,d34,dg0,d1,d8,d9,d10,d25,d26,d27,d32,d33,eo]
  ·have gR:m=M.length:=by omega
   subst gR
   have vG:dI (cP cnt L i M.length) cnt=dI (cP cnt L (i+1) 0) cnt:=gG fun x hx=>by
    rw[wc,List.take_length]
    simp only[cP,List.take_zero,List.not_mem_nil,if_false]
    have h1:=qn x hx
    by_cases h2:bR L x<i
    ·rw[if_pos h2,if_pos (by omega)]
    ·rw[if_neg h2]
     by_cases h3:x∈M
     ·rw[if_pos h3,if_pos (by have:=h1.1 h3;omega),h1.1 h3]
     ·rw[if_neg h3,if_neg fun h4=>h3 (h1.2 (by omega))]
   (try((repeat(revert hN;revert N;apply Pn.out));refine wk (tw @d34 (tw @dg0 (tw @d1 (tw @d8 (tw @d9 (tw @d10 (tw @d25 (tw @d26 (tw @d27 (tw @d32 (tw @d33 (tw @hm (tw @hi (tw @qm @BA)))))))))))))) ?_;(repeat(refine Pn.mk ?_;intro N hN))))
   refine gL ?_ ?_ (by(try dsimp only);omega)
   all_goals simp only[go_sem, ↓reduceIte,Nat.reduceEqDiff,Nat.reduceAdd,Nat.reduceSub,Nat.reduceLeDiff,reduceCtorEq,c27,cg0,c1,c8,c9,vM,vN,d34,dg0,d1,d8,d9,d10,d25,d26,d27,d32,d33,vG]
 have o7:i=(leads cnt L).length:=by omega
 subst o7
 have HI:dI (cP cnt L (leads cnt L).length 0) cnt=dI (bR L) cnt:=gG fun x hx=>by rw[cP,if_pos (jP hL hx)]
 rw[HI]at cg0
 have tl:=fW (bR L) cnt
 (try((repeat(revert hN;revert N;apply Pn.out));refine wk (tw @c27 (tw @cg0 (tw @c1 (tw @c8 (tw @c9 (tw @vM (tw @vN (tw @hi @qm)))))))) ?_;(repeat(refine Pn.mk ?_;intro N hN))))
 refine aY (fun n env st=>∃j:Nat,n=(0)-j/\j<=(0)/\env 46=.int .i64 (j:Int)/\env 14=.bP) (0) ⟨0,by omega,by omega,sl (tw @c27 (tw @cg0 (tw @c1 (tw @c8 (tw @c9 (tw @vM @vN)))))),sl (tw @c27 (tw @cg0 (tw @c1 (tw @c8 (tw @c9 (tw @vM @vN))))))⟩ ?_
 rintro n_f env_f st_f ⟨j,rfl,fle,f46,f14⟩ ffr
 have f8:=ffr 8 (by kernel_rfl);have f44:=ffr 44 (by kernel_rfl);have f45:=ffr 45 (by kernel_rfl)
 simp only[go_sem, ↓reduceIte,Nat.reduceEqDiff,Nat.reduceAdd,Nat.reduceSub,Nat.reduceLeDiff,reduceCtorEq,c27,cg0,c1,c8,c9,vM,vN]at f8 f44 f45
 clear ffr
 have hj:¬(j:Int)<((0:Nat):Int):=by omega
 (try((repeat(revert hN;revert N;apply Pn.out));refine wk (tw @f46 (tw @f14 (tw @f8 (tw @f44 (tw @f45 (tw @hj @qm)))))) ?_;(repeat(refine Pn.mk ?_;intro N hN))))
 refine jf (.inl rfl) (r1:=.int .i64 ((leads cnt L).length:Int)) (r2:=.bP) (sd @Nat.zero_add) (sd @Nat.zero_add) ?_
 simp only[eR,bC,cG,ek,iV,OQ,Option.map_some]
theorem xZ (cnt:Nat) (rK:1<=cnt) (hn:cnt<=1048576) (bs:List PB) (hb:∀b∈bs,b.a<cnt/\b.b<cnt) (nk:bs.length<=1048576) (t:Int):ak Tryz.prog 287 [.int .i64 cnt,zb bs,.int .i64 t] (.ij [.int .i64 (leads cnt (ei (aI t bs))).length,zb (dm (ei (aI t bs)) bs)]):=by
 cases bs with
 |nil=>
  have h:=vO cnt rK hn t
  have OQ:(leads cnt (ei (aI t []))).length=cnt:=by
   show(leads cnt id).length=cnt
   rw[leads,List.filter_eq_self.2 (fun a _=>by simp)];simp
  rw[OQ]
  exact h
 |cons b r=>
  rw[zd (by simp)]
  exact vP cnt rK hn (b::r) hb (by simp) nk t
end Go.Proofs.YtgoljkjaameagaaGreat.V

namespace Go.Proofs.YtgoljkjaameagaaGreat.V
open Go.RowKit
attribute [local irreducible] dL wpOps fu Call
attribute [local go_sem] az eQ ec eY eW cJ upd bJ K.av b4 AV.cells AV.cell rowOf rowsOf part ld rowAt bH bG cX dr fR bo cE dD e6 eF cQ dx cC cz db dc br aJ ck bq cq cm dv dy dw cj bx cD dt bp aA cu bQ fQ bd bY bt aH cW aX cY AV.undef bj bl de dn da dj bV dC dE bK dB dz cr cw List.getD_cons_zero List.getD_cons_succ List.getD_nil List.all_cons List.all_nil Bool.and_true Bool.true_and Bool.and_self Bool.not_true Bool.not_false Option.map_some Option.map_none Option.bind_some Option.bind_none List.length_cons List.length_nil List.take_succ_cons List.take_zero List.take_nil List.drop_succ_cons List.drop_zero List.drop_nil List.head?_cons List.map_cons List.map_nil List.getElem?_cons_zero List.getElem?_cons_succ List.cons_append List.nil_append List.append_nil List.length_map List.set_cons_zero List.set_cons_succ Nat.reduceMul eq_self Int.toNat_natCast Int.natCast_nonneg and_self true_and and_true decide_true decide_false Bool.false_eq_true Nat.zero_add Nat.add_zero List.contains_cons List.contains_nil Bool.or_false Bool.false_or beq_self_eq_true Nat.reduceBEq ne_eq not_true_eq_false not_false_eq_true Id.mk.injEq false_and and_false Nat.reduceLT Int.reduceLE Int.reduceLT Int.reduceToNat Int.reduceNeg Int.reduceAdd Nat.le_refl List.length_append beq_true beq_false Bool.not_eq_eq_eq_not or_false false_or dd ae ai ay bh bD aG aM aD aL bZ bm
attribute [local go_sem] EC
section
attribute [-go_sem] cX
theorem KE (n:Nat) (hn:n<=1048576):ak Tryz.prog 340 [.int .u64 1,.int .u64 n] (.ij [.int .u64 0,.int .u64 n]):=by
 refine ak.body eb rfl fun hl n0=>?_
 clear hl
 have b1:(BitVec.ofInt 64 (n:Int)&&& BitVec.ofInt 64 4294967295).toNat=n:=by
  rw[BitVec.toNat_and]
  have e1:(BitVec.ofInt 64 (n:Int)).toNat=n:=by rw[BitVec.toNat_ofInt];omega
  have e2:(BitVec.ofInt 64 4294967295).toNat=2 ^ 32-1:=by decide
  rw[e1,e2]
  exact Nat.and_two_pow_sub_one_of_lt_two_pow (by omega)
 have zn:IntKind.u64.wrap (n:Int)=n:=by rw[IntKind.wrap_u64];omega
 have i1:cX .and .u64 (n:Int) 4294967295=some (.int .u64 n):=by
  show some (AV.int .u64 (IntKind.u64.wrap (((BitVec.ofInt 64 (n:Int)&&& BitVec.ofInt 64 4294967295).toNat:Nat):Int)))= _
  rw[b1,zn]
 have i2:cX .and .u64 1 4294967295=some (.int .u64 1):=rfl
 have i3:cX .and .u64 0 4294967295=some (.int .u64 0):=rfl
 have i4:cX .mul .u64 1 (n:Int)=some (.int .u64 n):=by simp only[cX,Int.one_mul,zn]
 have i5:cX .mul .u64 0 (n:Int)=some (.int .u64 0):=by simp only[cX,Int.zero_mul];rfl
 have i6:cX .mul .u64 1 0=some (.int .u64 0):=rfl
 have i7:cX .mul .u64 0 0=some (.int .u64 0):=rfl
 have i8:cX .add .u64 0 0=some (.int .u64 0):=rfl
 have a3:Int.fdiv 1 (2 ^ min 32 64)=0:=by decide
 have a4:Int.fdiv (n:Int) (2 ^ min 32 64)=0:=by
  rw[Int.fdiv_eq_ediv_of_nonneg _ (by decide)]
  have h32:(2:Int) ^ min 32 64=4294967296:=by decide
  exact Int.ediv_eq_zero_of_lt (by omega) (by omega)
 have z1:Int.fdiv 0 (2 ^ min 32 64)=0:=by decide
 (try((repeat(revert hN;revert N;apply Pn.out));refine wk (tw @i1 (tw @i2 (tw @i3 (tw @i4 (tw @i5 (tw @i6 (tw @i7 (tw @i8 (tw @a3 (tw @a4 @z1)))))))))) ?_;(repeat(refine Pn.mk ?_;intro N hN))))
 refine jf (.inl rfl) (r1:=.int .u64 0) (r2:=.int .u64 n) (sd @Nat.zero_add) (sd @Nat.zero_add) ?_
 simp only[eR,bC,cG,ek,Option.map_some]
end
theorem QI (n:Nat) (hn:n<=1048576):ak Tryz.prog 337 [.int .u64 1,.int .u64 n] (.ij [.int .u64 0,.int .u64 n]):=by
 refine ak.body eb rfl fun hl n0=>?_
 clear hl
 have h:=KE n hn
 (repeat(first|((repeat(revert hN;revert N;apply Pn.out));refine wk @Nat.zero_add ?_;(repeat(refine Pn.mk ?_;intro N hN)))|((try apply Or.inl);refine⟨_,ak.x (h) (sd @Nat.zero_add),?_⟩;refine hN _ _ ?_;clear hN N)))
 refine jf (.inl rfl) (r1:=.int .u64 0) (r2:=.int .u64 n) (sd @Nat.zero_add) (sd @Nat.zero_add) ?_
 simp only[eR,bC,cG,ek,Option.map_some]
theorem Ix (cnt:Nat) (rK:1<=cnt) (hn:cnt<=1048576) (v:Int) (x:Id) (σ:ar) (hx:σ.get x=some ⟨true,1,[[.int .i64 v]]⟩) (TG:x.bW<σ.next):
  Call Tryz.prog 327 [.own x 0 1,.int .i64 cnt] σ fun r σ'=>∃o:Id,r=.own o 0 cnt/\σ'.get o=some ⟨true,1,List.replicate cnt [.int .i64 v]⟩/\σ.next<=o.bW/\o.bW<σ'.next/\∀i:Id,i.bW<σ.next->σ'.get i=σ.get i:=by
 refine eO eb rfl fun hl=>?_
 clear hl
 have h:=QI cnt hn
 have w1:IntKind.u64.wrap (cnt:Int)=cnt:=by rw[IntKind.wrap_u64];omega
 have w2:IntKind.i64.wrap (cnt:Int)=cnt:=I7 (by omega)
 have w0:IntKind.u64.wrap ((1:Nat):Int)=1:=by decide
 have g1:¬(cnt:Int)<0:=by omega
 have g2:¬(9223372036854775807:Int)<cnt:=by omega
 have jr:(0:Int)<=(cnt:Int):=by omega
 have o6:(cnt:Int)<=((16777216:Nat):Int):=by omega
 have Jr:=ef TG
 have mb:(List.replicate cnt [AV.int .i64 0]).length=cnt:=List.length_replicate
 have m1:min 1 cnt=1:=by omega
 (repeat(first|((repeat(revert hN;revert N;apply Pn.out));refine wk (tw @w0 (tw @w1 (tw @w2 (tw @g1 (tw @g2 (tw @jr (tw @o6 (tw @Int.le_refl (tw @Nat.le_refl (tw @hx (tw @Jr (tw @mb @m1)))))))))))) ?_;(repeat(refine Pn.mk ?_;intro N hN)))|((try apply Or.inl);refine⟨_,ak.x (h) (sd (tw @w0 (tw @w1 (tw @w2 (tw @g1 (tw @g2 (tw @jr (tw @o6 (tw @Int.le_refl (tw @Nat.le_refl (tw @hx (tw @Jr (tw @mb @m1))))))))))))),?_⟩;refine hN _ _ ?_;clear hN N)))
 refine aY (fun m env st=>∃k:Nat,m=cnt-k/\1<=k/\k<=cnt/\env 8=.int .i64 (k:Int)/\st.get ⟨327006002,σ.next+1+1+1+1⟩=some ⟨true,1,List.replicate k [.int .i64 v]++List.replicate (cnt-k) [.int .i64 0]⟩/\σ.next+4<st.next/\∀i:Id,i.bW<σ.next->st.get i=σ.get i) (cnt-1) ⟨1,rfl,Nat.le_refl _,rK,by(simp only[go_sem, ↓reduceIte,Nat.reduceEqDiff,Nat.reduceAdd,Nat.reduceSub,Nat.reduceLeDiff,reduceCtorEq,m1])<;>rfl,?_,by(try dsimp only);omega,fun i hi=>?_⟩ ?_
 ·simp only[go_sem, ↓reduceIte,Nat.reduceEqDiff,Nat.reduceAdd,Nat.reduceSub,Nat.reduceLeDiff,reduceCtorEq]
  rw[List.drop_replicate];rfl
 ·have CH:=ef hi
  simp only[go_sem, ↓reduceIte,Nat.reduceEqDiff,Nat.reduceAdd,Nat.reduceSub,Nat.reduceLeDiff,reduceCtorEq,CH]
 rintro m env_b st_b ⟨k,rfl,tx,sZ,b8,bg,bn,bfr⟩ bkp
 have b7:=bkp 7 (by kernel_rfl)
 simp only[go_sem, ↓reduceIte,Nat.reduceEqDiff,Nat.reduceAdd,Nat.reduceSub,Nat.reduceLeDiff,reduceCtorEq]at b7
 clear bkp
 have Qn:(List.replicate k [AV.int .i64 v]++List.replicate (cnt-k) [AV.int .i64 0]).length=cnt:=by simp;omega
 by_cases hk:(k:Int)<(cnt:Int)
 ·have eU:k<cnt:=by omega
  have tu:(k:Int)<=(cnt:Int):=by omega
  have hw:IntKind.i64.wrap ((k:Int)+((min k (cnt-k):Nat):Int))=((k+min k (cnt-k):Nat):Int):=by rw[bE (by omega)];omega
  have nq:List.take k (List.replicate k [AV.int .i64 v]++List.replicate (cnt-k) [AV.int .i64 0])=List.replicate k [AV.int .i64 v]:=List.take_left' (by simp)
  have dH:(List.replicate k [AV.int .i64 v]).all (fun c=>c.length==1&&c.all AV.cell)=true:=List.all_eq_true.2 fun c hc=>by rw[List.eq_of_mem_replicate hc];rfl
  have hlr:(List.replicate k [AV.int .i64 v]).length=k:=List.length_replicate
  have Ny:k+(cnt-k)=cnt:=by omega
  have uv:List.replicate k [AV.int .i64 v]++List.take (min k (cnt-k)) (List.replicate k [AV.int .i64 v])++List.drop (k+min k (cnt-k)) (List.replicate k [AV.int .i64 v]++List.replicate (cnt-k) [AV.int .i64 0])=List.replicate (k+min k (cnt-k)) [AV.int .i64 v]++List.replicate (cnt-(k+min k (cnt-k))) [AV.int .i64 0]:=by
   rw[List.take_replicate,List.drop_append,List.drop_of_length_le (by simp),List.nil_append,hlr,List.drop_replicate,List.replicate_append_replicate]
   congr 2
   ·omega
   ·omega
  (try((repeat(revert hN;revert N;apply Pn.out));refine wk (tw @b7 (tw @b8 (tw @bg (tw @Qn (tw @hk (tw @tu (tw @sZ (tw @hw (tw @eU (tw @Nat.sub_zero (tw @nq (tw @dH (tw @hlr (tw @Ny (tw @Nat.le_refl @uv))))))))))))))) ?_;(repeat(refine Pn.mk ?_;intro N hN))))
  refine⟨_,?_,k+min k (cnt-k),rfl,by omega,by omega,sd @hw,sd @uv,by(try dsimp only);omega,fun i hi=>?_⟩
  ·omega
  ·have CH:=ef hi
   have:=bfr i hi
   simp only[go_sem, ↓reduceIte,Nat.reduceEqDiff,Nat.reduceAdd,Nat.reduceSub,Nat.reduceLeDiff,reduceCtorEq,CH,this]
 ·have kJ:k=cnt:=by omega
  subst kJ
  (try((repeat(revert hN;revert N;apply Pn.out));refine wk (tw @b7 (tw @b8 (tw @bg (tw @Qn @hk)))) ?_;(repeat(refine Pn.mk ?_;intro N hN))))
  refine fI (.inl rfl) (vs:=[.own ⟨327006002,σ.next+1+1+1+1⟩ 0 k]) (sd @Nat.zero_add) ⟨⟨327006002,σ.next+1+1+1+1⟩,rfl,by simp only[go_sem, ↓reduceIte,Nat.reduceEqDiff,Nat.reduceAdd,Nat.reduceSub,Nat.reduceLeDiff,reduceCtorEq,bg];simp,by(try dsimp only);omega,by(try dsimp only);omega,fun i hi=>bfr i hi⟩
end Go.Proofs.YtgoljkjaameagaaGreat.V

namespace Go.Proofs.YtgoljkjaameagaaGreat.V
open Go.RowKit
attribute [local irreducible] dL wpOps fu Call
attribute [local go_sem] az eQ ec eY eW cJ upd bJ K.av b4 AV.cells AV.cell rowOf rowsOf part ld rowAt bH bG cX dr fR bo cE dD e6 eF cQ dx cC cz db dc br aJ ck bq cq cm dv dy dw cj bx cD dt bp aA cu bQ fQ bd bY bt aH cW aX cY AV.undef bj bl de dn da dj bV dC dE bK dB dz cr cw List.getD_cons_zero List.getD_cons_succ List.getD_nil List.all_cons List.all_nil Bool.and_true Bool.true_and Bool.and_self Bool.not_true Bool.not_false Option.map_some Option.map_none Option.bind_some Option.bind_none List.length_cons List.length_nil List.take_succ_cons List.take_zero List.take_nil List.drop_succ_cons List.drop_zero List.drop_nil List.head?_cons List.map_cons List.map_nil List.getElem?_cons_zero List.getElem?_cons_succ List.cons_append List.nil_append List.append_nil List.length_map List.set_cons_zero List.set_cons_succ Nat.reduceMul eq_self Int.toNat_natCast Int.natCast_nonneg and_self true_and and_true decide_true decide_false Bool.false_eq_true Nat.zero_add Nat.add_zero List.contains_cons List.contains_nil Bool.or_false Bool.false_or beq_self_eq_true Nat.reduceBEq ne_eq not_true_eq_false not_false_eq_true Id.mk.injEq false_and and_false Nat.reduceLT Int.reduceLE Int.reduceLT Int.reduceToNat Int.reduceNeg Int.reduceAdd Nat.le_refl List.length_append beq_true beq_false Bool.not_eq_eq_eq_not or_false false_or dd ae ai ay bh bD aG aM aD aL bZ bm
def kD (R:Nat->Id) (n k:Nat):List (List AV):=(List.range k).map fun i=>[.own (R i) 0 n]
theorem jR (R:Nat->Id) (n k:Nat):(kD R n k).length=k:=by simp[kD]
theorem qN {R:Nat->Id} {n k i:Nat} (h:i<k):(kD R n k)[i]? =some [.own (R i) 0 n]:=by simp[kD,h]
theorem r5 (R:Nat->Id) (n k:Nat):kD R n (k+1)=kD R n k++[[.own (R k) 0 n]]:=by simp[kD,List.range_succ]
def wz (c:Nat->Nat->Int) (n:Nat):List (List AV):=(List.range n).map fun i=>[.sl (dS (c i) n)]
theorem Bl {c:Nat->Nat->Int} {n i:Nat} (h:i<n):(wz c n)[i]? =some [.sl (dS (c i) n)]:=by simp[wz,h]
theorem vm (c:Nat->Nat->Int) (n:Nat):(wz c n).length=n:=by simp[wz]
structure GL (X o1 o2:Id) (R1 R2:Nat->Id) (n nb:Nat):Prop where
 sx:X.site=299001001
 s1:o1.site=299004008
 s2:o2.site=299005008
 RW:∀i,i<n->(R1 i).site=299004006
 L3:∀i,i<n->(R2 i).site=299005006
 i1:∀i j,i<n->j<n->R1 i=R1 j->i=j
 i2:∀i j,i<n->j<n->R2 i=R2 j->i=j
 vx:X.bW<nb
 v1:o1.bW<nb
 v2:o2.bW<nb
 TP:∀i,i<n->(R1 i).bW<nb
 QV:∀i,i<n->(R2 i).bW<nb
structure pc (g:Rows) (X o1 o2:Id) (R1 R2:Nat->Id) (n:Nat) (c f:Nat->Nat->Int):Prop where
 x:g X=some ⟨true,2,[[.own o1 0 n,.own o2 0 n]]⟩
 t1:g o1=some ⟨true,1,kD R1 n n⟩
 t2:g o2=some ⟨true,1,kD R2 n n⟩
 r1:∀i,i<n->g (R1 i)=some ⟨true,1,dS (c i) n⟩
 r2:∀i,i<n->g (R2 i)=some ⟨true,1,dS (f i) n⟩
theorem nD {f:Nat->Nat->Int} {a b:Nat} {d:Int} {n:Nat} (hb:b<n):(dS (f a) n).set b (aT (f a b+d))=dS (bump f a b d a) n:=kE hb (by simp[bump]) fun i _ hi=>by simp[bump,hi]
theorem jL {f:Nat->Nat->Int} {a b i:Nat} {d:Int} (h:i≠a):bump f a b d i=f i:=by funext v;simp[bump,h]
theorem pc.add {g g':Rows} {X o1 o2:Id} {R1 R2:Nat->Id} {n nb:Nat} {c f:Nat->Nat->Int} (I:GL X o1 o2 R1 R2 n nb) (h:pc g X o1 o2 R1 R2 n c f) (b:PB) (ha:b.a<n) (hb:b.b<n) (hA:b.a≠b.b->g' (R1 b.a)=some ⟨true,1,dS (bump c b.a b.b b.s b.a) n⟩) (hB:g' (R1 b.b)=some ⟨true,1,dS (mQ c b b.b) n⟩) (hf:∀i:Id,i.bW<nb->(i=R1 b.a)=False->(i=R1 b.b)=False->g' i=g i):pc g' X o1 o2 R1 R2 n (mQ c b) f:=by
 have ne:∀{i:Id} {s:Nat},i.site=s->(s==299004006)=false->∀a,a<n->(i=R1 a)=False:=fun {i s} hi hs a ha=>by
  simp only[eq_iff_iff,iff_false]
  rintro rfl
  rw[I.RW a ha]at hi
  subst hi
  simp at hs
 refine⟨(hf _ I.vx (ne I.sx (by decide) _ ha) (ne I.sx (by decide) _ hb)).trans h.x,(hf _ I.v1 (ne I.s1 (by decide) _ ha) (ne I.s1 (by decide) _ hb)).trans h.t1,(hf _ I.v2 (ne I.s2 (by decide) _ ha) (ne I.s2 (by decide) _ hb)).trans h.t2,fun i hi=>?_,fun i hi=>(hf _ (I.QV i hi) (ne (I.L3 i hi) (by decide) _ ha) (ne (I.L3 i hi) (by decide) _ hb)).trans (h.r2 i hi)⟩
 by_cases Jj:i=b.b
 ·subst Jj;exact hB
 ·by_cases Nd:i=b.a
  ·subst Nd
   rw[hA Jj,mQ,jL Jj]
  ·rw[mQ,jL Jj,jL Nd,hf _ (I.TP i hi) (by simp only[eq_iff_iff,iff_false];exact fun he=>Nd (I.i1 i _ hi ha he)) (by simp only[eq_iff_iff,iff_false];exact fun he=>Jj (I.i1 i _ hi hb he))]
   exact h.r1 i hi
def kU (n:Nat) (c f:Nat->Nat->Int):List AV:=[.sl (wz c n),.sl (wz f n)]
theorem EB {g:Rows} {R:Nat->Id} {n k:Nat} {c:Nat->Nat->Int} (h:∀i,i<k->g (R i)=some ⟨true,1,dS (c i) n⟩) (m:Nat):dQ (dd g) (m+3) (kD R n k)=some ((List.range k).map fun i=>[.sl (dS (c i) n)]):=by
 induction k with
 |zero=>rw[show kD R n 0=[]from rfl,dQ];rfl
 |succ k ih=>
  have e1:V.fz (dd g) (m+3) (.own (R k) 0 n)=some (.sl (dS (c k) n)):=by
   rw[gi];simp only[dd,h k (by omega),Option.map_some,if_true]
   rw[if_pos (by rw[dG];omega),List.drop_zero,List.take_of_length_le (by rw[dG];omega),zi];rfl
  have app:∀(xs ys:List (List AV)) (RY Q7:List (List AV)),dQ (dd g) (m+3) xs=some RY->dQ (dd g) (m+3) ys=some Q7->dQ (dd g) (m+3) (xs++ys)=some (RY++Q7):=by
   intro xs
   induction xs with
   |nil=>intro ys RY Q7 h1 h2;rw[dQ]at h1;cases h1;exact h2
   |cons a xs ih2=>
    intro ys RY Q7 h1 h2
    rw[dQ]at h1
    rw[List.cons_append,dQ]
    cases ha:cI (dd g) (m+3) a with
    |none=>simp[ha]at h1
    |some a'=>
     cases hb:dQ (dd g) (m+3) xs with
     |none=>simp[ha,hb]at h1
     |some b'=>
      simp[ha,hb]at h1
      subst h1
      rw[ih2 ys b' Q7 hb h2];rfl
  rw[r5,List.range_succ,List.map_append]
  refine app _ _ _ _ (ih fun i hi=>h i (by omega)) ?_
  rw[dQ,ae,ai,e1,dQ];rfl
theorem pc.fz {g:Rows} {X o1 o2:Id} {R1 R2:Nat->Id} {n:Nat} {c f:Nat->Nat->Int} (h:pc g X o1 o2 R1 R2 n c f):V.fz (dd g) 6 (.ptr X 0 0)=some (.cN (kU n c f)):=by
 refine rD (sz:=2) (rows:=[[.own o1 0 n,.own o2 0 n]]) (by simp[dd,h.x]) rfl ?_
 have e1:V.fz (dd g) 5 (.own o1 0 n)=some (.sl (wz c n)):=by
  rw[gi];simp only[dd,h.t1,Option.map_some,if_true]
  rw[if_pos (by rw[jR];omega),List.drop_zero,List.take_of_length_le (by rw[jR];omega)]
  rw[show dQ _ 4 _=some (wz c n)from EB h.r1 1];rfl
 have e2:V.fz (dd g) 5 (.own o2 0 n)=some (.sl (wz f n)):=by
  rw[gi];simp only[dd,h.t2,Option.map_some,if_true]
  rw[if_pos (by rw[jR];omega),List.drop_zero,List.take_of_length_le (by rw[jR];omega)]
  rw[show dQ _ 4 _=some (wz f n)from EB h.r2 1];rfl
 simp only[List.drop_zero,ae,ai,e1,e2,kU,Option.map_some]
theorem MF (n:Nat) (c f:Nat->Nat->Int) (u v:Nat) (hu:u<n) (hv:v<n):ak Tryz.prog 328 [.cN (kU n c f),.int .i64 u,.int .i64 v] (.bool (decide (f u v<c u v))):=by
 refine ak.body eb rfl fun hl n0=>?_
 clear hl
 have h1:=Bl (c:=c) hu
 have h2:=Bl (c:=f) hu
 have h3:=dO (f:=c u) hv
 have h4:=dO (f:=f u) hv
 have hui:(u:Int)<(n:Int):=by omega
 have CH:(v:Int)<(n:Int):=by omega
 have l1:=vm c n
 have l2:=vm f n
 have l3:=dG (c u) n
 have l4:=dG (f u) n
 rw[aT]at h3 h4
 (try((repeat(revert hN;revert N;apply Pn.out));refine wk (tw @kU.eq_1 (tw @h1 (tw @h2 (tw @h3 (tw @h4 (tw @hui (tw @CH (tw @l1 (tw @l2 (tw @l3 @l4)))))))))) ?_;(repeat(refine Pn.mk ?_;intro N hN))))
 exact aQ (b:=decide (f u v<c u v)) (.inl rfl) (sd @Nat.zero_add) rfl
theorem Gi (n:Nat):List.replicate n [AV.int .i64 0]=dS (fun _=>0) n:=by
 refine List.ext_getElem? fun i=>?_
 by_cases h:i<n
 ·rw[dO h,List.getElem?_replicate,if_pos h];rfl
 ·rw[List.getElem?_eq_none (by simp;omega),List.getElem?_eq_none (by rw[dG];omega)]
theorem zf {i j:Id} {s t:Nat} (hi:i.site=s) (hj:j.site=t) (h:(s==t)=false):(i=j)=False/\(j=i)=False:=by
 constructor<;>(simp only[eq_iff_iff,iff_false];rintro rfl;rw[hi]at hj;subst hj;simp at h)
theorem A4 (cnt:Nat) (rK:1<=cnt) (hn:cnt<=1048576) (bs:List PB) (hb:∀b∈bs,b.a<cnt/\b.b<cnt) (er:∀b∈bs,0<=b.s/\b.s<=4) (nk:bs.length<=1048576) (σ:ar):
  Call Tryz.prog 299 [.int .i64 cnt,.sl (bs.map aw)] σ fun r σ'=>∃X o1 o2 R1 R2,r=.ptr X 0 0/\GL X o1 o2 R1 R2 cnt σ'.next/\σ.next<=σ'.next/\pc σ'.get X o1 o2 R1 R2 cnt (kz bs) (fun _ _=>0)/\∀i:Id,i.bW<σ.next->σ'.get i=σ.get i:=by
 refine eO eb rfl fun hl=>?_
 clear hl
 (try((repeat(revert hN;revert N;apply Pn.out));refine wk @Nat.zero_add ?_;(repeat(refine Pn.mk ?_;intro N hN))))
 obtain⟨X,hX⟩:∃X:Id,X=⟨299001001,σ.next+1⟩:=⟨_,rfl⟩
 obtain⟨R1,PJ⟩:∃R:Nat->Id,R=fun k=>⟨299004006,σ.next+3+4*k+1⟩:=⟨_,rfl⟩
 obtain⟨R2,M0⟩:∃R:Nat->Id,R=fun k=>⟨299005006,σ.next+3+4*k+2⟩:=⟨_,rfl⟩
 have sX:X.site=299001001:=by rw[hX]
 have vX:X.bW=σ.next+1:=by rw[hX]
 have s1:∀k,(R1 k).site=299004006:=fun k=>by rw[PJ]
 have s2:∀k,(R2 k).site=299005006:=fun k=>by rw[M0]
 have v1:∀k,(R1 k).bW=σ.next+3+4*k+1:=fun k=>by rw[PJ]
 have v2:∀k,(R2 k).bW=σ.next+3+4*k+2:=fun k=>by rw[M0]
 have jr:(0:Int)<=(cnt:Int):=by omega
 have o6:(cnt:Int)<=((16777216:Nat):Int):=by omega
 have hz:=Gi cnt
 have t1:kD R1 cnt 0=[]:=rfl
 have t2:kD R2 cnt 0=[]:=rfl
 refine aY (fun n env st=>∃k:Nat,n=(cnt)-k/\k<=(cnt)/\env 11=.int .i64 (k:Int)/\env 5=(.ptr X 0 0)/\(st.next=σ.next+3+4*k/\(∀i:Id,i.bW<σ.next->st.get i=σ.get i)/\∀j,j<k->st.get (R1 j)=some ⟨true,1,dS (fun _=>0) cnt⟩/\st.get (R2 j)=some ⟨true,1,dS (fun _=>0) cnt⟩)/\((k=0/\st.get X=some ⟨true,2,[[.bP,.bP]]⟩)∨∃o1 o2:Id,o1.site=299004008/\o2.site=299005008/\o1.bW<st.next/\o2.bW<st.next/\σ.next<=o1.bW/\σ.next<=o2.bW/\st.get X=some ⟨true,2,[[.own o1 0 k,.own o2 0 k]]⟩/\st.get o1=some ⟨true,1,kD R1 cnt k⟩/\st.get o2=some ⟨true,1,kD R2 cnt k⟩)) (cnt) ⟨0,by omega,by omega,sl @hX,sl @hX,⟨rfl,fun i hi=>by(have CH:=ef hi);simp only[go_sem, ↓reduceIte,Nat.reduceEqDiff,Nat.reduceAdd,Nat.reduceSub,Nat.reduceLeDiff,reduceCtorEq,CH],fun j hj=>absurd hj (Nat.not_lt_zero j)⟩,.inl ⟨rfl,by rw[hX];simp only[go_sem, ↓reduceIte,Nat.reduceEqDiff,Nat.reduceAdd,Nat.reduceSub,Nat.reduceLeDiff,reduceCtorEq]⟩⟩ ?_
 rintro n_a env_a st_a ⟨k,rfl,ale,a11,a5,mJ,aI1⟩ dU
 have a0:=dU 0 (by kernel_rfl);have a1:=dU 1 (by kernel_rfl);have wG:=dU 10 (by kernel_rfl)
 simp only[go_sem, ↓reduceIte,Nat.reduceEqDiff,Nat.reduceAdd,Nat.reduceSub,Nat.reduceLeDiff,reduceCtorEq,hX]at a0 a1 wG
 clear dU
 obtain⟨anx,dU,aR⟩:=mJ
 have wX:=ef (i:=X) (n:=st_a.next) (by omega)
 by_cases hk:(k:Int)<(cnt:Int)
 ·have cK:∀{e:Env} {gg:Rows} {nx:Nat},(e 11=.int .i64 (IntKind.i64.wrap ((k:Int)+1)))->(e 5=(.ptr X 0 0))->(nx=σ.next+3+4*(k+1)/\(∀i:Id,i.bW<σ.next->gg i=σ.get i)/\∀j,j<(k+1)->gg (R1 j)=some ⟨true,1,dS (fun _=>0) cnt⟩/\gg (R2 j)=some ⟨true,1,dS (fun _=>0) cnt⟩)->(((k+1)=0/\gg X=some ⟨true,2,[[.bP,.bP]]⟩)∨∃o1 o2:Id,o1.site=299004008/\o2.site=299005008/\o1.bW<nx/\o2.bW<nx/\σ.next<=o1.bW/\σ.next<=o2.bW/\gg X=some ⟨true,2,[[.own o1 0 (k+1),.own o2 0 (k+1)]]⟩/\gg o1=some ⟨true,1,kD R1 cnt (k+1)⟩/\gg o2=some ⟨true,1,kD R2 cnt (k+1)⟩)->∃m0,m0<(cnt)-k/\∃k:Nat,m0=(cnt)-k/\k<=(cnt)/\e 11=.int .i64 (k:Int)/\e 5=(.ptr X 0 0)/\(nx=σ.next+3+4*k/\(∀i:Id,i.bW<σ.next->gg i=σ.get i)/\∀j,j<k->gg (R1 j)=some ⟨true,1,dS (fun _=>0) cnt⟩/\gg (R2 j)=some ⟨true,1,dS (fun _=>0) cnt⟩)/\((k=0/\gg X=some ⟨true,2,[[.bP,.bP]]⟩)∨∃o1 o2:Id,o1.site=299004008/\o2.site=299005008/\o1.bW<nx/\o2.bW<nx/\σ.next<=o1.bW/\σ.next<=o2.bW/\gg X=some ⟨true,2,[[.own o1 0 k,.own o2 0 k]]⟩/\gg o1=some ⟨true,1,kD R1 cnt k⟩/\gg o2=some ⟨true,1,kD R2 cnt k⟩):=fun x1 x2 x3 x4=>⟨_,by omega,k+1,rfl,by omega,(by rw[x1,ax (by omega)]),x2,x3,x4⟩
  have eU:k<cnt:=by omega
  have tx:R1 k=⟨299004006,st_a.next+1⟩:=by rw[PJ,anx]
  have sZ:R2 k=⟨299005006,st_a.next+1+1⟩:=by rw[M0,anx]
  have Jn:kD R1 cnt (k+1)=kD R1 cnt k++[[.own ⟨299004006,st_a.next+1⟩ 0 cnt]]:=by rw[r5,tx]
  have OX:kD R2 cnt (k+1)=kD R2 cnt k++[[.own ⟨299005006,st_a.next+1+1⟩ 0 cnt]]:=by rw[r5,sZ]
  rcases aI1 with⟨rfl,O9⟩|⟨o1,o2,so1,so2,vo1,vo2,vn1,vn2,O9,ag1,ag2⟩
  ·(try((repeat(revert hN;revert N;apply Pn.out));refine wk (tw @a11 (tw @a5 (tw @a0 (tw @a1 (tw @wG (tw @hk (tw @wX (tw @O9 (tw @jr (tw @o6 (tw @Int.le_refl @hz))))))))))) ?_;(repeat(refine Pn.mk ?_;intro N hN))))
   refine cK ?_ ?_ (by
    (try dsimp only)
    refine⟨by omega,fun i hi=>?_,fun j hj=>?_⟩
    ·have q1:=ef (i:=i) (n:=st_a.next) (by omega)
     have q2:=du (a:=i) (b:=X) (by omega)
     have:=dU i hi
     simp only[go_sem, ↓reduceIte,Nat.reduceEqDiff,Nat.reduceAdd,Nat.reduceSub,Nat.reduceLeDiff,reduceCtorEq,q1,q2,this]
    ·by_cases w9:j=0
     ·subst w9
      rw[tx,sZ]
      have q1:=eV sX (b:=299004006) (v:=st_a.next+1) (by decide)
      have q2:=eV sX (b:=299005006) (v:=st_a.next+1+1) (by decide)
      simp only[go_sem, ↓reduceIte,Nat.reduceEqDiff,Nat.reduceAdd,Nat.reduceSub,Nat.reduceLeDiff,reduceCtorEq,q1,q2]
     ·obtain⟨r1,r2⟩:=aR j (by omega)
      have q1:=ef (i:=R1 j) (n:=st_a.next) (by rw[v1];omega)
      have q2:=ef (i:=R2 j) (n:=st_a.next) (by rw[v2];omega)
      have q3:=zf (s1 j) sX (by decide)
      have q4:=zf (s2 j) sX (by decide)
      constructor
      ·simp only[go_sem, ↓reduceIte,Nat.reduceEqDiff,Nat.reduceAdd,Nat.reduceSub,Nat.reduceLeDiff,reduceCtorEq,q1,q3,r1]
      ·simp only[go_sem, ↓reduceIte,Nat.reduceEqDiff,Nat.reduceAdd,Nat.reduceSub,Nat.reduceLeDiff,reduceCtorEq,q2,q4,r2]) (.inr ⟨⟨299004008,st_a.next+1⟩,⟨299005008,st_a.next+1+1⟩,rfl,rfl,by(try dsimp only);omega,by(try dsimp only);omega,by(try dsimp only);omega,by(try dsimp only);omega,sd @wX,by rw[Jn,t1];simp only[go_sem, ↓reduceIte,Nat.reduceEqDiff,Nat.reduceAdd,Nat.reduceSub,Nat.reduceLeDiff,reduceCtorEq,wX,List.nil_append],by rw[OX,t2];simp only[go_sem, ↓reduceIte,Nat.reduceEqDiff,Nat.reduceAdd,Nat.reduceSub,Nat.reduceLeDiff,reduceCtorEq,wX,List.nil_append]⟩)
   all_goals simp only[go_sem, ↓reduceIte,Nat.reduceEqDiff,Nat.reduceAdd,Nat.reduceSub,Nat.reduceLeDiff,reduceCtorEq,a11,a5,a0,a1,wG,wX]
  ·have l1:=jR R1 cnt k
   have l2:=jR R2 cnt k
   have e1:k+1<=16777216:=by omega
   have w1:=ef vo1
   have w2:=ef vo2
   have x1:=zf sX so1 (by decide)
   have x2:=zf sX so2 (by decide)
   have x3:=zf so1 so2 (by decide)
   (try((repeat(revert hN;revert N;apply Pn.out));refine wk (tw @a11 (tw @a5 (tw @a0 (tw @a1 (tw @wG (tw @hk (tw @wX (tw @O9 (tw @ag1 (tw @ag2 (tw @l1 (tw @l2 (tw @e1 (tw @w1 (tw @w2 (tw @x1 (tw @x2 (tw @x3 (tw @jr (tw @o6 (tw @Int.le_refl @hz))))))))))))))))))))) ?_;(repeat(refine Pn.mk ?_;intro N hN))))
   refine cK ?_ ?_ (by
    (try dsimp only)
    refine⟨by omega,fun i hi=>?_,fun j hj=>?_⟩
    ·have q1:=ef (i:=i) (n:=st_a.next) (by omega)
     have q2:=du (a:=i) (b:=X) (by omega)
     have q3:=du (a:=i) (b:=o1) (by omega)
     have q4:=du (a:=i) (b:=o2) (by omega)
     have:=dU i hi
     simp only[go_sem, ↓reduceIte,Nat.reduceEqDiff,Nat.reduceAdd,Nat.reduceSub,Nat.reduceLeDiff,reduceCtorEq,q1,q2,this,q3,q4]
    ·by_cases w9:j=k
     ·subst w9
      rw[tx,sZ]
      have q1:=eV sX (b:=299004006) (v:=st_a.next+1) (by decide)
      have q2:=eV sX (b:=299005006) (v:=st_a.next+1+1) (by decide)
      simp only[go_sem, ↓reduceIte,Nat.reduceEqDiff,Nat.reduceAdd,Nat.reduceSub,Nat.reduceLeDiff,reduceCtorEq,q1,q2,w1,w2]
     ·obtain⟨r1,r2⟩:=aR j (by omega)
      have q1:=ef (i:=R1 j) (n:=st_a.next) (by rw[v1];omega)
      have q2:=ef (i:=R2 j) (n:=st_a.next) (by rw[v2];omega)
      have q3:=zf (s1 j) sX (by decide)
      have q4:=zf (s2 j) sX (by decide)
      have q5:=zf (s1 j) so1 (by decide)
      have q6:=zf (s1 j) so2 (by decide)
      have q7:=zf (s2 j) so1 (by decide)
      have q8:=zf (s2 j) so2 (by decide)
      constructor
      ·simp only[go_sem, ↓reduceIte,Nat.reduceEqDiff,Nat.reduceAdd,Nat.reduceSub,Nat.reduceLeDiff,reduceCtorEq,q1,q3,r1,q5,q6]
      ·simp only[go_sem, ↓reduceIte,Nat.reduceEqDiff,Nat.reduceAdd,Nat.reduceSub,Nat.reduceLeDiff,reduceCtorEq,q2,q4,r2,q7,q8]) (.inr ⟨⟨299004008,st_a.next+1⟩,⟨299005008,st_a.next+1+1⟩,rfl,rfl,by(try dsimp only);omega,by(try dsimp only);omega,by(try dsimp only);omega,by(try dsimp only);omega,sd @wX,by rw[Jn];simp only[go_sem, ↓reduceIte,Nat.reduceEqDiff,Nat.reduceAdd,Nat.reduceSub,Nat.reduceLeDiff,reduceCtorEq,wX,w1,w2],by rw[OX];simp only[go_sem, ↓reduceIte,Nat.reduceEqDiff,Nat.reduceAdd,Nat.reduceSub,Nat.reduceLeDiff,reduceCtorEq,wX,w1,w2]⟩)
   all_goals simp only[go_sem, ↓reduceIte,Nat.reduceEqDiff,Nat.reduceAdd,Nat.reduceSub,Nat.reduceLeDiff,reduceCtorEq,a11,a5,a0,a1,wG,wX,w1,w2,x1,x2,x3]
 have kJ:cnt=k:=by omega
 subst kJ
 rcases aI1 with⟨h0,_⟩|⟨o1,o2,so1,so2,vo1,vo2,vn1,vn2,O9,ag1,ag2⟩
 ·omega
 (try((repeat(revert hN;revert N;apply Pn.out));refine wk (tw @a11 (tw @a5 (tw @a0 (tw @a1 (tw @wG @hk))))) ?_;(repeat(refine Pn.mk ?_;intro N hN))))
 have I:GL X o1 o2 R1 R2 cnt st_a.next:=⟨sX,so1,so2,fun i _=>s1 i,fun i _=>s2 i,fun i j _ _ h=>by have:=v1 i;rw[h,v1]at this;omega,fun i j _ _ h=>by have:=v2 i;rw[h,v2]at this;omega,by omega,vo1,vo2,fun i hi=>by rw[v1];omega,fun i hi=>by rw[v2];omega⟩
 refine aY (fun n env st=>∃i:Nat,n=(bs.length)-i/\i<=(bs.length)/\env 38=.int .i64 (i:Int)/\(st_a.next<=st.next/\(∀x:Id,x.bW<σ.next->st.get x=σ.get x)/\pc st.get X o1 o2 R1 R2 cnt (kz (bs.take i)) (fun _ _=>0))) (bs.length) ⟨0,by omega,by omega,sl (tw @a11 (tw @a5 (tw @a0 (tw @a1 @wG)))),⟨by(try dsimp only);omega,dU,O9,ag1,ag2,fun j hj=>(aR j hj).1,fun j hj=>(aR j hj).2⟩⟩ ?_
 rintro n_b env_b st_b ⟨i,rfl,ble,b38,bI0⟩ bfr
 have b0:=bfr 0 (by kernel_rfl);have b1:=bfr 1 (by kernel_rfl);have b5:=bfr 5 (by kernel_rfl);have OB:=bfr 36 (by kernel_rfl);have OC:=bfr 37 (by kernel_rfl)
 simp only[go_sem, ↓reduceIte,Nat.reduceEqDiff,Nat.reduceAdd,Nat.reduceSub,Nat.reduceLeDiff,reduceCtorEq,a11,a5,a0,a1,wG]at b0 b1 b5 OB OC
 clear bfr
 obtain⟨bn,Mn,bM⟩:=bI0
 by_cases hi:(i:Int)<(bs.length:Int)
 ·have gK:∀{e:Env} {gg:Rows} {nx:Nat},(e 38=.int .i64 (IntKind.i64.wrap ((i:Int)+1)))->(st_a.next<=nx/\(∀x:Id,x.bW<σ.next->gg x=σ.get x)/\pc gg X o1 o2 R1 R2 cnt (kz (bs.take (i+1))) (fun _ _=>0))->∃m0,m0<(bs.length)-i/\∃i:Nat,m0=(bs.length)-i/\i<=(bs.length)/\e 38=.int .i64 (i:Int)/\(st_a.next<=nx/\(∀x:Id,x.bW<σ.next->gg x=σ.get x)/\pc gg X o1 o2 R1 R2 cnt (kz (bs.take i)) (fun _ _=>0)):=fun x1 x2=>⟨_,by omega,i+1,rfl,by omega,(by rw[x1,ax (by omega)]),x2⟩
  have fJ:i<bs.length:=by omega
  have mW:(bs.map aw)[i]? =some (aw bs[i]):=by simp[fJ]
  have fM:=hb _ (List.getElem_mem fJ)
  have hsi:=er _ (List.getElem_mem fJ)
  have rL:kz (bs.take (i+1))=mQ (kz (bs.take i)) bs[i]:=by rw[List.take_succ_eq_append_getElem fJ,Dd]
  have oA:=y6 (bs.take i) (fun _ _=>0) (fun b hb=>(er b (List.mem_of_mem_take hb)).1) (fun _ _=>Int.le_refl _)
  have hle:=room_le (bs.take i) (fun _ _=>0) 0 (fun b hb=>(er b (List.mem_of_mem_take hb)).2) (fun _ _=>Int.le_refl _) (Int.le_refl _)
  rw[List.length_take]at hle
  have fN:(bs.take i).foldl mQ (fun _ _=>0)=kz (bs.take i):=rfl
  rw[fN]at oA hle
  generalize kz (bs.take i)=c at *
  generalize bs[i]=b at *
  obtain⟨ha,rG⟩:=fM
  have gA:=qN (R:=R1) (n:=cnt) ha
  have gB:=qN (R:=R1) (n:=cnt) rG
  have rA:=bM.r1 _ ha
  have rB:=bM.r1 _ rG
  have cA:=dO (f:=c b.a) rG
  have cB:=dO (f:=c b.b) ha
  have sA:=nD (f:=c) (a:=b.a) (d:=b.s) rG
  have gX:=bM.x
  have g1:=bM.t1
  have gq:(b.a:Int)<(cnt:Int):=by omega
  have fM:(b.b:Int)<(cnt:Int):=by omega
  have qX:=ef (i:=X) (n:=st_b.next) (by omega)
  have q1:=ef (i:=o1) (n:=st_b.next) (by omega)
  have qA:=ef (i:=R1 b.a) (n:=st_b.next) (by rw[v1];omega)
  have qB:=ef (i:=R1 b.b) (n:=st_b.next) (by rw[v1];omega)
  have xA:=zf sX (s1 b.a) (by decide)
  have xB:=zf sX (s1 b.b) (by decide)
  have yA:=zf so1 (s1 b.a) (by decide)
  have yB:=zf so1 (s1 b.b) (by decide)
  have l1:=jR R1 cnt cnt
  have lA:=dG (c b.a) cnt
  have lB:=dG (c b.b) cnt
  have hAB:=hle b.a b.b
  have hBA:=hle b.b b.a
  have gAB:=oA b.a b.b
  have gBA:=oA b.b b.a
  have wA:IntKind.i64.wrap (c b.a b.b+b.s)=c b.a b.b+b.s:=bE (by omega)
  by_cases qk:b.a=b.b
  ·obtain⟨ba,bb,s⟩:=b
   dsimp only at *
   subst qk
   have Nv:=nD (f:=bump c ba ba s) (a:=ba) (b:=ba) (d:=s) (n:=cnt) ha
   have SK:=dO (f:=bump c ba ba s ba) ha
   have hv:bump c ba ba s ba ba=c ba ba+s:=by simp[bump]
   have lC:=dG (bump c ba ba s ba) cnt
   have wB:IntKind.i64.wrap (c ba ba+s+s)=c ba ba+s+s:=bE (by omega)
   rw[hv]at Nv SK
   have rJ:mQ c ⟨ba,ba,s⟩ ba=bump (bump c ba ba s) ba ba s ba:=rfl
   rw[aT]at cA sA Nv SK
   (try((repeat(revert hN;revert N;apply Pn.out));refine wk (tw @b38 (tw @b0 (tw @b1 (tw @b5 (tw @OB (tw @OC (tw @hi (tw @mW (tw @aw.eq_1 (tw @gA (tw @rA (tw @cA (tw @sA (tw @gX (tw @g1 (tw @gq (tw @qX (tw @q1 (tw @qA (tw @xA (tw @yA (tw @l1 (tw @lA (tw @wA (tw @Nv (tw @SK (tw @lC @wB))))))))))))))))))))))))))) ?_;(repeat(refine Pn.mk ?_;intro N hN))))
   exact gK (sd (tw @b38 (tw @b0 (tw @b1 (tw @b5 (tw @OB @OC)))))) (by
    (try dsimp only)
    refine⟨by omega,fun x hx=>?_,?_⟩
    ·have p1:=ef (i:=x) (n:=st_b.next) (by omega)
     have p2:=du (a:=x) (b:=R1 ba) (by rw[v1];omega)
     have:=Mn x hx
     simp only[go_sem, ↓reduceIte,Nat.reduceEqDiff,Nat.reduceAdd,Nat.reduceSub,Nat.reduceLeDiff,reduceCtorEq,p1,p2,this]
    ·rw[rL]
     refine bM.add I ⟨ba,ba,s⟩ ha ha (fun h=>absurd rfl h) ?_ fun x hx h1 h2=>?_
     ·rw[rJ]
      simp only[go_sem, ↓reduceIte,Nat.reduceEqDiff,Nat.reduceAdd,Nat.reduceSub,Nat.reduceLeDiff,reduceCtorEq]
     ·have p1:=ef (i:=x) (n:=st_b.next) (by omega)
      (try dsimp only at h2)
      simp only[go_sem, ↓reduceIte,Nat.reduceEqDiff,Nat.reduceAdd,Nat.reduceSub,Nat.reduceLeDiff,reduceCtorEq,p1,h2])
  ·have gF:(R1 b.a=R1 b.b)=False:=by simp only[eq_iff_iff,iff_false];exact fun h=>qk (I.i1 _ _ ha rG h)
   have HH:(R1 b.b=R1 b.a)=False:=by simp only[eq_iff_iff,iff_false];exact fun h=>qk (I.i1 _ _ ha rG h.symm)
   have Nl:bump c b.a b.b b.s b.b=c b.b:=jL fun h=>qk h.symm
   have Nv:=nD (f:=bump c b.a b.b b.s) (a:=b.b) (b:=b.a) (d:=b.s) (n:=cnt) ha
   rw[Nl]at Nv
   have wB:IntKind.i64.wrap (c b.b b.a+b.s)=c b.b b.a+b.s:=bE (by omega)
   have rJ:mQ c b b.b=bump (bump c b.a b.b b.s) b.b b.a b.s b.b:=rfl
   rw[aT]at cA cB sA Nv
   (try((repeat(revert hN;revert N;apply Pn.out));refine wk (tw @b38 (tw @b0 (tw @b1 (tw @b5 (tw @OB (tw @OC (tw @hi (tw @mW (tw @aw.eq_1 (tw @gA (tw @gB (tw @rA (tw @rB (tw @cA (tw @cB (tw @sA (tw @gX (tw @g1 (tw @gq (tw @fM (tw @qX (tw @q1 (tw @qA (tw @qB (tw @xA (tw @xB (tw @yA (tw @yB (tw @l1 (tw @lA (tw @lB (tw @wA (tw @Nv (tw @wB (tw @gF @HH))))))))))))))))))))))))))))))))))) ?_;(repeat(refine Pn.mk ?_;intro N hN))))
   exact gK (sd (tw @b38 (tw @b0 (tw @b1 (tw @b5 (tw @OB @OC)))))) (by
    (try dsimp only)
    refine⟨by omega,fun x hx=>?_,?_⟩
    ·have p1:=ef (i:=x) (n:=st_b.next) (by omega)
     have p2:=du (a:=x) (b:=R1 b.b) (by rw[v1];omega)
     have p3:=du (a:=x) (b:=R1 b.a) (by rw[v1];omega)
     have:=Mn x hx
     simp only[go_sem, ↓reduceIte,Nat.reduceEqDiff,Nat.reduceAdd,Nat.reduceSub,Nat.reduceLeDiff,reduceCtorEq,p1,p2,p3,this]
    ·rw[rL]
     refine bM.add I b ha rG (fun h=>?_) ?_ fun x hx h1 h2=>?_
     ·simp only[go_sem, ↓reduceIte,Nat.reduceEqDiff,Nat.reduceAdd,Nat.reduceSub,Nat.reduceLeDiff,reduceCtorEq,gF]
     ·rw[rJ]
      simp only[go_sem, ↓reduceIte,Nat.reduceEqDiff,Nat.reduceAdd,Nat.reduceSub,Nat.reduceLeDiff,reduceCtorEq,gF]
     ·have p1:=ef (i:=x) (n:=st_b.next) (by omega)
      simp only[go_sem, ↓reduceIte,Nat.reduceEqDiff,Nat.reduceAdd,Nat.reduceSub,Nat.reduceLeDiff,reduceCtorEq,p1,h1,h2])
 ·have o7:i=bs.length:=by omega
  subst o7
  rw[List.take_length]at bM
  (try((repeat(revert hN;revert N;apply Pn.out));refine wk (tw @b38 (tw @b0 (tw @b1 (tw @b5 (tw @OB (tw @OC @hi)))))) ?_;(repeat(refine Pn.mk ?_;intro N hN))))
  exact fI (.inl rfl) (vs:=[.ptr X 0 0]) (sd @Nat.zero_add) ⟨X,o1,o2,R1,R2,rfl,⟨I.sx,I.s1,I.s2,I.RW,I.L3,I.i1,I.i2,by have:=I.vx;(try dsimp only);omega,by have:=I.v1;(try dsimp only);omega,by have:=I.v2;(try dsimp only);omega,fun j hj=>by have:=I.TP j hj;(try dsimp only);omega,fun j hj=>by have:=I.QV j hj;(try dsimp only);omega⟩,by(try dsimp only);omega,bM,Mn⟩
end Go.Proofs.YtgoljkjaameagaaGreat.V

namespace Go.Proofs.YtgoljkjaameagaaGreat.V
structure Bq (n:Nat) (c f:Nat->Nat->Int) (x:Nat) (par:Nat->Int) (Q:List Nat) (i:Nat):Prop where
 nodup:Q.Nodup
 lt:∀v∈Q,v<n
 root:par x=(x:Int)
 mem:x∈Q
 iff:∀v,v<n->(0<=par v↔v∈Q)
 up:∀v∈Q,v≠x->∃u,u∈Q/\par v=(u:Int)/\Q.idxOf u<Q.idxOf v/\f u v<c u v
 done:∀j (_:j<i) (hl:j<Q.length) (v:Nat),v<n->f Q[j] v<c Q[j] v->v∈Q
 ile:i<=Q.length
section
variable {n:Nat} {c f:Nat->Nat->Int} {x:Nat} {par:Nat->Int} {Q:List Nat} {i:Nat}
theorem Bq.len (h:Bq n c f x par Q i):Q.length<=n:=nV n Q h.nodup h.lt
theorem Bq.start (hx:x<n):Bq n c f x (fun v=>if v=x then(x:Int)else -1) [x] 0:=by
 refine⟨by simp,fun v hv=>by simp at hv;omega,by simp,by simp,fun v hv=>?_,fun v hv gF=>absurd (by simpa using hv) gF,fun j hj=>by omega,by simp⟩
 by_cases h:v=x
 ·simp[h]
 ·simp[h]
theorem Bq.visit (h:Bq n c f x par Q i) (hi:i<Q.length) {v:Nat} (hv:v<n) (hp:par v<0) (hr:f Q[i] v<c Q[i] v):Bq n c f x (fun w=>if w=v then(Q[i]:Int)else par w) (Q++[v]) i:=by
 have TB:v∉Q:=fun hm=>by have:=(h.iff v hv).2 hm;omega
 have TG:x≠v:=fun e=>TB (e▸h.mem)
 have yp:∀u∈Q,(Q++[v]).idxOf u=Q.idxOf u:=fun u hu=>by rw[List.idxOf_append,if_pos hu]
 have uu:(Q++[v]).idxOf v=Q.length:=by rw[List.idxOf_append,if_neg TB];simp
 refine⟨?_,fun w hw=>?_,by simp only[if_neg TG];exact h.root,by simp[h.mem],fun w hw=>?_,fun w hw gF=>?_,fun j hj hl w hw HN=>?_,by simp;omega⟩
 ·refine List.nodup_append.2 ⟨h.nodup,by simp,fun a ha b hb=>?_⟩
  rw[List.mem_singleton.1 hb]
  rintro rfl;exact TB ha
 ·rcases List.mem_append.1 hw with hw|hw
  ·exact h.lt w hw
  ·rw[List.mem_singleton.1 hw];exact hv
 ·by_cases Eh:w=v
  ·subst Eh;simp
  ·rw[if_neg Eh,h.iff w hw];simp[Eh]
 ·by_cases Eh:w=v
  ·subst Eh
   refine⟨Q[i],by simp,by simp,?_,hr⟩
   rw[yp _ (List.getElem_mem hi),uu]
   exact List.idxOf_lt_length_of_mem (List.getElem_mem hi)
  ·have hwQ:w∈Q:=by
    rcases List.mem_append.1 hw with hw|hw
    ·exact hw
    ·exact absurd (List.mem_singleton.1 hw) Eh
   obtain⟨u,h1,h2,h3,h4⟩:=h.up w hwQ gF
   exact⟨u,by simp[h1],by rw[if_neg Eh];exact h2,by rw[yp u h1,yp w hwQ];exact h3,h4⟩
 ·have gC:j<Q.length:=by have:=h.ile;omega
  rw[List.getElem_append_left gC]at HN
  exact List.mem_append_left _ (h.done j hj gC w hw HN)
theorem Bq.next (h:Bq n c f x par Q i) (hi:i<Q.length) (dH:∀v,v<n->f Q[i] v<c Q[i] v->0<=par v):Bq n c f x par Q (i+1):=by
 refine⟨h.nodup,h.lt,h.root,h.mem,h.iff,h.up,fun j hj hl v hv hr=>?_,by omega⟩
 by_cases lX:j=i
 ·subst lX;exact(h.iff v hv).1 (dH v hv hr)
 ·exact h.done j (by omega) hl v hv hr
theorem Bq.cut (h:Bq n c f x par Q Q.length) {y:Nat} (hy:y<n) (hp:par y<0):∃S:Nat->Bool,S x=true/\S y=false/\∀u v,u<n->v<n->S u=true->S v=false->¬f u v<c u v:=by
 refine⟨fun v=>decide (v∈Q),by simp[h.mem],?_,fun u v hu hv h1 h2 hr=>?_⟩
 ·have:y∉Q:=fun hm=>by have:=(h.iff y hy).2 hm;omega
  simp[this]
 ·simp only[decide_eq_true_eq,decide_eq_false_iff_not]at h1 h2
  obtain⟨j,hj,rfl⟩:=List.getElem_of_mem h1
  exact h2 (h.done j hj hj v hv hr)
def tH (c f:Nat->Nat->Int) (Q:List Nat) (y k:Nat) (out:List Nat):Prop:=∃rest,out.reverse=k::rest/\(k::rest).getLast (by simp)=y/\pW f c (k::rest)/\(k::rest).Pairwise (fun a b=>Q.idxOf a<Q.idxOf b)/\∀v∈k::rest,v∈Q
theorem tH.start {y:Nat} (hy:y∈Q):tH c f Q y y [y]:=⟨[],rfl,rfl,trivial,by simp,by simpa using hy⟩
theorem tH.step {y k u:Nat} {out:List Nat} (h:tH c f Q y k out) (hu:u∈Q) (hi:Q.idxOf u<Q.idxOf k) (hr:f u k<c u k):tH c f Q y u (out++[u]):=by
 obtain⟨rest,h1,h2,h3,h4,h5⟩:=h
 refine⟨k::rest,by rw[List.reverse_append,h1];rfl,by rw[List.getLast_cons (by simp)];exact h2,⟨hr,h3⟩,?_,?_⟩
 ·refine List.pairwise_cons.2 ⟨fun b hb=>?_,h4⟩
  rcases List.mem_cons.1 hb with rfl|hb
  ·exact hi
  ·have:=(List.pairwise_cons.1 h4).1 b hb;omega
 ·intro v hv
  rcases List.mem_cons.1 hv with rfl|hv
  ·exact hu
  ·exact h5 v hv
theorem tH.len {y k:Nat} {out:List Nat} (h:tH c f Q y k out) (hq:∀v∈Q,v<n):out.length<=n:=by
 obtain⟨rest,h1,_,_,h4,h5⟩:=h
 rw[<-List.length_reverse,h1]
 refine nV n _ (h4.imp fun dV he=>?_) fun v hv=>hq v (h5 v hv)
 subst he;omega
structure O8 (n:Nat) (c f:Nat->Nat->Int) (x y:Nat) (p:List Nat):Prop where
 way:∃r,p=x::r/\(x::r).getLast (by simp)=y
 nodup:p.Nodup
 room:pW f c p
 lt:∀v∈p,v<n
theorem tH.way {y:Nat} {out:List Nat} (h:tH c f Q y x out) (hq:∀v∈Q,v<n):O8 n c f x y out.reverse:=by
 obtain⟨rest,h1,h2,h3,h4,h5⟩:=h
 rw[h1]
 exact⟨⟨rest,rfl,h2⟩,h4.imp fun dV he=>by subst he;omega,h3,fun v hv=>hq v (h5 v hv)⟩
end
end Go.Proofs.YtgoljkjaameagaaGreat.V

namespace Go.Proofs.YtgoljkjaameagaaGreat.V
open Go.RowKit
attribute [local irreducible] dL wpOps fu Call
attribute [local go_sem] az eQ ec eY eW cJ upd bJ K.av b4 AV.cells AV.cell rowOf rowsOf part ld rowAt bH bG cX dr fR bo cE dD e6 eF cQ dx cC cz db dc br aJ ck bq cq cm dv dy dw cj bx cD dt bp aA cu bQ fQ bd bY bt aH cW aX cY AV.undef bj bl de dn da dj bV dC dE bK dB dz cr cw List.getD_cons_zero List.getD_cons_succ List.getD_nil List.all_cons List.all_nil Bool.and_true Bool.true_and Bool.and_self Bool.not_true Bool.not_false Option.map_some Option.map_none Option.bind_some Option.bind_none List.length_cons List.length_nil List.take_succ_cons List.take_zero List.take_nil List.drop_succ_cons List.drop_zero List.drop_nil List.head?_cons List.map_cons List.map_nil List.getElem?_cons_zero List.getElem?_cons_succ List.cons_append List.nil_append List.append_nil List.length_map List.set_cons_zero List.set_cons_succ Nat.reduceMul eq_self Int.toNat_natCast Int.natCast_nonneg and_self true_and and_true decide_true decide_false Bool.false_eq_true Nat.zero_add Nat.add_zero List.contains_cons List.contains_nil Bool.or_false Bool.false_or beq_self_eq_true Nat.reduceBEq ne_eq not_true_eq_false not_false_eq_true Id.mk.injEq false_and and_false Nat.reduceLT Int.reduceLE Int.reduceLT Int.reduceToNat Int.reduceNeg Int.reduceAdd Nat.le_refl List.length_append beq_true beq_false Bool.not_eq_eq_eq_not or_false false_or dd ae ai ay bh bD aG aM aD aL bZ bm
def lp (l:List Nat) (i x:Nat):Nat:=if x<i∨l.length-i<=x then l.getD (l.length-1-x) 0 else l.getD x 0
theorem xF (l:List Nat):l.map eN=dI (fun x=>l.getD x 0) l.length:=by
 refine List.ext_getElem? fun i=>?_
 by_cases h:i<l.length
 ·rw[fa h,List.getElem?_map,List.getElem?_eq_getElem h];simp[List.getD_eq_getElem?_getD,h]
 ·rw[List.getElem?_eq_none (by simp;omega),List.getElem?_eq_none (by rw[fW];omega)]
theorem F6 (l:List Nat):dI (lp l 0) l.length=l.map eN:=by
 rw[xF]
 exact gG fun x hx=>by unfold lp;rw[if_neg (by omega)]
theorem Iz (l:List Nat) {i:Nat} (h:l.length<=2*i+1) (hi:i<=l.length):dI (lp l i) l.length=l.reverse.map eN:=by
 rw[xF l.reverse,List.length_reverse]
 refine gG fun x hx=>?_
 have hr:l.reverse.getD x 0=l.getD (l.length-1-x) 0:=by
  rw[List.getD_eq_getElem?_getD,List.getElem?_reverse hx,List.getD_eq_getElem?_getD]
 rw[hr]
 unfold lp
 by_cases hc:x<i∨l.length-i<=x
 ·rw[if_pos hc]
 ·rw[if_neg hc]
  have:x=l.length-1-x:=by omega
  rw[<-this]
theorem F7 (l:List Nat) (hp:0<l.length) (hl:l.length<=1048576) (o:Id) (σ:ar) (ho:σ.get o=some ⟨true,1,l.map eN⟩) (s4:o.bW<σ.next):
  Call Tryz.prog 329 [.own o 0 l.length] σ fun r σ'=>σ'.get o=some ⟨true,1,l.reverse.map eN⟩/\σ.next<=σ'.next/\∀i:Id,i.bW<σ.next->(i=o)=False->σ'.get i=σ.get i:=by
 refine eO eb rfl fun nP=>?_
 clear nP
 rw[<-F6]at ho
 have BF:IntKind.i64.wrap ((l.length:Int)-1)=((l.length-1:Nat):Int):=by rw[bE (by omega)];omega
 (try((repeat(revert hN;revert N;apply Pn.out));refine wk @BF ?_;(repeat(refine Pn.mk ?_;intro N hN))))
 refine aY (fun m env st=>∃i:Nat,m=l.length-i/\2*i<=l.length+1/\i<=l.length/\env 2=.int .i64 (i:Int)/\env 3=.int .i64 ((l.length:Int)-1-i)/\st.get o=some ⟨true,1,dI (lp l i) l.length⟩/\σ.next<=st.next/\∀x:Id,x.bW<σ.next->(x=o)=False->st.get x=σ.get x) l.length ⟨0,rfl,by omega,by omega,by(simp only[go_sem, ↓reduceIte,Nat.reduceEqDiff,Nat.reduceAdd,Nat.reduceSub,Nat.reduceLeDiff,reduceCtorEq])<;>rfl,by(simp only[go_sem, ↓reduceIte,Nat.reduceEqDiff,Nat.reduceAdd,Nat.reduceSub,Nat.reduceLeDiff,reduceCtorEq,BF]);congr 1;omega,ho,by(try dsimp only);omega,fun x _ _=>rfl⟩ ?_
 rintro m env_b st_b ⟨i,rfl,w7,o7,b2,b3,bg,bn,bfr⟩ bkp
 have b0:=bkp 0 (by kernel_rfl)
 simp only[go_sem, ↓reduceIte,Nat.reduceEqDiff,Nat.reduceAdd,Nat.reduceSub,Nat.reduceLeDiff,reduceCtorEq]at b0
 clear bkp
 have tl:=fW (lp l i) l.length
 have mN:=ef (i:=o) (n:=st_b.next) (by omega)
 by_cases hi:(i:Int)<(l.length:Int)-1-i
 ·have fJ:i<l.length:=by omega
  obtain⟨j,hj⟩:∃j,j=l.length-1-i:=⟨_,rfl⟩
  have iH:j<l.length:=by omega
  have J7:(l.length:Int)-1-i=(j:Int):=by omega
  rw[J7]at b3 hi
  have g1:=fa (f:=lp l i) fJ
  have g2:=fa (f:=lp l i) iH
  have e1:lp l i i=l.getD i 0:=by unfold lp;rw[if_neg (by omega)]
  have e2:lp l i j=l.getD j 0:=by unfold lp;rw[if_neg (by omega)]
  have LN:(dI (lp l i) l.length).set i (eN (l.getD j 0))=dI (fun x=>if x=i then l.getD j 0 else lp l i x) l.length:=oM fJ (if_pos rfl) fun x _ hx=>if_neg hx
  have HO:(dI (fun x=>if x=i then l.getD j 0 else lp l i x) l.length).set j (eN (l.getD i 0))=dI (lp l (i+1)) l.length:=oM iH (by unfold lp;rw[if_pos (by omega)];congr 1;omega) fun x hx OZ=>by
   by_cases BH:x=i
   ·rw[if_pos BH];unfold lp;rw[if_pos (by omega)];congr 1;omega
   ·rw[if_neg BH];unfold lp
    by_cases hc:x<i∨l.length-i<=x
    ·rw[if_pos hc,if_pos (by omega)]
    ·rw[if_neg hc,if_neg (by omega)]
  have RX:=fW (fun x=>if x=i then l.getD j 0 else lp l i x) l.length
  have g3:=fa (f:=fun x=>if x=i then l.getD j 0 else lp l i x) iH
  rw[e1]at g1
  rw[e2]at g2
  rw[if_neg (by omega),e2]at g3
  rw[eN]at g1 g2 g3 LN HO
  have hii:(i:Int)<(l.length:Int):=by omega
  have lX:(j:Int)<(l.length:Int):=by omega
  have mc:IntKind.i64.wrap ((i:Int)+1)=((i+1:Nat):Int):=ax (by omega)
  have pG:IntKind.i64.wrap ((j:Int)-1)=(l.length:Int)-1-((i+1:Nat):Int):=by rw[bE (by omega)];omega
  (try((repeat(revert hN;revert N;apply Pn.out));refine wk (tw @b0 (tw @b2 (tw @b3 (tw @bg (tw @hi (tw @hii (tw @lX (tw @g1 (tw @g2 (tw @g3 (tw @LN (tw @HO (tw @tl (tw @RX (tw @mN (tw @mc @pG)))))))))))))))) ?_;(repeat(refine Pn.mk ?_;intro N hN))))
  refine⟨_,?_,i+1,rfl,by omega,by omega,sd @mc,sd @pG,sd @HO,by(try dsimp only);omega,fun x hx yz=>?_⟩
  ·omega
  ·have:=bfr x hx yz
   simp only[go_sem, ↓reduceIte,Nat.reduceEqDiff,Nat.reduceAdd,Nat.reduceSub,Nat.reduceLeDiff,reduceCtorEq,yz,this]
 ·rw[Iz l (by omega) o7]at bg
  (try((repeat(revert hN;revert N;apply Pn.out));refine wk (tw @b0 (tw @b2 (tw @b3 (tw @bg @hi)))) ?_;(repeat(refine Pn.mk ?_;intro N hN))))
  exact fI (.inr rfl) (vs:=[]) (by simp only[eX,go_sem, ↓reduceIte,Nat.reduceEqDiff,Nat.reduceAdd,Nat.reduceSub,Nat.reduceLeDiff,reduceCtorEq]) ⟨bg,by(try dsimp only);omega,bfr⟩
theorem QW (cnt:Nat) (rK:1<=cnt) (hn:cnt<=1048576) (c f:Nat->Nat->Int) (x y:Nat) (hx:x<cnt) (hy:y<cnt):
  mC Tryz.prog 301 [.cN (kU cnt c f),.int .i64 x,.int .i64 y] fun r=>(r=.bP/\∃S:Nat->Bool,S x=true/\S y=false/\∀u v,u<cnt->v<cnt->S u=true->S v=false->¬f u v<c u v)∨∃p:List Nat,r=.sl (p.map eN)/\O8 cnt c f x y p:=by
 refine mC.body eb rfl fun hl n0=>?_
 clear hl
 have lM:=vm c cnt
 have jr:(0:Int)<=(cnt:Int):=by omega
 have BH:(x:Int)<(cnt:Int):=by omega
 have RU:(y:Int)<(cnt:Int):=by omega
 (try((repeat(revert hN;revert N;apply Pn.out));refine wk (tw @kU.eq_1 @lM) ?_;(repeat(refine Pn.mk ?_;intro N hN))))
 refine .inr (aE _ _ _ _ _ (fun r σ1 hq=>?_) (Ix cnt rK hn (-1) ⟨301002000,n0+1+1⟩ _ (sd @Nat.zero_add) (by(try dsimp only);omega)))
 obtain⟨o,rfl,ho,Ke,Kf,jY⟩:=hq
 (try dsimp only at ho Ke Kf jY)
 refine hN _ _ ?_
 clear hN N
 have mN:=ef Kf
 have o6:(cnt:Int)<=1048576:=by omega
 have PT:qg<qg+cnt:=by omega
 have gH:List.replicate cnt [AV.int .i64 (-1)]=dS (fun _=>-1) cnt:=by
  refine List.ext_getElem? fun i=>?_
  by_cases h:i<cnt
  ·rw[dO h,List.getElem?_replicate,if_pos h];rfl
  ·rw[List.getElem?_eq_none (by simp;omega),List.getElem?_eq_none (by rw[dG];omega)]
 rw[gH]at ho
 have Au:(dS (fun _=>-1) cnt).set x (aT (x:Int))=dS (fun v=>if v=x then(x:Int)else -1) cnt:=kE hx (if_pos rfl) fun v _ hv=>if_neg hv
 have Fm:=dO (f:=fun _=>-1) hx
 have tl0:=dG (fun _=>-1) cnt
 rw[aT]at Au Fm
 (try((repeat(revert hN;revert N;apply Pn.out));refine wk (tw @kU.eq_1 (tw @lM (tw @jr (tw @o6 @mN)))) ?_;(repeat(refine Pn.mk ?_;intro N hN))))
 refine I3 ?_
 simp only[go_sem, ↓reduceIte,Nat.reduceEqDiff,Nat.reduceAdd,Nat.reduceSub,Nat.reduceLeDiff,reduceCtorEq,PT]
 refine hN _ _ ?_
 clear hN N
 (try((repeat(revert hN;revert N;apply Pn.out));refine wk (tw @ho (tw @mN (tw @Au (tw @Fm (tw @tl0 @BH))))) ?_;(repeat(refine Pn.mk ?_;intro N hN))))
 obtain⟨C,hC⟩:∃C:Id,C=⟨301003001,σ1.next+1⟩:=⟨_,rfl⟩
 have Qi:=du (a:=o) (b:=C) (by rw[hC];(try dsimp only);omega)
 have hCv:C.bW=σ1.next+1:=by rw[hC]
 refine aY (fun m env st=>∃(par:Nat->Int) (Q:List Nat) (i:Nat),m=cnt-i/\Bq cnt c f x par Q i/\st.get o=some ⟨true,1,dS par cnt⟩/\st.get C=some ⟨true,qg+cnt,(Q.drop i).map eN⟩/\σ1.next+1<st.next) cnt ⟨_,[x],0,rfl,Bq.start hx,sd @mN,by rw[hC];simp only[go_sem, ↓reduceIte,Nat.reduceEqDiff,Nat.reduceAdd,Nat.reduceSub,Nat.reduceLeDiff,reduceCtorEq,mN];rfl,by(try dsimp only);omega⟩ ?_
 rintro m env_b st_b ⟨par,Q,i,rfl,hB,bgo,bgC,bn⟩ bkp
 have b0:=bkp 0 (by kernel_rfl)
 have b1:=bkp 1 (by kernel_rfl)
 have b2:=bkp 2 (by kernel_rfl)
 have b7:=bkp 7 (by kernel_rfl)
 have b8:=bkp 8 (by kernel_rfl)
 have b9:=bkp 9 (by kernel_rfl)
 rw[<-hC]at b9
 simp only[go_sem, ↓reduceIte,Nat.reduceEqDiff,Nat.reduceAdd,Nat.reduceSub,Nat.reduceLeDiff,reduceCtorEq]at b0 b1 b2 b7 b8 b9
 clear bkp
 have hQn:=hB.len
 have o7:=hB.ile
 have Rv:((Q.drop i).map eN).length=Q.length-i:=by simp
 by_cases hi:i<Q.length
 ·have jZ:(0:Int)<((Q.length-i:Nat):Int):=by omega
  have qT:Q.drop i=Q[i]::Q.drop (i+1):=List.drop_eq_getElem_cons hi
  obtain⟨u,hu⟩:∃u,u=Q[i]:=⟨_,rfl⟩
  have hun:u<cnt:=by rw[hu];exact hB.lt _ (List.getElem_mem hi)
  rw[<-hu]at qT
  (try((repeat(revert hN;revert N;apply Pn.out));refine wk (tw @b0 (tw @b1 (tw @b2 (tw @b7 (tw @b8 (tw @b9 (tw @bgC (tw @Rv @jZ)))))))) ?_;(repeat(refine Pn.mk ?_;intro N hN))))
  refine I3 ?_
  rw[qT,List.map_cons,show eN u=[.int .i64 (u:Int)]from rfl]at bgC
  simp only[go_sem, ↓reduceIte,Nat.reduceEqDiff,Nat.reduceAdd,Nat.reduceSub,Nat.reduceLeDiff,reduceCtorEq,b9,bgC]
  refine hN _ _ ?_
  clear hN N
  (try((repeat(revert hN;revert N;apply Pn.out));refine wk @b7 ?_;(repeat(refine Pn.mk ?_;intro N hN))))
  refine aY (fun m env st=>∃(v:Nat) (par':Nat->Int) (Q':List Nat),m=cnt-v/\v<=cnt/\env 36=.int .i64 (v:Int)/\Bq cnt c f x par' Q' i/\(∃h:i<Q'.length,Q'[i]=u)/\st.get o=some ⟨true,1,dS par' cnt⟩/\st.get C=some ⟨true,qg+cnt,(Q'.drop (i+1)).map eN⟩/\σ1.next+1<st.next/\∀w,w<v->f u w<c u w->0<=par' w) cnt ⟨0,par,Q,rfl,Nat.zero_le _,by(simp only[go_sem, ↓reduceIte,Nat.reduceEqDiff,Nat.reduceAdd,Nat.reduceSub,Nat.reduceLeDiff,reduceCtorEq])<;>rfl,hB,⟨hi,hu.symm⟩,sd (tw @Qi @bgo),sd @Qi,by(try dsimp only);omega,fun w hw=>absurd hw (Nat.not_lt_zero w)⟩ ?_
  rintro m env_c st_c ⟨v,par',Q',rfl,hvn,c36,dJ,⟨pT,Eg⟩,wQ,cgC,cn,dH⟩ ckp
  have c0:=ckp 0 (by kernel_rfl)
  have c1:=ckp 1 (by kernel_rfl)
  have c2:=ckp 2 (by kernel_rfl)
  have c7:=ckp 7 (by kernel_rfl)
  have c8:=ckp 8 (by kernel_rfl)
  have c9:=ckp 9 (by kernel_rfl)
  have jh:=ckp 10 (by kernel_rfl)
  have Mq:=ckp 35 (by kernel_rfl)
  simp only[go_sem, ↓reduceIte,Nat.reduceEqDiff,Nat.reduceAdd,Nat.reduceSub,Nat.reduceLeDiff,reduceCtorEq,b0,b1,b2,b7,b8,b9]at c0 c1 c2 c7 c8 c9 jh Mq
  clear ckp
  have tl:=dG par' cnt
  by_cases hv:(v:Int)<(cnt:Int)
  ·have CI:v<cnt:=by omega
   have Nb:=dO (f:=par') CI
   have jY:=MF cnt c f u v hun CI
   have hw:IntKind.i64.wrap ((v:Int)+1)=((v+1:Nat):Int):=ax (by omega)
   rw[aT]at Nb
   rw[kU]at jY
   by_cases jO:par' v<0
   ·by_cases hr:f u v<c u v
    ·rw[decide_eq_true hr]at jY
     have eo:(dS par' cnt).set v (aT (u:Int))=dS (fun w=>if w=v then(u:Int)else par' w) cnt:=kE CI (if_pos rfl) fun w _ hw=>if_neg hw
     rw[aT]at eo
     have oU:=dJ.visit pT CI jO (by rw[Eg];exact hr)
     rw[Eg]at oU
     have hQ2:=oU.len
     rw[List.length_append]at hQ2
     simp only[List.length_singleton]at hQ2
     have fN:qg+(Q'.drop (i+1)).length<qg+cnt:=by rw[List.length_drop];omega
     (repeat(first|((repeat(revert hN;revert N;apply Pn.out));refine wk (tw @kU.eq_1 (tw @c0 (tw @c7 (tw @c8 (tw @c9 (tw @jh (tw @c36 (tw @Mq (tw @hv (tw @wQ (tw @Nb (tw @tl (tw @jO @eo))))))))))))) ?_;(repeat(refine Pn.mk ?_;intro N hN)))|((try apply Or.inl);refine⟨_,ak.x (jY) (sd (tw @kU.eq_1 (tw @c0 (tw @c7 (tw @c8 (tw @c9 (tw @jh (tw @c36 (tw @Mq (tw @hv (tw @wQ (tw @Nb (tw @tl (tw @jO @eo)))))))))))))),?_⟩;refine hN _ _ ?_;clear hN N)))
     refine I3 ?_
     have hq:(Q'.drop (i+1)).map eN++[[.int .i64 (v:Int)]]=((Q'++[v]).drop (i+1)).map eN:=by rw[List.drop_append_of_le_length (by omega),List.map_append];rfl
     simp only[go_sem, ↓reduceIte,Nat.reduceEqDiff,Nat.reduceAdd,Nat.reduceSub,Nat.reduceLeDiff,reduceCtorEq,c9,cgC,fN,Qi,hq]
     refine hN _ _ ?_
     clear hN N
     (try((repeat(revert hN;revert N;apply Pn.out));refine wk (tw @c36 @hw) ?_;(repeat(refine Pn.mk ?_;intro N hN))))
     refine⟨_,?_,v+1,_,_,rfl,CI,sd @hw,oU,⟨by rw[List.length_append];omega,by rw[List.getElem_append_left pT];exact Eg⟩,sd @Qi,sd @Qi,by(try dsimp only);omega,fun w hw HN=>?_⟩
     ·omega
     ·by_cases Eh:w=v
      ·rw[if_pos Eh];omega
      ·rw[if_neg Eh];exact dH w (by omega) HN
    ·rw[decide_eq_false hr]at jY
     (repeat(first|((repeat(revert hN;revert N;apply Pn.out));refine wk (tw @kU.eq_1 (tw @c0 (tw @c7 (tw @c8 (tw @c9 (tw @jh (tw @c36 (tw @Mq (tw @hv (tw @wQ (tw @Nb (tw @tl (tw @jO @hw))))))))))))) ?_;(repeat(refine Pn.mk ?_;intro N hN)))|((try apply Or.inl);refine⟨_,ak.x (jY) (sd (tw @kU.eq_1 (tw @c0 (tw @c7 (tw @c8 (tw @c9 (tw @jh (tw @c36 (tw @Mq (tw @hv (tw @wQ (tw @Nb (tw @tl (tw @jO @hw)))))))))))))),?_⟩;refine hN _ _ ?_;clear hN N)))
     refine⟨_,?_,v+1,par',Q',rfl,CI,sd @hw,dJ,⟨pT,Eg⟩,sd @wQ,sd @cgC,by(try dsimp only);omega,fun w hw HN=>?_⟩
     ·omega
     ·by_cases Eh:w=v
      ·subst Eh;exact absurd HN hr
      ·exact dH w (by omega) HN
   ·(try((repeat(revert hN;revert N;apply Pn.out));refine wk (tw @kU.eq_1 (tw @c0 (tw @c7 (tw @c8 (tw @c9 (tw @jh (tw @c36 (tw @Mq (tw @hv (tw @wQ (tw @Nb (tw @tl (tw @jO @hw))))))))))))) ?_;(repeat(refine Pn.mk ?_;intro N hN))))
    refine⟨_,?_,v+1,par',Q',rfl,CI,sd @hw,dJ,⟨pT,Eg⟩,sd @wQ,sd @cgC,by(try dsimp only);omega,fun w hw HN=>?_⟩
    ·omega
    ·by_cases Eh:w=v
     ·subst Eh;omega
     ·exact dH w (by omega) HN
  ·have hvc:v=cnt:=by omega
   subst hvc
   (try((repeat(revert hN;revert N;apply Pn.out));refine wk (tw @c36 (tw @Mq @hv)) ?_;(repeat(refine Pn.mk ?_;intro N hN))))
   refine⟨_,?_,par',Q',i+1,rfl,dJ.next pT fun w hw hr=>dH w hw (by rw[<-Eg];exact hr),sd @wQ,sd @cgC,by(try dsimp only);omega⟩
   omega
 ·have hiQ:i=Q.length:=by omega
  subst hiQ
  have jZ:¬(0:Int)<((Q.length-Q.length:Nat):Int):=by omega
  have S5:=dO (f:=par) hy
  have tl:=dG par cnt
  rw[aT]at S5
  by_cases jO:par y<0
  ·(try((repeat(revert hN;revert N;apply Pn.out));refine wk (tw @b0 (tw @b1 (tw @b2 (tw @b7 (tw @b8 (tw @b9 (tw @bgC (tw @Rv (tw @jZ (tw @bgo (tw @S5 (tw @tl (tw @RU @jO))))))))))))) ?_;(repeat(refine Pn.mk ?_;intro N hN))))
   exact⟨[.bP],sd @Nat.zero_add,.bP,iV _ _,.inl ⟨rfl,hB.cut hy jO⟩⟩
  ·(try((repeat(revert hN;revert N;apply Pn.out));refine wk (tw @b0 (tw @b1 (tw @b2 (tw @b7 (tw @b8 (tw @b9 (tw @bgC (tw @Rv (tw @jZ (tw @bgo (tw @S5 (tw @tl (tw @RU @jO))))))))))))) ?_;(repeat(refine Pn.mk ?_;intro N hN))))
   refine aY (fun m env st=>∃(k:Nat) (out:List Nat) (p:Id),m=Q.idxOf k/\env 13=.int .i64 (k:Int)/\env 12=.own p 0 out.length/\st.get p=some ⟨true,1,out.map eN⟩/\p.bW<st.next/\st_b.next<=p.bW/\k∈Q/\tH c f Q y k out/\st.get o=some ⟨true,1,dS par cnt⟩) (Q.idxOf y) ⟨y,[y],⟨301017001,st_b.next+1+1⟩,rfl,by(simp only[go_sem, ↓reduceIte,Nat.reduceEqDiff,Nat.reduceAdd,Nat.reduceSub,Nat.reduceLeDiff,reduceCtorEq]),by(simp only[go_sem, ↓reduceIte,Nat.reduceEqDiff,Nat.reduceAdd,Nat.reduceSub,Nat.reduceLeDiff,reduceCtorEq])<;>rfl,by(simp only[go_sem, ↓reduceIte,Nat.reduceEqDiff,Nat.reduceAdd,Nat.reduceSub,Nat.reduceLeDiff,reduceCtorEq])<;>rfl,by(try dsimp only);omega,by(try dsimp only);omega,(hB.iff y hy).1 (by omega),tH.start ((hB.iff y hy).1 (by omega)),by(have TD:=ef (i:=o) (n:=st_b.next) (by omega));simp only[go_sem, ↓reduceIte,Nat.reduceEqDiff,Nat.reduceAdd,Nat.reduceSub,Nat.reduceLeDiff,reduceCtorEq,TD,bgo]⟩ ?_
   rintro m env_d st_d ⟨k,out,p,rfl,d13,d12,dgp,dpn,dpo,hkQ,tn,dgo⟩ dkp
   have d1:=dkp 1 (by kernel_rfl)
   have d8:=dkp 8 (by kernel_rfl)
   simp only[go_sem, ↓reduceIte,Nat.reduceEqDiff,Nat.reduceAdd,Nat.reduceSub,Nat.reduceLeDiff,reduceCtorEq,b1,b8]at d1 d8
   clear dkp
   have zw:=ef dpn
   have Aw:=ef (i:=o) (n:=st_d.next) (by omega)
   have dZ:=du (a:=o) (b:=p) (by omega)
   have hol:=tn.len hB.lt
   have eU:=hB.lt k hkQ
   have gR:(out.map eN).length=out.length:=by simp
   by_cases RD:k=x
   ·have hd:decide ((k:Int)=(x:Int))=true:=decide_eq_true (by rw[RD])
    have Tq:0<out.length:=by
     obtain⟨rest,h1,_⟩:=tn
     rw[<-List.length_reverse,h1];simp
    (try((repeat(revert hN;revert N;apply Pn.out));refine wk (tw @d1 (tw @d8 (tw @d12 (tw @d13 (tw @hd @Bool.not_true))))) ?_;(repeat(refine Pn.mk ?_;intro N hN))))
    refine .inr (aE _ _ _ _ _ (fun r σ2 hq=>?_) (F7 out Tq (by omega) p _ dgp (by(try dsimp only);omega)))
    obtain⟨Fo,lf,HB⟩:=hq
    refine hN _ _ ?_
    clear hN N
    (try((repeat(revert hN;revert N;apply Pn.out));refine wk @d12 ?_;(repeat(refine Pn.mk ?_;intro N hN))))
    refine⟨[.own p 0 out.length],sd @d12,.sl (out.reverse.map eN),?_,.inr ⟨out.reverse,rfl,by subst RD;exact tn.way hB.lt⟩⟩
    exact eS (sz:=1) Fo (by simp) fun a=>MI _ 4 a
   ·have hd:decide ((k:Int)=(x:Int))=false:=decide_eq_false fun h=>RD (by omega)
    obtain⟨u,huQ,hpu,yp,hr⟩:=hB.up k hkQ RD
    have ea:=dO (f:=par) eU
    rw[aT,hpu]at ea
    have hki:(k:Int)<(cnt:Int):=by omega
    have e1:out.length+1<=16777216:=by omega
    (try((repeat(revert hN;revert N;apply Pn.out));refine wk (tw @d1 (tw @d8 (tw @d12 (tw @d13 (tw @hd (tw @Bool.not_false (tw @dgo (tw @dgp (tw @ea (tw @tl (tw @hki (tw @zw (tw @Aw (tw @dZ (tw @gR @e1))))))))))))))) ?_;(repeat(refine Pn.mk ?_;intro N hN))))
    refine⟨_,yp,u,out++[u],⟨301021003,st_d.next+1+1⟩,rfl,sd @Nat.zero_add,by rw[List.length_append];simp only[go_sem, ↓reduceIte,Nat.reduceEqDiff,Nat.reduceAdd,Nat.reduceSub,Nat.reduceLeDiff,reduceCtorEq,List.length_cons,List.length_nil],by rw[List.map_append,List.map_cons,List.map_nil];simp only[go_sem, ↓reduceIte,Nat.reduceEqDiff,Nat.reduceAdd,Nat.reduceSub,Nat.reduceLeDiff,reduceCtorEq,eN],by(try dsimp only);omega,by(try dsimp only);omega,huQ,tn.step huQ yp hr,sd (tw @Aw (tw @dZ @dgo))⟩
theorem zG (b:Nat):∀(l:List Nat) (a:Nat) (f:Nat->Nat->Int),lE f ((a::l)++[b])=j3 (lE f (a::l)) ((a::l).getLast (by simp)) b
 |[],a,f=>rfl
 |c::l,a,f=>by
  rw[List.cons_append,List.cons_append,lE,<-List.cons_append,zG b l c (j3 f a c),lE,List.getLast_cons_cons]
theorem EN {p:List Nat} {f:Nat->Nat->Int} {i:Nat} (h1:1<=i) (hi:i<p.length):lE f (p.take (i+1))=j3 (lE f (p.take i)) (p[i-1]'(by omega)) p[i]:=by
 rw[List.take_succ_eq_append_getElem hi]
 have gF:p.take i≠[]:=by
  intro h
  have:(p.take i).length=0:=by rw[h];rfl
  rw[List.length_take]at this;omega
 obtain⟨a,l,OK⟩:∃a l,p.take i=a::l:=by
  cases h:p.take i with
  |nil=>exact absurd h gF
  |cons a l=>exact⟨a,l,rfl⟩
 have uu:(p.take i).getLast gF=p[i-1]'(by omega):=by
  rw[List.getLast_eq_getElem,List.getElem_take]
  congr 1
  rw[List.length_take];omega
 simp only[OK]at uu ⊢
 rw[zG,uu]
theorem F2 (f:Nat->Nat->Int) (a b u v:Nat):j3 f a b u v<=f u v+1/\f u v-1<=j3 f a b u v:=by
 unfold j3 bump
 split<;>split<;>constructor<;>omega
theorem lF:∀(p:List Nat) (f:Nat->Nat->Int) (u v:Nat),lE f p u v<=f u v+p.length/\f u v-p.length<=lE f p u v
 |[],f,u,v=>by simp[lE]
 |[_],f,u,v=>by simp[lE];omega
 |a::b::r,f,u,v=>by
  rw[lE]
  have h1:=lF (b::r) (j3 f a b) u v
  have h2:=F2 f a b u v
  simp only[List.length_cons]at h1 ⊢
  omega
theorem pc.push {g g':Rows} {X o1 o2:Id} {R1 R2:Nat->Id} {n nb:Nat} {c f:Nat->Nat->Int} (I:GL X o1 o2 R1 R2 n nb) (h:pc g X o1 o2 R1 R2 n c f) {a b:Nat} (ha:a<n) (hb:b<n) (qk:a≠b) (hA:g' (R2 a)=some ⟨true,1,dS (bump f a b 1 a) n⟩) (hB:g' (R2 b)=some ⟨true,1,dS (bump (bump f a b 1) b a (-1) b) n⟩) (hf:∀i:Id,i.bW<nb->(i=R2 a)=False->(i=R2 b)=False->g' i=g i):pc g' X o1 o2 R1 R2 n c (j3 f a b):=by
 have ne:∀{i:Id} {s:Nat},i.site=s->(s==299005006)=false->∀a,a<n->(i=R2 a)=False:=fun {i s} hi hs a ha=>by
  simp only[eq_iff_iff,iff_false]
  rintro rfl
  rw[I.L3 a ha]at hi
  subst hi
  simp at hs
 refine⟨(hf _ I.vx (ne I.sx (by decide) _ ha) (ne I.sx (by decide) _ hb)).trans h.x,(hf _ I.v1 (ne I.s1 (by decide) _ ha) (ne I.s1 (by decide) _ hb)).trans h.t1,(hf _ I.v2 (ne I.s2 (by decide) _ ha) (ne I.s2 (by decide) _ hb)).trans h.t2,fun i hi=>(hf _ (I.TP i hi) (ne (I.RW i hi) (by decide) _ ha) (ne (I.RW i hi) (by decide) _ hb)).trans (h.r1 i hi),fun i hi=>?_⟩
 by_cases Jj:i=b
 ·subst Jj;exact hB
 ·by_cases Nd:i=a
  ·subst Nd
   rw[hA,j3,jL Jj]
  ·rw[j3,jL Jj,jL Nd,hf _ (I.QV i hi) (by simp only[eq_iff_iff,iff_false];exact fun he=>Nd (I.i2 i _ hi ha he)) (by simp only[eq_iff_iff,iff_false];exact fun he=>Jj (I.i2 i _ hi hb he))]
   exact h.r2 i hi
theorem NW (cnt:Nat) (rK:1<=cnt) (hn:cnt<=1048576) (c:Nat->Nat->Int) (hc:∀u v,u<cnt->v<cnt->0<=c u v/\c u v<=16777216) (x y:Nat) (hx:x<cnt) (hy:y<cnt) (Qx:x≠y) (t:Int) (ht:t<=1099511627776)
  (X o1 o2:Id) (R1 R2:Nat->Id) (nb:Nat) (I:GL X o1 o2 R1 R2 cnt nb) (σ:ar) (hM:pc σ.get X o1 o2 R1 R2 cnt c (fun _ _=>0)) (RJ:nb<=σ.next):
  Call Tryz.prog 300 [.ptr X 0 0,.int .i64 x,.int .i64 y,.int .i64 t] σ fun r σ'=>∃val:Int,r=.int .i64 val/\(val<t↔∃S:Nat->Bool,S x=true/\S y=false/\lH cnt S c<t)/\σ.next<=σ'.next:=by
 refine eO eb rfl fun hl=>?_
 clear hl
 have hxS:(fun v=>decide (v=x)) x=true:=by simp
 have hyS:(fun v=>decide (v=x)) y=false:=by simp;exact fun h=>Qx h.symm
 obtain⟨top,TA⟩:∃top,top=lH cnt (fun v=>decide (v=x)) c:=⟨_,rfl⟩
 (try((repeat(revert hN;revert N;apply Pn.out));refine wk @Nat.zero_add ?_;(repeat(refine Pn.mk ?_;intro N hN))))
 refine aY (fun m env st=>∃(k:Nat) (f:Nat->Nat->Int),m=(top-k).toNat/\env 9=.int .i64 (k:Int)/\nu cnt c f x y k/\pc st.get X o1 o2 R1 R2 cnt c f/\σ.next<=st.next/\(0<k->(k:Int)<=t)/\∀u v,-((k:Int)*(cnt:Int))<=f u v) (top-0).toNat ⟨0,fun _ _=>0,rfl,by(simp only[go_sem, ↓reduceIte,Nat.reduceEqDiff,Nat.reduceAdd,Nat.reduceSub,Nat.reduceLeDiff,reduceCtorEq])<;>rfl,nu.zero fun u v hu hv=>(hc u v hu hv).1,hM,by(try dsimp only);omega,fun h=>absurd h (Nat.lt_irrefl 0),fun u v=>by simp⟩ ?_
 rintro m env_b st_b ⟨k,f,rfl,b9,hF,bM,bn,bk,blo⟩ bkp
 have b0:=bkp 0 (by kernel_rfl)
 have b1:=bkp 1 (by kernel_rfl)
 have b2:=bkp 2 (by kernel_rfl)
 have b3:=bkp 3 (by kernel_rfl)
 simp only[go_sem, ↓reduceIte,Nat.reduceEqDiff,Nat.reduceAdd,Nat.reduceSub,Nat.reduceLeDiff,reduceCtorEq]at b0 b1 b2 b3
 clear bkp
 have hz:cI (dd st_b.get) 6 [.ptr X 0 0,.int .i64 (x:Int),.int .i64 (y:Int)]=some [.cN (kU cnt c f),.int .i64 x,.int .i64 y]:=by simp only[ae,ai,bM.fz,ay,Option.map_some]
 (try((repeat(revert hN;revert N;apply Pn.out));refine wk (tw @b0 (tw @b1 (tw @b2 (tw @b3 @b9)))) ?_;(repeat(refine Pn.mk ?_;intro N hN))))
 refine .inr (aE _ _ _ _ _ (fun r σ1 hq=>?_) ((QW cnt rK hn c f x y hx hy).x mixed hz))
 obtain⟨Nt,rfl⟩:=hq
 refine hN _ _ ?_
 clear hN N
 rcases Nt with⟨rfl,S,M3,M4,Rq⟩|⟨p,rfl,hW⟩
 ·(try((repeat(revert hN;revert N;apply Pn.out));refine wk (tw @b0 (tw @b1 (tw @b2 (tw @b3 (tw @b9 (tw @Bool.not_true @Bool.not_false)))))) ?_;(repeat(refine Pn.mk ?_;intro N hN))))
  refine fI (.inl rfl) (vs:=[.int .i64 (k:Int)]) (sd @Nat.zero_add) ⟨(k:Int),rfl,⟨fun h=>⟨S,M3,M4,by rw[<-hF.full M3 M4 Rq];exact h⟩,fun⟨S',h1,h2,h3⟩=>by have:=hF.bound h1 h2;omega⟩,by(try dsimp only);omega⟩
 ·obtain⟨⟨rs,rfl,uu⟩,lY,fN,hplt⟩:=hW
  by_cases J8:t<=(k:Int)
  ·(try((repeat(revert hN;revert N;apply Pn.out));refine wk (tw @b0 (tw @b1 (tw @b2 (tw @b3 (tw @b9 (tw @J8 (tw @Bool.not_true @Bool.not_false))))))) ?_;(repeat(refine Pn.mk ?_;intro N hN))))
   refine fI (.inl rfl) (vs:=[.int .i64 (k:Int)]) (sd @Nat.zero_add) ⟨(k:Int),rfl,⟨fun h=>by omega,fun⟨S',h1,h2,h3⟩=>by have:=hF.bound h1 h2;omega⟩,by(try dsimp only);omega⟩
  ·(try((repeat(revert hN;revert N;apply Pn.out));refine wk (tw @b0 (tw @b1 (tw @b2 (tw @b3 (tw @b9 (tw @J8 (tw @Bool.not_true @Bool.not_false))))))) ?_;(repeat(refine Pn.mk ?_;intro N hN))))
   have mZ:=nV cnt _ lY hplt
   have hkc:(k:Int)*(cnt:Int)<=1099511627776*1048576:=Int.mul_le_mul (by omega) (by omega) (by omega) (by omega)
   have hfb:=hF.bound (S:=fun v=>decide (v=x)) hxS hyS
   have hnear:=lF
   obtain⟨p,hp⟩:∃p,p=x::rs:=⟨_,rfl⟩
   have hmp:eN x::List.map eN rs=p.map eN:=by rw[hp];rfl
   rw[hmp]
   have Np:1<=p.length:=by rw[hp];simp
   have Sy:=hF.aug uu lY fN hplt
   rw[<-hp]at Sy lY fN hplt mZ
   have Nz:p.take 1=[x]:=by rw[hp];rfl
   clear hmp uu
   refine aY (fun m env st=>∃i:Nat,m=p.length-i/\1<=i/\i<=p.length/\env 11=.int .i64 (i:Int)/\pc st.get X o1 o2 R1 R2 cnt c (lE f (p.take i))/\st_b.next<=st.next) (p.length-1) ⟨1,rfl,Nat.le_refl _,Np,by(simp only[go_sem, ↓reduceIte,Nat.reduceEqDiff,Nat.reduceAdd,Nat.reduceSub,Nat.reduceLeDiff,reduceCtorEq])<;>rfl,by rw[Nz];exact bM,by(try dsimp only);omega⟩ ?_
   rintro m env_c st_c ⟨i,rfl,J6,o7,mU,cM,cn⟩ ckp
   have c0:=ckp 0 (by kernel_rfl)
   have c1:=ckp 1 (by kernel_rfl)
   have c2:=ckp 2 (by kernel_rfl)
   have c3:=ckp 3 (by kernel_rfl)
   have c9:=ckp 9 (by kernel_rfl)
   have jh:=ckp 10 (by kernel_rfl)
   simp only[go_sem, ↓reduceIte,Nat.reduceEqDiff,Nat.reduceAdd,Nat.reduceSub,Nat.reduceLeDiff,reduceCtorEq,b0,b1,b2,b3,b9]at c0 c1 c2 c3 c9 jh
   clear ckp
   have gR:(p.map eN).length=p.length:=by simp
   by_cases hi:(i:Int)<(p.length:Int)
   ·have fJ:i<p.length:=by omega
    have wb:=EN (f:=f) J6 fJ
    obtain⟨a,ha⟩:∃a,a=p[i-1]'(by omega):=⟨_,rfl⟩
    obtain⟨b,hb⟩:∃b,b=p[i]:=⟨_,rfl⟩
    have D6:a<cnt:=by rw[ha];exact hplt _ (List.getElem_mem _)
    have D7:b<cnt:=by rw[hb];exact hplt _ (List.getElem_mem _)
    have qk:a≠b:=by
     rw[ha,hb]
     exact List.pairwise_iff_getElem.1 lY (i-1) i (by omega) fJ (by omega)
    have P0:(p.map eN)[i-1]? =some [.int .i64 (a:Int)]:=by rw[List.getElem?_map,List.getElem?_eq_getElem (by omega),ha];rfl
    have P3:(p.map eN)[i]? =some [.int .i64 (b:Int)]:=by rw[List.getElem?_map,List.getElem?_eq_getElem fJ,hb];rfl
    rw[<-ha,<-hb]at wb
    have Ti:=lF (p.take i) f a b
    have Tj:=lF (p.take i) f b a
    rw[List.length_take]at Ti Tj
    have OP:=blo b a
    have RG:=blo a b
    have Jq:=hF.le a b D6 D7
    have NB:=hF.le b a D7 D6
    have hca:=hc a b D6 D7
    have D8:=hc b a D7 D6
    generalize lE f (p.take i)=fl at *
    have gA:=qN (R:=R2) (n:=cnt) D6
    have gB:=qN (R:=R2) (n:=cnt) D7
    have rA:=cM.r2 _ D6
    have rB:=cM.r2 _ D7
    have cA:=dO (f:=fl a) D7
    have cB:=dO (f:=fl b) D6
    have sA:=nD (f:=fl) (a:=a) (d:=1) D7
    have Nl:bump fl a b 1 b=fl b:=jL fun h=>qk h.symm
    have sB:=nD (f:=bump fl a b 1) (a:=b) (b:=a) (d:=-1) (n:=cnt) D6
    rw[Nl]at sB
    have gX:=cM.x
    have g2:=cM.t2
    have gq:(a:Int)<(cnt:Int):=by omega
    have fM:(b:Int)<(cnt:Int):=by omega
    have BF:IntKind.i64.wrap ((i:Int)-1)=((i-1:Nat):Int):=by rw[bE (by omega)];omega
    have w7:((i-1:Nat):Int)<(p.length:Int):=by omega
    have wA:IntKind.i64.wrap (fl a b+1)=fl a b+1:=bE (by omega)
    have wB:IntKind.i64.wrap (fl b a-1)=fl b a+-1:=by rw[bE (by omega)];omega
    have LQ:IntKind.i64.wrap ((i:Int)+1)=((i+1:Nat):Int):=ax (by omega)
    have l2:=jR R2 cnt cnt
    have lA:=dG (fl a) cnt
    have lB:=dG (fl b) cnt
    have gF:(R2 a=R2 b)=False:=by simp only[eq_iff_iff,iff_false];exact fun h=>qk (I.i2 _ _ D6 D7 h)
    have HH:(R2 b=R2 a)=False:=by simp only[eq_iff_iff,iff_false];exact fun h=>qk (I.i2 _ _ D6 D7 h.symm)
    have xA:=zf I.sx (I.L3 a D6) (by decide)
    have xB:=zf I.sx (I.L3 b D7) (by decide)
    have yA:=zf I.s2 (I.L3 a D6) (by decide)
    have yB:=zf I.s2 (I.L3 b D7) (by decide)
    have qX:=ef (i:=X) (n:=st_c.next) (by have:=I.vx;omega)
    have q2:=ef (i:=o2) (n:=st_c.next) (by have:=I.v2;omega)
    have qA:=ef (i:=R2 a) (n:=st_c.next) (by have:=I.QV a D6;omega)
    have qB:=ef (i:=R2 b) (n:=st_c.next) (by have:=I.QV b D7;omega)
    rw[aT]at cA cB sA sB
    (try((repeat(revert hN;revert N;apply Pn.out));refine wk (tw @c0 (tw @c9 (tw @jh (tw @mU (tw @gR (tw @hi (tw @w7 (tw @P0 (tw @P3 (tw @gA (tw @gB (tw @rA (tw @rB (tw @cA (tw @cB (tw @sA (tw @sB (tw @gX (tw @g2 (tw @gq (tw @fM (tw @BF (tw @wA (tw @wB (tw @LQ (tw @l2 (tw @lA (tw @lB (tw @gF (tw @HH (tw @xA (tw @xB (tw @yA (tw @yB (tw @qX (tw @q2 (tw @qA @qB))))))))))))))))))))))))))))))))))))) ?_;(repeat(refine Pn.mk ?_;intro N hN))))
    refine⟨_,?_,i+1,rfl,by omega,by omega,sd @LQ,?_,by(try dsimp only);omega⟩
    ·omega
    ·rw[wb]
     refine cM.push I D6 D7 qk ?_ ?_ fun j hj h1 h2=>?_
     ·simp only[go_sem, ↓reduceIte,Nat.reduceEqDiff,Nat.reduceAdd,Nat.reduceSub,Nat.reduceLeDiff,reduceCtorEq,gF]
     ·simp only[go_sem, ↓reduceIte,Nat.reduceEqDiff,Nat.reduceAdd,Nat.reduceSub,Nat.reduceLeDiff,reduceCtorEq,gF]
     ·simp only[go_sem, ↓reduceIte,Nat.reduceEqDiff,Nat.reduceAdd,Nat.reduceSub,Nat.reduceLeDiff,reduceCtorEq,h1,h2]
   ·have GA:i=p.length:=by omega
    subst GA
    rw[List.take_length]at cM
    have Kk:IntKind.i64.wrap ((k:Int)+1)=((k+1:Nat):Int):=ax (by omega)
    have SU:=Sy.bound (S:=fun v=>decide (v=x)) hxS hyS
    (try((repeat(revert hN;revert N;apply Pn.out));refine wk (tw @c0 (tw @c9 (tw @jh (tw @mU (tw @gR (tw @hi @Kk)))))) ?_;(repeat(refine Pn.mk ?_;intro N hN))))
    refine⟨_,?_,k+1,_,rfl,sd @Kk,by rw[Int.natCast_add];exact Sy,cM,by(try dsimp only);omega,fun _=>by omega,fun u v=>?_⟩
    ·rw[<-TA]at SU;omega
    ·have h1:=(lF p f u v).2
     have h2:=blo u v
     rw[Int.natCast_add,Int.add_mul]
     omega
noncomputable def sw (n:Nat) (bs:List PB) (t:Int):Bool:=@decide (j9 n bs t) (Classical.propDecidable _)
theorem xb {n:Nat} {bs:List PB} {t:Int} (h:j9 n bs t):true=sw n bs t:=by simp[sw,h]
theorem Ap {n:Nat} {bs:List PB} {t:Int} (h:¬j9 n bs t):false=sw n bs t:=by simp[sw,h]
theorem Kc (cnt:Nat) (hn:cnt<=1048576) (bs:List PB) (hb:∀b∈bs,b.a<cnt/\b.b<cnt) (er:∀b∈bs,0<=b.s/\b.s<=4) (nk:bs.length<=1048576) (t:Int) (ht:t<=1099511627776):
  ak Tryz.prog 288 [.int .i64 cnt,.sl (bs.map aw),.int .i64 t] (.bool (sw cnt bs t)):=by
 refine ak.body eb rfl fun hl n0=>?_
 clear hl
 have oA:=y6 bs (fun _ _=>0) (fun b h=>(er b h).1) (fun _ _=>Int.le_refl _)
 have hle:=room_le bs (fun _ _=>0) 0 (fun b h=>(er b h).2) (fun _ _=>Int.le_refl _) (Int.le_refl _)
 have fN:bs.foldl mQ (fun _ _=>0)=kz bs:=rfl
 rw[fN]at oA hle
 (try((repeat(revert hN;revert N;apply Pn.out));refine wk @Nat.zero_add ?_;(repeat(refine Pn.mk ?_;intro N hN))))
 refine aY (fun m env st=>∃y:Nat,m=cnt+1-y/\1<=y/\env 7=.int .i64 (y:Int)/\y<=cnt+1/\∀z,1<=z->z<y->z<cnt->∀S:Nat->Bool,S 0=true->S z=false->t<=iO S bs) (cnt+1-1) ⟨1,rfl,Nat.le_refl _,by(simp only[go_sem, ↓reduceIte,Nat.reduceEqDiff,Nat.reduceAdd,Nat.reduceSub,Nat.reduceLeDiff,reduceCtorEq])<;>rfl,by omega,fun z h1 h2=>by omega⟩ ?_
 rintro m env_b st_b ⟨y,rfl,hy1,b7,hyl,dH⟩ bkp
 have b0:=bkp 0 (by kernel_rfl)
 have b1:=bkp 1 (by kernel_rfl)
 have b2:=bkp 2 (by kernel_rfl)
 simp only[go_sem, ↓reduceIte,Nat.reduceEqDiff,Nat.reduceAdd,Nat.reduceSub,Nat.reduceLeDiff,reduceCtorEq]at b0 b1 b2
 clear bkp
 by_cases hy:(y:Int)<(cnt:Int)
 ·have hyn:y<cnt:=by omega
  (try((repeat(revert hN;revert N;apply Pn.out));refine wk (tw @b0 (tw @b1 (tw @b2 (tw @b7 @hy)))) ?_;(repeat(refine Pn.mk ?_;intro N hN))))
  refine .inr (aE _ _ _ _ _ (fun r σ1 hq=>?_) (A4 cnt (by omega) hn bs hb er nk _))
  obtain⟨X,o1,o2,R1,R2,rfl,I,J9,hM,_⟩:=hq
  refine hN _ _ ?_
  clear hN N
  (try((repeat(revert hN;revert N;apply Pn.out));refine wk (tw @b0 (tw @b1 (tw @b2 @b7))) ?_;(repeat(refine Pn.mk ?_;intro N hN))))
  have uw:=NW cnt (by omega) hn (kz bs) (fun u v _ _=>⟨oA u v,by have:=hle u v;omega⟩) 0 y (by omega) hyn (by omega) t ht X o1 o2 R1 R2 σ1.next I
  refine .inr (aE _ _ _ _ _ (fun r σ2 hq=>?_) (uw _ hM (by(try dsimp only);omega)))
  obtain⟨val,rfl,rM,lf⟩:=hq
  refine hN _ _ ?_
  clear hN N
  by_cases dV:val<t
  ·(try((repeat(revert hN;revert N;apply Pn.out));refine wk (tw @b0 (tw @b1 (tw @b2 (tw @b7 @dV)))) ?_;(repeat(refine Pn.mk ?_;intro N hN))))
   obtain⟨S,h1,h2,h3⟩:=rM.1 dV
   rw[zS hb]at h3
   exact aQ (b:=false) (.inl rfl) (sd @Nat.zero_add) (Ap fun h=>by have:=h S h1 ⟨y,hyn,h2⟩;omega)
  ·have hw:IntKind.i64.wrap ((y:Int)+1)=((y+1:Nat):Int):=ax (by omega)
   (try((repeat(revert hN;revert N;apply Pn.out));refine wk (tw @b0 (tw @b1 (tw @b2 (tw @b7 (tw @dV @hw))))) ?_;(repeat(refine Pn.mk ?_;intro N hN))))
   refine⟨_,?_,y+1,rfl,by omega,sd (tw @b7 @hw),by omega,fun z h1 h2 h3 S M3 M4=>?_⟩
   ·omega
   ·by_cases hzy:z=y
    ·subst hzy
     rcases Int.lt_or_le (iO S bs) t with h|h
     ·exact absurd (rM.2 ⟨S,M3,M4,by rw[zS hb];exact h⟩) dV
     ·exact h
    ·exact dH z h1 (by omega) h3 S M3 M4
 ·(try((repeat(revert hN;revert N;apply Pn.out));refine wk (tw @b0 (tw @b1 (tw @b2 (tw @b7 @hy)))) ?_;(repeat(refine Pn.mk ?_;intro N hN))))
  exact aQ (b:=true) (.inl rfl) (sd @Nat.zero_add) (xb fun S h0 ⟨z,hz,hzf⟩=>by
   have:z≠0:=by rintro rfl;rw[h0]at hzf;cases hzf
   exact dH z (by omega) (by omega) hz S h0 hzf)
theorem HJ (cnt:Nat) (hn:cnt<=1048576) (bs:List PB) (hb:∀b∈bs,b.a<cnt/\b.b<cnt) (er:∀b∈bs,0<=b.s/\b.s<=4) (nk:bs.length<=1048576) (t:Int) (ht:t<=1099511627776):
  ak Tryz.prog 288 [.int .i64 cnt,zb bs,.int .i64 t] (.bool (sw cnt bs t)):=by
 have h:=Kc cnt hn bs hb er nk t ht
 cases bs with
 |nil=>exact h.cut mixed (.same _ (.bP (.same _ .nil)))
 |cons b r=>rw[zd (by simp)];exact h
def BJ:Prop:=∀(s:aq) (l:List ad),iD s->gN s l->ak Tryz.prog 205 [.agg (ab s),.agg [.sl (l.map aa)]] (zb (cL s l))
noncomputable def tz (s:aq) (l:List ad) (t:Int):Bool:=if 64<gU s l t then false else sw (gU s l t) (dm (ei (aI t (cL s l))) (cL s l)) t
theorem CL (s:aq) (l:List ad) (t:Int):tz s l t=mO s l t:=by
 letI:=Classical.propDecidable (ow l.length (cL s l) t)
 unfold tz
 by_cases h:64<gU s l t
 ·rw[if_pos h]
  exact(lS (p:=False) ⟨False.elim,fun k=>by have:=k.1;unfold gU at h;omega⟩).symm.trans (by simp) |>.symm
 ·rw[if_neg h]
  by_cases hp:j9 (gU s l t) (dm (ei (aI t (cL s l))) (cL s l)) t
  ·rw[<-xb hp]
   exact((lS (p:=True) ⟨fun _=>⟨by unfold gU at h;omega,hp⟩,fun _=>trivial⟩).symm.trans (by simp)).symm
  ·rw[<-Ap hp]
   exact((lS (p:=False) ⟨False.elim,fun k=>hp k.2⟩).symm.trans (by simp)).symm
theorem IF (Sv:BJ) (s:aq) (l:List ad) (t:Int) (ht:t<=1099511627776) (h1:1<=l.length) (hS:iD s) (hA:gN s l):ak Tryz.prog 241 [.agg (ab s),.agg [.sl (l.map aa)],.int .i64 t] (.ij [.bool (mO s l t),.bool (decide ¬64<gU s l t)]):=by
 rw[<-CL]
 refine ak.body eb rfl fun hl n0=>?_
 clear hl
 have hb:=wM (l:=l) hS
 have nk:=pf (s:=s) hA.1
 have Fk:=hA.1.sU
 have rH:=Sv s l hS hA
 have PT:=xZ l.length h1 (by omega) (cL s l) (fun b h=>⟨(hb b h).1,(hb b h).2.1⟩) (by omega) t
 have hL:=sF (aI t (cL s l))
 have fJ:=Dh hL (fun b h=>⟨(hb b h).1,(hb b h).2.1⟩)
 have hlen:=(mo (ei (aI t (cL s l))) (cL s l)).1
 have lI:=jw l.length (ei (aI t (cL s l)))
 have hho:=HJ (gU s l t) (by unfold gU;omega) (dm (ei (aI t (cL s l))) (cL s l)) (fun b h=>⟨(fJ b h).1,(fJ b h).2.1⟩) (fun b h=>by
  obtain⟨_,_,_,c,hc,di⟩:=fJ b h
  rw[di];have:=hb c hc;omega) (by omega) t ht
 have fV:(l.map aa).length=l.length:=by simp
 have hzB:∀(g:Rows) (n:Nat) (bs:List PB),V.fz g (n+1) (zb bs)=some (zb bs):=fun g n bs=>by
  unfold zb;split
  ·exact aG _ _
  ·exact bD _ _ _
 rw[ab]at rH
 rw[<-gU]at PT
 have xg:∀(g:Rows) (x:Int),cI (dd g) 6 [.int .i64 l.length,zb (cL s l),.int .i64 x]=some [.int .i64 l.length,zb (cL s l),.int .i64 x]:=fun g x=>by simp only[ae,ai,ay,hzB,Option.map_some]
 have hzh:∀(g:Rows) (x y:Int),cI (dd g) 6 [.int .i64 x,zb (dm (ei (aI t (cL s l))) (cL s l)),.int .i64 y]=some [.int .i64 x,zb (dm (ei (aI t (cL s l))) (cL s l)),.int .i64 y]:=fun g x y=>by simp only[ae,ai,ay,hzB,Option.map_some]
 generalize zb (cL s l)=B1 at *
 generalize zb (dm (ei (aI t (cL s l))) (cL s l))=B2 at *
 by_cases sV:(64:Int)<(gU s l t:Int)
 ·have sW:64<gU s l t:=by omega
  (repeat(first|((repeat(revert hN;revert N;apply Pn.out));refine wk (tw @ab.eq_1 (tw @sV @fV)) ?_;(repeat(refine Pn.mk ?_;intro N hN)))|((try apply Or.inl);refine⟨_,ak.x (rH) (sd (tw @ab.eq_1 (tw @sV @fV))),?_⟩;refine hN _ _ ?_;clear hN N)))
  refine⟨_,ak.x PT (xg _ _),?_⟩
  refine hN _ _ ?_
  clear hN N
  (try((repeat(revert hN;revert N;apply Pn.out));refine wk @sV ?_;(repeat(refine Pn.mk ?_;intro N hN))))
  exact jf (.inl rfl) (r1:=.bool false) (r2:=.bool false) (sd @Nat.zero_add) (sd @Nat.zero_add) (by rw[tz,if_pos sW,decide_eq_false fun h=>h sW];simp only[eR,bC,cG,fe,Option.map_some])
 ·have sW:¬64<gU s l t:=by omega
  (repeat(first|((repeat(revert hN;revert N;apply Pn.out));refine wk (tw @ab.eq_1 (tw @sV @fV)) ?_;(repeat(refine Pn.mk ?_;intro N hN)))|((try apply Or.inl);refine⟨_,ak.x (rH) (sd (tw @ab.eq_1 (tw @sV @fV))),?_⟩;refine hN _ _ ?_;clear hN N)))
  refine⟨_,ak.x PT (xg _ _),?_⟩
  refine hN _ _ ?_
  clear hN N
  (try((repeat(revert hN;revert N;apply Pn.out));refine wk @sV ?_;(repeat(refine Pn.mk ?_;intro N hN))))
  refine .inl ⟨_,ak.x hho (hzh _ _ _),?_⟩
  refine hN _ _ ?_
  clear hN N
  (try((repeat(revert hN;revert N;apply Pn.out));refine wk @Nat.zero_add ?_;(repeat(refine Pn.mk ?_;intro N hN))))
  exact jf (.inl rfl) (r1:=.bool (sw (gU s l t) (dm (ei (aI t (cL s l))) (cL s l)) t)) (r2:=.bool true) (sd @Nat.zero_add) (sd @Nat.zero_add) (by rw[tz,if_neg sW,decide_eq_true sW];simp only[eR,bC,cG,fe,Option.map_some])
theorem s5 (t:Int):ak Tryz.prog 132 [.int .i64 t] (.bool (iI t 1 16)):=by
 refine ak.body eb rfl fun hl n0=>?_
 clear hl
 have h:=kG t 1 16
 (repeat(first|((repeat(revert hN;revert N;apply Pn.out));refine wk @Nat.zero_add ?_;(repeat(refine Pn.mk ?_;intro N hN)))|((try apply Or.inl);refine⟨_,ak.x (h) (sd @Nat.zero_add),?_⟩;refine hN _ _ ?_;clear hN N)))
 exact aQ (b:=iI t 1 16) (.inl rfl) (sd @Nat.zero_add) rfl
theorem vK (Sv:BJ) (s:aU) (hn:fm s.aV) (hg:s.aV.au.length<=1048576) (ht:s.aV.ah.length<=1048576) (hs:∀t∈s.aV.ah,t.bB.length<=1048576) (hl:s.bf.ah.length<=1048576):ak Tryz.prog 97 [.agg (ao s)] (.bool (mv s)):=by
 refine ak.body eb rfl fun nP n0=>?_
 clear nP
 by_cases h0:(s.bf.ah.length:Int)=0
 ·have hd:decide ((s.bf.ah.length:Int)=0)=true:=decide_eq_true h0
  (try((repeat(revert hN;revert N;apply Pn.out));refine wk (tw @ao.eq_1 @hd) ?_;(repeat(refine Pn.mk ?_;intro N hN))))
  exact aQ (b:=false) (.inl rfl) (sd @Nat.zero_add) (jH fun h=>by have:=h.some;omega)
 have hd:decide ((s.bf.ah.length:Int)=0)=false:=decide_eq_false h0
 have M5:=mH s.aV s.bf.ah hn hg ht hs hl
 have PK:=s5 s.aB
 have key:ak Tryz.prog 169 [.agg (ab s.aV),.agg [.sl (s.bf.ah.map aa)],.int .i64 s.aB] (.ij [.bool (mv s),.int .i64 (if pQ s.aV&&oQ s.aV s.bf.ah then(if iI s.aB 1 16 then(if 64<gU s.aV s.bf.ah s.aB then 4 else 0)else 2)else 1)]):=by
  refine ak.body eb rfl fun nP n0=>?_
  clear nP
  rw[ab]at M5
  cases hA:pQ s.aV&&oQ s.aV s.bf.ah
  ·rw[hA]at M5
   have lg:mv s=false:=(jH fun h=>by rw[lR.2 h.set,lD.2 h.s8]at hA;cases hA).symm
   (repeat(first|((repeat(revert hN;revert N;apply Pn.out));refine wk @ab.eq_1 ?_;(repeat(refine Pn.mk ?_;intro N hN)))|((try apply Or.inl);refine⟨_,ak.x (M5) (sd @ab.eq_1),?_⟩;refine hN _ _ ?_;clear hN N)))
   exact jf (.inl rfl) (r1:=.bool false) (r2:=.int .i64 1) (sd @Nat.zero_add) (sd @Nat.zero_add) (by rw[lg];simp only[eR,bC,cG,fe,ek,Option.map_some];rfl)
  rw[hA]at M5
  simp only[Bool.and_eq_true]at hA
  have hS:=lR.1 hA.1
  have hP:=lD.1 hA.2
  cases hT:iI s.aB 1 16
  ·rw[hT]at PK
   have lg:mv s=false:=(jH fun h=>by have:=h.K6;rw[hT]at this;cases this).symm
   (repeat(first|((repeat(revert hN;revert N;apply Pn.out));refine wk @ab.eq_1 ?_;(repeat(refine Pn.mk ?_;intro N hN)))|((try apply Or.inl);refine⟨_,ak.x (M5) (sd @ab.eq_1),?_⟩;refine hN _ _ ?_;clear hN N)|((try apply Or.inl);refine⟨_,ak.x (PK) (sd @ab.eq_1),?_⟩;refine hN _ _ ?_;clear hN N)))
   exact jf (.inl rfl) (r1:=.bool false) (r2:=.int .i64 2) (sd @Nat.zero_add) (sd @Nat.zero_add) (by rw[lg];simp only[eR,bC,cG,fe,ek,Option.map_some];rfl)
  have Kh:=ew hT
  rw[hT]at PK
  have er:=IF Sv s.aV s.bf.ah s.aB (by omega) (by omega) hS hP
  rw[ab]at er
  have hsy:mv s=mO s.aV s.bf.ah s.aB:=by
   cases hB:mO s.aV s.bf.ah s.aB
   ·exact(jH fun h=>by have:=oK.2 h.holds;rw[hB]at this;cases this).symm
   ·exact(Bj ⟨hS,hP,by omega,hT,oK.1 hB⟩).symm
  by_cases sV:64<gU s.aV s.bf.ah s.aB
  ·rw[decide_eq_false fun h=>h sV]at er
   have lg:mv s=false:=(jH fun h=>by have:=h.holds.1;unfold gU at sV;omega).symm
   (repeat(first|((repeat(revert hN;revert N;apply Pn.out));refine wk @ab.eq_1 ?_;(repeat(refine Pn.mk ?_;intro N hN)))|((try apply Or.inl);refine⟨_,ak.x (M5) (sd @ab.eq_1),?_⟩;refine hN _ _ ?_;clear hN N)|((try apply Or.inl);refine⟨_,ak.x (PK) (sd @ab.eq_1),?_⟩;refine hN _ _ ?_;clear hN N)|((try apply Or.inl);refine⟨_,ak.x (er) (sd @ab.eq_1),?_⟩;refine hN _ _ ?_;clear hN N)))
   exact jf (.inl rfl) (r1:=.bool false) (r2:=.int .i64 4) (sd @Nat.zero_add) (sd @Nat.zero_add) (by rw[lg,if_pos sV];simp only[eR,bC,cG,fe,ek,Option.map_some])
  ·rw[decide_eq_true sV,<-hsy]at er
   (repeat(first|((repeat(revert hN;revert N;apply Pn.out));refine wk @ab.eq_1 ?_;(repeat(refine Pn.mk ?_;intro N hN)))|((try apply Or.inl);refine⟨_,ak.x (M5) (sd @ab.eq_1),?_⟩;refine hN _ _ ?_;clear hN N)|((try apply Or.inl);refine⟨_,ak.x (PK) (sd @ab.eq_1),?_⟩;refine hN _ _ ?_;clear hN N)|((try apply Or.inl);refine⟨_,ak.x (er) (sd @ab.eq_1),?_⟩;refine hN _ _ ?_;clear hN N)))
   exact jf (.inl rfl) (r1:=.bool (mv s)) (r2:=.int .i64 0) (sd @Nat.zero_add) (sd @Nat.zero_add) (by rw[if_neg sV];simp only[eR,bC,cG,fe,ek,Option.map_some])
 generalize hcode:(if pQ s.aV&&oQ s.aV s.bf.ah then(if iI s.aB 1 16 then(if 64<gU s.aV s.bf.ah s.aB then(4:Int)else 0)else 2)else 1)=code at key
 rw[ab]at key
 cases hB:mv s
 ·rw[hB]at key
  (repeat(first|((repeat(revert hN;revert N;apply Pn.out));refine wk (tw @ao.eq_1 @hd) ?_;(repeat(refine Pn.mk ?_;intro N hN)))|((try apply Or.inl);refine⟨_,ak.x (key) (sd (tw @ao.eq_1 @hd)),?_⟩;refine hN _ _ ?_;clear hN N)))
  exact aQ (b:=false) (.inl rfl) (sd @Nat.zero_add) rfl
 ·rw[hB]at key
  have hP:=vh.1 hB
  have hc:code=0:=by
   rw[<-hcode,lR.2 hP.set,lD.2 hP.s8,hP.K6]
   have:=hP.holds.1
   simp only[Bool.and_self,if_true]
   rw[if_neg (by unfold gU;omega)]
  rw[hc]at key
  (repeat(first|((repeat(revert hN;revert N;apply Pn.out));refine wk (tw @ao.eq_1 @hd) ?_;(repeat(refine Pn.mk ?_;intro N hN)))|((try apply Or.inl);refine⟨_,ak.x (key) (sd (tw @ao.eq_1 @hd)),?_⟩;refine hN _ _ ?_;clear hN N)))
  exact aQ (b:=true) (.inl rfl) (sd @Nat.zero_add) rfl
end Go.Proofs.YtgoljkjaameagaaGreat.V

namespace Go.Proofs.YtgoljkjaameagaaGreat.V
open Go.RowKit
variable {P:Program} {hs:Nat}
theorem Gt {q n i:Nat} {ops:Array Oper} {Q:Exit->Act->World->Prop} {K K':Act->World->Prop} {a:Act} {w:World} (lY:∀(j:Nat) (o:Oper),ops[j]? =some o->∀c,o.op≠.defer c) (lg:¬LetsOut Q) (hK:∀a w,K a w->K' a w) (h:wpOp P ops Q i K a w):wpOpIn (Fence.wide.inRound q) n P ops Q i K' a w:=by
 unfold wpOp at h
 unfold wpOpIn
 split at h
 ·rename_i ho;simp only[ho];exact hK _ _ h
 ·rename_i o ho
  simp only[ho]
  split at h
  ·rename_i hw
   rw[if_pos hw]
   replace h:=h.resolve_right fun hc=>lg hc.2
   refine⟨fun _ _=>trivial,?_⟩
   rw[Oper.semAt_eq _ _ _ (lY i o ho)]
   unfold Oper.wp at h
   generalize (execOp a.eval o).run P w=r at *
   cases r with
   |ok m w'=>
    cases m<;>simp only[Oper.upon,Oper.uponIn]at h ⊢
    case value=>exact hK _ _ h
    case skip=>exact hK _ _ h
    case defer=>exact hK _ _ h
    case enter f args=>
     refine⟨fun h=>by simp[Fence.wide]at h,CallsIn.inRound q (callsIn_wide.2 (h.mono fun e Ju he=>?_))⟩
     cases e with
     |returned v=>exact hK _ _ he
     |panicked c=>exact he
     |outgrown=>exact he
    case row r args=>exact⟨fun h=>by simp[Fence.wide]at h,fun c cs _=>let ⟨v,Ju,h1,s⟩:=h c cs;⟨v,Ju,hK _ _ h1,stepsIn_wide.2 s⟩⟩
   |halt x w'=>cases x<;>simp only[Oper.upon,Oper.uponIn]at h ⊢;exact h
  ·rename_i hw
   rw[if_neg hw]
   exact⟨fun _ _=>trivial,hK _ _ h⟩
theorem vD {q n:Nat} {md:Region.Mode} {ops:Array Oper} {Q:Exit->Act->World->Prop} (lY:∀(j:Nat) (o:Oper),ops[j]? =some o->∀c,o.op≠.defer c) (lg:¬LetsOut Q):∀(fuel:Nat) (listed:Array Bool) (a:Act) (w:World),wpAny P md ops Q fuel listed a w->wpAnyIn (Fence.wide.inRound q) n P md ops Q fuel listed a w
 |0,_,_,_,h=>h
 |fuel+1,listed,_,_,h=>⟨h.1,fun i hi=>Gt lY lg (fun a w=>vD lY lg fuel _ a w) (h.2 i hi)⟩
def El:Op->Bool
 | .defer _=>true
 |_=>false
theorem Ij {ops:Array Oper} (h:(ops.all fun o=> !El o.op)=true):∀(j:Nat) (o:Oper),ops[j]? =some o->∀c,o.op≠.defer c:=fun j o hj c hc=>by
 have:=Array.all_eq_true_iff_forall_mem.1 h o (Array.mem_of_getElem? hj)
 rw[hc]at this
 simp[El]at this
theorem yY (hm:P.follows .mixedOrders=true) {nt site0 id q n:Nat} {ops:Array Oper} {vl:List bz} (h:qd P nt site0 ops true false=some vl) (lY:∀(j:Nat) (o:Oper),ops[j]? =some o->∀c,o.op≠.defer c)
  {K:Env->ar->Prop} {env:Env} {σ:ar} {a:Act} {w:World} {D:Nat->Prop} {ι:Names} {Q:Exit->Act->World->Prop} (hv:wpOps (Sound P) true vl K env σ) (er:St P hs nt D ι env σ a w)
  (hK:∀ik σ' a' w' D' ι',K ik σ'->Step hs D ι w D' ι' w'->St P hs nt D' ι' ik σ' a' w'->a'.defers=a.defers->Q .normal a' w'):(Code.region id ops true).wpIn (Fence.wide.inRound q) n P Q a w:=by
 have dH:∃hidden r7,allM (lG P ops nt site0 true false (jj ops) hidden) ops.toList 0=some r7/\vl=r7/\nG ops r7 (jj ops)=true:=by
  unfold qd at h
  simp only[if_true,Bool.not_true,Bool.false_or]at h
  split at h
  ·rename_i r7 h'
   split at h
   ·rename_i qo;simp at h;exact⟨_,r7,h',h.symm,qo⟩
   ·cases h
  ·cases h
 obtain⟨hidden,r7,dH,rfl,qo⟩:=dH
 obtain⟨qp,T0⟩:=er.drew
 obtain⟨hlen,_⟩:=nA dH
 have kg:vl.length=ops.size:=by rw[hlen];simp
 have Cu:=vw (X:=Sound P) (K:=K) (n:=σ.next) qo kg vl 0 (Array.replicate ops.size false) env σ.get (by simp) (by simp) (fun i hi=>by simp[hi]) (by simp[kg]) (fun k i h=>by
  exfalso
  rcases Nat.lt_or_ge k ops.size with hk|hk
  ·simp[hk]at h
  ·simp[Nat.not_lt.2 hk]at h) hv
 rw[kg]at Cu
 have hw:=wH (Q:=fun e a w=>e=.normal/\Q .normal a w) dH ops.size _ env σ.get a w.drew D ι (fun _=>False) Cu qp.Jt qp.used (fun _ h=>h.elim) qp.env qp.size fun j5 g1 a1 w1 D1 ι1 U1 hk T S1 R8 E1 xf hd=>⟨rfl,hK j5 ⟨g1,σ.next+1⟩ a1 w1 D1 ι1 hk (T0.trans T) ⟨S1,R8.next,E1,xf⟩ hd⟩
 have fJ:=vD (q:=q) (n:=n) (Q:=fun e a w=>e=.normal/\Q .normal a w) lY (by rintro⟨_,_,hc,_⟩;cases hc) ops.size _ a w.drew hw
 refine wpIn_mono (wpIn_region_any (id:=id) hm fJ) ?_
 rintro e a w ⟨rfl,h⟩
 exact h
end Go.Proofs.YtgoljkjaameagaaGreat.V

namespace Go.Proofs.YtgoljkjaameagaaGreat.V
open Go.RowKit Go.Shelf
attribute [local go_sem] Oper.semAt_some
def gO (n₀:Nat) (W W':World):Prop:=W.heap.size<=W'.heap.size/\(∀(b:Nat) (cells:Array Value) (T:TypeId) (fr:Nat×Nat),W.heap[b]? =some (Obj.cells cells T fr)->T≠179->T≠254->W'.heap[b]? =W.heap[b]?)/\∀k,k<n₀->k<W.heap.size->W'.heap[k]? =W.heap[k]?
theorem gO.trans {n₀:Nat} {A B C:World} (h:gO n₀ A B) (k:gO n₀ B C):gO n₀ A C:=⟨Nat.le_trans h.1 k.1,fun b cells T fr hb h1 h2=>by
 have e:=h.2.1 b cells T fr hb h1 h2
 rw[<-e]at hb ⊢
 exact k.2.1 b cells T fr hb h1 h2,fun b hb hs=>(k.2.2 b hb (Nat.lt_of_lt_of_le hs h.1)).trans (h.2.2 b hb hs)⟩
theorem gO.of {n₀:Nat} {W W':World} (h:Below W.heap.size W W'):gO n₀ W W':=⟨h.size,fun b cells T fr hb _ _=>h.block b (Array.getElem?_eq_some_iff.1 hb).1,fun k _ hs=>h.block k hs⟩
theorem gO.refl (n₀:Nat) (W:World):gO n₀ W W:=⟨Nat.le_refl _,fun _ _ _ _ _ _ _=>rfl,fun _ _ _=>rfl⟩
theorem gO.b {n₀ m:Nat} (hm:n₀<=m) (W:World) (l:Nat) (o o':Obj) (hl:m<=l) (h:W.heap[l]? =some o) (hc:o.isCells=false) (_:o.isWalk=false):gO n₀ W (W.putObj l o'):=by
 refine⟨by simp,fun b cells T fr hb _ _=>?_,fun k hk _=>World.putObj_heap_other (by omega)⟩
 by_cases nk:b=l
 ·subst nk;rw[h]at hb;cases hb;cases hc
 ·exact World.putObj_heap_other nk
def JH (bs:List PB):List Value:=bs.flatMap fun b=>[.int .i64 b.a,.int .i64 b.b,.int .i64 b.s]
theorem G1 (bs:List PB) (b:PB):JH (bs++[b])=JH bs++[.int .i64 b.a,.int .i64 b.b,.int .i64 b.s]:=by simp[JH]
def mT (s:aq) (l:List ad) (pre:List (Mc l)):List PB:=(pre.map (·.1)).flatMap (xR s l)
theorem wK (s:aq) (l:List ad) (pre:List (Mc l)) (x:Mc l):mT s l (pre++[x])=mT s l pre++xR s l x.1:=by simp[mT]
theorem G0 (s:aq) (l:List ad) (x:Nat×Nat×Int):(xR s l x).length<=1:=by
 unfold xR;split<;>simp
theorem G2 (s:aq) (l:List ad) (pre:List (Mc l)):(mT s l pre).length<=pre.length:=by
 unfold mT
 induction pre with
 |nil=>simp
 |cons x r ih=>
  have:=G0 s l x.1
  simp only[List.map_cons,List.flatMap_cons,List.length_append,List.length_cons]at ih ⊢
  omega
theorem xt (l:List ad) (i:Nat):∀m,(ko l i m).length<=m
 |0=>by simp[ko]
 |m+1=>by
  rw[mj,List.length_append]
  have:=xt l i m
  have:(AY l i (1-(m:Int))).length<=1:=by unfold AY;split<;>simp
  omega
theorem AZ (l:List ad):∀n,(kP l n).length<=n*2
 |0=>by simp[kP]
 |n+1=>by
  rw[lO,List.length_append]
  have:=AZ l n
  have:=xt l n 2
  omega
theorem Ai {β:Type} (B:Nat) (c:Array Value) (t:TypeId) (fr:Nat×Nat):Own (fun(_:β) W=>W.heap[B]? =some (.cells c t fr)):=fun _ X _ row h hg hr=>(hg.block B (Array.getElem?_eq_some_iff.1 h).1 (fun e=>by
 obtain⟨o,ho,hc⟩:=hr B e.symm
 rw[h]at ho;cases ho;cases hc)).trans h
theorem gO.app {n₀:Nat} {W w1:World} {B k:Nat} {v v':Value} {xs:List Value} {tmp:Obj} (hv:Boxed W B 179 v) (fV:W.ownsRow n₀ 254 3 v k xs) (Eb:(W.alloc tmp).grownBy w1 v.ownBlock) (hb:Below n₀ W (w1.setCell ⟨B,0,none⟩ v')):gO n₀ W (w1.setCell ⟨B,0,none⟩ v'):=by
 refine⟨hb.size,fun b cells T fr h h1 h2=>?_,fun k hk _=>hb.block k hk⟩
 have dV:=(Array.getElem?_eq_some_iff.1 h).1
 have hbB:b≠B:=by
  rintro rfl
  rw[show W.heap[b]? = _ from hv]at h
  cases h
  exact h1 rfl
 have Rs:some b≠v.ownBlock:=by
  rcases fV.2 with⟨rfl,_⟩|⟨g,cap,cur,rfl,_,hg,_⟩
  ·simp[Value.ownBlock]
  ·intro e
   obtain rfl:b=g:=by simpa[Value.ownBlock]using e
   rw[hg]at h;cases h
   exact h2 rfl
 refine(Below.heap_setCell w1 ⟨B,0,none⟩ v' b hbB).trans ?_
 exact(Eb.block b (by simp;omega) Rs).trans (Below.heap_alloc W tmp b dV)
theorem QC {w:World} {vS:Value} {l:List ad} (hP:oO w vS l):GK (gO w.heap.size) vS l where
 refl:=gO.refl _
 trans:=gO.trans
 of:=gO.of
 size h:=h.1
 typed h:=h.2.1
 pl {W W'} h hp:=by
  obtain⟨A,c,rfl,hm,hc⟩:=hp.sl
  refine⟨A,c,rfl,hm,?_⟩
  by_cases hl:l=[]
  ·exact .inl hl
  have jZ:0<l.length:=List.length_pos_iff.2 hl
  rcases hc with h0|⟨b,o,rfl,j0⟩
  ·exact absurd h0 hl
  obtain⟨A',c',e,_,kf⟩:=hP.sl
  cases e
  rcases kf with h0|⟨b',o',e,hcell'⟩
  ·exact absurd h0 hl
  cases e
  have hb:=td (hcell' 0 jZ).1
  have hk:=h.2.2 b hb (td (j0 0 jZ).1)
  refine .inr ⟨b,o,rfl,fun i hi=>?_⟩
  have yn:∀x,W'.cell? ⟨b,x,none⟩=W.cell? ⟨b,x,none⟩:=fun x=>World.cell?_of_block hk
  rw[yn,yn,yn]
  exact j0 i hi
theorem rrE {P:Program} {nt site0:Nat} {ops:Array Oper} {vl:List bz} (_:xT P ops site0 false (jj ops) (qw P false ops.toList 0) ops.toList 0=some vl:=by(conv=>lhs;cbv)<;>exact rfl) (h:qd P nt site0 ops true false=some vl:=by kernel_rfl):qd P nt site0 ops true false=some vl:=h
theorem H7 (l:List Value) (d:Value):l=(List.range l.length).map fun i=>(⟨l⟩:Array Value).getD i d:=by
 refine List.ext_getElem (by simp) fun i h1 h2=>?_
 simp[h1]
theorem C3 {X:fy} {d:Bool} {ops:List bz} {K:Env->ar->Prop} {env:Env} {σ:ar} (h:dL X (.ej d ops) (fun _=>K) env σ):wpOps X d ops K env σ:=h
theorem ua (W:World) (T:TypeId) (x y z:Value):∀(j:Nat) (u:Value),[x,y,z][j]? =some u->(W.alloc (.cells #[x,y,z] T)).cell? ((⟨W.heap.size,0,none⟩:Addr).add j)=some u:=fun j u h=>by
 have hb:(W.alloc (.cells #[x,y,z] T)).heap[W.heap.size]? =some (.cells #[x,y,z] T (0,0)):=World.alloc_heap_new _ _
 have e:∀k,(W.alloc (.cells #[x,y,z] T)).cell? ⟨W.heap.size,k,none⟩=(#[x,y,z]:Array Value)[k]? :=fun k=>by
  unfold World.cell?
  rw[show(W.alloc (.cells #[x,y,z] T)).heap[(⟨W.heap.size,k,none⟩:Addr).block]? = _ from hb]
  rfl
 rw[show(⟨W.heap.size,0,none⟩:Addr).add j=⟨W.heap.size,j,none⟩ by simp[Addr.add];exact fun h=>h.symm,e]
 simpa using h
def G7 (n b:Nat):Names:=fun id=>if id=⟨1,0⟩then some ⟨n,2,2,none⟩else if id=⟨2,0⟩then some ⟨n+1,1,1,none⟩else if id=⟨3,0⟩then some ⟨n+1+1,1,1,none⟩else if id=⟨4,0⟩then some ⟨b,2,2,none⟩else if id=⟨5,0⟩then some ⟨n+1+1+1,1,1,none⟩else none
def Ll (s:aq) (l:List ad) (i k:Nat):Rows:=fun id=>if id=⟨1,0⟩then some ⟨false,2,[ab s]⟩else if id=⟨2,0⟩then some ⟨false,1,[[.sl (l.map aa)]]⟩else if id=⟨4,0⟩then some ⟨false,2,[[.int .i64 (i:Int),.int .i64 (k:Int)]]⟩else none
def Mp (s:aq) (l:List ad) (i k:Nat) (d:Int):Env:=bJ [.agg (ab s),.agg [.sl (l.map aa)],.ptr ⟨1,0⟩ 0 0,.ptr ⟨2,0⟩ 0 0,.bP,.ptr ⟨3,0⟩ 0 0,.ptr ⟨4,0⟩ 0 0,.int .i64 d,.undef,.agg [.sl (l.map aa)],.fn 302 [.ptr ⟨5,0⟩ 0 0],.agg [.int .i64 (i:Int),.int .i64 (k:Int)],.int .i64 d]
theorem De {P:Program} {W:World} {D:Nat->Prop} {ι:Names} {B:r9} {cells:Array Value} {T:TypeId} {cs:List AV} (hk:B.k=none) (hb:W.heap[B.b]? =some (.cells cells T (0,0))) (hC:cells.size=B.C) (hz:B.sz=cs.length) (hl:cs.length=cells.size) (hf:∀a∈cs,a.cell=true) (hr:∀(j:Nat) (a:AV),cs[j]? =some a->∃v,cells[j]? =some v/\cV P W D ι a v):iq P W D ι B ⟨false,cs.length,[cs]⟩:=
 kT.obj ⟨hz,⟨cells,T,hb,hC⟩,by simp;omega,fun c hc=>by simp at hc;rw[hc],fun c hc=>by simp at hc;rw[hc];exact hf,fun i j c a hi hj=>by
  match i,hi with
  |0,hi=>
   simp at hi;subst hi
   obtain⟨v,h1,h2⟩:=hr j a hj
   exact⟨v,by simp[World.cell?,hb,h1],h2⟩
  |i+1,hi=>simp at hi⟩ hk
theorem HV:(Tryz.prog.info? 254).map (fun i=>(i.zero,i.size,i.bytes))=some (some (.agg #[.int .i64 0,.int .i64 0,.int .i64 0]),3,24):=by kernel_rfl
end Go.Proofs.YtgoljkjaameagaaGreat.V
