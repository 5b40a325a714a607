/- TileSet.bonds: the range over the neighbors, walked on the machine. -/
import Derived.Test.YtgoelphibofcmaaGreatAwE
import Derived.Test.YtgoelphibofcmaaGreatAwB
import Derived.Test.YtgoelphibofcmaaGreatAwC
import Derived.Test.YtgoelphibofcmaaGreatAwD
import Derived.Test.YtgoelphibofcmaaGreatChecked
import Derived.ProofKit
import Derived.Deep.Slices
import Derived.ChangeSame
import Derived.Test.YtgoelphibofcmaaGreatRows
import Derived.OpenShut
import Derived.ShutString
import Derived.ChangeOld
import Derived.Below
set_option linter.unusedVariables false
set_option linter.unusedSimpArgs false
set_option maxRecDepth 100000
set_option maxHeartbeats 16000000
namespace Go.Proofs.YtgoelphibofcmaaGreat.V
open Go.RowKit Go.Shelf
attribute [local go_sem] Oper.semAt_some
def gZ (n₀:Nat) (W W':World):Prop:=W.heap.size<=W'.heap.size/\(∀(b:Nat) (cells:Array Value) (T:TypeId) (fr:Nat×Nat),W.heap[b]? =some (Obj.cells cells T fr)->T≠226->T≠246->W'.heap[b]? =W.heap[b]?)/\∀k,k<n₀->k<W.heap.size->W'.heap[k]? =W.heap[k]?
theorem gZ.trans {n₀:Nat} {A B C:World} (h:gZ n₀ A B) (k:gZ n₀ B C):gZ n₀ A C:=⟨Nat.le_trans h.1 k.1,fun b cells T fr hb h1 h2=>by
 have e:=h.2.1 b cells T fr hb h1 h2
 rw[<-e]at hb ⊢
 exact k.2.1 b cells T fr hb h1 h2,fun b hb hs=>(k.2.2 b hb (Nat.lt_of_lt_of_le hs h.1)).trans (h.2.2 b hb hs)⟩
theorem gZ.of {n₀:Nat} {W W':World} (h:Below W.heap.size W W'):gZ n₀ W W':=⟨h.size,fun b cells T fr hb _ _=>h.block b (Array.getElem?_eq_some_iff.1 hb).1,fun k _ hs=>h.block k hs⟩
theorem gZ.refl (n₀:Nat) (W:World):gZ n₀ W W:=⟨Nat.le_refl _,fun _ _ _ _ _ _ _=>rfl,fun _ _ _=>rfl⟩
theorem gZ.b {n₀ m:Nat} (hm:n₀<=m) (W:World) (l:Nat) (o o':Obj) (hl:m<=l) (h:W.heap[l]? =some o) (hc:o.isCells=false) (_:o.isWalk=false):gZ n₀ W (W.putObj l o'):=by
 refine⟨by simp,fun b cells T fr hb _ _=>?_,fun k hk _=>World.putObj_heap_other (by omega)⟩
 by_cases qq:b=l
 ·subst qq;rw[h]at hb;cases hb;cases hc
 ·exact World.putObj_heap_other qq
def Ki (bs:List PB):List Value:=bs.flatMap fun b=>[.int .i64 b.a,.int .i64 b.b,.int .i64 b.s]
theorem Hu (bs:List PB) (b:PB):Ki (bs++[b])=Ki bs++[.int .i64 b.a,.int .i64 b.b,.int .i64 b.s]:=by simp[Ki]
def nF (s:ax) (l:List ah) (pre:List (MB l)):List PB:=(pre.map (·.1)).flatMap (yY s l)
theorem xQ (s:ax) (l:List ah) (pre:List (MB l)) (x:MB l):nF s l (pre++[x])=nF s l pre++yY s l x.1:=by simp[nF]
theorem Ht (s:ax) (l:List ah) (x:Nat×Nat×Int):(yY s l x).length<=1:=by
 unfold yY;split<;>simp
theorem Hv (s:ax) (l:List ah) (pre:List (MB l)):(nF s l pre).length<=pre.length:=by
 unfold nF
 induction pre with
 |nil=>simp
 |cons x r ih=>
  have:=Ht s l x.1
  simp only[List.map_cons,List.flatMap_cons,List.length_append,List.length_cons]at ih ⊢
  omega
theorem yE (l:List ah) (i:Nat):∀m,(kK l i m).length<=m
 |0=>by simp[kK]
 |m+1=>by
  rw[mU,List.length_append]
  have:=yE l i m
  have:(BP l i (1-(m:Int))).length<=1:=by unfold BP;split<;>simp
  omega
theorem BQ (l:List ah):∀n,(lh l n).length<=n*2
 |0=>by simp[lh]
 |n+1=>by
  rw[ma,List.length_append]
  have:=BQ l n
  have:=yE l n 2
  omega
theorem Bc {β:Type} (B:Nat) (c:Array Value) (t:TypeId) (fr:Nat×Nat):Own (fun(_:β) W=>W.heap[B]? =some (.cells c t fr)):=fun _ X _ row h hg hr=>(hg.block B (Array.getElem?_eq_some_iff.1 h).1 (fun e=>by
 obtain⟨o,ho,hc⟩:=hr B e.symm
 rw[h]at ho;cases ho;cases hc)).trans h
theorem gZ.app {n₀:Nat} {W w1:World} {B k:Nat} {v v':Value} {xs:List Value} {tmp:Obj} (hv:Boxed W B 226 v) (fY:W.ownsRow n₀ 246 3 v k xs) (EI:(W.alloc tmp).grownBy w1 v.ownBlock) (hb:Below n₀ W (w1.setCell ⟨B,0,none⟩ v')):gZ n₀ W (w1.setCell ⟨B,0,none⟩ v'):=by
 refine⟨hb.size,fun b cells T fr h h1 h2=>?_,fun k hk _=>hb.block k hk⟩
 have eo:=(Array.getElem?_eq_some_iff.1 h).1
 have hbB:b≠B:=by
  rintro rfl
  rw[show W.heap[b]? = _ from hv]at h
  cases h
  exact h1 rfl
 have Rn:some b≠v.ownBlock:=by
  rcases fY.2 with⟨rfl,_⟩|⟨g,cap,cur,rfl,_,hg,_⟩
  ·simp[Value.ownBlock]
  ·intro e
   obtain rfl:b=g:=by simpa[Value.ownBlock]using e
   rw[hg]at h;cases h
   exact h2 rfl
 refine(Below.heap_setCell w1 ⟨B,0,none⟩ v' b hbB).trans ?_
 exact(EI.block b (by simp;omega) Rn).trans (Below.heap_alloc W tmp b eo)
theorem QB {w:World} {vS:Value} {l:List ah} (hP:pG w vS l):Hg (gZ w.heap.size) vS l where
 refl:=gZ.refl _
 trans:=gZ.trans
 of:=gZ.of
 size h:=h.1
 typed h:=h.2.1
 pl {W W'} h hp:=by
  obtain⟨A,c,rfl,hm,hc⟩:=hp.sl
  refine⟨A,c,rfl,hm,?_⟩
  by_cases hl:l=[]
  ·exact .inl hl
  have jA:0<l.length:=List.length_pos_iff.2 hl
  rcases hc with h0|⟨b,o,rfl,jk⟩
  ·exact absurd h0 hl
  obtain⟨A',c',e,_,kD⟩:=hP.sl
  cases e
  rcases kD with h0|⟨b',o',e,hcell'⟩
  ·exact absurd h0 hl
  cases e
  have hb:=uk (hcell' 0 jA).1
  have hk:=h.2.2 b hb (uk (jk 0 jA).1)
  refine .inr ⟨b,o,rfl,fun i hi=>?_⟩
  have zp:∀x,W'.cell? ⟨b,x,none⟩=W.cell? ⟨b,x,none⟩:=fun x=>World.cell?_of_block hk
  rw[zp,zp,zp]
  exact jk i hi
theorem rrE {P:Program} {nt site0:Nat} {ops:Array Oper} {vl:List bB} (_:y4 P ops site0 false (jx ops) (rJ P false ops.toList 0) ops.toList 0=some vl:=by(conv=>lhs;cbv)<;>exact rfl) (h:qY P nt site0 ops true false=some vl:=by kernel_rfl):qY P nt site0 ops true false=some vl:=h
theorem IH (l:List Value) (d:Value):l=(List.range l.length).map fun i=>(⟨l⟩:Array Value).getD i d:=by
 refine List.ext_getElem (by simp) fun i h1 h2=>?_
 simp[h1]
theorem DF {X:fJ} {d:Bool} {ops:List bB} {K:Env->aw->Prop} {env:Env} {σ:aw} (h:eh X (.dm d ops) (fun _=>K) env σ):wpOps X d ops K env σ:=h
theorem uZ (W:World) (T:TypeId) (x y z:Value):∀(j:Nat) (u:Value),[x,y,z][j]? =some u->(W.alloc (.cells #[x,y,z] T)).cell? ((⟨W.heap.size,0,none⟩:Addr).add j)=some u:=fun j u h=>by
 have hb:(W.alloc (.cells #[x,y,z] T)).heap[W.heap.size]? =some (.cells #[x,y,z] T (0,0)):=World.alloc_heap_new _ _
 have e:∀k,(W.alloc (.cells #[x,y,z] T)).cell? ⟨W.heap.size,k,none⟩=(#[x,y,z]:Array Value)[k]? :=fun k=>by
  unfold World.cell?
  rw[show(W.alloc (.cells #[x,y,z] T)).heap[(⟨W.heap.size,k,none⟩:Addr).block]? = _ from hb]
  rfl
 rw[show(⟨W.heap.size,0,none⟩:Addr).add j=⟨W.heap.size,j,none⟩ by simp[Addr.add];exact fun h=>h.symm,e]
 simpa using h
def HB (n b:Nat):Names:=fun id=>if id=⟨1,0⟩then some ⟨n,2,2,none⟩else if id=⟨2,0⟩then some ⟨n+1,1,1,none⟩else if id=⟨3,0⟩then some ⟨n+1+1,1,1,none⟩else if id=⟨4,0⟩then some ⟨b,2,2,none⟩else if id=⟨5,0⟩then some ⟨n+1+1+1,1,1,none⟩else none
def LW (s:ax) (l:List ah) (i k:Nat):Rows:=fun id=>if id=⟨1,0⟩then some ⟨false,2,[ae s]⟩else if id=⟨2,0⟩then some ⟨false,1,[[.sl (l.map aa)]]⟩else if id=⟨4,0⟩then some ⟨false,2,[[.int .i64 (i:Int),.int .i64 (k:Int)]]⟩else none
def MO (s:ax) (l:List ah) (i k:Nat) (d:Int):Env:=cu [.agg (ae s),.agg [.sl (l.map aa)],.ptr ⟨1,0⟩ 0 0,.ptr ⟨2,0⟩ 0 0,.bq,.ptr ⟨3,0⟩ 0 0,.ptr ⟨4,0⟩ 0 0,.int .i64 d,.undef,.agg [.sl (l.map aa)],.fn 264 [.ptr ⟨5,0⟩ 0 0],.agg [.int .i64 (i:Int),.int .i64 (k:Int)],.int .i64 d]
theorem DO {P:Program} {W:World} {D:Nat->Prop} {ι:Names} {B:r8} {cells:Array Value} {T:TypeId} {cs:List AV} (hk:B.k=none) (hb:W.heap[B.b]? =some (.cells cells T (0,0))) (hC:cells.size=B.C) (hz:B.sz=cs.length) (hl:cs.length=cells.size) (hf:∀a∈cs,a.cell=true) (hr:∀(j:Nat) (a:AV),cs[j]? =some a->∃v,cells[j]? =some v/\dj P W D ι a v):ia P W D ι B ⟨false,cs.length,[cs]⟩:=
 kr.obj ⟨hz,⟨cells,T,hb,hC⟩,by simp;omega,fun c hc=>by simp at hc;rw[hc],fun c hc=>by simp at hc;rw[hc];exact hf,fun i j c a hi hj=>by
  match i,hi with
  |0,hi=>
   simp at hi;subst hi
   obtain⟨v,h1,h2⟩:=hr j a hj
   exact⟨v,by simp[World.cell?,hb,h1],h2⟩
  |i+1,hi=>simp at hi⟩ hk
theorem Iz:(Tryz.prog.info? 246).map (fun i=>(i.zero,i.size,i.bytes))=some (some (.agg #[.int .i64 0,.int .i64 0,.int .i64 0]),3,24):=by kernel_rfl
end Go.Proofs.YtgoelphibofcmaaGreat.V

namespace Go.Proofs.YtgoelphibofcmaaGreat.V
open Go.RowKit Go.Shelf
attribute [local go_sem] Oper.semAt_some
attribute [local irreducible] eh wpOps fI Call
attribute [local go_sem] aM fj eJ fF fE da upd cu K.av cI AV.cells AV.cell rowOf rowsOf part ld rowAt bK bV dq dM gy bD cY dY fA eS dk dR cW cV dD dE bG bc cL bF cP cN dO dS dQ cK bL cX dN bE aO cR cz gx bm cH bH aY dp bl dr AV.undef bt bz dF dL dy dC cF dX eb cw dV dU cQ cU List.getD_cons_zero List.getD_cons_succ List.getD_nil List.all_cons List.all_nil Bool.and_true Bool.true_and Bool.and_self Bool.not_true Bool.not_false Option.map_some Option.map_none Option.bind_some Option.bind_none List.length_cons List.length_nil List.take_succ_cons List.take_zero List.take_nil List.drop_succ_cons List.drop_zero List.drop_nil List.head?_cons List.map_cons List.map_nil List.getElem?_cons_zero List.getElem?_cons_succ List.cons_append List.nil_append List.append_nil List.length_map List.set_cons_zero List.set_cons_succ Nat.reduceMul eq_self Int.toNat_natCast Int.natCast_nonneg and_self true_and and_true decide_true decide_false Bool.false_eq_true Nat.zero_add Nat.add_zero List.contains_cons List.contains_nil Bool.or_false Bool.false_or beq_self_eq_true Nat.reduceBEq ne_eq not_true_eq_false not_false_eq_true Id.mk.injEq false_and and_false Nat.reduceLT Int.reduceLE Int.reduceLT Int.reduceToNat Int.reduceNeg Int.reduceAdd Nat.le_refl List.length_append beq_true beq_false Bool.not_eq_eq_eq_not or_false false_or dK aj ar aH bd br bW aT aZ aU bf cJ bw
theorem Hz (s:ax) (l:List ah) (hF:ko s) (hA:lE s l) (w:World) (Ag At:Option Addr) (ng cg nt ct:Nat) (vS:Value) (hT:jw Tryz.prog w (fun b=>b<w.heap.size) (.agg (ae s)) (.agg #[.slice Ag ng cg,.slice At nt ct])) (hP:pG w vS l):
  CallsIn Fence.wide 5 Tryz.prog 222 #[.agg #[.slice Ag ng cg,.slice At nt ct],.agg #[vS]] w fun e W'=>∃v,e=.returned v/\W'.ownsRow w.heap.size 246 3 v (db s l).length (Ki (db s l))/\(v=.slice none 0 0↔db s l=[])/\Below w.heap.size w W':=by
 obtain⟨A,cp,rfl,_,_⟩:=hP.sl
 obtain⟨i0,hi,Cu,Aq,lP⟩:=info_parts Iz
 refine callsIn_of_wp_marks Tryz.func222 rfl trivial ?_ rfl
 simp only[Tryz.ntmps222,List.size_toArray,List.length_cons,List.length_nil,Nat.reduceAdd,Nat.reduceSub,Array.replicate_succ,Array.replicate_zero,List.push_toArray,List.append_toArray,List.nil_append,List.cons_append]
 gi_wp2_with (refine⟨trivial,?_⟩;gi_at_call 244;refine(zJ _ _ _).mono ?_;rintro e w' ⟨rfl,rfl⟩)
 have bT:((w.alloc (.cells #[.slice Ag ng cg,.slice At nt ct] 38)).heap[w.heap.size]?)=some (.cells #[.slice Ag ng cg,.slice At nt ct] 38 (0,0)):=World.alloc_heap_new _ _
 obtain⟨w1,pe⟩:∃w1,w.alloc (.cells #[.slice Ag ng cg,.slice At nt ct] 38)=w1:=⟨_,rfl⟩
 have Dj:w1.heap.size=w.heap.size+1:=by rw[<-pe];simp
 have Ak:Below w.heap.size w w1:=by rw[<-pe];exact(Below.refl _ w).alloc (Nat.le_refl _) _
 rw[pe]at bT ⊢
 clear pe
 have bA:=Boxed.new w1 41 (.slice A l.length cp)
 have bO:=Boxed.new (w1.alloc (.cells #[.slice A l.length cp] 41)) 226 (.slice none 0 0)
 have bN:=Boxed.new ((w1.alloc (.cells #[.slice A l.length cp] 41)).alloc (.cells #[.slice none 0 0] 226)) 41 (.slice A l.length cp)
 replace bA:=(bA.alloc (.cells #[.slice none 0 0] 226)).alloc (.cells #[.slice A l.length cp] 41)
 replace bO:=bO.alloc (.cells #[.slice A l.length cp] 41)
 simp only[World.size_alloc,Dj]at bA bO bN
 have pJ:Below w1.heap.size w1 (((w1.alloc (.cells #[.slice A l.length cp] 41)).alloc (.cells #[.slice none 0 0] 226)).alloc (.cells #[.slice A l.length cp] 41)):=(((Below.refl _ w1).alloc (Nat.le_refl _) _).alloc (by simp) _).alloc (by simp;omega) _
 have fe:(((w1.alloc (.cells #[.slice A l.length cp] 41)).alloc (.cells #[.slice none 0 0] 226)).alloc (.cells #[.slice A l.length cp] 41)).heap.size=w.heap.size+4:=by simp;omega
 obtain⟨W0,hW0⟩:∃W0,((w1.alloc (.cells #[.slice A l.length cp] 41)).alloc (.cells #[.slice none 0 0] 226)).alloc (.cells #[.slice A l.length cp] 41)=W0:=⟨_,rfl⟩
 rw[hW0]at bA bO bN pJ fe ⊢
 clear hW0
 have A9:Below w.heap.size w W0:=Ak.trans (pJ.mono (by omega))
 replace bT:=(pJ.block w.heap.size (by omega)).trans bT
 have hP0:pG W0 (.slice A l.length cp) l:=hP.below A9
 have kl:=QB hP
 have qq:=qa (s:=s) hA.1
 refine wpIn_rangeFunc_ownH (n:=5) rfl (by omega) (gf:=264) (lb:= #[.pointer (some ⟨w.heap.size+1+1+1,0,none⟩)]) rfl trivial (enters_of Tryz.func264 (by kernel_rfl) rfl)
  (IT l hA.1 (w.heap.size+1+1+1) (5-1) (by omega) (.slice A l.length cp) (gZ w.heap.size) kl W0 bN hP0) gZ.trans (gZ.b (by omega)) (Below.refl _ _) (fun _=>rfl)
  (fun pre W=>((∃v,Boxed W (w.heap.size+1+1) 226 v/\W.ownsRow w.heap.size 246 3 v (nF s l pre).length (Ki (nF s l pre))/\(v=.slice none 0 0↔nF s l pre=[]))/\(Boxed W (w.heap.size+1) 41 (.slice A l.length cp)/\W.heap[w.heap.size]? =some (.cells #[.slice Ag ng cg,.slice At nt ct] 38 (0,0))))/\Below w.heap.size w W)
  (fun _ _ _=>False)
  (OwnFrom.and (OwnFrom.and (Own.from (holdsRow_own w.heap.size (w.heap.size+1+1) 226 246 3 (fun pre=>(nF s l pre).length) (fun pre=>Ki (nF s l pre)) (fun pre v=>v=.slice none 0 0↔nF s l pre=[])) _) (OwnFrom.and (Own.from (boxed_own _ _ _) _) (Own.from (Bc _ _ _ _) _))) (ownFrom_below (Nat.le_refl _) (by omega)))
  (fun _ _ _ _ _ hs _ _=>hs)
  ⟨⟨⟨_,bO,World.ownsRow_nil _ _ _ _,by simp[nF]⟩,bA,bT⟩,A9⟩
  (fun x a' W=>∃Bx,w.heap.size+1+1<Bx/\W.heap[Bx]? =some (.cells #[.int .i64 (x.1.1:Int),.int .i64 (x.1.2.1:Int)] 283 (0,0))/\a'={tmps:= #[.agg #[.slice Ag ng cg,.slice At nt ct],.agg #[.slice A l.length cp],.pointer (some ⟨w.heap.size,0,none⟩),.pointer (some ⟨w.heap.size+1,0,none⟩),.slice none 0 0,.pointer (some ⟨w.heap.size+1+1,0,none⟩),.pointer (some ⟨Bx,0,none⟩),.int .i64 x.1.2.2,undef,.agg #[.slice A l.length cp],.func (.func 264) #[] #[.pointer (some ⟨w.heap.size+1+1+1,0,none⟩)],.agg #[.int .i64 (x.1.1:Int),.int .i64 (x.1.2.1:Int)],.int .i64 x.1.2.2,undef,undef,undef,undef,undef,undef,undef,undef,undef,undef,undef,undef,undef,undef,undef,undef,undef,undef,undef,undef,undef,undef,undef,undef,undef,undef,undef,undef,undef],defers:=[]})
  (fun x a' _ X Y row hs hg hr=>by obtain⟨Bx,h1,h2,h3⟩:=hs;exact⟨Bx,h1,Bc Bx _ _ _ () X Y row h2 hg (fun r e=>(hr r e).2),h3⟩)
  ?assign ?body ?done ?stop
 case assign=>
  rintro q pre ⟨⟨x0,x1,x2⟩,hx⟩ W K ⟨⟨⟨v,hv,fY,hnil⟩,bA1,bT1⟩,hB⟩ hK
  simp only[Ev]
  gi_wp2
  exact hK _ _ ((KeepsOthers.alloc _ _).from _) (gZ.of ((Below.refl _ W).alloc (Nat.le_refl _) _)) ⟨⟨⟨v,hv.alloc _,fY.alloc _,hnil⟩,bA1.alloc _,(Below.heap_alloc _ _ _ (Array.getElem?_eq_some_iff.1 bT1).1).trans bT1⟩,hB.alloc hB.size _⟩ ⟨W.heap.size,hv.lt,World.alloc_heap_new _ _,rfl⟩
 case body=>
  rintro q pre ⟨⟨x0,x1,x2⟩,hx⟩ a' W hq hqr ⟨⟨⟨v,hv,fY,hnil⟩,bA1,bT1⟩,hB⟩ ⟨Bx,hBx,bX,rfl⟩ eo
  obtain⟨Cs,Iy,Ap⟩:=hx
  simp only at Cs Iy Ap bX
  obtain⟨A',c',e',_,hc⟩:=(hP.below hB).sl
  cases e'
  have du:∃b o,A=some ⟨b,o,none⟩/\W.cell? ⟨b,o+x0*3+2,none⟩=some (.int .i64 (bj l x0).aP)/\W.cell? ⟨b,o+x1*3+2,none⟩=some (.int .i64 (bj l x1).aP):=by
   rcases hc with rfl|⟨b,o,rfl,jk⟩
   ·simp at Cs
   ·exact⟨b,o,rfl,by rw[Nat.add_assoc];exact(jk x0 Cs).2.2,by rw[Nat.add_assoc];exact(jk x1 Iy).2.2⟩
  obtain⟨b,o,rfl,cP0,cP1⟩:=du
  have cT0:W.cell? ⟨w.heap.size,0,none⟩=some (.slice Ag ng cg):=by simp[World.cell?,bT1]
  have cT1:W.cell? ⟨w.heap.size,1,none⟩=some (.slice At nt ct):=by simp[World.cell?,bT1]
  have cX0:W.cell? ⟨Bx,0,none⟩=some (.int .i64 (x0:Int)):=by simp[World.cell?,bX]
  have cX1:W.cell? ⟨Bx,1,none⟩=some (.int .i64 (x1:Int)):=by simp[World.cell?,bX]
  have cA:=bA1.cell
  have dP0:W.drew.cell? ⟨b,o+x0*3+2,none⟩=some (.int .i64 (bj l x0).aP):=cP0
  have dP1:W.drew.cell? ⟨b,o+x1*3+2,none⟩=some (.int .i64 (bj l x1).aP):=cP1
  have dT0:W.drew.cell? ⟨w.heap.size,0,none⟩=some (.slice Ag ng cg):=cT0
  have dT1:W.drew.cell? ⟨w.heap.size,1,none⟩=some (.slice At nt ct):=cT1
  have dX0:W.drew.cell? ⟨Bx,0,none⟩=some (.int .i64 (x0:Int)):=cX0
  have dX1:W.drew.cell? ⟨Bx,1,none⟩=some (.int .i64 (x1:Int)):=cX1
  have dA:W.drew.cell? ⟨w.heap.size+1,0,none⟩=some (.slice (some ⟨b,o,none⟩) l.length cp):=cA
  have xw:∀i,i<l.length->bj l i∈l:=fun i hi=>by
   unfold bj
   rw[List.getD_eq_getElem?_getD,List.getElem?_eq_getElem hi]
   exact List.getElem_mem hi
  have Th:=mixed
  have hfw:=hA.1.zb
  have OP:=Hy s hF (bj l x0).aP x2 (bj l x1).aP (hA.2 _ (xw x0 Cs)) (hA.2 _ (xw x1 Iy)) (kG (by omega))
  have hTW:jw Tryz.prog W (fun b=>b<w.heap.size) (.agg (ae s)) (.agg #[.slice Ag ng cg,.slice At nt ct]):=hT.frame (fun b hb=>hB.block b hb) (fun _ h=>h)
  have hAW:jw Tryz.prog W (fun b=>b<w.heap.size) (.sl (l.map aa)) (.slice (some ⟨b,o,none⟩) l.length cp):=hP.eU.frame (fun b hb=>hB.block b hb) (fun _ h=>h)
  obtain⟨fT,hT0,hT1⟩:∃f:Nat->Value,(∀j,j<(ae s).length->(#[Value.slice Ag ng cg,.slice At nt ct])[j]? =some (f j))/\∀j a,(ae s)[j]? =some a->jw Tryz.prog W (fun b=>b<w.heap.size) a (f j):=by
   cases hTW with
   |agg _ _ f _ _ h3 h4=>exact⟨f,h3,h4⟩
  have eC:St Tryz.prog W.heap.size 42 (fun b=>b<w.heap.size) (HB w.heap.size Bx) (MO s l x0 x1 x2) ⟨LW s l x0 x1,1⟩ {tmps:= #[.agg #[.slice Ag ng cg,.slice At nt ct],.agg #[.slice (some ⟨b,o,none⟩) l.length cp],.pointer (some ⟨w.heap.size,0,none⟩),.pointer (some ⟨w.heap.size+1,0,none⟩),.slice none 0 0,.pointer (some ⟨w.heap.size+1+1,0,none⟩),.pointer (some ⟨Bx,0,none⟩),.int .i64 x2,undef,.agg #[.slice (some ⟨b,o,none⟩) l.length cp],.func (.func 264) #[] #[.pointer (some ⟨w.heap.size+1+1+1,0,none⟩)],.agg #[.int .i64 (x0:Int),.int .i64 (x1:Int)],.int .i64 x2,undef,undef,undef,undef,undef,undef,undef,undef,undef,undef,undef,undef,undef,undef,undef,undef,undef,undef,undef,undef,undef,undef,undef,undef,undef,undef,undef,undef,undef],defers:=[]} W:=by
   have n1:(HB w.heap.size Bx) ⟨1,0⟩=some ⟨w.heap.size,2,2,none⟩:=rfl
   have n2:(HB w.heap.size Bx) ⟨2,0⟩=some ⟨w.heap.size+1,1,1,none⟩:=rfl
   have n3:(HB w.heap.size Bx) ⟨3,0⟩=some ⟨w.heap.size+1+1,1,1,none⟩:=rfl
   have n4:(HB w.heap.size Bx) ⟨4,0⟩=some ⟨Bx,2,2,none⟩:=rfl
   have n5:(HB w.heap.size Bx) ⟨5,0⟩=some ⟨w.heap.size+1+1+1,1,1,none⟩:=rfl
   have rp:∀(id:Id) (B:r8),(HB w.heap.size Bx) id=some B->B.k=none->dj Tryz.prog W (fun b=>b<w.heap.size) (HB w.heap.size Bx) (.ptr id 0 0) (.pointer (some ⟨B.b,0,none⟩)):=fun id B h hk=>by
    have:=dj.ptr (P:=Tryz.prog) (w:=W) (D:=fun b=>b<w.heap.size) id 0 0 B h hk
    simpa using this
   have ri:∀n:Int,dj Tryz.prog W (fun b=>b<w.heap.size) (HB w.heap.size Bx) (.int .i64 n) (.int .i64 n):=fun n=>.eU _ _ (.int _ _)
   have hA1:jw Tryz.prog W (fun b=>b<w.heap.size) (.agg [.sl (l.map aa)]) (.agg #[.slice (some ⟨b,o,none⟩) l.length cp]):=.agg _ _ (fun _=>.slice (some ⟨b,o,none⟩) l.length cp) rfl (fun a ha=>by simp at ha;rw[ha];rfl) (fun j hj=>by match j,hj with|0,_=>rfl|j+1,hj=>simp at hj) (fun j a ha=>by match j,ha with|0,ha=>simp at ha;subst ha;exact hAW|j+1,ha=>simp at ha)
   refine⟨⟨Nat.le_refl _,fun b hb=>Nat.lt_of_lt_of_le hb hB.size,fun id r hg=>?_,fun id kF r r' B B' h _ hw=>?_⟩,fun id hid=>?_,fun t=>?_,rfl⟩
   ·replace hg:LW s l x0 x1 id=some r:=hg
    unfold LW at hg
    split at hg
    ·rename_i e;subst e;injection hg with hg;subst hg
     exact⟨_,n1,DO (cs:=ae s) rfl bT1 rfl rfl rfl (fun a ha=>by simp[ae]at ha;rcases ha with rfl|rfl<;>rfl) (fun j a ha=>⟨_,hT0 j (List.getElem?_eq_some_iff.1 ha).1,.eU _ _ (hT1 j a ha)⟩),fun h=>(by cases h),fun h=>(by cases h)⟩
    ·split at hg
     ·rename_i e;subst e;injection hg with hg;subst hg
      exact⟨_,n2,DO (cs:=[.sl (l.map aa)]) rfl bA1 rfl rfl rfl (fun a ha=>by simp at ha;rw[ha];rfl) (fun j a ha=>by match j,ha with|0,ha=>simp at ha;subst ha;exact⟨_,rfl,.eU _ _ hAW⟩|j+1,ha=>simp at ha),fun h=>(by cases h),fun h=>(by cases h)⟩
     ·split at hg
      ·rename_i e;subst e;injection hg with hg;subst hg
       exact⟨_,n4,DO (cs:=[.int .i64 (x0:Int),.int .i64 (x1:Int)]) rfl bX rfl rfl rfl (fun a ha=>by simp at ha;rcases ha with rfl|rfl<;>rfl) (fun j a ha=>by match j,ha with|0,ha=>simp at ha;subst ha;exact⟨_,rfl,ri _⟩|1,ha=>simp at ha;subst ha;exact⟨_,rfl,ri _⟩|j+2,ha=>simp at ha),fun h=>(by cases h),fun h=>(by cases h)⟩
      ·cases hg
   ·exfalso
    replace h:LW s l x0 x1 id=some r:=h
    unfold LW at h
    split at h
    ·injection h with h;subst h;cases hw
    ·split at h
     ·injection h with h;subst h;cases hw
     ·split at h
      ·injection h with h;subst h;cases hw
      ·cases h
   ·left
    unfold HB at hid
    repeat' (split at hid)
    all_goals first|(rename_i e;subst e;exact Nat.zero_lt_one)|exact absurd rfl hid
   ·match t with
    |0=>exact .eU _ _ hTW
    |1=>exact .eU _ _ hA1
    |2=>exact rp _ _ n1 rfl
    |3=>exact rp _ _ n2 rfl
    |4=>exact .eU _ _ .bq
    |5=>exact rp _ _ n3 rfl
    |6=>exact rp _ _ n4 rfl
    |7=>exact ri _
    |8=>exact dj.undef
    |9=>exact .eU _ _ hA1
    |10=>exact .fn _ _ _ (fun _=>.pointer (some ⟨w.heap.size+1+1+1,0,none⟩)) (by kernel_rfl) rfl (fun j hj=>by match j,hj with|0,_=>rfl|j+1,hj=>simp at hj) (fun j a ha=>by match j,ha with|0,ha=>simp at ha;subst ha;exact rp _ _ n5 rfl|j+1,ha=>simp at ha)
    |11=>exact .agg _ _ (fun j=>if j=0 then .int .i64 (x0:Int)else .int .i64 (x1:Int)) rfl (fun a ha=>by simp at ha;rcases ha with rfl|rfl<;>rfl) (fun j hj=>by match j,hj with|0,_=>rfl|1,_=>rfl|j+2,hj=>simp at hj;omega) (fun j a ha=>by match j,ha with|0,ha=>simp at ha;subst ha;exact ri _|1,ha=>simp at ha;subst ha;exact ri _|j+2,ha=>simp at ha)
    |12=>exact ri _
    |13=>exact dj.undef
    |14=>exact dj.undef
    |15=>exact dj.undef
    |16=>exact dj.undef
    |17=>exact dj.undef
    |18=>exact dj.undef
    |19=>exact dj.undef
    |20=>exact dj.undef
    |21=>exact dj.undef
    |22=>exact dj.undef
    |23=>exact dj.undef
    |24=>exact dj.undef
    |25=>exact dj.undef
    |26=>exact dj.undef
    |27=>exact dj.undef
    |28=>exact dj.undef
    |29=>exact dj.undef
    |30=>exact dj.undef
    |31=>exact dj.undef
    |32=>exact dj.undef
    |33=>exact dj.undef
    |34=>exact dj.undef
    |35=>exact dj.undef
    |36=>exact dj.undef
    |37=>exact dj.undef
    |38=>exact dj.undef
    |39=>exact dj.undef
    |40=>exact dj.undef
    |41=>exact dj.undef
    |t+42=>exact dj.undef
  have hV:wpOps (Call Tryz.prog) true ?vl (fun e _=>e 5=.ptr ⟨3,0⟩ 0 0/\e 6=.ptr ⟨4,0⟩ 0 0/\e 8=.int .i64 (gN s (bj l x0).aP x2 (bj l x1).aP)) (MO s l x0 x1 x2) ⟨LW s l x0 x1,1⟩:= ?hv
  gi_wp2
  refine zP mixed (rrE (nt:=42) (site0:=222005000)) (IV (by kernel_rfl)) (nq (fun _ _ _ _ h=>ib mixed h) p7 (fun _ _ h=>h) _ _ _ hV) eC ?_
  rintro e1 σ1 ⟨tm,df⟩ w3 D1 ι1 ⟨h5,h6,h8⟩ T1 St1 C7
  case hv=>
   refine DF ?_
   have e0:=fQ Cs
   have e1:=fQ Iy
   (repeat(first|((repeat(revert hN;revert N;apply Pn.out));refine wk (tw @e0 (tw @e1 (tw @MO.eq_1 (tw @LW.eq_1 (tw @aa.eq_1 @ae.eq_1))))) ?_;(repeat(refine Pn.mk ?_;intro N hN)))|((try apply Or.inl);refine⟨_,au.x (OP) (sd (tw @e0 (tw @e1 (tw @MO.eq_1 (tw @LW.eq_1 (tw @aa.eq_1 @ae.eq_1)))))),?_⟩;refine hN _ _ ?_;clear hN N)))
   exact⟨sd @MO.eq_1,sd @MO.eq_1,sd @MO.eq_1⟩
  ·have Bb:Below W.heap.size W w3:=T1.below
   have xb:∀id B,HB w.heap.size Bx id=some B->ι1 id=some B:=T1.names
   have p5:tm.getD 5 undef=.pointer (some ⟨w.heap.size+1+1,0,none⟩):=by
    have g:=St1.env 5
    rw[h5]at g
    obtain⟨B,e,hB,_⟩:=jr g
    have h:=xb ⟨3,0⟩ ⟨w.heap.size+1+1,1,1,none⟩ rfl
    rw[h]at hB;injection hB with hB;subst hB
    simpa using e
   have p6:tm.getD 6 undef=.pointer (some ⟨Bx,0,none⟩):=by
    have g:=St1.env 6
    rw[h6]at g
    obtain⟨B,e,hB,_⟩:=jr g
    have h:=xb ⟨4,0⟩ ⟨Bx,2,2,none⟩ rfl
    rw[h]at hB;injection hB with hB;subst hB
    simpa using e
   have p8:tm.getD 8 undef=.int .i64 (gN s (bj l x0).aP x2 (bj l x1).aP):=by
    have g:=St1.env 8
    rw[h8]at g
    exact dz g
   have fe:=St1.size
   obtain⟨tl⟩:=tm
   obtain⟨f,Mm,hf⟩:∃f:Nat->Value,tl=[f 0,f 1,f 2,f 3,f 4,f 5,f 6,f 7,f 8,f 9,f 10,f 11,f 12,f 13,f 14,f 15,f 16,f 17,f 18,f 19,f 20,f 21,f 22,f 23,f 24,f 25,f 26,f 27,f 28,f 29,f 30,f 31,f 32,f 33,f 34,f 35,f 36,f 37,f 38,f 39,f 40,f 41]/\∀i,f i=(⟨tl⟩:Array Value).getD i undef:=by
    refine⟨fun i=>(⟨tl⟩:Array Value).getD i undef,?_,fun _=>rfl⟩
    have h:=IH tl undef
    rw[show tl.length=42 from fe]at h
    exact h
   rw[<-hf]at p5 p6 p8
   have S3:df=[]:=C7
   subst S3
   clear hf St1 eC hV
   subst Mm
   rw[p5,p6,p8]
   have RN:=hv.kept (grown_of Bb) (by simp)
   have EN:=fY.kept (grown_of Bb) (by rcases fY.2 with⟨e,_⟩|⟨_,_,_,e,_⟩<;>rw[e]<;>simp[Value.ownBlock])
   have hc3:=RN.cell
   have hn3:w.heap.size<=w3.heap.size:=Nat.le_trans hB.size Bb.size
   have eX0:w3.cell? ⟨Bx,0,none⟩=some (.int .i64 (x0:Int)):=(Bb.cell (p:=⟨Bx,0,none⟩) (Array.getElem?_eq_some_iff.1 bX).1).trans cX0
   have eX1:w3.cell? ⟨Bx,1,none⟩=some (.int .i64 (x1:Int)):=(Bb.cell (p:=⟨Bx,1,none⟩) (Array.getElem?_eq_some_iff.1 bX).1).trans cX1
   have mo:(nF s l pre).length<=2097152:=by
    have h1:=Hv s l pre
    have h2:=BQ l l.length
    omega
   have hKF:KeepsFrom (w.heap.size+4) W w3:=⟨Bb.size,fun k o _ hk _=>(Bb.block k (Array.getElem?_eq_some_iff.1 hk).1).trans hk⟩
   have hKT:gZ w.heap.size W w3:=gZ.of Bb
   have Se:w3.heap[w.heap.size+1]? = _:=(Bb.block _ bA1.lt).trans bA1
   have Sf:=(Bb.block _ (Array.getElem?_eq_some_iff.1 bT1).1).trans bT1
   by_cases jA:0<gN s (bj l x0).aP x2 (bj l x1).aP
   ·have w5:nF s l (pre++[⟨(x0,x1,x2),Cs,Iy,Ap⟩])=nF s l pre++[⟨x0,x1,gN s (bj l x0).aP x2 (bj l x1).aP⟩]:=by
     rw[xQ];simp only[yY,if_pos jA]
    gi_wp2_with (gi_at_builtin;refine wpListIn_append_own _ rfl _ _ 226 rfl w.heap.size 246 i0 (.agg #[.int .i64 0,.int .i64 0,.int .i64 0]) 3 24 (by kernel_rfl) hi Cu Aq lP rfl (by decide) _ _ _ rfl (EN.alloc _) ⟨w3.heap.size,0,none⟩ 1 1 [.int .i64 (x0:Int),.int .i64 (x1:Int),.int .i64 (gN s (bj l x0).aP x2 (bj l x1).aP)] rfl rfl (uZ _ _ _ _ _) (by simp[Value.oneCell']) (by unfold maxLen;omega) (by omega) (by simp;omega) ?_;intro v' w4 Mf EI _;obtain⟨g',cap',rfl⟩:=ownsRow_succ Mf;obtain⟨tz,FX,Iq,vJ,G2⟩:=RN.appended (by decide) EN hn3 (by omega) Mf EI;have KK:=gZ.app RN EN EI G2;have mK:=tz.cell;have hf1:=tz.frozen)
    exact⟨hKF.trans (vJ.from _),hKT.trans KK,⟨⟨_,FX,by rw[w5,Hu,List.length_append];exact Iq,by rw[w5];simp⟩,(KK.2.1 _ _ _ _ Se (by decide) (by decide)).trans Se,(KK.2.1 _ _ _ _ Sf (by decide) (by decide)).trans Sf⟩,hB.trans ((Bb.mono hB.size).trans G2)⟩
   ·have w5:nF s l (pre++[⟨(x0,x1,x2),Cs,Iy,Ap⟩])=nF s l pre:=by
     rw[xQ];simp only[yY,if_neg jA,List.append_nil]
    gi_wp2
    exact⟨hKF,hKT,⟨⟨v,RN,by rw[w5];exact EN,by rw[w5];exact hnil⟩,Se,Sf⟩,hB.trans (Bb.mono hB.size)⟩
 case done=>
  rintro D ys W hD ES ⟨⟨⟨v,hv,fY,hnil⟩,_⟩,hB⟩ hK
  have hc:=hv.cell
  have JT:nF s l ys=db s l:=by rw[HA,<-ES];rfl
  rw[JT]at fY hnil
  gi_wp2
  refine⟨by simp,.inl ⟨_,_,rfl,run_takeDeferred hK,?_⟩⟩
  exact⟨_,results_tmp rfl _ _ _,v,rfl,ownsRow_putObj fY _ hK rfl,hnil,hB.trans (belowK_b (w:=w) (Nat.le_refl _) W D _ _ (by omega) hK rfl rfl)⟩
 case stop=>
  rintro D c pre W _ _ h _
  exact h.elim
end Go.Proofs.YtgoelphibofcmaaGreat.V

namespace Go.Proofs.YtgoelphibofcmaaGreat.V
open Go.RowKit Go.Shelf
theorem En:∀{bs:List PB} {i j:Nat} {b:PB},bs[i]? =some b->j<3->(Ki bs)[i*3+j]? =([.int .i64 b.a,.int .i64 b.b,.int .i64 b.s]:List Value)[j]?
 |c::bs,0,j,b,h,hj=>by
  simp at h;subst h
  simp only[Ki,List.flatMap_cons,Nat.zero_mul,Nat.zero_add]
  rw[List.getElem?_append_left (by simpa using hj)]
 |c::bs,i+1,j,b,h,hj=>by
  simp only[List.getElem?_cons_succ]at h
  have:=En (bs:=bs) (i:=i) (j:=j) h hj
  simp only[Ki,List.flatMap_cons]at this ⊢
  rw[List.getElem?_append_right (by simp;omega),<-this]
  congr 1
  simp;omega
theorem rE {P:Program} {w:World} {D:Nat->Prop} {rows:List (List AV)} {v:Value} (h:jw P w D (.sl rows) v):∃A n c,v=.slice A n c:=by
 cases h with
 |As a c _=>exact⟨_,_,_,rfl⟩
 |sl=>exact⟨_,_,_,rfl⟩
theorem qH {P:Program} {w:World} {D:Nat->Prop} {ι:Names} {rows:List (List AV)} {v:Value} (h:dj P w D ι (.sl rows) v):jw P w D (.sl rows) v:=by
 cases h with
 |eU _ _ h=>exact h
theorem Lr {P:Program} {w:World} {D:Nat->Prop} {l:List ah} {v:Value} (h:jw P w D (.sl (l.map aa)) v):pG w v l:=by
 generalize hr:l.map aa=rows at h
 cases h with
 |As a c hc=>
  have:l=[]:=by simpa using hr
  subst this
  exact⟨a,c,rfl,⟨Nat.zero_le _,hc⟩,.inl rfl⟩
 |sl _ b o n c sz vs h1 h2 h3 h4 h5 HX h6 h7=>
  have hn:n=l.length:=by rw[<-h1,<-hr];simp
  subst hn
  refine⟨some ⟨b,o,none⟩,c,rfl,⟨h2,h3⟩,?_⟩
  by_cases hl:l=[]
  ·exact .inl hl
  refine .inr ⟨b,o,rfl,fun i hi=>?_⟩
  have hg:rows[i]? =some (aa (bj l i)):=by rw[<-hr];exact fQ hi
  have fe:sz=3:=by rw[<-h5 _ (List.mem_of_getElem? hg)];rfl
  subst fe
  have k:∀(j:Nat) (x:Int),(aa (bj l i))[j]? =some (.int .i64 x)->j<3->w.cell? ⟨b,o+(i*3+j),none⟩=some (.int .i64 x):=fun j x hj h3=>by
   have:=h7 i j _ _ hg hj
   rw[h6 i j hi h3,dz (.eU (ι:=fun _=>none) _ _ this)]
  exact⟨k 0 _ rfl (by omega),k 1 _ rfl (by omega),k 2 _ rfl (by omega)⟩
theorem MN:Cw:=by
 intro s l hS hA n
 refine gD ?_
 intro hs D ι w vs S U A
 obtain⟨u0,RM,r0⟩:=A.2 0 _ rfl
 obtain⟨u1,Qp,r1⟩:=A.2 1 _ rfl
 have eo:∀b,D b->b<w.heap.size:=S.dead
 obtain⟨v0,f0,rfl,Cu,_,Rs,Tz⟩:=iP r0
 obtain⟨v1,f1,rfl,Aq,_,hf1,Ql⟩:=iP r1
 have g0:=qH (Tz 0 _ rfl)
 have g1:=qH (Tz 1 _ rfl)
 have a0:=qH (Ql 0 _ rfl)
 obtain⟨Ag,ng,cg,eg⟩:=rE g0
 obtain⟨At,nt,ct,et⟩:=rE g1
 have e0:v0= #[.slice Ag ng cg,.slice At nt ct]:=by
  obtain⟨vl⟩:=v0
  have q0:=Rs 0 (by simp[ae])
  have q1:=Rs 1 (by simp[ae])
  rw[eg]at q0;rw[et]at q1
  match vl,Cu with
  |[a,b],_=>simp at q0 q1;rw[q0,q1]
 have e1:v1= #[f1 0]:=by
  obtain⟨vl⟩:=v1
  have q0:=hf1 0 (by simp)
  match vl,Aq with
  |[a],_=>simp at q0;rw[q0]
 subst e0 e1
 have evs:vs= #[.agg #[.slice Ag ng cg,.slice At nt ct],.agg #[f1 0]]:=by
  obtain⟨vl⟩:=vs
  have hz:=A.1
  match vl,hz with
  |[a,b],_=>simp at RM Qp;rw[RM,Qp]
 subst evs
 have up:∀{a v},jw Tryz.prog w D a v->jw Tryz.prog w (fun b=>b<w.heap.size) a v:=fun h=>h.frame (fun _ _=>rfl) eo
 have hT:jw Tryz.prog w (fun b=>b<w.heap.size) (.agg (ae s)) (.agg #[.slice Ag ng cg,.slice At nt ct]):=
  .agg _ _ f0 Cu (fun a ha=>by simp[ae]at ha;rcases ha with rfl|rfl<;>rfl) Rs (fun j a ha=>by
   match j,ha with
   |0,ha=>simp[ae]at ha;subst ha;exact up g0
   |1,ha=>simp[ae]at ha;subst ha;exact up g1
   |j+2,ha=>simp[ae]at ha)
 refine(callsIn_wide.1 (Hz s l hS.form hA w Ag At ng cg nt ct (f1 0) hT (Lr a0))).mono ?_
 rintro e W' ⟨v,rfl,⟨hl,hown⟩,hnil,hB⟩
 have S':gi Tryz.prog hs D ι (fun _=>none) W':=S.stay (fun b hb=>hB.block b hb) hB.size (fun _ h=>h) (fun b hb=>Nat.lt_of_lt_of_le (eo b hb) hB.size) (fun _ h=>.inl h) (fun _ _ h=>h)
 have T:Step hs D ι w D ι W':=Step.stay S (fun b hb=>hB.block b hb) hB.size hB.os hB.tape hB.output (fun _ h=>h) (fun _ h=>.inl h) (fun _ _ h=>h)
 rcases hown with⟨rfl,h0⟩|⟨gb,cap,cur,rfl,P4,hblk,hle,KC,du,nK⟩
 ·have FN:db s l=[]:=hnil.1 rfl
  exact⟨.bq,_,n,D,ι,_,rfl,⟨.bq,jj _ _,by rw[FN];rfl⟩,T,S',U,Nat.le_refl _,.eU _ _ .bq⟩
 ·have FN:db s l≠[]:=fun h=>by have:=hnil.2 h;cases this
  have ik:ι ⟨0,n⟩=none:=fresh U (fun h=>h)
  have gC:∀{a v},dj Tryz.prog W' D ι a v->dj Tryz.prog W' D (kc ι ⟨0,n⟩ ⟨gb,3,cap*3,none⟩) a v:=fun h=>h.frame (fun _ _=>rfl) (fun _ h=>h) (fx ik)
  have hR:ia Tryz.prog W' D (kc ι ⟨0,n⟩ ⟨gb,3,cap*3,none⟩) ⟨gb,3,cap*3,none⟩ ⟨true,3,(db s l).map aB⟩:=by
   refine kr.obj ⟨rfl,⟨cur,_,hblk,du⟩,?_,fun cs hc=>?_,fun cs hc a ha=>?_,fun i j cs a hi hj=>?_⟩ rfl
   ·simp only[List.length_map];exact Nat.mul_le_mul_right 3 hle
   ·obtain⟨b,_,rfl⟩:=List.mem_map.1 hc;rfl
   ·obtain⟨b,_,rfl⟩:=List.mem_map.1 hc
    simp[aB]at ha
    rcases ha with rfl|rfl|rfl<;>rfl
   ·rw[List.getElem?_map]at hi
    simp only[Option.map_eq_some_iff]at hi
    obtain⟨b,hb,rfl⟩:=hi
    have hj3:j<3:=by have:=(List.getElem?_eq_some_iff.1 hj).1;simpa[aB]using this
    have nI:=(List.getElem?_eq_some_iff.1 hb).1
    have hg:=En hb hj3
    rw[<-nK,List.getElem?_take,if_pos (by omega)]at hg
    have key:∀x:Value,([.int .i64 b.a,.int .i64 b.b,.int .i64 b.s]:List Value)[j]? =some x->W'.cell? ⟨gb,i*3+j,none⟩=some x:=fun x hx=>by
     rw[hx]at hg
     have e:W'.cell? ⟨gb,i*3+j,none⟩=cur[i*3+j]? :=by
      unfold World.cell?
      rw[show W'.heap[(⟨gb,i*3+j,none⟩:Addr).block]? = _ from hblk]
      rfl
     rw[e,<-Array.getElem?_toList];exact hg
    match j,hj with
    |0,hj=>simp[aB]at hj;subst hj;exact⟨_,key _ rfl,.eU _ _ (.int _ _)⟩
    |1,hj=>simp[aB]at hj;subst hj;exact⟨_,key _ rfl,.eU _ _ (.int _ _)⟩
    |2,hj=>simp[aB]at hj;subst hj;exact⟨_,key _ rfl,.eU _ _ (.int _ _)⟩
    |j+3,hj=>simp[aB]at hj
  have S2:=gi.add (r:=⟨true,3,(db s l).map aB⟩) S S' ik P4 hR
  refine⟨.own ⟨0,n⟩ 0 (db s l).length,bK (fun _=>none) ⟨0,n⟩ ⟨true,3,(db s l).map aB⟩,n+1,D,kc ι ⟨0,n⟩ ⟨gb,3,cap*3,none⟩,_,rfl,⟨zV (db s l),?_,rfl⟩,T.trans (Step.stay S' (fun _ _=>rfl) (Nat.le_refl _) rfl rfl rfl (fun _ h=>h) (fun _ h=>.inl h) (fx ik)),S2,U.upd.next,Nat.le_succ _,.own _ _ _ _ _ _ (ez _ _ _) rfl hle (.inr (by simp)) (by simp) KC⟩
  unfold zV
  rw[if_neg FN]
  have hg:(bK (fun _=>none) (⟨0,n⟩:Id) ⟨true,3,(db s l).map aB⟩:Rows) ⟨0,n⟩=some ⟨true,3,(db s l).map aB⟩:=by simp[bK]
  have:=fG (n:=5) hg rfl fun b=>uo _ 4 b
  simpa using this
end Go.Proofs.YtgoelphibofcmaaGreat.V

namespace Go.Proofs.YtgoelphibofcmaaGreat.V
open Go.RowKit
attribute [local irreducible] eh wpOps fI Call
attribute [local go_sem] aM fj eJ fF fE da upd cu K.av cI AV.cells AV.cell rowOf rowsOf part ld rowAt bK bV dq dM gy bD cY dY fA eS dk dR cW cV dD dE bG bc cL bF cP cN dO dS dQ cK bL cX dN bE aO cR cz gx bm cH bH aY dp bl dr AV.undef bt bz dF dL dy dC cF dX eb cw dV dU cQ cU List.getD_cons_zero List.getD_cons_succ List.getD_nil List.all_cons List.all_nil Bool.and_true Bool.true_and Bool.and_self Bool.not_true Bool.not_false Option.map_some Option.map_none Option.bind_some Option.bind_none List.length_cons List.length_nil List.take_succ_cons List.take_zero List.take_nil List.drop_succ_cons List.drop_zero List.drop_nil List.head?_cons List.map_cons List.map_nil List.getElem?_cons_zero List.getElem?_cons_succ List.cons_append List.nil_append List.append_nil List.length_map List.set_cons_zero List.set_cons_succ Nat.reduceMul eq_self Int.toNat_natCast Int.natCast_nonneg and_self true_and and_true decide_true decide_false Bool.false_eq_true Nat.zero_add Nat.add_zero List.contains_cons List.contains_nil Bool.or_false Bool.false_or beq_self_eq_true Nat.reduceBEq ne_eq not_true_eq_false not_false_eq_true Id.mk.injEq false_and and_false Nat.reduceLT Int.reduceLE Int.reduceLT Int.reduceToNat Int.reduceNeg Int.reduceAdd Nat.le_refl List.length_append beq_true beq_false Bool.not_eq_eq_eq_not or_false false_or dK aj ar aH bd br bW aT aZ aU bf cJ bw
theorem Ll (lb:List ah) (hb:jB lb) (t:ah):au Tryz.prog 168 [.agg (aa t),.di [.sl (lb.map aa)]] (.bool (!decide (gm lb t.aW=t.aP))):=by
 refine au.body eG rfl fun hl n0=>?_
 clear hl
 have h:=Sd lb t.aW hb.Jf (by have:=hb.zb;omega)
 (repeat(first|((repeat(revert hN;revert N;apply Pn.out));refine wk (tw @aa.eq_1 @ai.eq_1) ?_;(repeat(refine Pn.mk ?_;intro N hN)))|((try apply Or.inl);refine⟨_,au.x (h) (sd (tw @aa.eq_1 @ai.eq_1)),?_⟩;refine hN _ _ ?_;clear hN N)))
 exact aX (b:= !decide (gm lb t.aW=t.aP)) (.inl rfl) (sd @Nat.zero_add) (by simp)
theorem CB (la lb:List ah) (ha:jB la) (hb:jB lb):au Tryz.prog 107 [.agg [.sl (la.map aa)],.agg [.sl (lb.map aa)]] (.bool (kn la lb)):=by
 refine au.body eG rfl fun hl n0=>?_
 clear hl
 have h1:=sH la
 have h2:=sH lb
 rw[sF.2 ha]at h1
 rw[sF.2 hb]at h2
 have h3:au Tryz.prog 166 [.sl (la.map aa),.fn 168 [.di [.sl (lb.map aa)]]] (.bool (la.any fun t=> !decide (gm lb t.aW=t.aP))):=
  ku vd (show lZ Tryz.prog 166=some (zo 166 202) by kernel_rfl)
   (show lZ Tryz.prog 202=some (sL 202 3 true) by kernel_rfl) la (by have:=ha.zb;omega) _ _ _ rfl (fun g=>by rw[aj,aU,ar];rfl) (fun x _=>Ll lb hb x) fun g=>by rw[aj,aU,ar];rfl
 (repeat(first|((repeat(revert hN;revert N;apply Pn.out));refine wk @Nat.zero_add ?_;(repeat(refine Pn.mk ?_;intro N hN)))|((try apply Or.inl);refine⟨_,au.x (h1) (sd @Nat.zero_add),?_⟩;refine hN _ _ ?_;clear hN N)|((try apply Or.inl);refine⟨_,au.x (h2) (sd @Nat.zero_add),?_⟩;refine hN _ _ ?_;clear hN N)|((try apply Or.inl);refine⟨_,au.x (h3) (sd @Nat.zero_add),?_⟩;refine hN _ _ ?_;clear hN N)))
 exact aX (b:= !(la.any fun t=> !decide (gm lb t.aW=t.aP))) (.inl rfl) (sd @Nat.zero_add) (by rw[Ej];rfl)
theorem zj (s:aI) (l:List ah) (hn:fm s.aD) (hm:nu s) (hl:l.length<=1048576):au Tryz.prog 63 [.agg (az s),.agg [.sl (l.map aa)]] (.int .i64 (if qR s l then 0 else 1)):=by
 refine au.body eG rfl fun lf n0=>?_
 clear lf
 have h1:=xh MN s hn hm.s.g hm.s.t hm.s.s hm.a
 have h2:=nv s.aD l hn hm.s.g hm.s.t hm.s.s hl
 cases b1:nj s
 ·rw[b1]at h1
  rw[az]at h1 ⊢
  (repeat(first|((repeat(revert hN;revert N;apply Pn.out));refine wk @Nat.zero_add ?_;(repeat(refine Pn.mk ?_;intro N hN)))|((try apply Or.inl);refine⟨_,au.x (h1) (sd @Nat.zero_add),?_⟩;refine hN _ _ ?_;clear hN N)))
  exact cm (b:=1) (.inl rfl) (sd @Nat.zero_add) (by simp[qR,b1])
 have eP:qI s.aD=true:=mc.2 (wN.1 b1).set
 rw[b1]at h1
 rw[eP,Bool.true_and]at h2
 rw[az]at h1 ⊢
 rw[ae]at h2
 cases b2:pH s.aD l
 ·rw[b2]at h2
  (repeat(first|((repeat(revert hN;revert N;apply Pn.out));refine wk @Nat.zero_add ?_;(repeat(refine Pn.mk ?_;intro N hN)))|((try apply Or.inl);refine⟨_,au.x (h1) (sd @Nat.zero_add),?_⟩;refine hN _ _ ?_;clear hN N)|((try apply Or.inl);refine⟨_,au.x (h2) (sd @Nat.zero_add),?_⟩;refine hN _ _ ?_;clear hN N)))
  exact cm (b:=1) (.inl rfl) (sd @Nat.zero_add) (by simp[qR,b1,b2])
 ·rw[b2]at h2
  (repeat(first|((repeat(revert hN;revert N;apply Pn.out));refine wk @Nat.zero_add ?_;(repeat(refine Pn.mk ?_;intro N hN)))|((try apply Or.inl);refine⟨_,au.x (h1) (sd @Nat.zero_add),?_⟩;refine hN _ _ ?_;clear hN N)|((try apply Or.inl);refine⟨_,au.x (h2) (sd @Nat.zero_add),?_⟩;refine hN _ _ ?_;clear hN N)))
  exact cm (b:=0) (.inl rfl) (sd @Nat.zero_add) (by simp[qR,b1,b2])
theorem mO (s:aI) (l:List ah) (hn:fm s.aD) (hm:nu s) (hl:l.length<=1048576):au Tryz.prog 69 [.agg (az s),.agg [.sl (l.map aa)]] (.int .i64 (gu s l)):=by
 refine au.body eG rfl fun lf n0=>?_
 clear lf
 have h1:=zj s l hn hm hl
 cases b:qR s l
 ·rw[b]at h1
  rw[az]at h1 ⊢
  (repeat(first|((repeat(revert hN;revert N;apply Pn.out));refine wk @Nat.zero_add ?_;(repeat(refine Pn.mk ?_;intro N hN)))|((try apply Or.inl);refine⟨_,au.x (h1) (sd @Nat.zero_add),?_⟩;refine hN _ _ ?_;clear hN N)))
  exact cm (b:=1) (.inl rfl) (sd @Nat.zero_add) (by simp[gu,b])
 obtain⟨hP,hA⟩:=qS.1 b
 have h2:=CB s.bx.aq l hP.GB.1 hA.1
 rw[b]at h1
 rw[az]at h1 ⊢
 cases b2:kn s.bx.aq l
 ·rw[b2]at h2
  (repeat(first|((repeat(revert hN;revert N;apply Pn.out));refine wk @Nat.zero_add ?_;(repeat(refine Pn.mk ?_;intro N hN)))|((try apply Or.inl);refine⟨_,au.x (h1) (sd @Nat.zero_add),?_⟩;refine hN _ _ ?_;clear hN N)|((try apply Or.inl);refine⟨_,au.x (h2) (sd @Nat.zero_add),?_⟩;refine hN _ _ ?_;clear hN N)))
  exact cm (b:=2) (.inl rfl) (sd @Nat.zero_add) (by simp[gu,b,b2])
 ·rw[b2]at h2
  (repeat(first|((repeat(revert hN;revert N;apply Pn.out));refine wk @Nat.zero_add ?_;(repeat(refine Pn.mk ?_;intro N hN)))|((try apply Or.inl);refine⟨_,au.x (h1) (sd @Nat.zero_add),?_⟩;refine hN _ _ ?_;clear hN N)|((try apply Or.inl);refine⟨_,au.x (h2) (sd @Nat.zero_add),?_⟩;refine hN _ _ ?_;clear hN N)))
  exact cm (b:=0) (.inl rfl) (sd @Nat.zero_add) (by simp[gu,b,b2])
theorem Ck {s:aI} (hP:uO s) {l:List ah} (hW:kn s.bx.aq l=true):l≠[]:=by
 intro e
 subst e
 have h1:=hP.some
 unfold kn at hW
 rw[List.all_eq_true]at hW
 have h2:=hW _ (jq (l:=s.bx.aq) (i:=0) (by omega))
 have h3:=(ej (hP.GB.2 _ (jq (l:=s.bx.aq) (i:=0) (by omega)))).1
 simp[gm,eE]at h2
 omega
end Go.Proofs.YtgoelphibofcmaaGreat.V

namespace Go.Proofs.YtgoelphibofcmaaGreat.V
open Go.RowKit
attribute [local irreducible] eh wpOps fI Call
attribute [local go_sem] aM fj eJ fF fE da upd cu K.av cI AV.cells AV.cell rowOf rowsOf part ld rowAt bK bV dq dM gy bD cY dY fA eS dk dR cW cV dD dE bG bc cL bF cP cN dO dS dQ cK bL cX dN bE aO cR cz gx bm cH bH aY dp bl dr AV.undef bt bz dF dL dy dC cF dX eb cw dV dU cQ cU List.getD_cons_zero List.getD_cons_succ List.getD_nil List.all_cons List.all_nil Bool.and_true Bool.true_and Bool.and_self Bool.not_true Bool.not_false Option.map_some Option.map_none Option.bind_some Option.bind_none List.length_cons List.length_nil List.take_succ_cons List.take_zero List.take_nil List.drop_succ_cons List.drop_zero List.drop_nil List.head?_cons List.map_cons List.map_nil List.getElem?_cons_zero List.getElem?_cons_succ List.cons_append List.nil_append List.append_nil List.length_map List.set_cons_zero List.set_cons_succ Nat.reduceMul eq_self Int.toNat_natCast Int.natCast_nonneg and_self true_and and_true decide_true decide_false Bool.false_eq_true Nat.zero_add Nat.add_zero List.contains_cons List.contains_nil Bool.or_false Bool.false_or beq_self_eq_true Nat.reduceBEq ne_eq not_true_eq_false not_false_eq_true Id.mk.injEq false_and and_false Nat.reduceLT Int.reduceLE Int.reduceLT Int.reduceToNat Int.reduceNeg Int.reduceAdd Nat.le_refl List.length_append beq_true beq_false Bool.not_eq_eq_eq_not or_false false_or dK aj ar aH bd br bW aT aZ aU bf cJ bw
theorem I7 {q:ah}:∀{l:List ah},oh l->eE l q.aW<0->fV l q=l.take (iJ l q.aW)++q::l.drop (iJ l q.aW):=by
 intro l
 rw[rQ,pf]
 induction l with
 |nil=>intro _ _;simp[fV,iJ]
 |cons y r ih=>
  intro h hn
  obtain⟨h1,h2⟩:=List.pairwise_cons.1 h
  have gM:y.aW≠q.aW:=hn y (by simp)
  rw[fV]
  unfold iJ
  rw[List.findIdx_cons]
  cases hl:j6 q.aW y.aW
  ·have h3:=E3 hl fun e=>gM e.symm
   have h4:=ih h2 fun t ht=>hn t (by simp[ht])
   unfold iJ at h4
   simp[h3,h4]
  ·have h3:=IK hl
   simp[h3]
theorem K9 (l:List ah) (p:aE):iJ l p<=l.length:=List.findIdx_le_length
theorem qf (ps:List ah) (h0:ps≠[]) (hlen:ps.length<=1048576) (σ:aw):
  Call Tryz.prog 145 [.sl (ps.map aa)] σ fun a σ'=>∃o:Id,a=.own o 0 ps.length/\σ'.get o=some ⟨true,3,ps.map aa⟩/\σ.next<=o.cq/\o.cq<σ'.next/\∀x:Id,x.cq<σ.next->σ'.get x=σ.get x:=by
 obtain⟨z,r,rfl⟩:=List.exists_cons_of_ne_nil h0
 have hc:(z::r).map aa=aa z::r.map aa:=rfl
 have hz:(z::r).length=r.length+1:=rfl
 rw[hc,hz]
 rw[hz]at hlen
 refine fc eG rfl fun hl=>?_
 clear hl
 have h2:r.length+1<=16777216:=by omega
 have h3:r.length<=16777215:=by omega
 have hm:(r.map aa).length=r.length:=by simp
 have ha:(r.map aa).all (fun c=>c.length==3&&c.all AV.cell)=true:=all_map fun x=>by simp[aa,AV.cell]
 (try((repeat(revert hN;revert N;apply Pn.out));refine wk (tw @h2 (tw @h3 (tw @hm (tw @ha @aa.eq_1)))) ?_;(repeat(refine Pn.mk ?_;intro N hN))))
 exact eV (vs:=[.own ⟨145003002,σ.next+2⟩ 0 (r.length+1)]) (.inl rfl) (sd @Nat.zero_add) ⟨_,rfl,sl @Nat.zero_add,by(try dsimp only);omega,by(try dsimp only);omega,fun x hx=>by
  have:=dP hx
  simp only[go_sem, ↓reduceIte,Nat.reduceEqDiff,Nat.reduceAdd,Nat.reduceSub,Nat.reduceLeDiff,reduceCtorEq,this]⟩
theorem Om (l:List ah) (h0:l≠[]) (hl:l.length<=500) (hR:oh l) (p:aE) (t:Int) (hi:eE l p<0) (σ:aw):
  Call Tryz.prog 85 [.agg [.sl (l.map aa)],.agg (ai p),.int .i64 t] σ fun r σ'=>∃o:Id,r=.agg [.own o 0 (fV l ⟨p,t⟩).length]/\σ'.get o=some ⟨true,3,(fV l ⟨p,t⟩).map aa⟩/\σ.next<=o.cq/\o.cq<σ'.next/\∀x:Id,x.cq<σ.next->σ'.get x=σ.get x:=by
 refine p4 Pv rfl fun lf=>?_
 try simp only[q]
 clear lf
 have hb:=so l p hR (by omega)
 have vL:=K9 l p
 have mo:=I7 (q:=⟨p,t⟩) hR hi
 have jA:0<l.length:=List.length_pos_iff.2 h0
 have Qj:(fV l ⟨p,t⟩).length=l.length+1:=kM _ _
 have Cr:(l.map aa).take (iJ l p)++[.int .i64 p.eZ,.int .i64 p.eT,.int .i64 t]::(l.map aa).drop (iJ l p)=(fV l ⟨p,t⟩).map aa:=by
  rw[mo,List.map_append,List.map_cons,List.map_take,List.map_drop];rfl
 rw[Qj]
 have FN:(0:Int)<=(iJ l p:Int):=by omega
 generalize (fV l ⟨p,t⟩).map aa=M at Cr ⊢
 rw[ai]at hb
 (repeat(first|((repeat(revert hN;revert N;apply Pn.out));refine wk @ai.eq_1 ?_;(repeat(refine Pn.mk ?_;intro N hN)))|((try apply Or.inl);refine⟨_,au.x (hb) (sd @ai.eq_1),?_⟩;refine hN _ _ ?_;clear hN N)))
 refine dI ?_ ?_
 ·(try((repeat(revert hN;revert N;apply Pn.out));refine wk (tw @ai.eq_1 @FN) ?_;(repeat(refine Pn.mk ?_;intro N hN))))
  refine .inr (aJ _ _ _ _ _ (fun r σ1 hq=>?_) (qf l h0 (by omega) _))
  obtain⟨g1,x1⟩:=σ1
  obtain⟨o,rfl,q1,q2,q3,q4⟩:=hq
  (try dsimp only at q1 q2 q3 q4)
  have k3:=q4 ⟨85000000,σ.next⟩ (by(try dsimp only);omega)
  have k4:=q4 ⟨85000001,σ.next⟩ (by(try dsimp only);omega)
  have k6:=q4 ⟨85000002,σ.next⟩ (by(try dsimp only);omega)
  simp only[go_sem, ↓reduceIte,Nat.reduceEqDiff,Nat.reduceAdd,Nat.reduceSub,Nat.reduceLeDiff,reduceCtorEq,ai]at k3 k4 k6
  have vo:=dP q3
  refine hN _ _ ?_
  clear hN N
  (try((repeat(revert hN;revert N;apply Pn.out));refine wk (tw @k3 (tw @k4 (tw @k6 (tw @FN @ai.eq_1)))) ?_;(repeat(refine Pn.mk ?_;intro N hN))))
  have Bf:=sN ⟨bK g1 ⟨85002007,x1⟩ ⟨true,3,[[.int .i64 p.eZ,.int .i64 p.eT,.int .i64 t]]⟩,x1+1⟩ o ⟨85002007,x1⟩ (l.map aa) [.int .i64 p.eZ,.int .i64 p.eT,.int .i64 t] (iJ l p) (sd (tw @vo @q1)) (sd @Nat.zero_add) (by simp only[go_sem, ↓reduceIte,Nat.reduceEqDiff,Nat.reduceAdd,Nat.reduceSub,Nat.reduceLeDiff,reduceCtorEq,vo]<;>simp) (by rw[List.length_map];exact vL) (by rw[List.length_map];exact jA) (by rw[List.length_map];omega)
  rw[List.length_map,Cr]at Bf
  refine .inr (aJ _ _ _ _ _ (fun r σ2 hq=>?_) Bf)
  obtain⟨g2,x2⟩:=σ2
  obtain⟨u,rfl,u1,u2,u3,u4⟩:=hq
  (try dsimp only at u1 u2 u3 u4)
  have w6:g2 ⟨85000002,σ.next⟩=some ⟨true,1,[[.bq]]⟩:=by
   have h1:=u4 ⟨85000002,σ.next⟩ (by(try dsimp only);omega) (fun e=>by rw[<-e]at q2;(try dsimp only at q2);omega)
   have h2:=dP (i:=⟨85000002,σ.next⟩) (n:=x1) (by(try dsimp only);omega)
   simp only[go_sem, ↓reduceIte,Nat.reduceEqDiff,Nat.reduceAdd,Nat.reduceSub,Nat.reduceLeDiff,reduceCtorEq,h2,k6]at h1
   exact h1
  have Iw:u.cq<x2/\σ.next<u.cq:=by
   rcases u2 with rfl|h
   ·exact⟨by omega,by(try dsimp only at q2);omega⟩
   ·exact⟨h.2,by omega⟩
  have u6:=cZ (a:=⟨85000002,σ.next⟩) (b:=u) (by(try dsimp only);omega)
  refine hN _ _ ?_
  clear hN N
  (try((repeat(revert hN;revert N;apply Pn.out));refine wk @w6 ?_;(repeat(refine Pn.mk ?_;intro N hN))))
  exact eV (.inl rfl) (vs:=[.agg [.own u 0 (l.length+1)]]) (sd @Nat.zero_add) ⟨u,rfl,sd (tw @u6 @u1),by omega,by(try dsimp only);omega,fun x hx=>by
   have h1:=dP hx
   have h2:=u4 x (by omega) (fun e=>by rw[e]at hx;omega)
   have h3:=q4 x (by(try dsimp only);omega)
   have h4:=dP (i:=x) (n:=x1) (by omega)
   simp only[go_sem, ↓reduceIte,Nat.reduceEqDiff,Nat.reduceAdd,Nat.reduceSub,Nat.reduceLeDiff,reduceCtorEq,h1]at h3
   simp only[go_sem, ↓reduceIte,Nat.reduceEqDiff,Nat.reduceAdd,Nat.reduceSub,Nat.reduceLeDiff,reduceCtorEq,h1,h2,h3,h4]⟩
 ·(try((repeat(revert hN;revert N;apply Pn.out));refine wk (tw @ai.eq_1 @FN) ?_;(repeat(refine Pn.mk ?_;intro N hN))))
  refine dI ?_ ?_
  ·(try((repeat(revert hN;revert N;apply Pn.out));refine wk (tw @ai.eq_1 @FN) ?_;(repeat(refine Pn.mk ?_;intro N hN))))
   refine .inr (aJ _ _ _ _ _ (fun r σ1 hq=>?_) (qf l h0 (by omega) _))
   obtain⟨g1,x1⟩:=σ1
   obtain⟨o,rfl,q1,q2,q3,q4⟩:=hq
   (try dsimp only at q1 q2 q3 q4)
   have k3:=q4 ⟨85000000,σ.next⟩ (by(try dsimp only);omega)
   have k4:=q4 ⟨85000001,σ.next⟩ (by(try dsimp only);omega)
   have k6:=q4 ⟨85000002,σ.next⟩ (by(try dsimp only);omega)
   simp only[go_sem, ↓reduceIte,Nat.reduceEqDiff,Nat.reduceAdd,Nat.reduceSub,Nat.reduceLeDiff,reduceCtorEq,ai]at k3 k4 k6
   have vo:=dP q3
   refine hN _ _ ?_
   clear hN N
   (try((repeat(revert hN;revert N;apply Pn.out));refine wk (tw @k3 (tw @k4 (tw @k6 (tw @FN @ai.eq_1)))) ?_;(repeat(refine Pn.mk ?_;intro N hN))))
   have Bf:=sN ⟨bK g1 ⟨85002007,x1⟩ ⟨true,3,[[.int .i64 p.eZ,.int .i64 p.eT,.int .i64 t]]⟩,x1+1⟩ o ⟨85002007,x1⟩ (l.map aa) [.int .i64 p.eZ,.int .i64 p.eT,.int .i64 t] (iJ l p) (sd (tw @vo @q1)) (sd @Nat.zero_add) (by simp only[go_sem, ↓reduceIte,Nat.reduceEqDiff,Nat.reduceAdd,Nat.reduceSub,Nat.reduceLeDiff,reduceCtorEq,vo]<;>simp) (by rw[List.length_map];exact vL) (by rw[List.length_map];exact jA) (by rw[List.length_map];omega)
   rw[List.length_map,Cr]at Bf
   refine .inr (aJ _ _ _ _ _ (fun r σ2 hq=>?_) Bf)
   obtain⟨g2,x2⟩:=σ2
   obtain⟨u,rfl,u1,u2,u3,u4⟩:=hq
   (try dsimp only at u1 u2 u3 u4)
   have w6:g2 ⟨85000002,σ.next⟩=some ⟨true,1,[[.bq]]⟩:=by
    have h1:=u4 ⟨85000002,σ.next⟩ (by(try dsimp only);omega) (fun e=>by rw[<-e]at q2;(try dsimp only at q2);omega)
    have h2:=dP (i:=⟨85000002,σ.next⟩) (n:=x1) (by(try dsimp only);omega)
    simp only[go_sem, ↓reduceIte,Nat.reduceEqDiff,Nat.reduceAdd,Nat.reduceSub,Nat.reduceLeDiff,reduceCtorEq,h2,k6]at h1
    exact h1
   have Iw:u.cq<x2/\σ.next<u.cq:=by
    rcases u2 with rfl|h
    ·exact⟨by omega,by(try dsimp only at q2);omega⟩
    ·exact⟨h.2,by omega⟩
   have u6:=cZ (a:=⟨85000002,σ.next⟩) (b:=u) (by(try dsimp only);omega)
   refine hN _ _ ?_
   clear hN N
   (try((repeat(revert hN;revert N;apply Pn.out));refine wk @w6 ?_;(repeat(refine Pn.mk ?_;intro N hN))))
   exact eV (.inl rfl) (vs:=[.agg [.own u 0 (l.length+1)]]) (sd @Nat.zero_add) ⟨u,rfl,sd (tw @u6 @u1),by omega,by(try dsimp only);omega,fun x hx=>by
    have h1:=dP hx
    have h2:=u4 x (by omega) (fun e=>by rw[e]at hx;omega)
    have h3:=q4 x (by(try dsimp only);omega)
    have h4:=dP (i:=x) (n:=x1) (by omega)
    simp only[go_sem, ↓reduceIte,Nat.reduceEqDiff,Nat.reduceAdd,Nat.reduceSub,Nat.reduceLeDiff,reduceCtorEq,h1]at h3
    simp only[go_sem, ↓reduceIte,Nat.reduceEqDiff,Nat.reduceAdd,Nat.reduceSub,Nat.reduceLeDiff,reduceCtorEq,h1,h2,h3,h4]⟩
  ·(try((repeat(revert hN;revert N;apply Pn.out));refine wk (tw @ai.eq_1 @FN) ?_;(repeat(refine Pn.mk ?_;intro N hN))))
   refine .inr (aJ _ _ _ _ _ (fun r σ1 hq=>?_) (qf l h0 (by omega) _))
   obtain⟨g1,x1⟩:=σ1
   obtain⟨o,rfl,q1,q2,q3,q4⟩:=hq
   (try dsimp only at q1 q2 q3 q4)
   have k3:=q4 ⟨85000000,σ.next⟩ (by(try dsimp only);omega)
   have k4:=q4 ⟨85000001,σ.next⟩ (by(try dsimp only);omega)
   have k6:=q4 ⟨85000002,σ.next⟩ (by(try dsimp only);omega)
   have k7:=q4 ⟨85002007,σ.next+1+1⟩ (by(try dsimp only);omega)
   simp only[go_sem, ↓reduceIte,Nat.reduceEqDiff,Nat.reduceAdd,Nat.reduceSub,Nat.reduceLeDiff,reduceCtorEq,ai]at k3 k4 k6 k7
   have vo:=dP q3
   refine hN _ _ ?_
   clear hN N
   (try((repeat(revert hN;revert N;apply Pn.out));refine wk (tw @k3 (tw @k4 (tw @k6 (tw @k7 (tw @FN @ai.eq_1))))) ?_;(repeat(refine Pn.mk ?_;intro N hN))))
   have Bf:=sN ⟨g1,x1+1⟩ o ⟨85002007,σ.next+1+1⟩ (l.map aa) [.int .i64 p.eZ,.int .i64 p.eT,.int .i64 t] (iJ l p) (sd (tw @vo @q1)) (sd @k7) (fun e=>by rw[e]at q2;(try dsimp only at q2);omega) (by rw[List.length_map];exact vL) (by rw[List.length_map];exact jA) (by rw[List.length_map];omega)
   rw[List.length_map,Cr]at Bf
   refine .inr (aJ _ _ _ _ _ (fun r σ2 hq=>?_) Bf)
   obtain⟨g2,x2⟩:=σ2
   obtain⟨u,rfl,u1,u2,u3,u4⟩:=hq
   (try dsimp only at u1 u2 u3 u4)
   have w6:g2 ⟨85000002,σ.next⟩=some ⟨true,1,[[.bq]]⟩:=by
    have h1:=u4 ⟨85000002,σ.next⟩ (by(try dsimp only);omega) (fun e=>by rw[<-e]at q2;(try dsimp only at q2);omega)
    simp only[go_sem, ↓reduceIte,Nat.reduceEqDiff,Nat.reduceAdd,Nat.reduceSub,Nat.reduceLeDiff,reduceCtorEq,k6]at h1
    exact h1
   have Iw:u.cq<x2/\σ.next<u.cq:=by
    rcases u2 with rfl|h
    ·exact⟨by omega,by(try dsimp only at q2);omega⟩
    ·exact⟨h.2,by omega⟩
   have u6:=cZ (a:=⟨85000002,σ.next⟩) (b:=u) (by(try dsimp only);omega)
   refine hN _ _ ?_
   clear hN N
   (try((repeat(revert hN;revert N;apply Pn.out));refine wk @w6 ?_;(repeat(refine Pn.mk ?_;intro N hN))))
   exact eV (.inl rfl) (vs:=[.agg [.own u 0 (l.length+1)]]) (sd @Nat.zero_add) ⟨u,rfl,sd (tw @u6 @u1),by omega,by(try dsimp only);omega,fun x hx=>by
    have h1:=dP hx
    have h2:=u4 x (by omega) (fun e=>by rw[e]at hx;omega)
    have h3:=q4 x (by(try dsimp only);omega)
    simp only[go_sem, ↓reduceIte,Nat.reduceEqDiff,Nat.reduceAdd,Nat.reduceSub,Nat.reduceLeDiff,reduceCtorEq,h1]at h3
    simp only[go_sem, ↓reduceIte,Nat.reduceEqDiff,Nat.reduceAdd,Nat.reduceSub,Nat.reduceLeDiff,reduceCtorEq,h1,h2,h3]⟩
end Go.Proofs.YtgoelphibofcmaaGreat.V

namespace Go.Proofs.YtgoelphibofcmaaGreat.V
open Go.RowKit
attribute [local irreducible] eh wpOps fI Call
attribute [local go_sem] aM fj eJ fF fE da upd cu K.av cI AV.cells AV.cell rowOf rowsOf part ld rowAt bK bV dq dM gy bD cY dY fA eS dk dR cW cV dD dE bG bc cL bF cP cN dO dS dQ cK bL cX dN bE aO cR cz gx bm cH bH aY dp bl dr AV.undef bt bz dF dL dy dC cF dX eb cw dV dU cQ cU List.getD_cons_zero List.getD_cons_succ List.getD_nil List.all_cons List.all_nil Bool.and_true Bool.true_and Bool.and_self Bool.not_true Bool.not_false Option.map_some Option.map_none Option.bind_some Option.bind_none List.length_cons List.length_nil List.take_succ_cons List.take_zero List.take_nil List.drop_succ_cons List.drop_zero List.drop_nil List.head?_cons List.map_cons List.map_nil List.getElem?_cons_zero List.getElem?_cons_succ List.cons_append List.nil_append List.append_nil List.length_map List.set_cons_zero List.set_cons_succ Nat.reduceMul eq_self Int.toNat_natCast Int.natCast_nonneg and_self true_and and_true decide_true decide_false Bool.false_eq_true Nat.zero_add Nat.add_zero List.contains_cons List.contains_nil Bool.or_false Bool.false_or beq_self_eq_true Nat.reduceBEq ne_eq not_true_eq_false not_false_eq_true Id.mk.injEq false_and and_false Nat.reduceLT Int.reduceLE Int.reduceLT Int.reduceToNat Int.reduceNeg Int.reduceAdd Nat.le_refl List.length_append beq_true beq_false Bool.not_eq_eq_eq_not or_false false_or dK aj ar aH bd br bW aT aZ aU bf cJ bw
end Go.Proofs.YtgoelphibofcmaaGreat.V

namespace Go.Proofs.YtgoelphibofcmaaGreat.V
open Go.RowKit
attribute [local irreducible] eh wpOps fI Call
attribute [local go_sem] aM fj eJ fF fE da upd cu K.av cI AV.cells AV.cell rowOf rowsOf part ld rowAt bK bV dq dM gy bD cY dY fA eS dk dR cW cV dD dE bG bc cL bF cP cN dO dS dQ cK bL cX dN bE aO cR cz gx bm cH bH aY dp bl dr AV.undef bt bz dF dL dy dC cF dX eb cw dV dU cQ cU List.getD_cons_zero List.getD_cons_succ List.getD_nil List.all_cons List.all_nil Bool.and_true Bool.true_and Bool.and_self Bool.not_true Bool.not_false Option.map_some Option.map_none Option.bind_some Option.bind_none List.length_cons List.length_nil List.take_succ_cons List.take_zero List.take_nil List.drop_succ_cons List.drop_zero List.drop_nil List.head?_cons List.map_cons List.map_nil List.getElem?_cons_zero List.getElem?_cons_succ List.cons_append List.nil_append List.append_nil List.length_map List.set_cons_zero List.set_cons_succ Nat.reduceMul eq_self Int.toNat_natCast Int.natCast_nonneg and_self true_and and_true decide_true decide_false Bool.false_eq_true Nat.zero_add Nat.add_zero List.contains_cons List.contains_nil Bool.or_false Bool.false_or beq_self_eq_true Nat.reduceBEq ne_eq not_true_eq_false not_false_eq_true Id.mk.injEq false_and and_false Nat.reduceLT Int.reduceLE Int.reduceLT Int.reduceToNat Int.reduceNeg Int.reduceAdd Nat.le_refl List.length_append beq_true beq_false Bool.not_eq_eq_eq_not or_false false_or dK aj ar aH bd br bW aT aZ aU bf cJ bw
noncomputable def gP (s:aI) (l:List ah) (p:aE) (t:Int):Bool:=Ar p&&decide (gm l p<0)&&iC (lY s.aD (gm l) p t) 1 (s.ay-1)
theorem Gc (s:aI) (hP:uO s) (l:List ah) (hA:lE s.aD l) (p:aE) (t:Int) (ht:ea s.aD t=true):au Tryz.prog 80 [.di (az s),.di [.sl (l.map aa)],.agg [.int .i64 p.eZ,.int .i64 p.eT,.int .i64 t]] (.bool (gP s l p t)):=by
 refine au.body eG rfl fun lf n0=>?_
 clear lf
 have h1:=qz p
 have h2:=(qC s.aD t).cut mixed (.ptr _ [.sl (s.bx.aq.map aa),.int .i64 s.ay] (.same _ .nil))
 have h3:=qD l p hA.1.Jf (by have:=hA.1.zb;omega)
 rw[ht]at h2
 have hw:IntKind.i64.wrap (s.ay-1)=s.ay-1:=bQ (by have:=ej hP.Jw;omega)
 by_cases h0:Ar p=true
 ·rw[h0]at h1
  obtain⟨hx,hy⟩:=sV h0
  by_cases hi:eE l p<0
  ·have h4:=(zz s.aD hP.set l hA p hx hy t ht).cut mixed (.ptr _ [.sl (s.bx.aq.map aa),.int .i64 s.ay] (.same _ (.same _ (.same _ .nil))))
   have h5:=ki (lY s.aD (gm l) p t) 1 (s.ay-1)
   have hd:decide ((0:Int)<=eE l p)=false:=decide_eq_false (by omega)
   have e:gP s l p t=iC (lY s.aD (gm l) p t) 1 (s.ay-1):=by simp[gP,h0,(CG hA p).2 hi]
   rw[e]
   (repeat(first|((repeat(revert hN;revert N;apply Pn.out));refine wk (tw @az.eq_1 (tw @ae.eq_1 (tw @ai.eq_1 (tw @hd @hw)))) ?_;(repeat(refine Pn.mk ?_;intro N hN)))|((try apply Or.inl);refine⟨_,au.x (h1) (sd (tw @az.eq_1 (tw @ae.eq_1 (tw @ai.eq_1 (tw @hd @hw))))),?_⟩;refine hN _ _ ?_;clear hN N)|((try apply Or.inl);refine⟨_,au.x (h2) (sd (tw @az.eq_1 (tw @ae.eq_1 (tw @ai.eq_1 (tw @hd @hw))))),?_⟩;refine hN _ _ ?_;clear hN N)|((try apply Or.inl);refine⟨_,au.x (h3) (sd (tw @az.eq_1 (tw @ae.eq_1 (tw @ai.eq_1 (tw @hd @hw))))),?_⟩;refine hN _ _ ?_;clear hN N)|((try apply Or.inl);refine⟨_,au.x (h4) (sd (tw @az.eq_1 (tw @ae.eq_1 (tw @ai.eq_1 (tw @hd @hw))))),?_⟩;refine hN _ _ ?_;clear hN N)|((try apply Or.inl);refine⟨_,au.x (h5) (sd (tw @az.eq_1 (tw @ae.eq_1 (tw @ai.eq_1 (tw @hd @hw))))),?_⟩;refine hN _ _ ?_;clear hN N)))
   exact aX (b:=iC (lY s.aD (gm l) p t) 1 (s.ay-1)) (.inl rfl) (sd @Nat.zero_add) rfl
  ·have hd:decide ((0:Int)<=eE l p)=true:=decide_eq_true (by omega)
   have e:gP s l p t=false:=by
    have:¬gm l p<0:=fun h=>hi ((CG hA p).1 h)
    simp[gP,this]
   rw[e]
   (repeat(first|((repeat(revert hN;revert N;apply Pn.out));refine wk (tw @az.eq_1 (tw @ae.eq_1 (tw @ai.eq_1 @hd))) ?_;(repeat(refine Pn.mk ?_;intro N hN)))|((try apply Or.inl);refine⟨_,au.x (h1) (sd (tw @az.eq_1 (tw @ae.eq_1 (tw @ai.eq_1 @hd)))),?_⟩;refine hN _ _ ?_;clear hN N)|((try apply Or.inl);refine⟨_,au.x (h2) (sd (tw @az.eq_1 (tw @ae.eq_1 (tw @ai.eq_1 @hd)))),?_⟩;refine hN _ _ ?_;clear hN N)|((try apply Or.inl);refine⟨_,au.x (h3) (sd (tw @az.eq_1 (tw @ae.eq_1 (tw @ai.eq_1 @hd)))),?_⟩;refine hN _ _ ?_;clear hN N)))
   exact aX (b:=false) (.inl rfl) (sd @Nat.zero_add) rfl
 ·rw[Bool.not_eq_true]at h0
  rw[h0]at h1
  have e:gP s l p t=false:=by simp[gP,h0]
  rw[e]
  (repeat(first|((repeat(revert hN;revert N;apply Pn.out));refine wk (tw @az.eq_1 (tw @ae.eq_1 @ai.eq_1)) ?_;(repeat(refine Pn.mk ?_;intro N hN)))|((try apply Or.inl);refine⟨_,au.x (h1) (sd (tw @az.eq_1 (tw @ae.eq_1 @ai.eq_1))),?_⟩;refine hN _ _ ?_;clear hN N)))
  exact aX (b:=false) (.inl rfl) (sd @Nat.zero_add) rfl
end Go.Proofs.YtgoelphibofcmaaGreat.V

namespace Go.Proofs.YtgoelphibofcmaaGreat.V
open Go.RowKit
attribute [local irreducible] eh wpOps fI Call
attribute [local go_sem] aM fj eJ fF fE da upd cu K.av cI AV.cells AV.cell rowOf rowsOf part ld rowAt bK bV dq dM gy bD cY dY fA eS dk dR cW cV dD dE bG bc cL bF cP cN dO dS dQ cK bL cX dN bE aO cR cz gx bm cH bH aY dp bl dr AV.undef bt bz dF dL dy dC cF dX eb cw dV dU cQ cU List.getD_cons_zero List.getD_cons_succ List.getD_nil List.all_cons List.all_nil Bool.and_true Bool.true_and Bool.and_self Bool.not_true Bool.not_false Option.map_some Option.map_none Option.bind_some Option.bind_none List.length_cons List.length_nil List.take_succ_cons List.take_zero List.take_nil List.drop_succ_cons List.drop_zero List.drop_nil List.head?_cons List.map_cons List.map_nil List.getElem?_cons_zero List.getElem?_cons_succ List.cons_append List.nil_append List.append_nil List.length_map List.set_cons_zero List.set_cons_succ Nat.reduceMul eq_self Int.toNat_natCast Int.natCast_nonneg and_self true_and and_true decide_true decide_false Bool.false_eq_true Nat.zero_add Nat.add_zero List.contains_cons List.contains_nil Bool.or_false Bool.false_or beq_self_eq_true Nat.reduceBEq ne_eq not_true_eq_false not_false_eq_true Id.mk.injEq false_and and_false Nat.reduceLT Int.reduceLE Int.reduceLT Int.reduceToNat Int.reduceNeg Int.reduceAdd Nat.le_refl List.length_append beq_true beq_false Bool.not_eq_eq_eq_not or_false false_or dK aj ar aH bd br bW aT aZ aU bf cJ bw
theorem IB {σ:aw} {c T O:Id} {s:aI} {ts:List ah} (h:Ai σ.get σ.next c T O s ts) (hP:uO s) (hF:∀q,0<=gm ts q->ea s.aD (gm ts q)=true) (p:aE) (t:Int) (ht:ea s.aD t=true):
  Call Tryz.prog 84 [.ptr c 0 0,.agg (ai p),.int .i64 t] σ (fun r _=>r=.bool (gP s ts p t)):=by
 refine fc eG rfl fun lf=>?_
 clear lf
 have hS:=hP.set
 obtain⟨b,h1⟩:=h.row
 have v1:=dP h.cv
 have hw:=mz p
 have v2:=dP h.tv
 have TC:IntKind.i64.wrap (s.ay-1)=s.ay-1:=bQ (by have:=ej hP.Jw;omega)
 by_cases h0:Ar p=true
 ·rw[h0]at hw
  obtain⟨hx,hy⟩:=sV h0
  by_cases h2:gm ts p<0
  ·have h5:=j5 (lY s.aD (gm ts) p t) 1 (s.ay-1)
   have e:gP s ts p t=iC (lY s.aD (gm ts) p t) 1 (s.ay-1):=by simp[gP,h0,h2]
   (repeat(first|((repeat(revert hN;revert N;apply Pn.out));refine wk (tw @h1 (tw @v1 (tw @h2 @ai.eq_1))) ?_;(repeat(refine Pn.mk ?_;intro N hN)))|((try apply Or.inl);refine⟨_,au.x (hw) (sd (tw @h1 (tw @v1 (tw @h2 @ai.eq_1)))),?_⟩;refine hN _ _ ?_;clear hN N)))
   refine⟨_,Ho (h.frame (by(try dsimp only);omega) (sd @v1) (sd @v2)) p,?_⟩
   refine hN _ _ ?_
   clear hN N
   (repeat(first|((repeat(revert hN;revert N;apply Pn.out));refine wk (tw @h1 (tw @v1 (tw @h2 (tw @ai.eq_1 @ae.eq_1)))) ?_;(repeat(refine Pn.mk ?_;intro N hN)))|((try apply Or.inl);refine⟨_,au.x (hw) (sd (tw @h1 (tw @v1 (tw @h2 (tw @ai.eq_1 @ae.eq_1))))),?_⟩;refine hN _ _ ?_;clear hN N)))
   refine⟨_,xR (h.frame (by(try dsimp only);omega) (sd @v1) (sd @v2)) hS hF p hx hy t ht,?_⟩
   refine hN _ _ ?_
   clear hN N
   (repeat(first|((repeat(revert hN;revert N;apply Pn.out));refine wk (tw @h1 (tw @v1 (tw @h2 (tw @TC (tw @ai.eq_1 @ae.eq_1))))) ?_;(repeat(refine Pn.mk ?_;intro N hN)))|((try apply Or.inl);refine⟨_,au.x (hw) (sd (tw @h1 (tw @v1 (tw @h2 (tw @TC (tw @ai.eq_1 @ae.eq_1)))))),?_⟩;refine hN _ _ ?_;clear hN N)|((try apply Or.inl);refine⟨_,au.x (h5) (sd (tw @h1 (tw @v1 (tw @h2 (tw @TC (tw @ai.eq_1 @ae.eq_1)))))),?_⟩;refine hN _ _ ?_;clear hN N)))
   exact eV (.inl rfl) (vs:=[.bool (iC (lY s.aD (gm ts) p t) 1 (s.ay-1))]) (sd @Nat.zero_add) (by rw[e];rfl)
  ·(repeat(first|((repeat(revert hN;revert N;apply Pn.out));refine wk (tw @h1 (tw @v1 (tw @h2 @ai.eq_1))) ?_;(repeat(refine Pn.mk ?_;intro N hN)))|((try apply Or.inl);refine⟨_,au.x (hw) (sd (tw @h1 (tw @v1 (tw @h2 @ai.eq_1)))),?_⟩;refine hN _ _ ?_;clear hN N)))
   refine⟨_,Ho (h.frame (by(try dsimp only);omega) (sd @v1) (sd @v2)) p,?_⟩
   refine hN _ _ ?_
   clear hN N
   (repeat(first|((repeat(revert hN;revert N;apply Pn.out));refine wk (tw @h1 (tw @v1 (tw @h2 @ai.eq_1))) ?_;(repeat(refine Pn.mk ?_;intro N hN)))|((try apply Or.inl);refine⟨_,au.x (hw) (sd (tw @h1 (tw @v1 (tw @h2 @ai.eq_1)))),?_⟩;refine hN _ _ ?_;clear hN N)))
   exact eV (.inl rfl) (vs:=[.bool false]) (sd @Nat.zero_add) (by rw[show gP s ts p t=false by simp[gP,h2]];rfl)
 ·rw[Bool.not_eq_true]at h0
  rw[h0]at hw
  (repeat(first|((repeat(revert hN;revert N;apply Pn.out));refine wk (tw @h1 (tw @v1 @ai.eq_1)) ?_;(repeat(refine Pn.mk ?_;intro N hN)))|((try apply Or.inl);refine⟨_,au.x (hw) (sd (tw @h1 (tw @v1 @ai.eq_1))),?_⟩;refine hN _ _ ?_;clear hN N)))
  exact eV (.inl rfl) (vs:=[.bool false]) (sd @Nat.zero_add) (by rw[show gP s ts p t=false by simp[gP,h0]];rfl)
theorem oJ {σ:aw} {c T O:Id} {s:aI} {ts:List ah} (h:Ai σ.get σ.next c T O s ts) (hP:uO s) (hF:∀q,0<=gm ts q->ea s.aD (gm ts q)=true) (p:aE) (t:Int) (ht:ea s.aD t=true):
  fI (Call Tryz.prog) 84 [.ptr c 0 0,.agg (ai p),.int .i64 t] σ (fun r=>r=.bool (gP s ts p t)):=by
 unfold fI PC
 exact Or.inl (aJ _ _ _ _ _ (fun r σ' hr=>⟨_,by rw[hr];exact bd _ _ _,rfl⟩) (IB (σ:=⟨V.ro σ.get,σ.next⟩) h.ro hP hF p t ht))
end Go.Proofs.YtgoelphibofcmaaGreat.V

namespace Go.Proofs.YtgoelphibofcmaaGreat.V
open Go.RowKit
attribute [local irreducible] eh wpOps fI Call
attribute [local go_sem] aM fj eJ fF fE da upd cu K.av cI AV.cells AV.cell rowOf rowsOf part ld rowAt bK bV dq dM gy bD cY dY fA eS dk dR cW cV dD dE bG bc cL bF cP cN dO dS dQ cK bL cX dN bE aO cR cz gx bm cH bH aY dp bl dr AV.undef bt bz dF dL dy dC cF dX eb cw dV dU cQ cU List.getD_cons_zero List.getD_cons_succ List.getD_nil List.all_cons List.all_nil Bool.and_true Bool.true_and Bool.and_self Bool.not_true Bool.not_false Option.map_some Option.map_none Option.bind_some Option.bind_none List.length_cons List.length_nil List.take_succ_cons List.take_zero List.take_nil List.drop_succ_cons List.drop_zero List.drop_nil List.head?_cons List.map_cons List.map_nil List.getElem?_cons_zero List.getElem?_cons_succ List.cons_append List.nil_append List.append_nil List.length_map List.set_cons_zero List.set_cons_succ Nat.reduceMul eq_self Int.toNat_natCast Int.natCast_nonneg and_self true_and and_true decide_true decide_false Bool.false_eq_true Nat.zero_add Nat.add_zero List.contains_cons List.contains_nil Bool.or_false Bool.false_or beq_self_eq_true Nat.reduceBEq ne_eq not_true_eq_false not_false_eq_true Id.mk.injEq false_and and_false Nat.reduceLT Int.reduceLE Int.reduceLT Int.reduceToNat Int.reduceNeg Int.reduceAdd Nat.le_refl List.length_append beq_true beq_false Bool.not_eq_eq_eq_not or_false false_or dK aj ar aH bd br bW aT aZ aU bf cJ bw
theorem LZ (g:Rows) (n:Nat) (x:ah):ew g (n+1) (aa x)=some (aa x):=by simp[aa,bJ,cD,eA]
def Pf (n:Nat) (L:List ah) (r:AV) (σ':aw):Prop:=∃o:Id,r=.agg [.own o 0 L.length]/\σ'.get o=some ⟨true,3,L.map aa⟩/\n<=o.cq/\o.cq<σ'.next
theorem Pf.val {f:Nat} {args eF:List AV} {L:List ah} {σ:aw} (h:∀n,Call Tryz.prog f eF ⟨fun _=>none,n⟩ (Pf n L)) (hv:dd (dK σ.get) 6 args=some eF):Call Tryz.prog f args σ (fun r σ'=>Pf σ.next L r σ'/\Kept σ σ'):=by
 refine Au mixed hv (aJ _ _ _ _ _ (fun r σ' hq=>?_) (xJ mixed (h σ.next)))
 obtain⟨⟨o,rfl,h2,h3,h4⟩,hn⟩:=hq
 refine⟨[o],rfl,fun i hi=>?_,⟨o,rfl,(rZ (by simp)).trans h2,h3,h4⟩,hn,fun j hj=>pD fun hc=>?_⟩
 ·rw[List.mem_singleton.1 hi]
  exact⟨_,h2,rfl,fun cs du a ha=>by
   obtain⟨x,_,rfl⟩:=List.mem_map.1 du
   simp[aa]at ha
   rcases ha with rfl|rfl|rfl<;>rfl⟩
 ·rw[List.mem_singleton.1 hc]at hj;omega
def tZ (q:ah) (l:List ah):Bool:=l.any fun x=>j6 q.aW x.aW
theorem BV {q:ah}:∀{l:List ah},tZ q l=false->fV l q=l++[q]
 |[],_=>rfl
 |x::l,h=>by
  unfold tZ at h
  rw[List.any_cons,Bool.or_eq_false_iff]at h
  rw[fV,if_neg (by rw[h.1];simp),BV h.2];rfl
theorem yL {q y:ah}:∀{l:List ah},tZ q l=true->fV (l++[y]) q=fV l q++[y]
 |x::l,h=>by
  unfold tZ at h
  rw[List.any_cons]at h
  rw[List.cons_append,fV,fV]
  cases hx:j6 q.aW x.aW
  ·rw[hx,Bool.false_or]at h
   rw[if_neg (by simp),if_neg (by simp),yL h];rfl
  ·simp
theorem yJ {q y:ah}:∀{l:List ah},tZ q l=false->j6 q.aW y.aW=true->fV (l++[y]) q=l++[q]++[y]
 |[],_,hy=>by simp[fV,hy]
 |x::l,h,hy=>by
  unfold tZ at h
  rw[List.any_cons,Bool.or_eq_false_iff]at h
  rw[List.cons_append,fV,if_neg (by rw[h.1];simp),yJ h.2 hy];rfl
def iW (q:ah) (l:List ah):List ah:=if tZ q l=true then fV l q else l
theorem u9 (q:ah) (l:List ah) (y:ah):tZ q (l++[y])=(tZ q l||j6 q.aW y.aW):=by simp[tZ]
theorem Gr (q:ah) (l:List ah):(iW q l).length<=l.length+1:=by
 unfold iW
 split
 ·rw[kM];omega
 ·omega
theorem I3 {q y:ah} {l:List ah} (h:tZ q l=true∨j6 q.aW y.aW=false):iW q (l++[y])=iW q l++[y]:=by
 unfold iW
 rw[u9]
 cases hd:tZ q l
 ·rw[hd]at h
  have h2:j6 q.aW y.aW=false:=by rcases h with h|h;cases h;exact h
  simp[h2]
 ·simp[yL hd]
theorem I2 {q y:ah} {l:List ah} (h:tZ q l=false) (hy:j6 q.aW y.aW=true):iW q (l++[y])=iW q l++[q]++[y]:=by
 unfold iW
 rw[u9,h,hy]
 simp[yJ h hy]
def R5 (m:Nat) (L:List ah) (v:AV) (g:Rows) (n:Nat):Prop:=(L=[]/\v=.bq)∨∃o:Id,v=.own o 0 L.length/\g o=some ⟨true,3,L.map aa⟩/\m<=o.cq/\o.cq<n
theorem Jv {l:List ah} {k:Nat} (hk:k<l.length):l.take (k+1)=l.take k++[bj l k]:=by rw[List.take_succ_eq_append_getElem hk,gL hk]
theorem BH (L:List ah) (q:ah):(L++[q]).map aa=L.map aa++[[.int .i64 q.aW.eZ,.int .i64 q.aW.eT,.int .i64 q.aP]]:=by rw[List.map_append];rfl
theorem rI (L:List ah) (q:ah):(L++[q]).length=L.length+1:=by rw[List.length_append];rfl
theorem ID (l:List ah) (hl:l.length<=1048576) (p:aE) (t:Int) (n0:Nat):Call Tryz.prog 101 [.di [.sl (l.map aa)],.agg (ai p),.int .i64 t] ⟨fun _=>none,n0⟩ (Pf n0 (fV l ⟨p,t⟩)):=by
 refine fc eG rfl fun lf=>?_
 clear lf
 obtain⟨q,hq⟩:∃q:ah,q=⟨p,t⟩:=⟨_,rfl⟩
 (try((repeat(revert hN;revert N;apply Pn.out));refine wk @ai.eq_1 ?_;(repeat(refine Pn.mk ?_;intro N hN))))
 refine bh (fun n env st=>∃i:Nat,n=(l.length)-i/\i<=(l.length)/\env 9=.int .i64 (i:Int)/\env 8=.bool (tZ q (l.take i))/\st.get ⟨101000000,n0⟩=some ⟨true,2,[ai p]⟩/\st.get ⟨101000001,n0⟩=some ⟨true,1,[[.bq]]⟩/\(n0+2<=st.next/\∃v,st.get ⟨101001001,n0+1⟩=some ⟨true,1,[[v]]⟩/\R5 (n0+2) (iW q (l.take i)) v st.get st.next)) (l.length) ⟨0,by omega,by omega,sl @ai.eq_1,sl @ai.eq_1,sl @ai.eq_1,sl @ai.eq_1,by(try dsimp only);exact⟨by omega,.bq,sd @Nat.zero_add,.inl ⟨rfl,rfl⟩⟩⟩ ?_
 rintro n_a env_a st_a ⟨i,rfl,ale,a9,a8,ag0,ag1,lS⟩ dW
 have a0:=dW 0 (by kernel_rfl);have a2:=dW 2 (by kernel_rfl);have a4:=dW 4 (by kernel_rfl);have a6:=dW 6 (by kernel_rfl);have a7:=dW 7 (by kernel_rfl)
 simp only[go_sem, ↓reduceIte,Nat.reduceEqDiff,Nat.reduceAdd,Nat.reduceSub,Nat.reduceLeDiff,reduceCtorEq,ai]at a0 a2 a4 a6 a7
 clear dW
 obtain⟨an,v,av,aG⟩:=lS
 have vA:=dP (i:=⟨101000000,n0⟩) (n:=st_a.next) (by(try dsimp only);omega)
 have vB:=dP (i:=⟨101000001,n0⟩) (n:=st_a.next) (by(try dsimp only);omega)
 have vC:=dP (i:=⟨101001001,n0+1⟩) (n:=st_a.next) (by(try dsimp only);omega)
 have KO:=Gr q (l.take i)
 rw[List.length_take]at KO
 by_cases hi:(i:Int)<(l.length:Int)
 ·have cG:∀{e:Env} {gg:Rows} {nx:Nat},(e 9=.int .i64 (IntKind.i64.wrap ((i:Int)+1)))->(e 8=.bool (tZ q (l.take (i+1))))->(gg ⟨101000000,n0⟩=some ⟨true,2,[ai p]⟩)->(gg ⟨101000001,n0⟩=some ⟨true,1,[[.bq]]⟩)->(n0+2<=nx/\∃v,gg ⟨101001001,n0+1⟩=some ⟨true,1,[[v]]⟩/\R5 (n0+2) (iW q (l.take (i+1))) v gg nx)->∃m0,m0<(l.length)-i/\∃i:Nat,m0=(l.length)-i/\i<=(l.length)/\e 9=.int .i64 (i:Int)/\e 8=.bool (tZ q (l.take i))/\gg ⟨101000000,n0⟩=some ⟨true,2,[ai p]⟩/\gg ⟨101000001,n0⟩=some ⟨true,1,[[.bq]]⟩/\(n0+2<=nx/\∃v,gg ⟨101001001,n0+1⟩=some ⟨true,1,[[v]]⟩/\R5 (n0+2) (iW q (l.take i)) v gg nx):=fun x1 x2 x3 x4 x5=>⟨_,by omega,i+1,rfl,by omega,(by rw[x1,aC (by omega)]),x2,x3,x4,x5⟩
  have fB:i<l.length:=by omega
  have k9:=fQ fB
  have eo:=nW p (bj l i).aW
  have nK:=Jv fB
  have Tx:j6 q.aW (bj l i).aW=j6 p (bj l i).aW:=by rw[hq]
  have nA:(l.map aa).length=l.length:=by simp
  have JV:=u9 q (l.take i) (bj l i)
  rw[<-nK,Tx]at JV
  rw[ai,ai]at eo
  by_cases hc:tZ q (l.take i)=true∨j6 p (bj l i).aW=false
  ·have k5:=I3 (q:=q) (y:=bj l i) (l:=l.take i) (by rw[Tx];exact hc)
   rw[<-nK]at k5
   generalize iW q (l.take i)=L at aG k5 KO
   have Am:=rI L (bj l i)
   have xb:=BH L (bj l i)
   have l7:tZ q (l.take (i+1))=tZ q (l.take i):=by
    rw[JV]
    rcases hc with h|h<;>rw[h]<;>simp
   rcases aG with⟨hL,rfl⟩|⟨o,rfl,ao,aon,aov⟩
   ·subst hL
    cases hd:tZ q (l.take i)
    ·have h2:j6 p (bj l i).aW=false:=by rcases hc with h|h;rw[hd]at h;cases h;exact h
     rw[h2]at eo
     rw[hd]at a8 l7
     (repeat(first|((repeat(revert hN;revert N;apply Pn.out));refine wk (tw @a9 (tw @a8 (tw @ag0 (tw @ag1 (tw @a0 (tw @a2 (tw @a4 (tw @a6 (tw @a7 (tw @hi (tw @k9 (tw @vA (tw @vB (tw @vC (tw @av (tw @nA (tw @ai.eq_1 @aa.eq_1))))))))))))))))) ?_;(repeat(refine Pn.mk ?_;intro N hN)))|((try apply Or.inl);refine⟨_,au.x (eo) (sd (tw @a9 (tw @a8 (tw @ag0 (tw @ag1 (tw @a0 (tw @a2 (tw @a4 (tw @a6 (tw @a7 (tw @hi (tw @k9 (tw @vA (tw @vB (tw @vC (tw @av (tw @nA (tw @ai.eq_1 @aa.eq_1)))))))))))))))))),?_⟩;refine hN _ _ ?_;clear hN N)))
     refine cG ?_ ?_ ?_ ?_ (by(try dsimp only);exact⟨by omega,_,sl @Nat.zero_add,.inr ⟨⟨101009010,st_a.next+1+1⟩,by rw[k5,Am]<;>(simp only[go_sem, ↓reduceIte,Nat.reduceEqDiff,Nat.reduceAdd,Nat.reduceSub,Nat.reduceLeDiff,reduceCtorEq]<;>rfl),by rw[k5,xb]<;>(simp only[go_sem, ↓reduceIte,Nat.reduceEqDiff,Nat.reduceAdd,Nat.reduceSub,Nat.reduceLeDiff,reduceCtorEq]<;>rfl),by(try dsimp only);omega,by(try dsimp only);omega⟩⟩)
     all_goals simp only[go_sem, ↓reduceIte,Nat.reduceEqDiff,Nat.reduceAdd,Nat.reduceSub,Nat.reduceLeDiff,reduceCtorEq,a9,a8,ag0,ag1,a0,a2,a4,a6,a7,l7,vA,vB,vC,ai]
    ·rw[hd]at a8 l7
     (try((repeat(revert hN;revert N;apply Pn.out));refine wk (tw @a9 (tw @a8 (tw @ag0 (tw @ag1 (tw @a0 (tw @a2 (tw @a4 (tw @a6 (tw @a7 (tw @hi (tw @k9 (tw @vA (tw @vB (tw @vC (tw @av (tw @nA (tw @ai.eq_1 @aa.eq_1))))))))))))))))) ?_;(repeat(refine Pn.mk ?_;intro N hN))))
     refine cG ?_ ?_ ?_ ?_ (by(try dsimp only);exact⟨by omega,_,sl @Nat.zero_add,.inr ⟨⟨101009010,st_a.next+1+1⟩,by rw[k5,Am]<;>(simp only[go_sem, ↓reduceIte,Nat.reduceEqDiff,Nat.reduceAdd,Nat.reduceSub,Nat.reduceLeDiff,reduceCtorEq]<;>rfl),by rw[k5,xb]<;>(simp only[go_sem, ↓reduceIte,Nat.reduceEqDiff,Nat.reduceAdd,Nat.reduceSub,Nat.reduceLeDiff,reduceCtorEq]<;>rfl),by(try dsimp only);omega,by(try dsimp only);omega⟩⟩)
     all_goals simp only[go_sem, ↓reduceIte,Nat.reduceEqDiff,Nat.reduceAdd,Nat.reduceSub,Nat.reduceLeDiff,reduceCtorEq,a9,a8,ag0,ag1,a0,a2,a4,a6,a7,l7,vA,vB,vC,ai]
   ·have vo:=dP aov
    have oA:=cZ (a:=⟨101000000,n0⟩) (b:=o) (by(try dsimp only);omega)
    have oB:=cZ (a:=⟨101000001,n0⟩) (b:=o) (by(try dsimp only);omega)
    have oC:=cZ (a:=⟨101001001,n0+1⟩) (b:=o) (by(try dsimp only);omega)
    have L4:(L.map aa).length=L.length:=by simp
    have L3:L.length<=16777215:=by omega
    cases hd:tZ q (l.take i)
    ·have h2:j6 p (bj l i).aW=false:=by rcases hc with h|h;rw[hd]at h;cases h;exact h
     rw[h2]at eo
     rw[hd]at a8 l7
     (repeat(first|((repeat(revert hN;revert N;apply Pn.out));refine wk (tw @a9 (tw @a8 (tw @ag0 (tw @ag1 (tw @a0 (tw @a2 (tw @a4 (tw @a6 (tw @a7 (tw @hi (tw @k9 (tw @vA (tw @vB (tw @vC (tw @vo (tw @oA (tw @oB (tw @oC (tw @ao (tw @av (tw @nA (tw @L4 (tw @L3 (tw @ai.eq_1 @aa.eq_1)))))))))))))))))))))))) ?_;(repeat(refine Pn.mk ?_;intro N hN)))|((try apply Or.inl);refine⟨_,au.x (eo) (sd (tw @a9 (tw @a8 (tw @ag0 (tw @ag1 (tw @a0 (tw @a2 (tw @a4 (tw @a6 (tw @a7 (tw @hi (tw @k9 (tw @vA (tw @vB (tw @vC (tw @vo (tw @oA (tw @oB (tw @oC (tw @ao (tw @av (tw @nA (tw @L4 (tw @L3 (tw @ai.eq_1 @aa.eq_1))))))))))))))))))))))))),?_⟩;refine hN _ _ ?_;clear hN N)))
     refine cG ?_ ?_ ?_ ?_ (by(try dsimp only);exact⟨by omega,_,sl @Nat.zero_add,.inr ⟨⟨101009010,st_a.next+1+1⟩,by rw[k5,Am]<;>(simp only[go_sem, ↓reduceIte,Nat.reduceEqDiff,Nat.reduceAdd,Nat.reduceSub,Nat.reduceLeDiff,reduceCtorEq]<;>rfl),by rw[k5,xb]<;>(simp only[go_sem, ↓reduceIte,Nat.reduceEqDiff,Nat.reduceAdd,Nat.reduceSub,Nat.reduceLeDiff,reduceCtorEq]<;>rfl),by(try dsimp only);omega,by(try dsimp only);omega⟩⟩)
     all_goals simp only[go_sem, ↓reduceIte,Nat.reduceEqDiff,Nat.reduceAdd,Nat.reduceSub,Nat.reduceLeDiff,reduceCtorEq,a9,a8,ag0,ag1,a0,a2,a4,a6,a7,l7,vA,vB,vC,oA,oB,oC,ai]
    ·rw[hd]at a8 l7
     (try((repeat(revert hN;revert N;apply Pn.out));refine wk (tw @a9 (tw @a8 (tw @ag0 (tw @ag1 (tw @a0 (tw @a2 (tw @a4 (tw @a6 (tw @a7 (tw @hi (tw @k9 (tw @vA (tw @vB (tw @vC (tw @vo (tw @oA (tw @oB (tw @oC (tw @ao (tw @av (tw @nA (tw @L4 (tw @L3 (tw @ai.eq_1 @aa.eq_1)))))))))))))))))))))))) ?_;(repeat(refine Pn.mk ?_;intro N hN))))
     refine cG ?_ ?_ ?_ ?_ (by(try dsimp only);exact⟨by omega,_,sl @Nat.zero_add,.inr ⟨⟨101009010,st_a.next+1+1⟩,by rw[k5,Am]<;>(simp only[go_sem, ↓reduceIte,Nat.reduceEqDiff,Nat.reduceAdd,Nat.reduceSub,Nat.reduceLeDiff,reduceCtorEq]<;>rfl),by rw[k5,xb]<;>(simp only[go_sem, ↓reduceIte,Nat.reduceEqDiff,Nat.reduceAdd,Nat.reduceSub,Nat.reduceLeDiff,reduceCtorEq]<;>rfl),by(try dsimp only);omega,by(try dsimp only);omega⟩⟩)
     all_goals simp only[go_sem, ↓reduceIte,Nat.reduceEqDiff,Nat.reduceAdd,Nat.reduceSub,Nat.reduceLeDiff,reduceCtorEq,a9,a8,ag0,ag1,a0,a2,a4,a6,a7,l7,vA,vB,vC,oA,oB,oC,ai]
  ·have hd:tZ q (l.take i)=false:=by
    cases h:tZ q (l.take i)
    ·rfl
    ·exact absurd (.inl h) hc
   have h2:j6 p (bj l i).aW=true:=by
    cases h:j6 p (bj l i).aW
    ·exact absurd (.inr h) hc
    ·rfl
   have k5:=I2 (q:=q) (y:=bj l i) hd (by rw[Tx];exact h2)
   rw[<-nK]at k5
   have l7:tZ q (l.take (i+1))=true:=by rw[JV,h2];simp
   rw[hd]at a8
   rw[h2]at eo
   have RI:aa q=[.int .i64 p.eZ,.int .i64 p.eT,.int .i64 t]:=by rw[hq];rfl
   generalize iW q (l.take i)=L at aG k5 KO
   have Am:=rI (L++[q]) (bj l i)
   have xb:=BH (L++[q]) (bj l i)
   have Tn:=rI L q
   have To:(L++[q]).map aa=L.map aa++[[.int .i64 p.eZ,.int .i64 p.eT,.int .i64 t]]:=by rw[List.map_append,List.map_singleton,RI]
   rw[Tn]at Am
   rw[To]at xb
   rcases aG with⟨hL,rfl⟩|⟨o,rfl,ao,aon,aov⟩
   ·subst hL
    (repeat(first|((repeat(revert hN;revert N;apply Pn.out));refine wk (tw @a9 (tw @a8 (tw @ag0 (tw @ag1 (tw @a0 (tw @a2 (tw @a4 (tw @a6 (tw @a7 (tw @hi (tw @k9 (tw @vA (tw @vB (tw @vC (tw @av (tw @nA (tw @ai.eq_1 @aa.eq_1))))))))))))))))) ?_;(repeat(refine Pn.mk ?_;intro N hN)))|((try apply Or.inl);refine⟨_,au.x (eo) (sd (tw @a9 (tw @a8 (tw @ag0 (tw @ag1 (tw @a0 (tw @a2 (tw @a4 (tw @a6 (tw @a7 (tw @hi (tw @k9 (tw @vA (tw @vB (tw @vC (tw @av (tw @nA (tw @ai.eq_1 @aa.eq_1)))))))))))))))))),?_⟩;refine hN _ _ ?_;clear hN N)))
    refine cG ?_ ?_ ?_ ?_ (by(try dsimp only);exact⟨by omega,_,sl @Nat.zero_add,.inr ⟨⟨101009010,st_a.next+1+1+1+1⟩,by rw[k5,Am]<;>(simp only[go_sem, ↓reduceIte,Nat.reduceEqDiff,Nat.reduceAdd,Nat.reduceSub,Nat.reduceLeDiff,reduceCtorEq]<;>rfl),by rw[k5,xb]<;>(simp only[go_sem, ↓reduceIte,Nat.reduceEqDiff,Nat.reduceAdd,Nat.reduceSub,Nat.reduceLeDiff,reduceCtorEq]<;>rfl),by(try dsimp only);omega,by(try dsimp only);omega⟩⟩)
    all_goals simp only[go_sem, ↓reduceIte,Nat.reduceEqDiff,Nat.reduceAdd,Nat.reduceSub,Nat.reduceLeDiff,reduceCtorEq,a9,a8,ag0,ag1,a0,a2,a4,a6,a7,l7,vA,vB,vC,ai]
   ·have vo:=dP aov
    have oA:=cZ (a:=⟨101000000,n0⟩) (b:=o) (by(try dsimp only);omega)
    have oB:=cZ (a:=⟨101000001,n0⟩) (b:=o) (by(try dsimp only);omega)
    have oC:=cZ (a:=⟨101001001,n0+1⟩) (b:=o) (by(try dsimp only);omega)
    have L4:(L.map aa).length=L.length:=by simp
    have L3:L.length<=16777214:=by omega
    have PJ:L.length<=16777215:=by omega
    (repeat(first|((repeat(revert hN;revert N;apply Pn.out));refine wk (tw @a9 (tw @a8 (tw @ag0 (tw @ag1 (tw @a0 (tw @a2 (tw @a4 (tw @a6 (tw @a7 (tw @hi (tw @k9 (tw @vA (tw @vB (tw @vC (tw @vo (tw @oA (tw @oB (tw @oC (tw @ao (tw @av (tw @nA (tw @L4 (tw @L3 (tw @PJ (tw @ai.eq_1 @aa.eq_1))))))))))))))))))))))))) ?_;(repeat(refine Pn.mk ?_;intro N hN)))|((try apply Or.inl);refine⟨_,au.x (eo) (sd (tw @a9 (tw @a8 (tw @ag0 (tw @ag1 (tw @a0 (tw @a2 (tw @a4 (tw @a6 (tw @a7 (tw @hi (tw @k9 (tw @vA (tw @vB (tw @vC (tw @vo (tw @oA (tw @oB (tw @oC (tw @ao (tw @av (tw @nA (tw @L4 (tw @L3 (tw @PJ (tw @ai.eq_1 @aa.eq_1)))))))))))))))))))))))))),?_⟩;refine hN _ _ ?_;clear hN N)))
    refine cG ?_ ?_ ?_ ?_ (by(try dsimp only);exact⟨by omega,_,sl @Nat.zero_add,.inr ⟨⟨101009010,st_a.next+1+1+1+1⟩,by rw[k5,Am]<;>(simp only[go_sem, ↓reduceIte,Nat.reduceEqDiff,Nat.reduceAdd,Nat.reduceSub,Nat.reduceLeDiff,reduceCtorEq]<;>rfl),by rw[k5,xb]<;>(simp only[go_sem, ↓reduceIte,Nat.reduceEqDiff,Nat.reduceAdd,Nat.reduceSub,Nat.reduceLeDiff,reduceCtorEq]<;>rfl),by(try dsimp only);omega,by(try dsimp only);omega⟩⟩)
    all_goals simp only[go_sem, ↓reduceIte,Nat.reduceEqDiff,Nat.reduceAdd,Nat.reduceSub,Nat.reduceLeDiff,reduceCtorEq,a9,a8,ag0,ag1,a0,a2,a4,a6,a7,l7,vA,vB,vC,oA,oB,oC,ai]
 ·have nI:i=l.length:=by omega
  subst nI
  rw[List.take_length]at a8 aG KO
  cases hd:tZ q l
  ·rw[hd]at a8
   have k5:fV l ⟨p,t⟩=iW q l++[q]:=by rw[<-hq,BV hd,iW,hd];simp
   have RI:aa q=[.int .i64 p.eZ,.int .i64 p.eT,.int .i64 t]:=by rw[hq];rfl
   generalize iW q l=L at aG KO k5
   have Am:=rI L q
   have xb:(L++[q]).map aa=L.map aa++[[.int .i64 p.eZ,.int .i64 p.eT,.int .i64 t]]:=by rw[List.map_append,List.map_singleton,RI]
   rcases aG with⟨hL,rfl⟩|⟨o,rfl,ao,aon,aov⟩
   ·subst hL
    (try((repeat(revert hN;revert N;apply Pn.out));refine wk (tw @a9 (tw @a8 (tw @ag0 (tw @ag1 (tw @a0 (tw @a2 (tw @a4 (tw @a6 (tw @a7 (tw @hi (tw @vA (tw @vB (tw @vC (tw @av (tw @ai.eq_1 @aa.eq_1))))))))))))))) ?_;(repeat(refine Pn.mk ?_;intro N hN))))
    exact eV (.inl rfl) (vs:=[.agg [.own ⟨101011006,st_a.next+1+1⟩ 0 1]]) (sd (tw @a9 (tw @a8 (tw @ag0 (tw @ag1 (tw @a0 (tw @a2 (tw @a4 (tw @a6 (tw @a7 @vB)))))))))) ⟨⟨101011006,st_a.next+1+1⟩,by rw[k5];rfl,by rw[k5];simp only[go_sem, ↓reduceIte,Nat.reduceEqDiff,Nat.reduceAdd,Nat.reduceSub,Nat.reduceLeDiff,reduceCtorEq,vB];rw[RI],by(try dsimp only);omega,by(try dsimp only);omega⟩
   ·have vo:=dP aov
    have oA:=cZ (a:=⟨101000000,n0⟩) (b:=o) (by(try dsimp only);omega)
    have oB:=cZ (a:=⟨101000001,n0⟩) (b:=o) (by(try dsimp only);omega)
    have oC:=cZ (a:=⟨101001001,n0+1⟩) (b:=o) (by(try dsimp only);omega)
    have L4:(L.map aa).length=L.length:=by simp
    have L3:L.length<=16777215:=by omega
    (try((repeat(revert hN;revert N;apply Pn.out));refine wk (tw @a9 (tw @a8 (tw @ag0 (tw @ag1 (tw @a0 (tw @a2 (tw @a4 (tw @a6 (tw @a7 (tw @hi (tw @vA (tw @vB (tw @vC (tw @vo (tw @oA (tw @oB (tw @oC (tw @ao (tw @av (tw @L4 (tw @L3 (tw @ai.eq_1 @aa.eq_1)))))))))))))))))))))) ?_;(repeat(refine Pn.mk ?_;intro N hN))))
    exact eV (.inl rfl) (vs:=[.agg [.own ⟨101011006,st_a.next+1+1⟩ 0 (L.length+1)]]) (sd (tw @a9 (tw @a8 (tw @ag0 (tw @ag1 (tw @a0 (tw @a2 (tw @a4 (tw @a6 (tw @a7 @vB)))))))))) ⟨⟨101011006,st_a.next+1+1⟩,by rw[k5,Am];rfl,by rw[k5,xb];simp only[go_sem, ↓reduceIte,Nat.reduceEqDiff,Nat.reduceAdd,Nat.reduceSub,Nat.reduceLeDiff,reduceCtorEq,vB],by(try dsimp only);omega,by(try dsimp only);omega⟩
  ·rw[hd]at a8
   have k5:fV l ⟨p,t⟩=iW q l:=by rw[<-hq,iW,hd];simp
   have jA:0<(iW q l).length:=by rw[<-k5,kM];omega
   generalize iW q l=L at aG KO jA k5
   rcases aG with⟨hL,rfl⟩|⟨o,rfl,ao,aon,aov⟩
   ·subst hL;cases jA
   ·have vo:=dP aov
    have oB:=cZ (a:=⟨101000001,n0⟩) (b:=o) (by(try dsimp only);omega)
    (try((repeat(revert hN;revert N;apply Pn.out));refine wk (tw @a9 (tw @a8 (tw @ag0 (tw @ag1 (tw @a0 (tw @a2 (tw @a4 (tw @a6 (tw @a7 (tw @hi (tw @vA (tw @vB (tw @vC (tw @vo (tw @ao (tw @av (tw @ai.eq_1 @aa.eq_1))))))))))))))))) ?_;(repeat(refine Pn.mk ?_;intro N hN))))
    exact eV (.inl rfl) (vs:=[.agg [.own o 0 L.length]]) (sd (tw @a9 (tw @a8 (tw @ag0 (tw @ag1 (tw @a0 (tw @a2 (tw @a4 (tw @a6 (tw @a7 @vB)))))))))) ⟨o,by rw[k5];rfl,by rw[k5];simp only[go_sem, ↓reduceIte,Nat.reduceEqDiff,Nat.reduceAdd,Nat.reduceSub,Nat.reduceLeDiff,reduceCtorEq,vB,oB,ao],by(try dsimp only);omega,by(try dsimp only);omega⟩
end Go.Proofs.YtgoelphibofcmaaGreat.V

namespace Go.Proofs.YtgoelphibofcmaaGreat.V
open Go.RowKit
attribute [local irreducible] eh wpOps fI Call
attribute [local go_sem] aM fj eJ fF fE da upd cu K.av cI AV.cells AV.cell rowOf rowsOf part ld rowAt bK bV dq dM gy bD cY dY fA eS dk dR cW cV dD dE bG bc cL bF cP cN dO dS dQ cK bL cX dN bE aO cR cz gx bm cH bH aY dp bl dr AV.undef bt bz dF dL dy dC cF dX eb cw dV dU cQ cU List.getD_cons_zero List.getD_cons_succ List.getD_nil List.all_cons List.all_nil Bool.and_true Bool.true_and Bool.and_self Bool.not_true Bool.not_false Option.map_some Option.map_none Option.bind_some Option.bind_none List.length_cons List.length_nil List.take_succ_cons List.take_zero List.take_nil List.drop_succ_cons List.drop_zero List.drop_nil List.head?_cons List.map_cons List.map_nil List.getElem?_cons_zero List.getElem?_cons_succ List.cons_append List.nil_append List.append_nil List.length_map List.set_cons_zero List.set_cons_succ Nat.reduceMul eq_self Int.toNat_natCast Int.natCast_nonneg and_self true_and and_true decide_true decide_false Bool.false_eq_true Nat.zero_add Nat.add_zero List.contains_cons List.contains_nil Bool.or_false Bool.false_or beq_self_eq_true Nat.reduceBEq ne_eq not_true_eq_false not_false_eq_true Id.mk.injEq false_and and_false Nat.reduceLT Int.reduceLE Int.reduceLT Int.reduceToNat Int.reduceNeg Int.reduceAdd Nat.le_refl List.length_append beq_true beq_false Bool.not_eq_eq_eq_not or_false false_or dK aj ar aH bd br bW aT aZ aU bf cJ bw
def R6 (X:Id) (st:tU) (e7:AV) (g:Rows) (n:Nat):Prop:=∃o u:Id,g X=some ⟨true,1,[[.own o 0 st.2.length]]⟩/\g o=some ⟨true,3,st.2.map aa⟩/\e7=.own u 0 st.1.length/\g u=some ⟨true,3,st.1.map aa⟩/\o.cq<u.cq/\X.cq<u.cq/\u.cq<n/\o≠X
theorem R6.frame {X:Id} {st:tU} {e7 Px:AV} {g g':Rows} {n n':Nat} (h:R6 X st e7 g n) (he:Px=e7) (hn:n<=n') (hf:∀x:Id,x.cq<n->g' x=g x):R6 X st Px g' n':=by
 obtain⟨o,u,h1,h2,h3,h4,h5,h6,h7,h8⟩:=h
 exact⟨o,u,(hf X (by omega)).trans h1,(hf o (by omega)).trans h2,he.trans h3,(hf u h7).trans h4,h5,h6,by omega,h8⟩
end Go.Proofs.YtgoelphibofcmaaGreat.V

namespace Go.Proofs.YtgoelphibofcmaaGreat.V
open Go.RowKit
attribute [local irreducible] eh wpOps fI Call
attribute [local go_sem] aM fj eJ fF fE da upd cu K.av cI AV.cells AV.cell rowOf rowsOf part ld rowAt bK bV dq dM gy bD cY dY fA eS dk dR cW cV dD dE bG bc cL bF cP cN dO dS dQ cK bL cX dN bE aO cR cz gx bm cH bH aY dp bl dr AV.undef bt bz dF dL dy dC cF dX eb cw dV dU cQ cU List.getD_cons_zero List.getD_cons_succ List.getD_nil List.all_cons List.all_nil Bool.and_true Bool.true_and Bool.and_self Bool.not_true Bool.not_false Option.map_some Option.map_none Option.bind_some Option.bind_none List.length_cons List.length_nil List.take_succ_cons List.take_zero List.take_nil List.drop_succ_cons List.drop_zero List.drop_nil List.head?_cons List.map_cons List.map_nil List.getElem?_cons_zero List.getElem?_cons_succ List.cons_append List.nil_append List.append_nil List.length_map List.set_cons_zero List.set_cons_succ Nat.reduceMul eq_self Int.toNat_natCast Int.natCast_nonneg and_self true_and and_true decide_true decide_false Bool.false_eq_true Nat.zero_add Nat.add_zero List.contains_cons List.contains_nil Bool.or_false Bool.false_or beq_self_eq_true Nat.reduceBEq ne_eq not_true_eq_false not_false_eq_true Id.mk.injEq false_and and_false Nat.reduceLT Int.reduceLE Int.reduceLT Int.reduceToNat Int.reduceNeg Int.reduceAdd Nat.le_refl List.length_append beq_true beq_false Bool.not_eq_eq_eq_not or_false false_or dK aj ar aH bd br bW aT aZ aU bf cJ bw
def AtK (n:Nat) (l:List ah) (x:ah) (r:AV) (σ':aw):Prop:=(500<=l.length/\r=.iO [.agg [.bq],.int .i64 4])∨(l.length<500/\∃o:Id,r=.iO [.agg [.own o 0 (fV l x).length],.int .i64 0]/\σ'.get o=some ⟨true,3,(fV l x).map aa⟩/\n<=o.cq/\o.cq<σ'.next)
theorem tE (l:List ah) (hl:l.length<=1048576) (x:ah) (n0:Nat):Call Tryz.prog 81 [.di [.sl (l.map aa)],.agg (aa x)] ⟨fun _=>none,n0⟩ (AtK n0 l x):=by
 refine fc eG rfl fun lf=>?_
 clear lf
 by_cases h5:500<=l.length
 ·have hd:((500:Nat):Int)<=(l.length:Int):=by omega
  have l7:(500:Int)<=(l.length:Int):=by omega
  (try((repeat(revert hN;revert N;apply Pn.out));refine wk (tw @aa.eq_1 (tw @hd @l7)) ?_;(repeat(refine Pn.mk ?_;intro N hN))))
  exact eV (.inl rfl) (vs:=[.agg [.bq],.int .i64 4]) (sd @Nat.zero_add) (.inl ⟨h5,rfl⟩)
 ·have l7:¬(500:Int)<=(l.length:Int):=by omega
  (try((repeat(revert hN;revert N;apply Pn.out));refine wk (tw @aa.eq_1 @l7) ?_;(repeat(refine Pn.mk ?_;intro N hN))))
  refine .inr (aJ _ _ _ _ _ (fun r σ1 hq=>?_) (Pf.val (fun n=>ID l hl x.aW x.aP n) (by simp only[aj,ar,aU,aZ,aH,Option.map_some];rfl)))
  obtain⟨⟨o,rfl,q1,q2,q3⟩,hK⟩:=hq
  obtain⟨g1,x1⟩:=σ1
  (try dsimp only at q1 q2 q3 hK)
  have hx:(⟨x.aW,x.aP⟩:ah)=x:=rfl
  rw[hx]at q1 ⊢
  have k4:=hK.2 ⟨81000001,n0⟩ (by(try dsimp only);omega)
  simp only[go_sem, ↓reduceIte,Nat.reduceEqDiff,Nat.reduceAdd,Nat.reduceSub,Nat.reduceLeDiff,reduceCtorEq]at k4
  have vo:=cZ (a:=⟨81000001,n0⟩) (b:=o) (by(try dsimp only at q2);(try dsimp only);omega)
  refine hN _ _ ?_
  clear hN N
  (try((repeat(revert hN;revert N;apply Pn.out));refine wk @k4 ?_;(repeat(refine Pn.mk ?_;intro N hN))))
  exact eV (.inl rfl) (vs:=[.agg [.own o 0 (fV l x).length],.int .i64 0]) (sd @Nat.zero_add) (.inr ⟨by omega,o,rfl,sd (tw @vo @q1),by(try dsimp only at q2);omega,by(try dsimp only);omega⟩)
end Go.Proofs.YtgoelphibofcmaaGreat.V

namespace Go.Proofs.YtgoelphibofcmaaGreat.V
open Go.RowKit Go.Shelf Go.Lib Go.Sort
instance:Inhabited ah:=⟨⟨⟨0,0⟩,0⟩⟩
variable {P:Program} {w:World} {D:Nat->Prop} {ι:Names}
end Go.Proofs.YtgoelphibofcmaaGreat.V

namespace Go.Proofs.YtgoelphibofcmaaGreat.V
open Go.RowKit
attribute [local irreducible] eh wpOps fI Call
attribute [local go_sem] aM fj eJ fF fE da upd cu K.av cI AV.cells AV.cell rowOf rowsOf part ld rowAt bK bV dq dM gy bD cY dY fA eS dk dR cW cV dD dE bG bc cL bF cP cN dO dS dQ cK bL cX dN bE aO cR cz gx bm cH bH aY dp bl dr AV.undef bt bz dF dL dy dC cF dX eb cw dV dU cQ cU List.getD_cons_zero List.getD_cons_succ List.getD_nil List.all_cons List.all_nil Bool.and_true Bool.true_and Bool.and_self Bool.not_true Bool.not_false Option.map_some Option.map_none Option.bind_some Option.bind_none List.length_cons List.length_nil List.take_succ_cons List.take_zero List.take_nil List.drop_succ_cons List.drop_zero List.drop_nil List.head?_cons List.map_cons List.map_nil List.getElem?_cons_zero List.getElem?_cons_succ List.cons_append List.nil_append List.append_nil List.length_map List.set_cons_zero List.set_cons_succ Nat.reduceMul eq_self Int.toNat_natCast Int.natCast_nonneg and_self true_and and_true decide_true decide_false Bool.false_eq_true Nat.zero_add Nat.add_zero List.contains_cons List.contains_nil Bool.or_false Bool.false_or beq_self_eq_true Nat.reduceBEq ne_eq not_true_eq_false not_false_eq_true Id.mk.injEq false_and and_false Nat.reduceLT Int.reduceLE Int.reduceLT Int.reduceToNat Int.reduceNeg Int.reduceAdd Nat.le_refl List.length_append beq_true beq_false Bool.not_eq_eq_eq_not or_false false_or dK aj ar aH bd br bW aT aZ aU bf cJ bw
end Go.Proofs.YtgoelphibofcmaaGreat.V

namespace Go.Proofs.YtgoelphibofcmaaGreat.V
open Go.RowKit
attribute [local irreducible] eh wpOps fI Call
attribute [local go_sem] aM fj eJ fF fE da upd cu K.av cI AV.cells AV.cell rowOf rowsOf part ld rowAt bK bV dq dM gy bD cY dY fA eS dk dR cW cV dD dE bG bc cL bF cP cN dO dS dQ cK bL cX dN bE aO cR cz gx bm cH bH aY dp bl dr AV.undef bt bz dF dL dy dC cF dX eb cw dV dU cQ cU List.getD_cons_zero List.getD_cons_succ List.getD_nil List.all_cons List.all_nil Bool.and_true Bool.true_and Bool.and_self Bool.not_true Bool.not_false Option.map_some Option.map_none Option.bind_some Option.bind_none List.length_cons List.length_nil List.take_succ_cons List.take_zero List.take_nil List.drop_succ_cons List.drop_zero List.drop_nil List.head?_cons List.map_cons List.map_nil List.getElem?_cons_zero List.getElem?_cons_succ List.cons_append List.nil_append List.append_nil List.length_map List.set_cons_zero List.set_cons_succ Nat.reduceMul eq_self Int.toNat_natCast Int.natCast_nonneg and_self true_and and_true decide_true decide_false Bool.false_eq_true Nat.zero_add Nat.add_zero List.contains_cons List.contains_nil Bool.or_false Bool.false_or beq_self_eq_true Nat.reduceBEq ne_eq not_true_eq_false not_false_eq_true Id.mk.injEq false_and and_false Nat.reduceLT Int.reduceLE Int.reduceLT Int.reduceToNat Int.reduceNeg Int.reduceAdd Nat.le_refl List.length_append beq_true beq_false Bool.not_eq_eq_eq_not or_false false_or dK aj ar aH bd br bW aT aZ aU bf cJ bw
end Go.Proofs.YtgoelphibofcmaaGreat.V

namespace Go.Proofs.YtgoelphibofcmaaGreat.V
open Go.RowKit
attribute [local irreducible] eh wpOps fI Call
attribute [local go_sem] aM fj eJ fF fE da upd cu K.av cI AV.cells AV.cell rowOf rowsOf part ld rowAt bK bV dq dM gy bD cY dY fA eS dk dR cW cV dD dE bG bc cL bF cP cN dO dS dQ cK bL cX dN bE aO cR cz gx bm cH bH aY dp bl dr AV.undef bt bz dF dL dy dC cF dX eb cw dV dU cQ cU List.getD_cons_zero List.getD_cons_succ List.getD_nil List.all_cons List.all_nil Bool.and_true Bool.true_and Bool.and_self Bool.not_true Bool.not_false Option.map_some Option.map_none Option.bind_some Option.bind_none List.length_cons List.length_nil List.take_succ_cons List.take_zero List.take_nil List.drop_succ_cons List.drop_zero List.drop_nil List.head?_cons List.map_cons List.map_nil List.getElem?_cons_zero List.getElem?_cons_succ List.cons_append List.nil_append List.append_nil List.length_map List.set_cons_zero List.set_cons_succ Nat.reduceMul eq_self Int.toNat_natCast Int.natCast_nonneg and_self true_and and_true decide_true decide_false Bool.false_eq_true Nat.zero_add Nat.add_zero List.contains_cons List.contains_nil Bool.or_false Bool.false_or beq_self_eq_true Nat.reduceBEq ne_eq not_true_eq_false not_false_eq_true Id.mk.injEq false_and and_false Nat.reduceLT Int.reduceLE Int.reduceLT Int.reduceToNat Int.reduceNeg Int.reduceAdd Nat.le_refl List.length_append beq_true beq_false Bool.not_eq_eq_eq_not or_false false_or dK aj ar aH bd br bW aT aZ aU bf cJ bw
end Go.Proofs.YtgoelphibofcmaaGreat.V

namespace Go.Proofs.YtgoelphibofcmaaGreat.V
open Go.RowKit
attribute [local irreducible] eh wpOps fI Call
attribute [local go_sem] aM fj eJ fF fE da upd cu K.av cI AV.cells AV.cell rowOf rowsOf part ld rowAt bK bV dq dM gy bD cY dY fA eS dk dR cW cV dD dE bG bc cL bF cP cN dO dS dQ cK bL cX dN bE aO cR cz gx bm cH bH aY dp bl dr AV.undef bt bz dF dL dy dC cF dX eb cw dV dU cQ cU List.getD_cons_zero List.getD_cons_succ List.getD_nil List.all_cons List.all_nil Bool.and_true Bool.true_and Bool.and_self Bool.not_true Bool.not_false Option.map_some Option.map_none Option.bind_some Option.bind_none List.length_cons List.length_nil List.take_succ_cons List.take_zero List.take_nil List.drop_succ_cons List.drop_zero List.drop_nil List.head?_cons List.map_cons List.map_nil List.getElem?_cons_zero List.getElem?_cons_succ List.cons_append List.nil_append List.append_nil List.length_map List.set_cons_zero List.set_cons_succ Nat.reduceMul eq_self Int.toNat_natCast Int.natCast_nonneg and_self true_and and_true decide_true decide_false Bool.false_eq_true Nat.zero_add Nat.add_zero List.contains_cons List.contains_nil Bool.or_false Bool.false_or beq_self_eq_true Nat.reduceBEq ne_eq not_true_eq_false not_false_eq_true Id.mk.injEq false_and and_false Nat.reduceLT Int.reduceLE Int.reduceLT Int.reduceToNat Int.reduceNeg Int.reduceAdd Nat.le_refl List.length_append beq_true beq_false Bool.not_eq_eq_eq_not or_false false_or dK aj ar aH bd br bW aT aZ aU bf cJ bw
theorem nU.three {g g':Rows} {n n':Nat} {c T O:Id} {s:aI} {ts:List ah} (h:nU g n c T O s ts) (hn:n<=n') (hc:g' c=g c) (hT:g' T=g T) (hO:g' O=g O):nU g' n' c T O s ts:=
 ⟨hc.trans h.row,hT.trans h.tl,by rw[hO];exact h.op,Nat.lt_of_lt_of_le h.cv hn,Nat.lt_of_lt_of_le h.tv hn,Nat.lt_of_lt_of_le h.ov hn,h.cT,h.cO,h.TO⟩
theorem yK (q:ah):∀l:List ah,(l++[q]).Perm (fV l q)
 |[]=>List.Perm.refl _
 |x::l=>by
  have ih:=yK q l
  rw[fV]
  split
  ·exact List.perm_append_comm (l₁:=x::l) (l₂:=[q])
  ·exact ih.cons x
structure Ay (s:aI) (S:tU):Prop where
 at_:∀q,gm (s.bx.aq++S.1) q=gm S.2 q
 perm:(s.bx.aq++S.1).Perm S.2
theorem Ay.no {s:aI} {S:tU} (h:Ay s S) {p:aE} (h0:eE S.2 p<0):eE (s.bx.aq++S.1) p<0:=pf.2 fun t ht=>pf.1 h0 t (h.perm.subset ht)
theorem Ay.put {s:aI} {S:tU} (h:Ay s S) {x:ah} (h0:eE S.2 x.aW<0):Ay s (S.1++[x],fV S.2 x) where
 at_ q:=by
  show gm (s.bx.aq++(S.1++[x])) q=gm (fV S.2 x) q
  rw[<-List.append_assoc,El q (pf.1 (h.no h0)),AB q (pf.1 h0),h.at_]
 perm:=by
  show(s.bx.aq++(S.1++[x])).Perm (fV S.2 x)
  rw[<-List.append_assoc]
  exact(h.perm.append_right [x]).trans (yK x S.2)
structure R7 (σ:aw) (m:Nat) (c T O:Id) (s:aI) (l:List ah) (S:tU) (e7:AV) (g:Rows) (n:Nat):Prop where
 AO:nU g n c T O s (s.bx.aq++S.1)
 u:(S.1=[]/\e7=.bq)∨∃u:Id,e7=.own u 0 S.1.length/\g u=some ⟨true,3,S.1.map aa⟩/\m<=u.cq/\u.cq<n/\0<S.1.length
 lo:m<=n
 fr:∀x:Id,x.cq<m->x≠T->x≠O->x≠c->g x=σ.get x
theorem R7.frame {σ:aw} {m:Nat} {c T O:Id} {s:aI} {l:List ah} {S:tU} {e7 Px:AV} {g g':Rows} {n n':Nat} (h:R7 σ m c T O s l S e7 g n) (he:Px=e7) (hn:n<=n') (hf:∀x:Id,x.cq<n->g' x=g x):R7 σ m c T O s l S Px g' n' where
 AO:=h.AO.frame hn hf
 u:=by
  subst he
  rcases h.u with h1|⟨u,h1,h2,h3,h4,h5⟩
  ·exact .inl h1
  ·exact .inr ⟨u,h1,(hf u h4).trans h2,h3,by omega,h5⟩
 lo:=Nat.le_trans h.lo hn
 fr x hx h1 h2 h3:=(hf x (Nat.lt_of_lt_of_le hx h.lo)).trans (h.fr x hx h1 h2 h3)
end Go.Proofs.YtgoelphibofcmaaGreat.V

namespace Go.Proofs.YtgoelphibofcmaaGreat.V
open Go.RowKit
attribute [local irreducible] eh wpOps fI Call
attribute [local go_sem] aM fj eJ fF fE da upd cu K.av cI AV.cells AV.cell rowOf rowsOf part ld rowAt bK bV dq dM gy bD cY dY fA eS dk dR cW cV dD dE bG bc cL bF cP cN dO dS dQ cK bL cX dN bE aO cR cz gx bm cH bH aY dp bl dr AV.undef bt bz dF dL dy dC cF dX eb cw dV dU cQ cU List.getD_cons_zero List.getD_cons_succ List.getD_nil List.all_cons List.all_nil Bool.and_true Bool.true_and Bool.and_self Bool.not_true Bool.not_false Option.map_some Option.map_none Option.bind_some Option.bind_none List.length_cons List.length_nil List.take_succ_cons List.take_zero List.take_nil List.drop_succ_cons List.drop_zero List.drop_nil List.head?_cons List.map_cons List.map_nil List.getElem?_cons_zero List.getElem?_cons_succ List.cons_append List.nil_append List.append_nil List.length_map List.set_cons_zero List.set_cons_succ Nat.reduceMul eq_self Int.toNat_natCast Int.natCast_nonneg and_self true_and and_true decide_true decide_false Bool.false_eq_true Nat.zero_add Nat.add_zero List.contains_cons List.contains_nil Bool.or_false Bool.false_or beq_self_eq_true Nat.reduceBEq ne_eq not_true_eq_false not_false_eq_true Id.mk.injEq false_and and_false Nat.reduceLT Int.reduceLE Int.reduceLT Int.reduceToNat Int.reduceNeg Int.reduceAdd Nat.le_refl List.length_append beq_true beq_false Bool.not_eq_eq_eq_not or_false false_or dK aj ar aH bd br bW aT aZ aU bf cJ bw
end Go.Proofs.YtgoelphibofcmaaGreat.V

namespace Go.Proofs.YtgoelphibofcmaaGreat.V
open Go.RowKit
attribute [local irreducible] eh wpOps fI Call
attribute [local go_sem] aM fj eJ fF fE da upd cu K.av cI AV.cells AV.cell rowOf rowsOf part ld rowAt bK bV dq dM gy bD cY dY fA eS dk dR cW cV dD dE bG bc cL bF cP cN dO dS dQ cK bL cX dN bE aO cR cz gx bm cH bH aY dp bl dr AV.undef bt bz dF dL dy dC cF dX eb cw dV dU cQ cU List.getD_cons_zero List.getD_cons_succ List.getD_nil List.all_cons List.all_nil Bool.and_true Bool.true_and Bool.and_self Bool.not_true Bool.not_false Option.map_some Option.map_none Option.bind_some Option.bind_none List.length_cons List.length_nil List.take_succ_cons List.take_zero List.take_nil List.drop_succ_cons List.drop_zero List.drop_nil List.head?_cons List.map_cons List.map_nil List.getElem?_cons_zero List.getElem?_cons_succ List.cons_append List.nil_append List.append_nil List.length_map List.set_cons_zero List.set_cons_succ Nat.reduceMul eq_self Int.toNat_natCast Int.natCast_nonneg and_self true_and and_true decide_true decide_false Bool.false_eq_true Nat.zero_add Nat.add_zero List.contains_cons List.contains_nil Bool.or_false Bool.false_or beq_self_eq_true Nat.reduceBEq ne_eq not_true_eq_false not_false_eq_true Id.mk.injEq false_and and_false Nat.reduceLT Int.reduceLE Int.reduceLT Int.reduceToNat Int.reduceNeg Int.reduceAdd Nat.le_refl List.length_append beq_true beq_false Bool.not_eq_eq_eq_not or_false false_or dK aj ar aH bd br bW aT aZ aU bf cJ bw
def n9 (P:Program) (f:Nat) (args:List AV) (L:List ah) (c:Int):Prop:=
 ∀n:Nat,Call P f args ⟨fun _=>none,n⟩ (fun r σ'=>∃v ids,r=.iO [.agg [v],.int .i64 c]/\og aa 3 σ'.get v L ids/\fU n σ'.next ids)
section
variable {P:Program} {L:List ah}
theorem xI (hm:P.follows .mixedOrders=true) {f:Nat} {args eF:List AV} {σ:aw} {c:Int} (h:n9 P f eF L c) (hv:dd (dK σ.get) 6 args=some eF):
  Call P f args σ (fun r σ'=>∃v ids,r=.iO [.agg [v],.int .i64 c]/\og aa 3 σ'.get v L ids/\fU σ.next σ'.next ids/\Kept σ σ'):=by
 refine Au hm hv (aJ _ _ _ _ _ (fun r σ' hq=>?_) (xJ hm (h σ.next)))
 obtain⟨⟨v,ids,rfl,ho,hi⟩,hn⟩:=hq
 refine⟨ids,?_,?_,v,ids,rfl,?_,hi,hn,fun j hj=>pD fun hc=>?_⟩
 ·rcases ho with⟨_,rfl,_⟩|⟨o,rfl,_⟩<;>rfl
 ·rcases ho with⟨_,_,rfl⟩|⟨o,_,h2,rfl,_⟩
  ·intro i hi;cases hi
  ·intro i hi
   rw[List.mem_singleton.1 hi]
   refine⟨_,h2,rfl,fun cs du a ha=>?_⟩
   obtain⟨x,_,rfl⟩:=List.mem_map.1 du
   simp[aa]at ha
   rcases ha with rfl|rfl|rfl<;>rfl
 ·exact ho.frame fun i hi=>rZ hi
 ·have:=(hi.2 j hc).1;omega
theorem n9.s {f:Nat} {args:List AV} {c:Int} (h:n9 P f args L c):au P f args (.iO [.agg [N1 aa L],.int .i64 c]):=fun n=>
 aJ _ _ _ _ _ (fun r σ' hq=>by
  obtain⟨v,ids,rfl,ho,hi⟩:=hq
  rcases ho with⟨rfl,rfl,_⟩|⟨o,rfl,h2,_,hp⟩
  ·exact⟨_,by simp only[eM,bJ,cD,re,jj,eA,Option.map_some];rfl,rfl⟩
  ·have:=fG (e:=aa) (n:=3) h2 rfl fun x=>LZ _ 2 x
   exact⟨_,by simp only[eM,bJ,cD,re,this,eA,Option.map_some];rfl,by rw[N1,if_neg (by omega)]⟩) (h n)
end
end Go.Proofs.YtgoelphibofcmaaGreat.V

namespace Go.Proofs.YtgoelphibofcmaaGreat.V
open Go.RowKit
attribute [local irreducible] eh wpOps fI Call
attribute [local go_sem] aM fj eJ fF fE da upd cu K.av cI AV.cells AV.cell rowOf rowsOf part ld rowAt bK bV dq dM gy bD cY dY fA eS dk dR cW cV dD dE bG bc cL bF cP cN dO dS dQ cK bL cX dN bE aO cR cz gx bm cH bH aY dp bl dr AV.undef bt bz dF dL dy dC cF dX eb cw dV dU cQ cU List.getD_cons_zero List.getD_cons_succ List.getD_nil List.all_cons List.all_nil Bool.and_true Bool.true_and Bool.and_self Bool.not_true Bool.not_false Option.map_some Option.map_none Option.bind_some Option.bind_none List.length_cons List.length_nil List.take_succ_cons List.take_zero List.take_nil List.drop_succ_cons List.drop_zero List.drop_nil List.head?_cons List.map_cons List.map_nil List.getElem?_cons_zero List.getElem?_cons_succ List.cons_append List.nil_append List.append_nil List.length_map List.set_cons_zero List.set_cons_succ eq_self Int.toNat_natCast Int.natCast_nonneg and_self true_and and_true decide_true decide_false Bool.false_eq_true Nat.zero_add Nat.add_zero List.contains_cons List.contains_nil Bool.or_false Bool.false_or beq_self_eq_true ne_eq not_true_eq_false not_false_eq_true Id.mk.injEq false_and and_false Nat.le_refl List.length_append beq_true beq_false Bool.not_eq_eq_eq_not or_false false_or dK aj ar aH bd br bW aT aZ aU bf cJ bw
theorem gT.cell {α:Type} {e:α->List AV} {L:List α} {w:AV} (h:gT e L w):w.cells=[w]/\w.cell=true:=by
 rcases h with⟨rfl,rfl⟩|rfl<;>exact⟨rfl,rfl⟩
theorem og.cell {α:Type} {e:α->List AV} {z:Nat} {g:Rows} {v:AV} {L:List α} {ids:List Id} (h:og e z g v L ids):v.cells=[v]/\v.cell=true:=by
 rcases h with⟨_,rfl,_⟩|⟨o,rfl,_⟩<;>exact⟨rfl,rfl⟩
theorem lp {g:Rows} {v w:AV} (h:fz g 5 v=some w):fz g 6 (.agg [v])=some (.agg [w]):=by simp only[aZ,aj,ar,h,Option.map_some]
theorem gT.Ku {α:Type} {e:α->List AV} {L:List α} {w:AV} (h:gT e L w) (g:Rows):V.fz g 5 w=some w:=by
 rcases h with⟨rfl,rfl⟩|rfl
 ·exact aT _ _
 ·exact bW _ _ _
theorem og.Ku {α:Type} {e:α->List AV} {z:Nat} {g:Rows} {v:AV} {L:List α} {ids:List Id} (h:og e z g v L ids) (he:∀x g,dd g 4 (e x)=some (e x)):∃w,V.fz (dK g) 5 v=some w/\gT e L w:=by
 rcases h with⟨rfl,rfl,_⟩|⟨o,rfl,h2,_⟩
 ·exact⟨.bq,aT _ _,.inl ⟨rfl,rfl⟩⟩
 ·exact⟨_,gG (e:=e) (sz:=z) (by simp[dK,h2]) rfl fun x=>he x _,.inr rfl⟩
theorem gT.fzn {α:Type} {e:α->List AV} {L:List α} {w:AV} (h:gT e L w) (g:Rows) (n:Nat):V.fz g (n+1) w=some w:=by
 rcases h with⟨rfl,rfl⟩|rfl
 ·exact aT _ _
 ·exact bW _ _ _
end Go.Proofs.YtgoelphibofcmaaGreat.V

namespace Go.Proofs.YtgoelphibofcmaaGreat.V
open Go.RowKit
attribute [local irreducible] eh wpOps fI Call
attribute [local go_sem] aM fj eJ fF fE da upd cu K.av cI AV.cells AV.cell rowOf rowsOf part ld rowAt bK bV dq dM gy bD cY dY fA eS dk dR cW cV dD dE bG bc cL bF cP cN dO dS dQ cK bL cX dN bE aO cR cz gx bm cH bH aY dp bl dr AV.undef bt bz dF dL dy dC cF dX eb cw dV dU cQ cU List.getD_cons_zero List.getD_cons_succ List.getD_nil List.all_cons List.all_nil Bool.and_true Bool.true_and Bool.and_self Bool.not_true Bool.not_false Option.map_some Option.map_none Option.bind_some Option.bind_none List.length_cons List.length_nil List.take_succ_cons List.take_zero List.take_nil List.drop_succ_cons List.drop_zero List.drop_nil List.head?_cons List.map_cons List.map_nil List.getElem?_cons_zero List.getElem?_cons_succ List.cons_append List.nil_append List.append_nil List.length_map List.set_cons_zero List.set_cons_succ Nat.reduceMul eq_self Int.toNat_natCast Int.natCast_nonneg and_self true_and and_true decide_true decide_false Bool.false_eq_true Nat.zero_add Nat.add_zero List.contains_cons List.contains_nil Bool.or_false Bool.false_or beq_self_eq_true Nat.reduceBEq ne_eq not_true_eq_false not_false_eq_true Id.mk.injEq false_and and_false Nat.reduceLT Int.reduceLE Int.reduceLT Int.reduceToNat Int.reduceNeg Int.reduceAdd Nat.le_refl List.length_append beq_true beq_false Bool.not_eq_eq_eq_not or_false false_or dK aj ar aH bd br bW aT aZ aU bf cJ bw
noncomputable def yX (s:aI) (l:List ah) (x:ah):List ah×Int:=
 if gu s l=0 then(if (ea s.aD x.aP&&gP s l x.aW x.aP)=true then(if 500<=l.length then([],4)else(fV l x,0))else([],2))else([],gu s l)
theorem Hq {s:aI} {l:List ah} {x:ah} (h:gu s l≠0):yX s l x=([],gu s l):=if_neg h
theorem sn {s:aI} {l:List ah} {x:ah} (h:gu s l=0) (h2:(ea s.aD x.aP&&gP s l x.aW x.aP)=false):yX s l x=([],2):=by
 rw[yX,if_pos h,h2];rfl
theorem Hp {s:aI} {l:List ah} {x:ah} (h:gu s l=0) (h2:(ea s.aD x.aP&&gP s l x.aW x.aP)=true) (h3:500<=l.length):yX s l x=([],4):=by
 rw[yX,if_pos h,if_pos h2,if_pos h3]
theorem Kf {s:aI} {l:List ah} {x:ah} (h:gu s l=0) (h2:(ea s.aD x.aP&&gP s l x.aW x.aP)=true) (h3:¬500<=l.length):yX s l x=(fV l x,0):=by
 rw[yX,if_pos h,if_pos h2,if_neg h3]
theorem GV {s:aI} {l:List ah} (hA:lE s.aD l) {p:aE} {t:Int} (h:gP s l p t=true):eE l p<0:=by
 simp[gP]at h
 exact(CG hA p).1 h.1.2
theorem Gb (s:aI) (l:List ah) (p:aE) (t:Int) (ht:ea s.aD t=false):au Tryz.prog 80 [.di (az s),.di [.sl (l.map aa)],.agg [.int .i64 p.eZ,.int .i64 p.eT,.int .i64 t]] (.bool false):=by
 refine au.body eG rfl fun lf n0=>?_
 clear lf
 have h1:=qz p
 have h2:=(qC s.aD t).cut mixed (.ptr _ [.sl (s.bx.aq.map aa),.int .i64 s.ay] (.same _ .nil))
 rw[ht]at h2
 cases h0:Ar p
 ·rw[h0]at h1
  (repeat(first|((repeat(revert hN;revert N;apply Pn.out));refine wk (tw @az.eq_1 (tw @ae.eq_1 @ai.eq_1)) ?_;(repeat(refine Pn.mk ?_;intro N hN)))|((try apply Or.inl);refine⟨_,au.x (h1) (sd (tw @az.eq_1 (tw @ae.eq_1 @ai.eq_1))),?_⟩;refine hN _ _ ?_;clear hN N)))
  exact aX (b:=false) (.inl rfl) (sd @Nat.zero_add) rfl
 ·rw[h0]at h1
  (repeat(first|((repeat(revert hN;revert N;apply Pn.out));refine wk (tw @az.eq_1 (tw @ae.eq_1 @ai.eq_1)) ?_;(repeat(refine Pn.mk ?_;intro N hN)))|((try apply Or.inl);refine⟨_,au.x (h1) (sd (tw @az.eq_1 (tw @ae.eq_1 @ai.eq_1))),?_⟩;refine hN _ _ ?_;clear hN N)|((try apply Or.inl);refine⟨_,au.x (h2) (sd (tw @az.eq_1 (tw @ae.eq_1 @ai.eq_1))),?_⟩;refine hN _ _ ?_;clear hN N)))
  exact aX (b:=false) (.inl rfl) (sd @Nat.zero_add) rfl
theorem Ds (s:aI) (hP:uO s) (l:List ah) (hA:lE s.aD l) (p:aE) (t:Int):au Tryz.prog 80 [.di (az s),.di [.sl (l.map aa)],.agg [.int .i64 p.eZ,.int .i64 p.eT,.int .i64 t]] (.bool (ea s.aD t&&gP s l p t)):=by
 cases ht:ea s.aD t
 ·exact Gb s l p t ht
 ·have:=Gc s hP l hA p t ht
  rw[Bool.true_and];exact this
def atR (l:List ah) (x:ah):List ah×Int:=if 500<=l.length then([],4)else(fV l x,0)
theorem BF (l:List ah) (hl:l.length<=1048576) (x:ah):∃w,gT aa (atR l x).1 w/\au Tryz.prog 81 [.di [.sl (l.map aa)],.agg (aa x)] (.iO [.agg [w],.int .i64 (atR l x).2]):=by
 by_cases h5:500<=l.length
 ·rw[atR,if_pos h5]
  refine⟨.bq,.inl ⟨rfl,rfl⟩,fun n=>aJ _ _ _ _ _ (fun r σ' hq=>?_) (tE l hl x n)⟩
  rcases hq with⟨_,rfl⟩|⟨h,_⟩
  ·exact⟨_,by simp only[eM,bJ,cD,re,jj,eA,Option.map_some],rfl⟩
  ·omega
 ·rw[atR,if_neg h5]
  refine⟨_,.inr rfl,fun n=>aJ _ _ _ _ _ (fun r σ' hq=>?_) (tE l hl x n)⟩
  rcases hq with⟨h,_⟩|⟨_,o,rfl,h2,_⟩
  ·omega
  ·have:=fG (e:=aa) (n:=3) h2 rfl fun y=>LZ _ 2 y
   exact⟨_,by simp only[eM,bJ,cD,re,this,eA,Option.map_some],rfl⟩
theorem uF (s:aI) (l:List ah) (x:ah) (hn:fm s.aD) (hg:s.aD.aA.length<=1048576) (ht:s.aD.aq.length<=1048576):∃w,gT aa (yX s l x).1 w/\iU Tryz.prog 38 [.agg (az s),.agg [.sl (l.map aa)],.agg (aa x)] (.iO [.agg [w],.int .i64 (yX s l x).2]):=by
 have h1:=Ga s l hn hg ht
 by_cases h0:gu s l=0
 ·obtain⟨hP,hA,hW⟩:=yI.1 h0
  have h2:=Ds s hP l hA x.aW x.aP
  rw[h0]at h1
  cases hb:(ea s.aD x.aP&&gP s l x.aW x.aP)
  ·rw[sn h0 hb]
   refine⟨.bq,.inl ⟨rfl,rfl⟩,?_⟩
   rw[hb]at h2
   refine iU.body eG rfl fun lf σ=>?_
   clear lf
   rw[az]at h1 h2 ⊢
   (repeat(first|((repeat(revert hN;revert N;apply Pn.out));refine wk @aa.eq_1 ?_;(repeat(refine Pn.mk ?_;intro N hN)))|((try apply Or.inl);refine⟨_,au.x (h1) (sd @aa.eq_1),?_⟩;refine hN _ _ ?_;clear hN N)|((try apply Or.inl);refine⟨_,au.x (h2) (sd @aa.eq_1),?_⟩;refine hN _ _ ?_;clear hN N)))
   exact wD (.inl rfl) (vs:=[.agg [.bq],.int .i64 2]) (sd @Nat.zero_add) (by simp only[fh,bw,aZ,aj,ar,aT,aH,Option.map_some])
  ·obtain⟨w,hw,h3⟩:=BF l (by have:=hA.1.zb;omega) x
   have he:yX s l x=atR l x:=by rw[yX,if_pos h0,if_pos hb,atR]
   rw[he]
   refine⟨w,hw,?_⟩
   rw[hb]at h2
   refine iU.body eG rfl fun lf σ=>?_
   clear lf
   have mK:=hw.cell.1
   have yd:=hw.cell.2
   unfold AV.cells at mK
   unfold AV.cell at yd
   rw[az]at h1 h2 ⊢
   rw[aa]at h3
   generalize (atR l x).2=c at h3 ⊢
   (repeat(first|((repeat(revert hN;revert N;apply Pn.out));refine wk (tw @aa.eq_1 (tw @mK @yd)) ?_;(repeat(refine Pn.mk ?_;intro N hN)))|((try apply Or.inl);refine⟨_,au.x (h1) (sd (tw @aa.eq_1 (tw @mK @yd))),?_⟩;refine hN _ _ ?_;clear hN N)|((try apply Or.inl);refine⟨_,au.x (h2) (sd (tw @aa.eq_1 (tw @mK @yd))),?_⟩;refine hN _ _ ?_;clear hN N)|((try apply Or.inl);refine⟨_,au.x (h3) (sd (tw @aa.eq_1 (tw @mK @yd))),?_⟩;refine hN _ _ ?_;clear hN N)))
   exact wD (.inl rfl) (vs:=[.agg [w],.int .i64 c]) (sd (tw @mK @yd)) (by simp only[fh,bw,aZ,aj,ar,hw.fzn _ 3,aH,Option.map_some])
 ·rw[Hq h0]
  refine⟨.bq,.inl ⟨rfl,rfl⟩,?_⟩
  refine iU.body eG rfl fun lf σ=>?_
  clear lf
  have hd:decide (gu s l=0)=false:=decide_eq_false h0
  rw[az]at h1 ⊢
  (repeat(first|((repeat(revert hN;revert N;apply Pn.out));refine wk @hd ?_;(repeat(refine Pn.mk ?_;intro N hN)))|((try apply Or.inl);refine⟨_,au.x (h1) (sd @hd),?_⟩;refine hN _ _ ?_;clear hN N)))
  exact wD (.inl rfl) (vs:=[.agg [.bq],.int .i64 (gu s l)]) (sd @Nat.zero_add) (by simp only[fh,bw,aZ,aj,ar,aT,aH,Option.map_some])
end Go.Proofs.YtgoelphibofcmaaGreat.V

namespace Go.Proofs.YtgoelphibofcmaaGreat.V
open Go.RowKit
attribute [local irreducible] eh wpOps fI Call
attribute [local go_sem] aM fj eJ fF fE da upd cu K.av cI AV.cells AV.cell rowOf rowsOf part ld rowAt bK bV dq dM gy bD cY dY fA eS dk dR cW cV dD dE bG bc cL bF cP cN dO dS dQ cK bL cX dN bE aO cR cz gx bm cH bH aY dp bl dr AV.undef bt bz dF dL dy dC cF dX eb cw dV dU cQ cU List.getD_cons_zero List.getD_cons_succ List.getD_nil List.all_cons List.all_nil Bool.and_true Bool.true_and Bool.and_self Bool.not_true Bool.not_false Option.map_some Option.map_none Option.bind_some Option.bind_none List.length_cons List.length_nil List.take_succ_cons List.take_zero List.take_nil List.drop_succ_cons List.drop_zero List.drop_nil List.head?_cons List.map_cons List.map_nil List.getElem?_cons_zero List.getElem?_cons_succ List.cons_append List.nil_append List.append_nil List.length_map List.set_cons_zero List.set_cons_succ Nat.reduceMul eq_self Int.toNat_natCast Int.natCast_nonneg and_self true_and and_true decide_true decide_false Bool.false_eq_true Nat.zero_add Nat.add_zero List.contains_cons List.contains_nil Bool.or_false Bool.false_or beq_self_eq_true Nat.reduceBEq ne_eq not_true_eq_false not_false_eq_true Id.mk.injEq false_and and_false Nat.reduceLT Int.reduceLE Int.reduceLT Int.reduceToNat Int.reduceNeg Int.reduceAdd Nat.le_refl List.length_append beq_true beq_false Bool.not_eq_eq_eq_not or_false false_or dK aj ar aH bd br bW aT aZ aU bf cJ bw
theorem tP (s:aI) (l:List ah) (x:ah) (hn:fm s.aD) (hm:nu s) (hl:l.length<=1048576) (h0:gu s l≠0):n9 Tryz.prog 40 [.agg (az s),.agg [.sl (l.map aa)],.agg (aa x)] [] (gu s l):=by
 intro n0
 have h1:=mO s l hn hm hl
 have hd:decide (gu s l=0)=false:=decide_eq_false h0
 refine p4 HC rfl fun lf=>?_
 try simp only[q]
 clear lf
 rw[az]at h1 ⊢
 (repeat(first|((repeat(revert hN;revert N;apply Pn.out));refine wk (tw @hd @aa.eq_1) ?_;(repeat(refine Pn.mk ?_;intro N hN)))|((try apply Or.inl);refine⟨_,au.x (h1) (sd (tw @hd @aa.eq_1)),?_⟩;refine hN _ _ ?_;clear hN N)))
 exact eV (.inl rfl) (vs:=[.agg [.bq],.int .i64 (gu s l)]) (sd @Nat.zero_add) ⟨.bq,[],rfl,.inl ⟨rfl,rfl,rfl⟩,⟨List.nodup_nil,fun i hi=>by cases hi⟩⟩
theorem tQ (s:aI) (l:List ah) (x:ah) (hn:fm s.aD) (hm:nu s) (hl:l.length<=1048576) (h0:gu s l=0) (ht:ea s.aD x.aP=false):n9 Tryz.prog 40 [.agg (az s),.agg [.sl (l.map aa)],.agg (aa x)] [] 2:=by
 intro n0
 have h1:=mO s l hn hm hl
 have h2:=vQ s.aD x.aP
 rw[h0]at h1
 rw[ht]at h2
 refine p4 HC rfl fun lf=>?_
 try simp only[q]
 clear lf
 rw[az]at h1 ⊢
 rw[ae]at h2
 (repeat(first|((repeat(revert hN;revert N;apply Pn.out));refine wk @aa.eq_1 ?_;(repeat(refine Pn.mk ?_;intro N hN)))|((try apply Or.inl);refine⟨_,au.x (h1) (sd @aa.eq_1),?_⟩;refine hN _ _ ?_;clear hN N)|((try apply Or.inl);refine⟨_,au.x (h2) (sd @aa.eq_1),?_⟩;refine hN _ _ ?_;clear hN N)))
 refine dI ?_ (dI ?_ ?_)
 ·(try((repeat(revert hN;revert N;apply Pn.out));refine wk @aa.eq_1 ?_;(repeat(refine Pn.mk ?_;intro N hN))))
  exact eV (.inl rfl) (vs:=[.agg [.bq],.int .i64 2]) (sd @Nat.zero_add) ⟨.bq,[],rfl,.inl ⟨rfl,rfl,rfl⟩,⟨List.nodup_nil,fun i hi=>by cases hi⟩⟩
 ·(try((repeat(revert hN;revert N;apply Pn.out));refine wk @aa.eq_1 ?_;(repeat(refine Pn.mk ?_;intro N hN))))
  refine dI ?_ ?_
  ·(try((repeat(revert hN;revert N;apply Pn.out));refine wk @aa.eq_1 ?_;(repeat(refine Pn.mk ?_;intro N hN))))
   exact eV (.inl rfl) (vs:=[.agg [.bq],.int .i64 2]) (sd @Nat.zero_add) ⟨.bq,[],rfl,.inl ⟨rfl,rfl,rfl⟩,⟨List.nodup_nil,fun i hi=>by cases hi⟩⟩
  ·(try((repeat(revert hN;revert N;apply Pn.out));refine wk @aa.eq_1 ?_;(repeat(refine Pn.mk ?_;intro N hN))))
   exact eV (.inl rfl) (vs:=[.agg [.bq],.int .i64 2]) (sd @Nat.zero_add) ⟨.bq,[],rfl,.inl ⟨rfl,rfl,rfl⟩,⟨List.nodup_nil,fun i hi=>by cases hi⟩⟩
 ·(try((repeat(revert hN;revert N;apply Pn.out));refine wk @aa.eq_1 ?_;(repeat(refine Pn.mk ?_;intro N hN))))
  refine dI ?_ ?_
  ·(try((repeat(revert hN;revert N;apply Pn.out));refine wk @aa.eq_1 ?_;(repeat(refine Pn.mk ?_;intro N hN))))
   exact eV (.inl rfl) (vs:=[.agg [.bq],.int .i64 2]) (sd @Nat.zero_add) ⟨.bq,[],rfl,.inl ⟨rfl,rfl,rfl⟩,⟨List.nodup_nil,fun i hi=>by cases hi⟩⟩
  ·(try((repeat(revert hN;revert N;apply Pn.out));refine wk @aa.eq_1 ?_;(repeat(refine Pn.mk ?_;intro N hN))))
   exact eV (.inl rfl) (vs:=[.agg [.bq],.int .i64 2]) (sd @Nat.zero_add) ⟨.bq,[],rfl,.inl ⟨rfl,rfl,rfl⟩,⟨List.nodup_nil,fun i hi=>by cases hi⟩⟩
theorem si (s:aI) (l:List ah) (x:ah) (hn:fm s.aD) (hm:nu s) (hl:l.length<=1048576) (h0:gu s l=0) (ht:ea s.aD x.aP=true):n9 Tryz.prog 40 [.agg (az s),.agg [.sl (l.map aa)],.agg (aa x)] (yX s l x).1 (yX s l x).2:=by
 intro n0
 have h1:=mO s l hn hm hl
 have h2:=vQ s.aD x.aP
 obtain⟨hP,hA,hW⟩:=yI.1 h0
 rw[h0]at h1
 rw[ht]at h2
 have hc:=fun σ=>zK s hP.set l hA σ
 obtain⟨R,hR⟩:∃R,R=yX s l x:=⟨_,rfl⟩
 rw[<-hR]
 refine p4 HC rfl fun lf=>?_
 try simp only[q]
 clear lf
 rw[az]at h1 hc ⊢
 rw[ae]at h2
 (repeat(first|((repeat(revert hN;revert N;apply Pn.out));refine wk @aa.eq_1 ?_;(repeat(refine Pn.mk ?_;intro N hN)))|((try apply Or.inl);refine⟨_,au.x (h1) (sd @aa.eq_1),?_⟩;refine hN _ _ ?_;clear hN N)|((try apply Or.inl);refine⟨_,au.x (h2) (sd @aa.eq_1),?_⟩;refine hN _ _ ?_;clear hN N)))
 refine Ae (fun e st=>e 3=.ptr ⟨40000000,n0⟩ 0 0/\e 4=.ptr ⟨40000001,n0⟩ 0 0/\e 5=.ptr ⟨40000002,n0⟩ 0 0/\e 6=.ptr ⟨40000003,n0⟩ 0 0/\e 16=.bool (!gP s l x.aW x.aP)/\st.get ⟨40000000,n0⟩=some ⟨true,4,[[.sl (s.aD.aA.map bU),.sl (s.aD.aq.map bR),.sl (s.bx.aq.map aa),.int .i64 s.ay]]⟩/\st.get ⟨40000001,n0⟩=some ⟨true,1,[[.sl (l.map aa)]]⟩/\st.get ⟨40000002,n0⟩=some ⟨true,3,[[.int .i64 x.aW.eZ,.int .i64 x.aW.eT,.int .i64 x.aP]]⟩/\st.get ⟨40000003,n0⟩=some ⟨true,1,[[.bq]]⟩/\n0<st.next) ?_ ?_
 ·rintro e st ⟨e3,e4,e5,e6,e16,b3,b4,b5,b6,pd⟩
  refine hN _ _ ?_
  clear hN N
  cases hb:gP s l x.aW x.aP
  ·rw[hb]at e16
   rw[sn h0 (by rw[ht,hb];rfl)]at hR
   subst hR
   (try((repeat(revert hN;revert N;apply Pn.out));refine wk (tw @e3 (tw @e4 (tw @e5 (tw @e6 (tw @e16 (tw @b3 (tw @b4 (tw @b5 @b6)))))))) ?_;(repeat(refine Pn.mk ?_;intro N hN))))
   exact eV (.inl rfl) (vs:=[.agg [.bq],.int .i64 2]) (sd @e6) ⟨.bq,[],rfl,.inl ⟨rfl,rfl,rfl⟩,⟨List.nodup_nil,fun i hi=>by cases hi⟩⟩
  ·rw[hb]at e16
   by_cases h5:500<=l.length
   ·rw[Hp h0 (by rw[ht,hb];rfl) h5]at hR
    subst hR
    have HX:(500:Int)<=(l.length:Int):=by omega
    (try((repeat(revert hN;revert N;apply Pn.out));refine wk (tw @e3 (tw @e4 (tw @e5 (tw @e6 (tw @e16 (tw @b3 (tw @b4 (tw @b5 (tw @b6 @HX))))))))) ?_;(repeat(refine Pn.mk ?_;intro N hN))))
    exact eV (.inl rfl) (vs:=[.agg [.bq],.int .i64 4]) (sd @e6) ⟨.bq,[],rfl,.inl ⟨rfl,rfl,rfl⟩,⟨List.nodup_nil,fun i hi=>by cases hi⟩⟩
   ·rw[Kf h0 (by rw[ht,hb];rfl) h5]at hR
    subst hR
    have HX:¬(500:Int)<=(l.length:Int):=by omega
    have Qs:=fun σ=>Om l (Ck hP hW) (by omega) hA.1.Jf x.aW x.aP (GV hA hb) σ
    have hx:(⟨x.aW,x.aP⟩:ah)=x:=rfl
    rw[hx,ai]at Qs
    (try((repeat(revert hN;revert N;apply Pn.out));refine wk (tw @e3 (tw @e4 (tw @e5 (tw @e6 (tw @e16 (tw @b3 (tw @b4 (tw @b5 (tw @b6 @HX))))))))) ?_;(repeat(refine Pn.mk ?_;intro N hN))))
    refine .inr (aJ _ _ _ _ _ (fun r σ2 hq=>?_) (Qs _))
    obtain⟨g2,x2⟩:=σ2
    obtain⟨o,rfl,q1,q2,q3,q4⟩:=hq
    (try dsimp only at q1 q2 q3 q4)
    have k6:=(q4 ⟨40000003,n0⟩ (by(try dsimp only);omega)).trans b6
    have o6:=cZ (a:=⟨40000003,n0⟩) (b:=o) (by(try dsimp only at q2);(try dsimp only);omega)
    have mo:=kM x l
    refine hN _ _ ?_
    clear hN N
    (try((repeat(revert hN;revert N;apply Pn.out));refine wk (tw @e3 (tw @e4 (tw @e5 (tw @e6 @k6)))) ?_;(repeat(refine Pn.mk ?_;intro N hN))))
    exact eV (.inl rfl) (vs:=[.agg [.own o 0 (fV l x).length],.int .i64 0]) (sd @e6) ⟨_,[o],rfl,.inr ⟨o,rfl,sd (tw @o6 @q1),rfl,by omega⟩,⟨List.nodup_cons.2 ⟨by simp,List.nodup_nil⟩,fun i hi=>by rw[List.mem_singleton.1 hi];(try dsimp only at q2);(try dsimp only);omega⟩⟩
 ·intro N hN
  refine dI ?_ (dI ?_ ?_)
  ·(try((repeat(revert hN;revert N;apply Pn.out));refine wk @aa.eq_1 ?_;(repeat(refine Pn.mk ?_;intro N hN))))
   refine .inr (aJ _ _ _ _ _ (fun r σ1 hq=>?_) (hc _))
   obtain⟨g1,x1⟩:=σ1
   obtain⟨c,T,O,rfl,hC,G3,H0,HZ,pd,ik⟩:=hq
   (try dsimp only at hC G3 H0 HZ pd ik)
   have b3:=ik ⟨40000000,n0⟩ (by(try dsimp only);omega)
   have b4:=ik ⟨40000001,n0⟩ (by(try dsimp only);omega)
   have b5:=ik ⟨40000002,n0⟩ (by(try dsimp only);omega)
   have b6:=ik ⟨40000003,n0⟩ (by(try dsimp only);omega)
   simp only[go_sem, ↓reduceIte,Nat.reduceEqDiff,Nat.reduceAdd,Nat.reduceSub,Nat.reduceLeDiff,reduceCtorEq,aa]at b3 b4 b5 b6
   refine hN _ _ ?_
   clear hN N
   (try((repeat(revert hN;revert N;apply Pn.out));refine wk (tw @b3 (tw @b4 (tw @b5 (tw @b6 @aa.eq_1)))) ?_;(repeat(refine Pn.mk ?_;intro N hN))))
   refine .inl ⟨_,oJ (hC.AO.frame (by(try dsimp only);omega) (sd @Nat.zero_add) (sd @Nat.zero_add)) hP (gY.xO hA) x.aW x.aP ht,?_⟩
   refine hN _ _ ?_
   clear hN N
   (try((repeat(revert hN;revert N;apply Pn.out));refine wk (tw @b3 (tw @b4 (tw @b5 (tw @b6 @aa.eq_1)))) ?_;(repeat(refine Pn.mk ?_;intro N hN))))
   exact⟨sd @Nat.zero_add,sd @Nat.zero_add,sd @Nat.zero_add,sd @Nat.zero_add,sd @Nat.zero_add,sd @b3,sd @b4,sd @b5,sd @b6,by(try dsimp only);omega⟩
  ·(try((repeat(revert hN;revert N;apply Pn.out));refine wk @aa.eq_1 ?_;(repeat(refine Pn.mk ?_;intro N hN))))
   refine dI ?_ ?_
   ·(try((repeat(revert hN;revert N;apply Pn.out));refine wk @aa.eq_1 ?_;(repeat(refine Pn.mk ?_;intro N hN))))
    refine .inr (aJ _ _ _ _ _ (fun r σ1 hq=>?_) (hc _))
    obtain⟨g1,x1⟩:=σ1
    obtain⟨c,T,O,rfl,hC,G3,H0,HZ,pd,ik⟩:=hq
    (try dsimp only at hC G3 H0 HZ pd ik)
    have b3:=ik ⟨40000000,n0⟩ (by(try dsimp only);omega)
    have b4:=ik ⟨40000001,n0⟩ (by(try dsimp only);omega)
    have b5:=ik ⟨40000002,n0⟩ (by(try dsimp only);omega)
    have b6:=ik ⟨40000003,n0⟩ (by(try dsimp only);omega)
    simp only[go_sem, ↓reduceIte,Nat.reduceEqDiff,Nat.reduceAdd,Nat.reduceSub,Nat.reduceLeDiff,reduceCtorEq,aa]at b3 b4 b5 b6
    refine hN _ _ ?_
    clear hN N
    (try((repeat(revert hN;revert N;apply Pn.out));refine wk (tw @b3 (tw @b4 (tw @b5 (tw @b6 @aa.eq_1)))) ?_;(repeat(refine Pn.mk ?_;intro N hN))))
    refine .inl ⟨_,oJ (hC.AO.frame (by(try dsimp only);omega) (sd @Nat.zero_add) (sd @Nat.zero_add)) hP (gY.xO hA) x.aW x.aP ht,?_⟩
    refine hN _ _ ?_
    clear hN N
    (try((repeat(revert hN;revert N;apply Pn.out));refine wk (tw @b3 (tw @b4 (tw @b5 (tw @b6 @aa.eq_1)))) ?_;(repeat(refine Pn.mk ?_;intro N hN))))
    exact⟨sd @Nat.zero_add,sd @Nat.zero_add,sd @Nat.zero_add,sd @Nat.zero_add,sd @Nat.zero_add,sd @b3,sd @b4,sd @b5,sd @b6,by(try dsimp only);omega⟩
   ·(try((repeat(revert hN;revert N;apply Pn.out));refine wk @aa.eq_1 ?_;(repeat(refine Pn.mk ?_;intro N hN))))
    refine .inr (aJ _ _ _ _ _ (fun r σ1 hq=>?_) (hc _))
    obtain⟨g1,x1⟩:=σ1
    obtain⟨c,T,O,rfl,hC,G3,H0,HZ,pd,ik⟩:=hq
    (try dsimp only at hC G3 H0 HZ pd ik)
    have b3:=ik ⟨40000000,n0⟩ (by(try dsimp only);omega)
    have b4:=ik ⟨40000001,n0⟩ (by(try dsimp only);omega)
    have b5:=ik ⟨40000002,n0⟩ (by(try dsimp only);omega)
    have b6:=ik ⟨40000003,n0⟩ (by(try dsimp only);omega)
    simp only[go_sem, ↓reduceIte,Nat.reduceEqDiff,Nat.reduceAdd,Nat.reduceSub,Nat.reduceLeDiff,reduceCtorEq,aa]at b3 b4 b5 b6
    refine hN _ _ ?_
    clear hN N
    (try((repeat(revert hN;revert N;apply Pn.out));refine wk (tw @b3 (tw @b4 (tw @b5 (tw @b6 @aa.eq_1)))) ?_;(repeat(refine Pn.mk ?_;intro N hN))))
    refine .inl ⟨_,oJ (hC.AO.frame (by(try dsimp only);omega) (sd @Nat.zero_add) (sd @Nat.zero_add)) hP (gY.xO hA) x.aW x.aP ht,?_⟩
    refine hN _ _ ?_
    clear hN N
    (try((repeat(revert hN;revert N;apply Pn.out));refine wk (tw @b3 (tw @b4 (tw @b5 (tw @b6 @aa.eq_1)))) ?_;(repeat(refine Pn.mk ?_;intro N hN))))
    exact⟨sd @Nat.zero_add,sd @Nat.zero_add,sd @Nat.zero_add,sd @Nat.zero_add,sd @Nat.zero_add,sd @b3,sd @b4,sd @b5,sd @b6,by(try dsimp only);omega⟩
  ·(try((repeat(revert hN;revert N;apply Pn.out));refine wk @aa.eq_1 ?_;(repeat(refine Pn.mk ?_;intro N hN))))
   refine dI ?_ ?_
   ·(try((repeat(revert hN;revert N;apply Pn.out));refine wk @aa.eq_1 ?_;(repeat(refine Pn.mk ?_;intro N hN))))
    refine .inr (aJ _ _ _ _ _ (fun r σ1 hq=>?_) (hc _))
    obtain⟨g1,x1⟩:=σ1
    obtain⟨c,T,O,rfl,hC,G3,H0,HZ,pd,ik⟩:=hq
    (try dsimp only at hC G3 H0 HZ pd ik)
    have b3:=ik ⟨40000000,n0⟩ (by(try dsimp only);omega)
    have b4:=ik ⟨40000001,n0⟩ (by(try dsimp only);omega)
    have b5:=ik ⟨40000002,n0⟩ (by(try dsimp only);omega)
    have b6:=ik ⟨40000003,n0⟩ (by(try dsimp only);omega)
    simp only[go_sem, ↓reduceIte,Nat.reduceEqDiff,Nat.reduceAdd,Nat.reduceSub,Nat.reduceLeDiff,reduceCtorEq,aa]at b3 b4 b5 b6
    refine hN _ _ ?_
    clear hN N
    (try((repeat(revert hN;revert N;apply Pn.out));refine wk (tw @b3 (tw @b4 (tw @b5 (tw @b6 @aa.eq_1)))) ?_;(repeat(refine Pn.mk ?_;intro N hN))))
    refine .inl ⟨_,oJ (hC.AO.frame (by(try dsimp only);omega) (sd @Nat.zero_add) (sd @Nat.zero_add)) hP (gY.xO hA) x.aW x.aP ht,?_⟩
    refine hN _ _ ?_
    clear hN N
    (try((repeat(revert hN;revert N;apply Pn.out));refine wk (tw @b3 (tw @b4 (tw @b5 (tw @b6 @aa.eq_1)))) ?_;(repeat(refine Pn.mk ?_;intro N hN))))
    exact⟨sd @Nat.zero_add,sd @Nat.zero_add,sd @Nat.zero_add,sd @Nat.zero_add,sd @Nat.zero_add,sd @b3,sd @b4,sd @b5,sd @b6,by(try dsimp only);omega⟩
   ·(try((repeat(revert hN;revert N;apply Pn.out));refine wk @aa.eq_1 ?_;(repeat(refine Pn.mk ?_;intro N hN))))
    refine .inr (aJ _ _ _ _ _ (fun r σ1 hq=>?_) (hc _))
    obtain⟨g1,x1⟩:=σ1
    obtain⟨c,T,O,rfl,hC,G3,H0,HZ,pd,ik⟩:=hq
    (try dsimp only at hC G3 H0 HZ pd ik)
    have b3:=ik ⟨40000000,n0⟩ (by(try dsimp only);omega)
    have b4:=ik ⟨40000001,n0⟩ (by(try dsimp only);omega)
    have b5:=ik ⟨40000002,n0⟩ (by(try dsimp only);omega)
    have b6:=ik ⟨40000003,n0⟩ (by(try dsimp only);omega)
    simp only[go_sem, ↓reduceIte,Nat.reduceEqDiff,Nat.reduceAdd,Nat.reduceSub,Nat.reduceLeDiff,reduceCtorEq,aa]at b3 b4 b5 b6
    refine hN _ _ ?_
    clear hN N
    (try((repeat(revert hN;revert N;apply Pn.out));refine wk (tw @b3 (tw @b4 (tw @b5 (tw @b6 @aa.eq_1)))) ?_;(repeat(refine Pn.mk ?_;intro N hN))))
    refine .inl ⟨_,oJ (hC.AO.frame (by(try dsimp only);omega) (sd @Nat.zero_add) (sd @Nat.zero_add)) hP (gY.xO hA) x.aW x.aP ht,?_⟩
    refine hN _ _ ?_
    clear hN N
    (try((repeat(revert hN;revert N;apply Pn.out));refine wk (tw @b3 (tw @b4 (tw @b5 (tw @b6 @aa.eq_1)))) ?_;(repeat(refine Pn.mk ?_;intro N hN))))
    exact⟨sd @Nat.zero_add,sd @Nat.zero_add,sd @Nat.zero_add,sd @Nat.zero_add,sd @Nat.zero_add,sd @b3,sd @b4,sd @b5,sd @b6,by(try dsimp only);omega⟩
theorem uE (s:aI) (l:List ah) (x:ah) (hn:fm s.aD) (hm:nu s) (hl:l.length<=1048576):n9 Tryz.prog 40 [.agg (az s),.agg [.sl (l.map aa)],.agg (aa x)] (yX s l x).1 (yX s l x).2:=by
 by_cases h0:gu s l=0
 ·cases ht:ea s.aD x.aP
  ·rw[sn h0 (by rw[ht];rfl)]
   exact tQ s l x hn hm hl h0 ht
  ·exact si s l x hn hm hl h0 ht
 ·rw[Hq h0]
  exact tP s l x hn hm hl h0
end Go.Proofs.YtgoelphibofcmaaGreat.V

namespace Go.Proofs.YtgoelphibofcmaaGreat.V
open Go.RowKit
attribute [local irreducible] eh wpOps fI Call
attribute [local go_sem] aM fj eJ fF fE da upd cu K.av cI AV.cells AV.cell rowOf rowsOf part ld rowAt bK bV dq dM gy bD cY dY fA eS dk dR cW cV dD dE bG bc cL bF cP cN dO dS dQ cK bL cX dN bE aO cR cz gx bm cH bH aY dp bl dr AV.undef bt bz dF dL dy dC cF dX eb cw dV dU cQ cU List.getD_cons_zero List.getD_cons_succ List.getD_nil List.all_cons List.all_nil Bool.and_true Bool.true_and Bool.and_self Bool.not_true Bool.not_false Option.map_some Option.map_none Option.bind_some Option.bind_none List.length_cons List.length_nil List.take_succ_cons List.take_zero List.take_nil List.drop_succ_cons List.drop_zero List.drop_nil List.head?_cons List.map_cons List.map_nil List.getElem?_cons_zero List.getElem?_cons_succ List.cons_append List.nil_append List.append_nil List.length_map List.set_cons_zero List.set_cons_succ Nat.reduceMul eq_self Int.toNat_natCast Int.natCast_nonneg and_self true_and and_true decide_true decide_false Bool.false_eq_true Nat.zero_add Nat.add_zero List.contains_cons List.contains_nil Bool.or_false Bool.false_or beq_self_eq_true Nat.reduceBEq ne_eq not_true_eq_false not_false_eq_true Id.mk.injEq false_and and_false Nat.reduceLT Int.reduceLE Int.reduceLT Int.reduceToNat Int.reduceNeg Int.reduceAdd Nat.le_refl List.length_append beq_true beq_false Bool.not_eq_eq_eq_not or_false false_or dK aj ar aH bd br bW aT aZ aU bf cJ bw
theorem D5 (p:ah):iU Tryz.prog 39 [.agg (aa p)] (.agg (aa p)):=by
 refine iU.body eG rfl fun hl σ=>?_
 clear hl
 have h:=s9 p.aW
 rw[ai]at h
 (repeat(first|((repeat(revert hN;revert N;apply Pn.out));refine wk @aa.eq_1 ?_;(repeat(refine Pn.mk ?_;intro N hN)))|((try apply Or.inl);refine⟨_,iU.x (h) _,?_⟩;refine hN _ _ ?_;clear hN N)))
 exact wD (.inl rfl) (vs:=[.agg (aa p)]) (by simp only[go_sem, ↓reduceIte,Nat.reduceEqDiff,Nat.reduceAdd,Nat.reduceSub,Nat.reduceLeDiff,reduceCtorEq,ft,ij,aa]) (by simp[fh,aa,aZ,aj,ar,aH])
end Go.Proofs.YtgoelphibofcmaaGreat.V

namespace Go.Proofs.YtgoelphibofcmaaGreat.V
open Go.RowKit
attribute [local irreducible] eh wpOps fI Call
attribute [local go_sem] aM fj eJ fF fE da upd cu K.av cI AV.cells AV.cell rowOf rowsOf part ld rowAt bK bV dq dM gy bD cY dY fA eS dk dR cW cV dD dE bG bc cL bF cP cN dO dS dQ cK bL cX dN bE aO cR cz gx bm cH bH aY dp bl dr AV.undef bt bz dF dL dy dC cF dX eb cw dV dU cQ cU List.getD_cons_zero List.getD_cons_succ List.getD_nil List.all_cons List.all_nil Bool.and_true Bool.true_and Bool.and_self Bool.not_true Bool.not_false Option.map_some Option.map_none Option.bind_some Option.bind_none List.length_cons List.length_nil List.take_succ_cons List.take_zero List.take_nil List.drop_succ_cons List.drop_zero List.drop_nil List.head?_cons List.map_cons List.map_nil List.getElem?_cons_zero List.getElem?_cons_succ List.cons_append List.nil_append List.append_nil List.length_map List.set_cons_zero List.set_cons_succ Nat.reduceMul eq_self Int.toNat_natCast Int.natCast_nonneg and_self true_and and_true decide_true decide_false Bool.false_eq_true Nat.zero_add Nat.add_zero List.contains_cons List.contains_nil Bool.or_false Bool.false_or beq_self_eq_true Nat.reduceBEq ne_eq not_true_eq_false not_false_eq_true Id.mk.injEq false_and and_false Nat.reduceLT Int.reduceLE Int.reduceLT Int.reduceToNat Int.reduceNeg Int.reduceAdd Nat.le_refl List.length_append beq_true beq_false Bool.not_eq_eq_eq_not or_false false_or dK aj ar aH bd br bW aT aZ aU bf cJ bw
theorem HI (g:Rows) (x:ah):fz g 6 (.agg (aa x))=some (.agg (aa x)):=by simp[aa,aZ,aj,ar,aH]
theorem Ca {g:Rows} {u v w u' v' w':AV} (h0:fz g 6 u=some u') (h1:fz g 6 v=some v') (h2:fz g 6 w=some w'):dd g 6 [u,v,w]=some [u',v',w']:=by
 simp only[aj,ar,h0,h1,h2,Option.map_some]
theorem wO (x:ah) {g:Rows} {v w:AV} {s:aI} {a:ee} {i j:List Id} (hX:yU g v s i) (hY:xd g w a j):dd (dK g) 6 [v,w,.agg [.int .i64 x.aW.eZ,.int .i64 x.aW.eT,.int .i64 x.aP]]=some [.agg (az s),.agg (aV a),.agg (aa x)]:=
 Ca (hX.fz 1) (hY.fz 2) (HI _ x)
theorem NV (MJ:aI->ee->ah->List ah×Int)
  (Qo:∀s a x,fm s.aD->nu s->a.aq.length<=1048576->∃w,gT aa (MJ s a x).1 w/\iU Tryz.prog 38 [.agg (az s),.agg (aV a),.agg (aa x)] (.iO [.agg [w],.int .i64 (MJ s a x).2]))
  (P8:∀s a x,fm s.aD->nu s->a.aq.length<=1048576->n9 Tryz.prog 40 [.agg (az s),.agg (aV a),.agg (aa x)] (MJ s a x).1 (MJ s a x).2)
  (hlen:∀s a x,nu s->a.aq.length<=1048576->(MJ s a x).1.length<=1152921504606846976)
  (s:aI) (a:ee) (x:ah) (hn:fm s.aD):au Tryz.prog 8 [.agg (az s),.agg (aV a),.agg (aa x)] (.bool true):=by
 intro n0
 refine p4 Sh rfl fun hl=>?_
 try simp only[q]
 clear hl
 have h1:=D4 s 1048576 (by omega) (by omega) hn
 by_cases hf:(wY s:Int)<=1048576
 ·rw[iv hf]at h1
  have kg:¬(1048576:Int)-(wY s:Int)<0:=by omega
  have h2:=rX a (1048576-wY s) (by omega) (by omega)
  by_cases hg:(a.aq.length:Int)<=1048576-wY s
  ·rw[iv hg]at h2
   have EH:¬(1048576:Int)-(wY s:Int)-(a.aq.length:Int)<0:=by omega
   have sm:=GF (s:=s) (by omega)
   have am:a.aq.length<=1048576:=by omega
   have t1:=Ea s sm
   have t2:=r5 a am
   obtain⟨w,hw,r1⟩:=Qo s a x hn sm am
   have r2:=P8 s a x hn sm am
   have q1:=CT s
   have q2:=za a
   have hL:=hlen s a x sm am
   obtain⟨L,hLe⟩:∃L,(MJ s a x).1=L:=⟨_,rfl⟩
   obtain⟨c,hc⟩:∃c,(MJ s a x).2=c:=⟨_,rfl⟩
   rw[hc]at r1
   rw[hLe,hc]at r2
   rw[hLe]at hw hL
   have Iy:=fun σ=>D9 s sm σ
   have Qw:=fun σ=>r4 a am σ
   rw[az]at Iy
   rw[aV]at Qw
   have e2:decide (c=c)=true:=by simp
   have An:=D5 x
   rw[aa]at An
   rw[az]at h1
   rw[aV]at h2
   (repeat(first|((repeat(revert hN;revert N;apply Pn.out));refine wk (tw @az.eq_1 (tw @aV.eq_1 (tw @aa.eq_1 (tw @kg @EH)))) ?_;(repeat(refine Pn.mk ?_;intro N hN)))|((try apply Or.inl);refine⟨_,au.x (h1) (sd (tw @az.eq_1 (tw @aV.eq_1 (tw @aa.eq_1 (tw @kg @EH))))),?_⟩;refine hN _ _ ?_;clear hN N)|((try apply Or.inl);refine⟨_,au.x (h2) (sd (tw @az.eq_1 (tw @aV.eq_1 (tw @aa.eq_1 (tw @kg @EH))))),?_⟩;refine hN _ _ ?_;clear hN N)))
   refine⟨_,iU.x (by rw[az]at t1;exact t1) _,?_⟩
   refine hN _ _ ?_
   clear hN N
   (try((repeat(revert hN;revert N;apply Pn.out));refine wk @aV.eq_1 ?_;(repeat(refine Pn.mk ?_;intro N hN))))
   refine⟨_,iU.x (by rw[aV]at t2;exact t2) _,?_⟩
   refine hN _ _ ?_
   clear hN N
   (repeat(first|((repeat(revert hN;revert N;apply Pn.out));refine wk @Nat.zero_add ?_;(repeat(refine Pn.mk ?_;intro N hN)))|((try apply Or.inl);refine⟨_,iU.x (An) _,?_⟩;refine hN _ _ ?_;clear hN N)))
   refine⟨_,iU.x (by rw[az,aV,aa]at r1;exact r1) _,?_⟩
   refine hN _ _ ?_
   clear hN N
   have pe:=hw.cell.1
   have yi:=hw.cell.2
   unfold AV.cells at pe
   unfold AV.cell at yi
   (try((repeat(revert hN;revert N;apply Pn.out));refine wk (tw @pe @yi) ?_;(repeat(refine Pn.mk ?_;intro N hN))))
   refine .inr (aJ _ _ _ _ _ (fun r σ1 hq=>?_) (Iy _))
   obtain⟨iX,hX,HY,Ni⟩:=hq
   obtain⟨g1,x1⟩:=σ1
   (try dsimp only at hX HY Ni)
   obtain⟨A,B,C,j1,j2,j3,rfl,hA,hB,hC,rfl⟩:=hX.ex
   obtain⟨oA,rfl⟩:=hA.kH
   obtain⟨oB,rfl⟩:=hB.kH
   obtain⟨oC,rfl⟩:=hC.kH
   clear hA hB hC
   have nX:=Ni.1
   have bX:=HY.2
   (try dsimp only at nX bX)
   have kA:=Ni.2 ⟨8000000,n0⟩ (by(try dsimp only);omega)
   have kB:=Ni.2 ⟨8000001,n0⟩ (by(try dsimp only);omega)
   have kC:=Ni.2 ⟨8000002,n0⟩ (by(try dsimp only);omega)
   have kW:=Ni.2 ⟨8008010,n0+1+1+1+1+1+1⟩ (by(try dsimp only);omega)
   simp only[go_sem, ↓reduceIte,Nat.reduceEqDiff,Nat.reduceAdd,Nat.reduceSub,Nat.reduceLeDiff,reduceCtorEq]at kA kB kC kW
   refine hN _ _ ?_
   clear hN N
   (try((repeat(revert hN;revert N;apply Pn.out));refine wk (tw @kA (tw @kB (tw @kC @kW))) ?_;(repeat(refine Pn.mk ?_;intro N hN))))
   refine .inr (aJ _ _ _ _ _ (fun r σ2 hq=>?_) (Qw _))
   obtain⟨iY,hY0,L1,KA⟩:=hq
   obtain⟨g2,x2⟩:=σ2
   (try dsimp only at hY0 L1 KA)
   obtain⟨D,rfl,hD⟩:=hY0
   obtain⟨oD,rfl⟩:=hD.kH
   have hY:xd g2 (.agg [.own oD 0 a.aq.length]) a iY:=⟨_,rfl,hD⟩
   have nY:=KA.1
   have bY:=L1.2
   (try dsimp only at nY bY)
   have lA:=KA.2 ⟨8000000,n0⟩ (by(try dsimp only);omega)
   have lB:=KA.2 ⟨8000001,n0⟩ (by(try dsimp only);omega)
   have lC:=KA.2 ⟨8000002,n0⟩ (by(try dsimp only);omega)
   have lX:=KA.2 ⟨8009002,x1⟩ (by(try dsimp only);omega)
   have vA:=dP (i:=⟨8000000,n0⟩) (n:=x1) (by(try dsimp only);omega)
   have vB:=dP (i:=⟨8000001,n0⟩) (n:=x1) (by(try dsimp only);omega)
   have vC:=dP (i:=⟨8000002,n0⟩) (n:=x1) (by(try dsimp only);omega)
   have lW:=KA.2 ⟨8008010,n0+1+1+1+1+1+1⟩ (by(try dsimp only);omega)
   have vW:=dP (i:=⟨8008010,n0+1+1+1+1+1+1⟩) (n:=x1) (by(try dsimp only);omega)
   simp only[go_sem, ↓reduceIte,Nat.reduceEqDiff,Nat.reduceAdd,Nat.reduceSub,Nat.reduceLeDiff,reduceCtorEq,kA,kB,kC,kW,vA,vB,vC,vW]at lA lB lC lX lW
   have Rk:=hX.frame (g':=g2) fun i hi=>by
    have h3:=bX i hi
    have h4:=KA.2 i (by(try dsimp only);omega)
    have h5:=dP (i:=i) (n:=x1) (by omega)
    simp only[go_sem, ↓reduceIte,Nat.reduceEqDiff,Nat.reduceAdd,Nat.reduceSub,Nat.reduceLeDiff,reduceCtorEq,h5]at h4
    exact h4
   clear hX Ni KA hD kA kB kC kW
   refine hN _ _ ?_
   clear hN N
   have uX:=dP (i:=⟨8009002,x1⟩) (n:=x2) (by(try dsimp only);omega)
   (repeat(first|((repeat(revert hN;revert N;apply Pn.out));refine wk (tw @lA (tw @lB (tw @lC (tw @lX (tw @lW @uX))))) ?_;(repeat(refine Pn.mk ?_;intro N hN)))|((try apply Or.inl);refine⟨_,iU.x (An) _,?_⟩;refine hN _ _ ?_;clear hN N)))
   refine Ae (fun e st=>∃(v:AV) (iZ:List Id) (JR:Id),e 3=.ptr ⟨8000000,n0⟩ 0 0/\e 4=.ptr ⟨8000001,n0⟩ 0 0/\e 5=.ptr ⟨8000002,n0⟩ 0 0/\e 8=.ptr ⟨8008010,n0+1+1+1+1+1+1⟩ 0 0/\e 10=.ptr ⟨8009002,x1⟩ 0 0/\e 11=.ptr ⟨8010002,x2⟩ 0 0/\e 9=.int .i64 c/\e 12=.ptr JR 0 0/\e 13=.int .i64 c/\st.get ⟨8000000,n0⟩=some ⟨true,4,[[.sl (s.aD.aA.map bU),.sl (s.aD.aq.map bR),.sl (s.bx.aq.map aa),.int .i64 s.ay]]⟩/\st.get ⟨8000001,n0⟩=some ⟨true,1,[[.sl (a.aq.map aa)]]⟩/\st.get ⟨8000002,n0⟩=some ⟨true,3,[[.int .i64 x.aW.eZ,.int .i64 x.aW.eT,.int .i64 x.aP]]⟩/\st.get ⟨8008010,n0+1+1+1+1+1+1⟩=some ⟨true,1,[[w]]⟩/\st.get ⟨8009002,x1⟩=some ⟨true,4,[[.own oA 0 s.aD.aA.length,.own oB 0 s.aD.aq.length,.own oC 0 s.bx.aq.length,.int .i64 s.ay]]⟩/\st.get ⟨8010002,x2⟩=some ⟨true,1,[[.own oD 0 a.aq.length]]⟩/\st.get JR=some ⟨true,1,[[v]]⟩/\og aa 3 st.get v L iZ/\fU x2 st.next iZ/\JR∉iZ/\x2<JR.cq/\JR.cq<st.next/\∀i:Id,i.cq<x2->st.get i=g2 i) ?_ ?_
   rotate_left
   ·intro N hN
    repeat' first|(refine dI ?_ ?_)|(refine Cj fun N' hN'=>?_;fail)
    all_goals (repeat(first|((repeat(revert hN;revert N;apply Pn.out));refine wk (tw @lA (tw @lB (tw @lC (tw @lX (tw @lW @uX))))) ?_;(repeat(refine Pn.mk ?_;intro N hN)))|((try apply Or.inl);refine⟨_,iU.x (An) _,?_⟩;refine hN _ _ ?_;clear hN N)))
    all_goals (repeat' (first|(refine dI ?_ ?_)))
    all_goals (repeat(first|((repeat(revert hN;revert N;apply Pn.out));refine wk (tw @lA (tw @lB (tw @lC (tw @lX (tw @lW @uX))))) ?_;(repeat(refine Pn.mk ?_;intro N hN)))|((try apply Or.inl);refine⟨_,iU.x (An) _,?_⟩;refine hN _ _ ?_;clear hN N)))
    all_goals (repeat' (first|(refine dI ?_ ?_)))
    all_goals (repeat(first|((repeat(revert hN;revert N;apply Pn.out));refine wk (tw @lA (tw @lB (tw @lC (tw @lX (tw @lW @uX))))) ?_;(repeat(refine Pn.mk ?_;intro N hN)))|((try apply Or.inl);refine⟨_,iU.x (An) _,?_⟩;refine hN _ _ ?_;clear hN N)))
    all_goals (repeat' (first|(refine dI ?_ ?_)))
    all_goals (repeat(first|((repeat(revert hN;revert N;apply Pn.out));refine wk (tw @lA (tw @lB (tw @lC (tw @lX (tw @lW @uX))))) ?_;(repeat(refine Pn.mk ?_;intro N hN)))|((try apply Or.inl);refine⟨_,iU.x (An) _,?_⟩;refine hN _ _ ?_;clear hN N)))
    all_goals (repeat' (first|(refine dI ?_ ?_)))
    all_goals (repeat(first|((repeat(revert hN;revert N;apply Pn.out));refine wk (tw @lA (tw @lB (tw @lC (tw @lX (tw @lW @uX))))) ?_;(repeat(refine Pn.mk ?_;intro N hN)))|((try apply Or.inl);refine⟨_,iU.x (An) _,?_⟩;refine hN _ _ ?_;clear hN N)))
    all_goals first
    |(
     refine .inr (aJ _ _ _ _ _ (fun r σ3 hq=>?_) (xI mixed r2 (wO x (Rk.frame fun i hi=>by
      have h5:=dP (i:=i) (n:=x2) (by have:=bX i hi;omega)
      simp only[go_sem, ↓reduceIte,Nat.reduceEqDiff,Nat.reduceAdd,Nat.reduceSub,Nat.reduceLeDiff,reduceCtorEq,h5]) (hY.frame fun i hi=>by
      have h5:=dP (i:=i) (n:=x2) (by have:=bY i hi;omega)
      simp only[go_sem, ↓reduceIte,Nat.reduceEqDiff,Nat.reduceAdd,Nat.reduceSub,Nat.reduceLeDiff,reduceCtorEq,h5]))))
     obtain⟨v,iZ,rfl,hZ,Co,yc⟩:=hq
     obtain⟨g3,x3⟩:=σ3
     (try dsimp only at hZ Co yc)
     have nZ:=yc.1
     have bZ:=Co.2
     (try dsimp only at nZ bZ)
     have wA:=dP (i:=⟨8000000,n0⟩) (n:=x2) (by(try dsimp only);omega)
     have wB:=dP (i:=⟨8000001,n0⟩) (n:=x2) (by(try dsimp only);omega)
     have wC:=dP (i:=⟨8000002,n0⟩) (n:=x2) (by(try dsimp only);omega)
     have wW:=dP (i:=⟨8008010,n0+1+1+1+1+1+1⟩) (n:=x2) (by(try dsimp only);omega)
     have mA:=yc.2 ⟨8000000,n0⟩ (by(try dsimp only);omega)
     have mB:=yc.2 ⟨8000001,n0⟩ (by(try dsimp only);omega)
     have mC:=yc.2 ⟨8000002,n0⟩ (by(try dsimp only);omega)
     have mX:=yc.2 ⟨8009002,x1⟩ (by(try dsimp only);omega)
     have mY:=yc.2 ⟨8010002,x2⟩ (by(try dsimp only);omega)
     have mW:=yc.2 ⟨8008010,n0+1+1+1+1+1+1⟩ (by(try dsimp only);omega)
     simp only[go_sem, ↓reduceIte,Nat.reduceEqDiff,Nat.reduceAdd,Nat.reduceSub,Nat.reduceLeDiff,reduceCtorEq,lA,lB,lC,lX,lW,wA,wB,wC,wW,uX]at mA mB mC mX mY mW
     have m12:=yc.2 ⟨8011008,x2+1⟩ (by(try dsimp only);omega)
     simp only[go_sem, ↓reduceIte,Nat.reduceEqDiff,Nat.reduceAdd,Nat.reduceSub,Nat.reduceLeDiff,reduceCtorEq]at m12
     have M0:∀i:Id,i.cq<x2->g3 i=g2 i:=fun i hi=>by
      have h4:=yc.2 i (by(try dsimp only);omega)
      have h5:=dP (i:=i) (n:=x2) hi
      simp only[go_sem, ↓reduceIte,Nat.reduceEqDiff,Nat.reduceAdd,Nat.reduceSub,Nat.reduceLeDiff,reduceCtorEq,h5]at h4
      exact h4
     have tz:=hZ.cell.1
     have FX:=hZ.cell.2
     unfold AV.cells at tz
     unfold AV.cell at FX
     have Qf:⟨8011008,x2+1⟩∉iZ:=Co.not (by(try dsimp only);omega)
     have fb:∀i:Id,i.cq<x3->i≠⟨8011008,x2+1⟩->(bK g3 ⟨8011008,x2+1⟩ ⟨true,1,[[v]]⟩) i=g3 i:=fun i hi gM=>by
      have h5:=eq_false gM
      simp only[go_sem, ↓reduceIte,Nat.reduceEqDiff,Nat.reduceAdd,Nat.reduceSub,Nat.reduceLeDiff,reduceCtorEq,h5]
     refine hN _ _ ?_
     clear hN N
     (try((repeat(revert hN;revert N;apply Pn.out));refine wk (tw @mA (tw @mB (tw @mC (tw @mX (tw @mY (tw @mW (tw @m12 (tw @tz @FX)))))))) ?_;(repeat(refine Pn.mk ?_;intro N hN))))
     refine⟨v,iZ,⟨8011008,x2+1⟩,sd @Nat.zero_add,sd @Nat.zero_add,sd @Nat.zero_add,sd @Nat.zero_add,sd @Nat.zero_add,sd @Nat.zero_add,sd @Nat.zero_add,sd @Nat.zero_add,sd @Nat.zero_add,sd (tw @mA @wA),sd (tw @mB @wB),sd (tw @mC @wC),sd (tw @mW @wW),sd (tw @mX @uX),sd @mY,sd @Nat.zero_add,hZ.frame fun i hi=>fb i (bZ i hi).2 fun e=>Qf (e▸hi),⟨Co.1,fun i hi=>by have:=bZ i hi;(try dsimp only);omega⟩,Qf,by(try dsimp only);omega,by(try dsimp only);omega,fun i hi=>(fb i (by omega) fun e=>by rw[e]at hi;(try dsimp only at hi);omega).trans (M0 i hi)⟩)
    |(
     refine .inr (aJ _ _ _ _ _ (fun r σ3 hq=>?_) (xI mixed r2 (wO x (Rk.frame fun i hi=>by
      have h5:=dP (i:=i) (n:=x2) (by have:=bX i hi;omega)
      simp only[go_sem, ↓reduceIte,Nat.reduceEqDiff,Nat.reduceAdd,Nat.reduceSub,Nat.reduceLeDiff,reduceCtorEq,h5]) (hY.frame fun i hi=>by
      have h5:=dP (i:=i) (n:=x2) (by have:=bY i hi;omega)
      simp only[go_sem, ↓reduceIte,Nat.reduceEqDiff,Nat.reduceAdd,Nat.reduceSub,Nat.reduceLeDiff,reduceCtorEq,h5]))))
     obtain⟨v,iZ,rfl,hZ,Co,yc⟩:=hq
     obtain⟨g3,x3⟩:=σ3
     (try dsimp only at hZ Co yc)
     have nZ:=yc.1
     have bZ:=Co.2
     (try dsimp only at nZ bZ)
     have wA:=dP (i:=⟨8000000,n0⟩) (n:=x2) (by(try dsimp only);omega)
     have wB:=dP (i:=⟨8000001,n0⟩) (n:=x2) (by(try dsimp only);omega)
     have wC:=dP (i:=⟨8000002,n0⟩) (n:=x2) (by(try dsimp only);omega)
     have wW:=dP (i:=⟨8008010,n0+1+1+1+1+1+1⟩) (n:=x2) (by(try dsimp only);omega)
     have mA:=yc.2 ⟨8000000,n0⟩ (by(try dsimp only);omega)
     have mB:=yc.2 ⟨8000001,n0⟩ (by(try dsimp only);omega)
     have mC:=yc.2 ⟨8000002,n0⟩ (by(try dsimp only);omega)
     have mX:=yc.2 ⟨8009002,x1⟩ (by(try dsimp only);omega)
     have mY:=yc.2 ⟨8010002,x2⟩ (by(try dsimp only);omega)
     have mW:=yc.2 ⟨8008010,n0+1+1+1+1+1+1⟩ (by(try dsimp only);omega)
     simp only[go_sem, ↓reduceIte,Nat.reduceEqDiff,Nat.reduceAdd,Nat.reduceSub,Nat.reduceLeDiff,reduceCtorEq,lA,lB,lC,lX,lW,wA,wB,wC,wW,uX]at mA mB mC mX mY mW
     have M0:∀i:Id,i.cq<x2->g3 i=g2 i:=fun i hi=>by
      have h4:=yc.2 i (by(try dsimp only);omega)
      have h5:=dP (i:=i) (n:=x2) hi
      simp only[go_sem, ↓reduceIte,Nat.reduceEqDiff,Nat.reduceAdd,Nat.reduceSub,Nat.reduceLeDiff,reduceCtorEq,h5]at h4
      exact h4
     have tz:=hZ.cell.1
     have FX:=hZ.cell.2
     unfold AV.cells at tz
     unfold AV.cell at FX
     have Qf:⟨8011008,x3⟩∉iZ:=Co.not (by(try dsimp only);omega)
     have fb:∀i:Id,i.cq<x3->i≠⟨8011008,x3⟩->(bK (bK g3 ⟨8011008,x3⟩ ⟨true,1,[[.bq]]⟩) ⟨8011008,x3⟩ ⟨true,1,[[v]]⟩) i=g3 i:=fun i hi gM=>by
      have h5:=eq_false gM
      simp only[go_sem, ↓reduceIte,Nat.reduceEqDiff,Nat.reduceAdd,Nat.reduceSub,Nat.reduceLeDiff,reduceCtorEq,h5]
     refine hN _ _ ?_
     clear hN N
     (try((repeat(revert hN;revert N;apply Pn.out));refine wk (tw @mA (tw @mB (tw @mC (tw @mX (tw @mY (tw @mW (tw @tz @FX))))))) ?_;(repeat(refine Pn.mk ?_;intro N hN))))
     refine⟨v,iZ,⟨8011008,x3⟩,sd @Nat.zero_add,sd @Nat.zero_add,sd @Nat.zero_add,sd @Nat.zero_add,sd @Nat.zero_add,sd @Nat.zero_add,sd @Nat.zero_add,sd @Nat.zero_add,sd @Nat.zero_add,sd (tw @mA @wA),sd (tw @mB @wB),sd (tw @mC @wC),sd (tw @mW @wW),sd (tw @mX @uX),sd @mY,sd @Nat.zero_add,hZ.frame fun i hi=>fb i (bZ i hi).2 fun e=>Qf (e▸hi),⟨Co.1,fun i hi=>by have:=bZ i hi;(try dsimp only);omega⟩,Qf,by(try dsimp only);omega,by(try dsimp only);omega,fun i hi=>(fb i (by omega) fun e=>by rw[e]at hi;(try dsimp only at hi);omega).trans (M0 i hi)⟩)
   rintro e st ⟨v,iZ,JR,e3,e4,e5,e8,e10,e11,e9,e12,e13,mA,mB,mC,mW,mX,mY,m10,hZ3,Co,hb12,G2,SP,M0⟩
   have hE:=And.intro e3 (And.intro e4 (And.intro e5 (And.intro e8 (And.intro e10 (And.intro e11 (And.intro e9 (And.intro e12 e13)))))))
   clear e3 e4 e5 e8 e10 e11 e9 e12 e13
   obtain⟨g3,x3⟩:=st
   (try dsimp only at mA mB mC mW mX mY m10 hZ3 Co SP M0)
   have bZ:=Co.2
   have SL:=Rk.frame (g':=g3) fun i hi=>M0 i (by have:=bX i hi;omega)
   have Nn:=hY.frame (g':=g3) fun i hi=>M0 i (by have:=bY i hi;omega)
   clear Rk hY lA lB lC lX lW
   obtain⟨wv,qx,OX⟩:=hZ3.Ku fun x g=>by simp[aa,aj,ar,aH]
   refine hN _ _ ?_
   clear hN N
   (try((repeat(revert hN;revert N;apply Pn.out));refine wk (tw @mA (tw @mB (tw @mC (tw @mX (tw @mY (tw @mW (tw @m10 @hE))))))) ?_;(repeat(refine Pn.mk ?_;intro N hN))))
   refine .inl ⟨_,au.x (ve OX hw) (wT (lp qx) (lp (hw.Ku _))),?_⟩
   refine hN _ _ ?_
   clear hN N
   (try((repeat(revert hN;revert N;apply Pn.out));refine wk (tw @mA (tw @mB (tw @mC (tw @mX (tw @mY (tw @mW (tw @m10 (tw @e2 @hE)))))))) ?_;(repeat(refine Pn.mk ?_;intro N hN))))
   refine⟨_,iU.x (by rw[az]at t1;exact t1) _,?_⟩
   refine hN _ _ ?_
   clear hN N
   (try((repeat(revert hN;revert N;apply Pn.out));refine wk (tw @mA (tw @mB (tw @mC (tw @mX (tw @mY (tw @mW (tw @m10 (tw @e2 @hE)))))))) ?_;(repeat(refine Pn.mk ?_;intro N hN))))
   refine⟨_,au.x (by rw[az]at q1;exact q1) (by rw[<-az];exact LH SL (Et _ _)),?_⟩
   refine hN _ _ ?_
   clear hN N
   (try((repeat(revert hN;revert N;apply Pn.out));refine wk (tw @mA (tw @mB (tw @mC (tw @mX (tw @mY (tw @mW (tw @m10 (tw @e2 @hE)))))))) ?_;(repeat(refine Pn.mk ?_;intro N hN))))
   refine⟨_,iU.x (by rw[aV]at t2;exact t2) _,?_⟩
   refine hN _ _ ?_
   clear hN N
   (try((repeat(revert hN;revert N;apply Pn.out));refine wk (tw @mA (tw @mB (tw @mC (tw @mX (tw @mY (tw @mW (tw @m10 (tw @e2 @hE)))))))) ?_;(repeat(refine Pn.mk ?_;intro N hN))))
   refine⟨_,au.x (by rw[aV]at q2;exact q2) (by rw[<-aV];exact Kd Nn (Es _ _)),?_⟩
   refine hN _ _ ?_
   clear hN N
   (try((repeat(revert hN;revert N;apply Pn.out));refine wk (tw @mA (tw @mB (tw @mC (tw @mX (tw @mY (tw @mW (tw @m10 (tw @e2 @hE)))))))) ?_;(repeat(refine Pn.mk ?_;intro N hN))))
   have NB:=Le s
   have hns:=HY.not (x:=⟨8000000,n0⟩) (by(try dsimp only);omega)
   have hnt:=HY.not (x:=⟨8000001,n0⟩) (by(try dsimp only);omega)
   have hnu:=HY.not (x:=⟨8000002,n0⟩) (by(try dsimp only);omega)
   refine .inr (aJ _ _ _ _ _ (fun r σ4 hq=>?_) (Gi _ s _ 1 (by omega) sm.s.t (by omega) _ (fun i hi=>by have:=bX i hi;(try dsimp only);omega) HY.1 SL))
   obtain⟨rfl,hM⟩:=hq
   obtain⟨g4,x4⟩:=σ4
   (try dsimp only at hM)
   have nM:=hM.1
   (try dsimp only at nM)
   have pA:=hM.2 ⟨8000000,n0⟩ (by(try dsimp only);omega) hns
   have pB:=hM.2 ⟨8000001,n0⟩ (by(try dsimp only);omega) hnt
   have pC:=hM.2 ⟨8000002,n0⟩ (by(try dsimp only);omega) hnu
   have pY:=hM.2 ⟨8010002,x2⟩ (by(try dsimp only);omega) (HY.not (by(try dsimp only);omega))
   have pW:=hM.2 ⟨8008010,n0+1+1+1+1+1+1⟩ (by(try dsimp only);omega) (HY.not (by(try dsimp only);omega))
   have TV:=(hM.2 JR (by(try dsimp only);omega) (HY.not (by(try dsimp only);omega))).trans m10
   simp only[go_sem, ↓reduceIte,Nat.reduceEqDiff,Nat.reduceAdd,Nat.reduceSub,Nat.reduceLeDiff,reduceCtorEq,mA,mB,mC,mY,mW]at pA pB pC pY pW
   have hY4:=Nn.frame (g':=g4) fun i hi=>hM.2 i (by have:=bY i hi;(try dsimp only);omega) (HY.not (by have:=bY i hi;omega))
   have hZ4:=hZ3.frame (g':=g4) fun i hi=>hM.2 i (by have:=bZ i hi;(try dsimp only);omega) (HY.not (by have:=bZ i hi;omega))
   clear hM SL Nn hZ3 mA mB mC mX mY mW m10 qx
   refine hN _ _ ?_
   clear hN N
   (try((repeat(revert hN;revert N;apply Pn.out));refine wk (tw @pA (tw @pB (tw @pC (tw @pY (tw @pW (tw @TV @hE)))))) ?_;(repeat(refine Pn.mk ?_;intro N hN))))
   refine .inr (aJ _ _ _ _ _ (fun r σ5 hq=>?_) (yy _ a _ (1+BG s) (by omega) (by omega) _ (fun i hi=>by have:=bY i hi;(try dsimp only);omega) hY4))
   obtain⟨rfl,hM⟩:=hq
   obtain⟨g5,x5⟩:=σ5
   (try dsimp only at hM)
   have nN:=hM.1
   (try dsimp only at nN)
   have rA:=(hM.2 ⟨8000000,n0⟩ (by(try dsimp only);omega) (L1.not (by(try dsimp only);omega))).trans pA
   have rB:=(hM.2 ⟨8000001,n0⟩ (by(try dsimp only);omega) (L1.not (by(try dsimp only);omega))).trans pB
   have rC:=(hM.2 ⟨8000002,n0⟩ (by(try dsimp only);omega) (L1.not (by(try dsimp only);omega))).trans pC
   have rW:=(hM.2 ⟨8008010,n0+1+1+1+1+1+1⟩ (by(try dsimp only);omega) (L1.not (by(try dsimp only);omega))).trans pW
   have RW:=(hM.2 JR (by(try dsimp only);omega) (L1.not (by(try dsimp only);omega))).trans TV
   have SM:=hZ4.frame (g':=g5) fun i hi=>hM.2 i (by have:=bZ i hi;(try dsimp only);omega) (L1.not (by have:=bZ i hi;omega))
   clear hM hY4 hZ4 pA pB pC pY pW TV
   obtain⟨wv5,qx,OX⟩:=SM.Ku fun x g=>by simp[aa,aj,ar,aH]
   have e3:decide (1+(BG s:Int)+3*(a.aq.length:Int)<0)=false:=decide_eq_false (by omega)
   refine hN _ _ ?_
   clear hN N
   (try((repeat(revert hN;revert N;apply Pn.out));refine wk (tw @rA (tw @rB (tw @rC (tw @rW (tw @RW (tw @e3 @hE)))))) ?_;(repeat(refine Pn.mk ?_;intro N hN))))
   refine .inl ⟨_,au.x (ve OX hw) (wT (lp qx) (lp (hw.Ku _))),?_⟩
   refine hN _ _ ?_
   clear hN N
   (try((repeat(revert hN;revert N;apply Pn.out));refine wk (tw @rA (tw @rB (tw @rC (tw @rW (tw @RW (tw @e2 (tw @e3 @hE))))))) ?_;(repeat(refine Pn.mk ?_;intro N hN))))
   refine .inr (aJ _ _ _ _ _ (fun r σ6 hq=>?_) (Dw 1 (by omega) (by omega) _ (fun i hi=>by have:=bZ i hi;(try dsimp only);omega) SM))
   obtain⟨rfl,hM,SN⟩:=hq
   obtain⟨g6,x6⟩:=σ6
   (try dsimp only at hM SN)
   have sA:=(hM.2 ⟨8000000,n0⟩ (by(try dsimp only);omega) (Co.not (by(try dsimp only);omega))).trans rA
   have sB:=(hM.2 ⟨8000001,n0⟩ (by(try dsimp only);omega) (Co.not (by(try dsimp only);omega))).trans rB
   have sC:=(hM.2 ⟨8000002,n0⟩ (by(try dsimp only);omega) (Co.not (by(try dsimp only);omega))).trans rC
   have sW:=(hM.2 ⟨8008010,n0+1+1+1+1+1+1⟩ (by(try dsimp only);omega) (Co.not (by(try dsimp only);omega))).trans rW
   have Pc:=(hM.2 JR (by(try dsimp only);omega) hb12).trans RW
   have nO:=hM.1
   (try dsimp only at nO)
   clear hM SM rA rB rC rW RW qx OX
   obtain⟨wv6,qx,OX⟩:=SN.Ku fun x g=>by simp[aa,aj,ar,aH]
   have e4:decide (1+3*(L.length:Int)<0)=false:=decide_eq_false (by omega)
   have e5:decide (1+3*(L.length:Int)=1+3*(L.length:Int))=true:=decide_eq_true rfl
   refine hN _ _ ?_
   clear hN N
   (try((repeat(revert hN;revert N;apply Pn.out));refine wk (tw @sA (tw @sB (tw @sC (tw @sW (tw @Pc @hE))))) ?_;(repeat(refine Pn.mk ?_;intro N hN))))
   refine .inl ⟨_,au.x (vE 1 L.length (by omega) (by omega) OX) (wT (lp qx) (aH _ _ _ _)),?_⟩
   refine hN _ _ ?_
   clear hN N
   (try((repeat(revert hN;revert N;apply Pn.out));refine wk (tw @sA (tw @sB (tw @sC (tw @sW (tw @Pc (tw @e4 (tw @e5 @hE))))))) ?_;(repeat(refine Pn.mk ?_;intro N hN))))
   refine⟨_,iU.x (by rw[az]at t1;exact t1) _,?_⟩
   refine hN _ _ ?_
   clear hN N
   (try((repeat(revert hN;revert N;apply Pn.out));refine wk (tw @sA (tw @sB (tw @sC (tw @sW (tw @Pc (tw @e4 (tw @e5 @hE))))))) ?_;(repeat(refine Pn.mk ?_;intro N hN))))
   refine⟨_,iU.x (by rw[aV]at t2;exact t2) _,?_⟩
   refine hN _ _ ?_
   clear hN N
   (repeat(first|((repeat(revert hN;revert N;apply Pn.out));refine wk (tw @sA (tw @sB (tw @sC (tw @sW (tw @Pc (tw @e4 (tw @e5 @hE))))))) ?_;(repeat(refine Pn.mk ?_;intro N hN)))|((try apply Or.inl);refine⟨_,iU.x (An) _,?_⟩;refine hN _ _ ?_;clear hN N)))
   refine⟨_,au.x (by have h:=r2.s;rw[az,aV,aa]at h;exact h) (Ca (by rw[<-az];exact Et _ _) (by rw[<-aV];exact Es _ _) (by rw[<-aa];exact HI _ _)),?_⟩
   refine hN _ _ ?_
   clear hN N
   have vM:=(wc (e:=aa) (L:=L)).cell.1
   have KM:=(wc (e:=aa) (L:=L)).cell.2
   unfold AV.cells at vM
   unfold AV.cell at KM
   have Am:=wc (e:=aa) (L:=L)
   generalize N1 aa L=w9 at vM KM Am ⊢
   (try((repeat(revert hN;revert N;apply Pn.out));refine wk (tw @sA (tw @sB (tw @sC (tw @sW (tw @Pc (tw @e2 (tw @vM (tw @KM @hE)))))))) ?_;(repeat(refine Pn.mk ?_;intro N hN))))
   have hZ7:=SN.frame (g':=(bK (bK g6 ⟨8031010,x6+1+1+1+1+1⟩ ⟨true,1,[[.bq]]⟩) ⟨8031010,x6+1+1+1+1+1⟩ ⟨true,1,[[w9]]⟩)) fun i hi=>by
    have h5:=cZ (a:=i) (b:=⟨8031010,x6+1+1+1+1+1⟩) (by have:=bZ i hi;(try dsimp only);omega)
    simp only[go_sem, ↓reduceIte,Nat.reduceEqDiff,Nat.reduceAdd,Nat.reduceSub,Nat.reduceLeDiff,reduceCtorEq,h5]
   obtain⟨wv7,TP,Tg⟩:=hZ7.Ku fun x g=>by simp[aa,aj,ar,aH]
   refine .inl ⟨_,au.x (ve Am hw) (wT (lp (Am.Ku _)) (lp (hw.Ku _))),?_⟩
   refine hN _ _ ?_
   clear hN N
   have vb:=dP (i:=JR) (n:=x6) (by omega)
   (try((repeat(revert hN;revert N;apply Pn.out));refine wk (tw @sA (tw @sB (tw @sC (tw @sW (tw @Pc (tw @e2 (tw @vb @hE))))))) ?_;(repeat(refine Pn.mk ?_;intro N hN))))
   refine .inl ⟨_,au.x (vE 1 L.length (by omega) (by omega) Tg) (wT (lp TP) (aH _ _ _ _)),?_⟩
   refine hN _ _ ?_
   clear hN N
   (try((repeat(revert hN;revert N;apply Pn.out));refine wk (tw @e4 (tw @e5 @hE)) ?_;(repeat(refine Pn.mk ?_;intro N hN))))
   exact aX (b:=true) (.inl rfl) (sd @Nat.zero_add) rfl
  ·rw[iE hg]at h2
   rw[az]at h1
   rw[aV]at h2
   (repeat(first|((repeat(revert hN;revert N;apply Pn.out));refine wk (tw @az.eq_1 (tw @aV.eq_1 (tw @aa.eq_1 @kg))) ?_;(repeat(refine Pn.mk ?_;intro N hN)))|((try apply Or.inl);refine⟨_,au.x (h1) (sd (tw @az.eq_1 (tw @aV.eq_1 (tw @aa.eq_1 @kg)))),?_⟩;refine hN _ _ ?_;clear hN N)|((try apply Or.inl);refine⟨_,au.x (h2) (sd (tw @az.eq_1 (tw @aV.eq_1 (tw @aa.eq_1 @kg)))),?_⟩;refine hN _ _ ?_;clear hN N)))
   exact aX (b:=true) (.inl rfl) (sd @Nat.zero_add) rfl
 ·rw[iE hf]at h1
  rw[az]at h1
  (repeat(first|((repeat(revert hN;revert N;apply Pn.out));refine wk (tw @az.eq_1 (tw @aV.eq_1 @aa.eq_1)) ?_;(repeat(refine Pn.mk ?_;intro N hN)))|((try apply Or.inl);refine⟨_,au.x (h1) (sd (tw @az.eq_1 (tw @aV.eq_1 @aa.eq_1))),?_⟩;refine hN _ _ ?_;clear hN N)))
  exact aX (b:=true) (.inl rfl) (sd @Nat.zero_add) rfl
end Go.Proofs.YtgoelphibofcmaaGreat.V

namespace Go.Proofs.YtgoelphibofcmaaGreat
open Go.ChangeShapes Go.WideShapes Go.ChangeAt Go.RowKit Go.Deep
section
variable {H:Type} {enc:TypeId×Value->H} {P:Program} {w:World}
theorem mv.QH {α:Type} {rep:World->List Nat->List Value->α->Prop} {sz:Nat} {w:World} {b o len cap:Nat} (ox:Nat->List Value) (fs:Nat->List Nat) (ds:Nat->α) (hc:len<=cap) (hm:cap<=maxLen)
  (hl:∀i,i<len->(ox i).length=sz) (hr:∀i,i<len->rep w (fs i) (ox i) (ds i)) (FM:∀i,i<len->∀j u,(ox i)[j]? =some u->w.cell? ⟨b,o+(i*sz+j),none⟩=some u):
  mv rep sz w ([b]++((List.range len).map fs).flatten) (.slice (some ⟨b,o,none⟩) len cap) ((List.range len).map ds):=by
 refine⟨(List.range len).map ox,(List.range len).map fs,[b],rfl,⟨some ⟨b,o,none⟩,cap,by simp,by simpa using hc,hm,.inr ⟨b,o,rfl,rfl,fun j u hj=>?_⟩⟩,by simp,by simp,fun i cs f d h1 h2 h3=>?_⟩
 ·have hlen:∀cs∈(List.range len).map ox,cs.length=sz:=fun cs du=>by
   obtain⟨i,hi,rfl⟩:=List.mem_map.1 du
   exact hl i (List.mem_range.1 hi)
  have gV:=(List.getElem?_eq_some_iff.1 hj).1
  have Ic:((List.range len).map ox).flatten.length=len*sz:=by
   rw[List.length_flatten,List.map_map]
   have:∀(l:List Nat),(∀i∈l,i<len)->(l.map (List.length∘ox)).sum=l.length*sz:=by
    intro l
    induction l with
    |nil=>intro _;simp
    |cons a l ih=>intro h;rw[List.map_cons,List.sum_cons,ih fun i hi=>h i (List.mem_cons_of_mem _ hi)];simp only[Function.comp,hl a (h a (by simp)),List.length_cons,Nat.add_mul];omega
   rw[this _ fun i hi=>List.mem_range.1 hi,List.length_range]
  rw[Ic]at gV
  have Mi:0<sz:=by
   rcases Nat.eq_zero_or_pos sz with h|h
   ·subst h;simp at gV
   ·exact h
  have hi:j / sz<len:=(Nat.div_lt_iff_lt_mul Mi).2 gV
  have EJ:j % sz<sz:=Nat.mod_lt _ Mi
  have KI:j=(j / sz)*sz+j % sz:=by rw[Nat.mul_comm];exact(Nat.div_add_mod j sz).symm
  rw[KI,tn hlen (i:=j / sz) (cs:=ox (j / sz)) (by simp[hi]) EJ]at hj
  rw[KI]
  have:=FM (j / sz) hi (j % sz) u hj
  rw[<-KI]at this ⊢
  exact this
 ·have hi:i<len:=by
   have:=(List.getElem?_eq_some_iff.1 h1).1
   simpa using this
  simp[hi]at h1 h2 h3
  subst h1 h2 h3
  exact⟨hr i hi,hl i hi⟩
theorem j7 (b o k:Nat):(⟨b,o,none⟩:Addr).add k=⟨b,o+k,none⟩:=by
 unfold Addr.add;split
 ·rename_i h;subst h;rfl
 ·rfl
theorem pE {α:Type} {rep:World->List Nat->List Value->α->Prop} {Q:α->Prop} {t e:TypeId} {sz fuel:Nat} {cs:List Value} {x:DataW H×List MemPlace} (ht:P.underlying t=some (.slice e)) (hC:P.cellsOf e=sz) (Mi:0<sz)
  (h:DataW.trod enc P w 0 (fun _=>true) true fuel t cs=some x) (hel:∀n pR y,pR.length=sz->DataW.trod enc P w 0 (fun _=>true) true n e pR=some y->∃f d,fK f 0 w.heap.size/\rep w f pR d/\Q d):
  ∃A n c f xs,cs=[.slice A n c]/\fK f 0 w.heap.size/\mv rep sz w f (.slice A n c) xs/\∀d∈xs,Q d:=by
 rcases open_slice ht h with⟨rfl,_⟩|⟨a,len,cap,m,n,D,Pl,rfl,_,hl,hm,NA,_,hi⟩
 ·exact⟨none,0,0,[],[],rfl,fK.nil _ _,mv.nil _ _ _,fun d h=>by cases h⟩
 rw[hC]at hi
 simp only[if_true]at NA
 by_cases h0:len=0
 ·subst h0
  exact⟨some a,0,cap,[],[],rfl,fK.nil _ _,⟨[],[],[],rfl,⟨some a,cap,rfl,Nat.zero_le _,hm,.inl ⟨rfl,rfl⟩⟩,rfl,rfl,fun i cs f d hc=>by simp at hc⟩,fun d h=>by cases h⟩
 obtain⟨b,o,sp⟩:=a
 have cell0:∃v,w.cell? ⟨b,o,sp⟩=some v:=by
  obtain⟨pR,hc,_⟩:=hi 0 (by omega)
  obtain⟨_,mL,FM⟩:=World.cells?_some hc
  refine⟨pR[0]'(by omega),?_⟩
  have:=FM 0 Mi
  rw[List.getElem?_eq_getElem (by omega)]at this
  simpa[Addr.add]using this
 obtain⟨v0,sf⟩:=cell0
 have hb:b<w.heap.size:=World.block_lt_of_cell? w _ sf
 have Iv:sp=none:=by
  unfold World.cell? at sf
  split at sf
  ·split at sf
   ·cases sf
   ·rename_i h;simpa using h
  ·cases sf
 subst Iv
 have key:∀i,i<len->∃pR f d,pR.length=sz/\fK f 0 w.heap.size/\rep w f pR d/\Q d/\∀j u,pR[j]? =some u->w.cell? ⟨b,o+(i*sz+j),none⟩=some u:=fun i nI=>by
  obtain⟨pR,hc,htr⟩:=hi i (by omega)
  obtain⟨_,mL,FM⟩:=World.cells?_some hc
  obtain⟨f,d,h1,h2,h3⟩:=hel n pR _ mL htr
  refine⟨pR,f,d,mL,h1,h2,h3,fun j u hj=>?_⟩
  have gV:=(List.getElem?_eq_some_iff.1 hj).1
  have:=FM j (by omega)
  rw[hj]at this
  rw[<-this,Go.Deep.add_add,j7]
 have:Nonempty α:=by
  obtain⟨_,_,d,_⟩:=key 0 (by omega)
  exact⟨d⟩
 let cf:Nat->List Value:=fun i=>if hi:i<len then(key i hi).choose else[]
 let ff:Nat->List Nat:=fun i=>if hi:i<len then(key i hi).choose_spec.choose else[]
 let df:Nat->α:=fun i=>if hi:i<len then(key i hi).choose_spec.choose_spec.choose else Classical.choice this
 have ef:∀i,i<len->(cf i).length=sz/\fK (ff i) 0 w.heap.size/\rep w (ff i) (cf i) (df i)/\Q (df i)/\∀j u,(cf i)[j]? =some u->w.cell? ⟨b,o+(i*sz+j),none⟩=some u:=fun i hi=>by
  have:=(key i hi).choose_spec.choose_spec.choose_spec
  simp only[cf,ff,df,dif_pos hi]
  exact this
 refine⟨some ⟨b,o,none⟩,len,cap,_,(List.range len).map df,rfl,?_,mv.QH cf ff df hl hm (fun i hi=>(ef i hi).1) (fun i hi=>(ef i hi).2.2.1) (fun i hi=>(ef i hi).2.2.2.2),fun d hd=>?_⟩
 ·intro x hx
  rcases List.mem_append.1 hx with hx|hx
  ·simp at hx;subst hx;exact⟨Nat.zero_le _,hb⟩
  ·obtain⟨l,OV,O8⟩:=List.mem_flatten.1 hx
   obtain⟨i,hi,rfl⟩:=List.mem_map.1 OV
   exact(ef i (List.mem_range.1 hi)).2.1 x O8
 ·obtain⟨i,hi,rfl⟩:=List.mem_map.1 hd
  exact(ef i (List.mem_range.1 hi)).2.2.2.1
end
section
variable {H:Type} {enc:TypeId×Value->H} {w:World} {fuel:Nat} {cs:List Value} {x:DataW H×List MemPlace}
abbrev TT (enc:TypeId×Value->H) (w:World) (fuel t:Nat) (cs:List Value) (x:DataW H×List MemPlace):Prop:=DataW.trod enc Tryz.prog w 0 (fun _=>true) true fuel t cs=some x
theorem N2 (h:TT enc w fuel 56 cs x):∃A n c f xs,cs=[.slice A n c]/\fK f 0 w.heap.size/\uN w f (.slice A n c) xs:=by
 obtain⟨A,n,c,f,xs,h1,h2,h3,_⟩:=pE (rep:=Ei) (Q:=fun _=>True) Tryz.underlying56 (sz:=1) (by kernel_rfl) (by omega) h fun n pR y hl hy=>by
  obtain⟨b,rfl,_⟩:=DataW.trod_int Tryz.underlying2 hy
  exact⟨[],b,fK.nil _ _,⟨rfl,rfl⟩,trivial⟩
 exact⟨A,n,c,f,xs,h1,h2,h3⟩
theorem kj {t:TypeId} {fs:Array Field} (ht:Tryz.prog.underlying t=some (.struct fs)) (h:TT enc w fuel t cs x):cs.length=Tryz.prog.cellsOf t/\∃n,∀(i:Nat) (f:Field),fs[i]? =some f->∃y,TT enc w n f.type ((cs.drop f.offset).take (Tryz.prog.cellsOf f.type)) y:=by
 obtain⟨xs,n,_,_,hl,O8,hf⟩:=DataW.trod_struct ht h
 refine⟨hl,n,fun i f hi=>?_⟩
 have nI:i<xs.length:=by rw[O8];exact(Array.getElem?_eq_some_iff.1 hi).1
 exact⟨xs[i],(hf i f hi).trans (List.getElem?_eq_getElem nI)⟩
theorem QC {l:List Value} (h:l.length=2):∃a b,l=[a,b]:=by
 match l,h with
 |[a,b],_=>exact⟨a,b,rfl⟩
theorem QD {l:List Value} (h:l.length=3):∃a b c,l=[a,b,c]:=by
 match l,h with
 |[a,b,c],_=>exact⟨a,b,c,rfl⟩
theorem TR {l:List Value} (h:l.length=1):∃a,l=[a]:=by
 match l,h with
 |[a],_=>exact⟨a,rfl⟩
theorem TU {l:List Value} (h:l.length=4):∃a b c d,l=[a,b,c,d]:=by
 match l,h with
 |[a,b,c,d],_=>exact⟨a,b,c,d,rfl⟩
theorem Lm (h:TT enc w fuel 22 cs x):∃A n c f xs,cs=[.slice A n c]/\fK f 0 w.heap.size/\qP w f (.slice A n c) xs/\∀d∈xs,d.aL.size<=9223372036854775807:=by
 exact pE (rep:=Hj) (Q:=fun d=>d.aL.size<=9223372036854775807) Tryz.underlying22 (sz:=2) (by kernel_rfl) (by omega) h fun n pR y hl hy=>by
  obtain⟨_,m,hf⟩:=kj Tryz.underlying191 hy
  obtain⟨a,b,rfl⟩:=QC hl
  ·skip
   obtain⟨y0,h0⟩:=hf 0 _ rfl
   obtain⟨y1,h1⟩:=hf 1 _ rfl
   rw[show Tryz.prog.cellsOf _=1 from by kernel_rfl]at h0 h1
   obtain⟨p,e0,_,ws⟩:=DataW.trod_string Tryz.underlying9 h0
   obtain⟨q,e1,_⟩:=DataW.trod_int Tryz.underlying2 h1
   simp at e0 e1
   subst e0 e1
   exact⟨[],⟨p,q⟩,fK.nil _ _,⟨rfl,rfl⟩,by simpa[maxLen]using ws⟩
theorem Ln (h:TT enc w fuel 23 cs x):∃A n c f xs,cs=[.slice A n c]/\fK f 0 w.heap.size/\qQ w f (.slice A n c) xs/\∀d∈xs,d.aL.size<=9223372036854775807:=by
 exact pE (rep:=Hk) (Q:=fun d=>d.aL.size<=9223372036854775807) Tryz.underlying23 (sz:=2) (by kernel_rfl) (by omega) h fun n pR y hl hy=>by
  obtain⟨_,m,hf⟩:=kj Tryz.underlying193 hy
  obtain⟨a,b,rfl⟩:=QC hl
  ·skip
   obtain⟨y0,h0⟩:=hf 0 _ rfl
   obtain⟨y1,h1⟩:=hf 1 _ rfl
   rw[show Tryz.prog.cellsOf _=1 from by kernel_rfl]at h0 h1
   obtain⟨p,e0,_,ws⟩:=DataW.trod_string Tryz.underlying9 h0
   obtain⟨A1,n1,c1,f1,QW,e1,k1,s1⟩:=N2 h1
   simp at e0 e1
   subst e0 e1
   exact⟨_,⟨p,QW⟩,k1,⟨_,f1,rfl,rfl,s1⟩,by simpa[maxLen]using ws⟩
theorem Gp (h:TT enc w fuel 26 cs x):∃A n c f xs,cs=[.slice A n c]/\fK f 0 w.heap.size/\iV w f (.slice A n c) xs:=by
 obtain⟨A,n,c,f,xs,h1,h2,h3,_⟩:=pE (rep:=Ax) (Q:=fun _=>True) Tryz.underlying26 (sz:=3) (by kernel_rfl) (by omega) h fun n pR y hl hy=>by
  obtain⟨_,m,hf⟩:=kj Tryz.underlying143 hy
  obtain⟨a,b,c,rfl⟩:=QD hl
  ·skip
   obtain⟨y0,h0⟩:=hf 0 _ rfl
   obtain⟨y1,h1⟩:=hf 1 _ rfl
   rw[show Tryz.prog.cellsOf _=2 from by kernel_rfl]at h0
   rw[show Tryz.prog.cellsOf _=1 from by kernel_rfl]at h1
   obtain⟨_,m2,L9⟩:=kj Tryz.underlying66 h0
   obtain⟨z0,g0⟩:=L9 0 _ rfl
   obtain⟨z1,g1⟩:=L9 1 _ rfl
   rw[show Tryz.prog.cellsOf _=1 from by kernel_rfl]at g0 g1
   obtain⟨px,e0,_⟩:=DataW.trod_int Tryz.underlying2 g0
   obtain⟨py,e1,_⟩:=DataW.trod_int Tryz.underlying2 g1
   obtain⟨ti,e2,_⟩:=DataW.trod_int Tryz.underlying2 h1
   simp at e0 e1 e2
   subst e0 e1 e2
   exact⟨[],⟨⟨px,py⟩,ti⟩,fK.nil _ _,⟨rfl,rfl⟩,trivial⟩
 exact⟨A,n,c,f,xs,h1,h2,h3⟩
theorem we (h:TT enc w fuel 28 cs x):∃A n c f,∃d:ee,cs=[.slice A n c]/\fK f 0 w.heap.size/\iV w f (.slice A n c) d.aq:=by
 obtain⟨hl,m,hf⟩:=kj Tryz.underlying28 h
 rw[show Tryz.prog.cellsOf _=1 from by kernel_rfl]at hl
 obtain⟨a,rfl⟩:=TR hl
 ·skip
  obtain⟨y0,h0⟩:=hf 0 _ rfl
  rw[show Tryz.prog.cellsOf _=1 from by kernel_rfl]at h0
  obtain⟨A1,n1,c1,f1,QW,e1,k1,s1⟩:=Gp h0
  simp at e1
  subst e1
  exact⟨A1,n1,c1,f1,⟨QW⟩,rfl,k1,s1⟩
theorem IY (h:TT enc w fuel 30 cs x):∃A0 n0 c0 f0 A1 n1 c1 f1 A2 n2 c2 f2,∃d:aI,cs=[.slice A0 n0 c0,.slice A1 n1 c1,.slice A2 n2 c2,.int .i64 d.ay]/\fK f0 0 w.heap.size/\qP w f0 (.slice A0 n0 c0) d.aD.aA/\fK f1 0 w.heap.size/\qQ w f1 (.slice A1 n1 c1) d.aD.aq/\fK f2 0 w.heap.size/\iV w f2 (.slice A2 n2 c2) d.bx.aq/\(∀g∈d.aD.aA,g.aL.size<=9223372036854775807)/\∀t∈d.aD.aq,t.aL.size<=9223372036854775807:=by
 obtain⟨hl,m,hf⟩:=kj Tryz.underlying30 h
 rw[show Tryz.prog.cellsOf _=4 from by kernel_rfl]at hl
 obtain⟨a,b,c,d,rfl⟩:=TU hl
 ·skip
  obtain⟨y0,h0⟩:=hf 0 _ rfl
  obtain⟨y1,h1⟩:=hf 1 _ rfl
  obtain⟨y2,h2⟩:=hf 2 _ rfl
  rw[show Tryz.prog.cellsOf _=2 from by kernel_rfl]at h0
  rw[show Tryz.prog.cellsOf _=1 from by kernel_rfl]at h1 h2
  obtain⟨_,m2,L9⟩:=kj Tryz.underlying25 h0
  obtain⟨z0,g0⟩:=L9 0 _ rfl
  obtain⟨z1,g1⟩:=L9 1 _ rfl
  rw[show Tryz.prog.cellsOf _=1 from by kernel_rfl]at g0 g1
  obtain⟨A0,n0,c0,f0,xs0,e0,k0,s0,o0⟩:=Lm g0
  obtain⟨A1,n1,c1,f1,QW,e1,k1,s1,o1⟩:=Ln g1
  obtain⟨A2,n2,c2,f2,d2,e2,k2,s2⟩:=we h1
  obtain⟨t,e3,_⟩:=DataW.trod_int Tryz.underlying2 h2
  simp at e0 e1 e2 e3
  subst e0 e1 e2 e3
  exact⟨A0,n0,c0,f0,A1,n1,c1,f1,A2,n2,c2,f2,⟨⟨xs0,QW⟩,d2,t⟩,rfl,k0,s0,k1,s1,k2,s2,o0,o1⟩
end
end Go.Proofs.YtgoelphibofcmaaGreat

namespace Go.Proofs.YtgoelphibofcmaaGreat
open Go.ChangeShapes Go.WideShapes Go.ChangeAt Go.RowKit V
theorem QM:ownKnob Tryz.prog.godebug=none:=by kernel_rfl
theorem Dt:laidOutB Tryz.prog=true:=by kernel_rfl
theorem Ke {s:aI} {l:List ah} {x:ah} (hl:l.length<=1048576):(yX s l x).1.length<=1152921504606846976:=by
 unfold yX
 split
 ·split
  ·split
   ·simp
   ·dsimp only;rw[kM];omega
  ·simp
 ·simp
theorem ML (s:aI) (a:ee) (x:ah) (hn:fm s.aD):au Tryz.prog 8 [.agg (az s),.agg (aV a),.agg (aa x)] (.bool true):=
 NV (fun s a x=>yX s a.aq x) (fun s a x hn hm _=>uF s a.aq x hn hm.s.g hm.s.t) (fun s a x hn hm hl=>uE s a.aq x hn hm hl) (fun s a x hm hl=>Ke hl) s a x hn
namespace V
theorem Gn {H:Type} {enc:TypeId×Value->H} {w:World} {fuel:Nat} {cs:List Value} {x:DataW H×List MemPlace} (h:TT enc w fuel 68 cs x):∃d:ah,cs=[.int .i64 d.aW.eZ,.int .i64 d.aW.eT,.int .i64 d.aP]:=by
 obtain⟨hl,m,hf⟩:=kj Tryz.underlying68 h
 rw[show Tryz.prog.cellsOf _=3 from by kernel_rfl]at hl
 obtain⟨a,b,c,rfl⟩:=QD hl
 obtain⟨y0,h0⟩:=hf 0 _ rfl
 obtain⟨y1,h1⟩:=hf 1 _ rfl
 rw[show Tryz.prog.cellsOf _=2 from by kernel_rfl]at h0
 rw[show Tryz.prog.cellsOf _=1 from by kernel_rfl]at h1
 obtain⟨_,m2,L9⟩:=kj Tryz.underlying66 h0
 obtain⟨z0,g0⟩:=L9 0 _ rfl
 obtain⟨z1,g1⟩:=L9 1 _ rfl
 rw[show Tryz.prog.cellsOf _=1 from by kernel_rfl]at g0 g1
 obtain⟨px,e0,_⟩:=DataW.trod_int Tryz.underlying2 g0
 obtain⟨py,e1,_⟩:=DataW.trod_int Tryz.underlying2 g1
 obtain⟨ti,e2,_⟩:=DataW.trod_int Tryz.underlying2 h1
 simp at e0 e1 e2
 subst e0 e1 e2
 exact⟨⟨⟨px,py⟩,ti⟩,rfl⟩
theorem Aw {P:Program} {w:World} {D:Nat->Prop} (d:ah):jw P w D (.agg (aa d)) (.agg #[.int .i64 d.aW.eZ,.int .i64 d.aW.eT,.int .i64 d.aP]):=
 .agg _ _ (fun j=>if j=0 then .int .i64 d.aW.eZ else if j=1 then .int .i64 d.aW.eT else .int .i64 d.aP) rfl (fun a ha=>by simp[aa]at ha;rcases ha with rfl|rfl|rfl<;>rfl) (fun j hj=>by match j,hj with|0,_=>rfl|1,_=>rfl|2,_=>rfl|j+3,hj=>simp[aa]at hj;omega) (fun j a ha=>by match j,ha with|0,ha=>simp[aa]at ha;subst ha;exact .int _ _|1,ha=>simp[aa]at ha;subst ha;exact .int _ _|2,ha=>simp[aa]at ha;subst ha;exact .int _ _|j+3,ha=>simp[aa]at ha)
end V
theorem Fs (os:Os) (started:os.Started) (H:Type) (enc:TypeId×Value->H):
  ReturnsInHanded {} Tryz.checked os 8 .any (Rows.fnExactAttachWeaklySpec.pre6 enc Tryz.prog Tryz.f8 Rows.fnExactAttachWeaklyRow.domain false) (Rows.fnExactAttachWeaklySpec.post enc Tryz.prog Tryz.f8 false true false false):=by
 refine returnsInHanded_of_change (C:=Tryz.checked) QM started (by kernel_rfl) Tryz.func8
  (ChangeSpec.witness6 (enc:=enc) (C:=Tryz.checked) false ⟨#[], #[.agg #[.slice none 0 0,.slice none 0 0,.slice none 0 0,.int .i64 0],.agg #[.slice none 0 0],.agg #[.int .i64 0,.int .i64 0,.int .i64 0]],[]⟩ 8 (by kernel_rfl) (by kernel_rfl) (by kernel_rfl) (by kernel_rfl)) ?_
 intro W base args ds gs before Mn hW hcnd _
 have rD:∀(j:Nat) t v,Tryz.f8.params[j]? =some t->args[j]? =some v->Value.okWide Tryz.prog W .any base t v:=Mn
 have hW':=hW
 obtain⟨p,q,hA0,hV,rfl,Bd,mm⟩:=hW
 have hA:DataW.TrodAll enc Tryz.prog W 0 (fun _=>true) true Tryz.f8.params.toList args.toList ds p:=hA0
 rw[Tryz.params8]at hA rD
 obtain⟨v0,vs0,d0,ds0,p0,q0,nz,rfl,rfl,h0,r0⟩:=trodAll_cons hA
 obtain⟨v1,vs1,d1,ds1,p1,q1,rfl,rfl,rfl,h1,r1⟩:=trodAll_cons r0
 obtain⟨v2,vs2,d2,ds2,p2,q2,rfl,rfl,rfl,h2,r2⟩:=trodAll_cons r1
 obtain⟨rfl,rfl,rfl⟩:=trodAll_nil r2
 obtain rfl:args= #[v0,v1,v2]:=by cases args;simp_all
 obtain⟨rfl,rfl⟩:=trodVars_none hV
 obtain⟨OM,rfl,_⟩:=okWide_struct Tryz.underlying30 (rD 0 30 v0 rfl rfl)
 obtain⟨Si,rfl,_⟩:=okWide_struct Tryz.underlying28 (rD 1 28 v1 rfl rfl)
 obtain⟨Sj,rfl,_⟩:=okWide_struct Tryz.underlying68 (rD 2 68 v2 rfl rfl)
 have k0:=h0
 have k1:=h1
 have k2:=h2
 have lt2:∀x∈p2,x.block<W.heap.size:=by obtain⟨m,hm⟩:=k2;exact DataW.trod_lt m _ _ _ hm
 have lt0:∀x∈p0,x.block<W.heap.size:=by obtain⟨m,hm⟩:=k0;exact DataW.trod_lt m _ _ _ hm
 have lt1:∀x∈p1,x.block<W.heap.size:=by obtain⟨m,hm⟩:=k1;exact DataW.trod_lt m _ _ _ hm
 obtain⟨A0,n0,c0,f0,A1,n1,c1,f1,A2,n2,c2,f2,s,du,w0,s0,w1,s1,w2,s2,o0,o1⟩:∃A0 n0 c0 f0 A1 n1 c1 f1 A2 n2 c2 f2,∃d:aI,(Value.agg OM).cells.toList=[.slice A0 n0 c0,.slice A1 n1 c1,.slice A2 n2 c2,.int .i64 d.ay]/\fK f0 0 W.heap.size/\qP W f0 (.slice A0 n0 c0) d.aD.aA/\fK f1 0 W.heap.size/\qQ W f1 (.slice A1 n1 c1) d.aD.aq/\fK f2 0 W.heap.size/\iV W f2 (.slice A2 n2 c2) d.bx.aq/\(∀g∈d.aD.aA,g.aL.size<=9223372036854775807)/\∀t∈d.aD.aq,t.aL.size<=9223372036854775807:=by
  obtain⟨fuel,hf⟩:=h0
  exact IY hf
 obtain⟨A3,n3,c3,f3,a,PT,w3,s3⟩:∃A n c f,∃d:ee,(Value.agg Si).cells.toList=[.slice A n c]/\fK f 0 W.heap.size/\iV W f (.slice A n c) d.aq:=by
  obtain⟨fuel,hf⟩:=h1
  exact we hf
 obtain⟨y,PU⟩:∃d:ah,(Value.agg Sj).cells.toList=[.int .i64 d.aW.eZ,.int .i64 d.aW.eT,.int .i64 d.aP]:=by
  obtain⟨fuel,hf⟩:=h2
  exact Gn hf
 obtain rfl:Sj= #[.int .i64 y.aW.eZ,.int .i64 y.aW.eT,.int .i64 y.aP]:=by
  cases Sj;simp[Value.cells]at PU;subst PU;rfl
 obtain rfl:OM= #[.slice A0 n0 c0,.slice A1 n1 c1,.slice A2 n2 c2,.int .i64 s.ay]:=by
  cases OM;simp[Value.cells]at du;subst du;rfl
 obtain rfl:Si= #[.slice A3 n3 c3]:=by
  cases Si;simp[Value.cells]at PT;subst PT;rfl
 clear hA0 Mn
 have gC:eW Tryz.prog W (fun b=>b<W.heap.size) (fun _=>none) [.agg (az s),.agg (aV a),.agg (aa y)] #[.agg #[.slice A0 n0 c0,.slice A1 n1 c1,.slice A2 n2 c2,.int .i64 s.ay],.agg #[.slice A3 n3 c3],.agg #[.int .i64 y.aW.eZ,.int .i64 y.aW.eT,.int .i64 y.aP]]:=by
  have h:=kQ (CE s0 (fun b hb=>(w0 b hb).2) s1 (fun b hb=>(w1 b hb).2) s2 (fun b hb=>(w2 b hb).2)) (kQ (yS s3 (fun b hb=>(w3 b hb).2)) (kQ (Aw y) (⟨rfl,fun j b hj=>by cases j<;>cases hj⟩:eW Tryz.prog W (fun b=>b<W.heap.size) (fun _=>none) [] #[])))
  simpa using h
 have ig:=NW mixed (ML s a y ⟨o0,o1⟩) gC
 clear s0 s1 s2 s3 w0 w1 w2 w3 gC
 refine(ig.mono fun e W' ⟨he,bel⟩=>?_)
 subst he
 exact⟨_,rfl,_,_,_,[],_,[],hW',trodAll_mk1 (shut_bool Tryz.underlying4 _),(trodAll_cons_mk (Below.trod Dt (by kernel_rfl) (of_decide_eq_true (by kernel_rfl)) k0 bel lt0) (trodAll_cons_mk (Below.trod Dt (by kernel_rfl) (of_decide_eq_true (by kernel_rfl)) k1 bel lt1) (trodAll_cons_mk (Below.trod Dt (by kernel_rfl) (of_decide_eq_true (by kernel_rfl)) k2 bel lt2) trodAll_mk0))),rfl,bel.frame _,fun h=>by cases h⟩
end Go.Proofs.YtgoelphibofcmaaGreat

namespace Go.Proofs.YtgoelphibofcmaaGreat
open Go.ChangeShapes Go.WideShapes Go.ChangeAt Go.RowKit
theorem awN:Tryz.pinned.checked.prog.funcNamed Rows.fnExactAttachWeaklyRow.func=some 8:=by kernel_rfl
theorem awJ:joinedFacts Tryz.pinned.checked.prog 8 Tryz.f8 Rows.fnExactAttachWeaklySpec Rows.fnExactAttachWeaklyRow=true:=by
 unfold joinedFacts
 repeat(with_reducible refine Bool.and_eq_true_iff.2 ⟨?_,by as_aux_lemma=>kernel_rfl⟩)
 as_aux_lemma=>kernel_rfl
theorem awI:Tryz.f8.isInstance Tryz.pinned.checked.prog Rows.fnExactAttachWeaklyRow.origin Rows.fnExactAttachWeaklyRow.targs:=of_decide_eq_true (by kernel_rfl)
theorem awW:Tryz.f8.isWrapper Tryz.pinned.checked.prog Rows.fnExactAttachWeaklyRow.wrapper Rows.fnExactAttachWeaklyRow.mainSum:=by
 unfold Func.isWrapper;first|(rw[if_pos (by decide+kernel)];kernel_rfl)|(rw[if_neg (by decide+kernel)];exact⟨rfl,rfl⟩)
theorem Kg:Rows.fnExactAttachWeaklyRow.holds Tryz.pinned (OpenSpec.ofChange Rows.fnExactAttachWeaklySpec):=
 OpenClaim.holds_of_wide 8 Tryz.f8 rfl rfl rfl rfl rfl rfl rfl ⟨rfl,rfl,rfl,rfl,rfl⟩ rfl rfl rfl rfl rfl awN Tryz.func8 awJ awI awW
  (fun os started H enc _=>Fs os started H enc)
theorem fnExactAttachWeakly_proved:Rows.FnExactAttachWeaklySaid:=Kg
end Go.Proofs.YtgoelphibofcmaaGreat
