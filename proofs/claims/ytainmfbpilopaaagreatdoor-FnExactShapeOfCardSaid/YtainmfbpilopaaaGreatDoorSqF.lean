/- TileSet.bonds: the range over the neighbors, walked on the machine. -/
import Derived.Test.YtainmfbpilopaaaGreatDoorSqE
import Derived.Test.YtainmfbpilopaaaGreatDoorSqB
import Derived.Test.YtainmfbpilopaaaGreatDoorSqD
import Derived.Test.YtainmfbpilopaaaGreatDoorSqC
import Derived.Maps.OwnIn
import Derived.Maps.AppendAt
import Derived.Stop.LaidErr
import Derived.Test.YtainmfbpilopaaaGreatDoorChecked
import Derived.Test.YtainmfbpilopaaaGreatDoorRows
import Derived.ProofKit
import Derived.ChangeOld
import Derived.Below
import Derived.WalkKit
import Derived.LaidEql
import Derived.Stop.Asserts
import Derived.RowKitTokens
set_option linter.unusedVariables false
set_option linter.unusedSimpArgs false
set_option maxRecDepth 100000
set_option maxHeartbeats 16000000
namespace Go.Proofs.YtainmfbpilopaaaGreatDoor.V
open Go.RowKit Go.Shelf
attribute [local go_sem] Oper.semAt_some
def iT (n₀:Nat) (W W':World):Prop:=W.heap.size<=W'.heap.size/\(∀(b:Nat) (cells:Array Value) (T:TypeId) (fr:Nat×Nat),W.heap[b]? =some (Obj.cells cells T fr)->T≠217->T≠266->W'.heap[b]? =W.heap[b]?)/\∀k,k<n₀->k<W.heap.size->W'.heap[k]? =W.heap[k]?
theorem iT.trans {n₀:Nat} {A B C:World} (h:iT n₀ A B) (k:iT n₀ B C):iT n₀ A C:=⟨Nat.le_trans h.1 k.1,fun b cells T fr hb h1 h2=>by
 have e:=h.2.1 b cells T fr hb h1 h2
 rw[<-e]at hb ⊢
 exact k.2.1 b cells T fr hb h1 h2,fun b hb hs=>(k.2.2 b hb (Nat.lt_of_lt_of_le hs h.1)).trans (h.2.2 b hb hs)⟩
theorem iT.of {n₀:Nat} {W W':World} (h:Below W.heap.size W W'):iT n₀ W W':=⟨h.size,fun b cells T fr hb _ _=>h.block b (Array.getElem?_eq_some_iff.1 hb).1,fun k _ hs=>h.block k hs⟩
theorem iT.refl (n₀:Nat) (W:World):iT n₀ W W:=⟨Nat.le_refl _,fun _ _ _ _ _ _ _=>rfl,fun _ _ _=>rfl⟩
theorem iT.b {n₀ m:Nat} (hm:n₀<=m) (W:World) (l:Nat) (o o':Obj) (hl:m<=l) (h:W.heap[l]? =some o) (hc:o.isCells=false) (_:o.isWalk=false):iT n₀ W (W.putObj l o'):=by
 refine⟨by simp,fun b cells T fr hb _ _=>?_,fun k hk _=>World.putObj_heap_other ah⟩
 by_cases oV:b=l
 ·subst oV;rw[h]at hb;cases hb;cases hc
 ·exact World.putObj_heap_other oV
def Pk (bs:List PB):List Value:=bs.flatMap fun b=>[.int .i64 b.a,.int .i64 b.b,.int .i64 b.s]
theorem LV (bs:List PB) (b:PB):Pk (bs++[b])=Pk bs++[.int .i64 b.a,.int .i64 b.b,.int .i64 b.s]:=by simp[Pk]
def pP (s:ay) (l:List aa) (pre:List (Sr l)):List PB:=(pre.map (·.1)).flatMap (B6 s l)
theorem AO (s:ay) (l:List aa) (pre:List (Sr l)) (x:Sr l):pP s l (pre++[x])=pP s l pre++B6 s l x.1:=by simp[pP]
theorem LU (s:ay) (l:List aa) (x:Nat×Nat×Int):(B6 s l x).length<=1:=by
 unfold B6;split<;>simp
theorem LW (s:ay) (l:List aa) (pre:List (Sr l)):(pP s l pre).length<=pre.length:=by
 unfold pP
 induction pre with
 |nil=>simp
 |cons x r ih=>
  have:=LU s l x.1
  simp only[List.map_cons,List.flatMap_cons,List.length_append,List.length_cons]at ih ⊢
  omega
theorem By (l:List aa) (i:Nat):∀m,(mj l i m).length<=m
 |0=>by simp[mj]
 |m+1=>by
  rw[pa,List.length_append]
  have:=By l i m
  have:(Fa l i (1-(m:Int))).length<=1:=by unfold Fa;split<;>simp
  omega
theorem Fb (l:List aa):∀n,(mY l n).length<=n*2
 |0=>by simp[mY]
 |n+1=>by
  rw[ox,List.length_append]
  have:=Fb l n
  have:=By l n 2
  omega
theorem Ek {β:Type} (B:Nat) (c:Array Value) (t:TypeId) (fr:Nat×Nat):Own (fun(_:β) W=>W.heap[B]? =some (.cells c t fr)):=fun _ X _ row h hg hr=>(hg.block B (Array.getElem?_eq_some_iff.1 h).1 (fun e=>by
 obtain⟨o,ho,hc⟩:=hr B e.symm
 rw[h]at ho;cases ho;cases hc)).trans h
theorem iT.app {n₀:Nat} {W w1:World} {B k:Nat} {v v':Value} {xs:List Value} {tmp:Obj} (hv:Boxed W B 217 v) (fm:W.ownsRow n₀ 266 3 v k xs) (Bd:(W.alloc tmp).grownBy w1 v.ownBlock) (hb:Below n₀ W (w1.setCell ⟨B,0,none⟩ v')):iT n₀ W (w1.setCell ⟨B,0,none⟩ v'):=by
 refine⟨hb.size,fun b cells T fr h h1 h2=>?_,fun k hk _=>hb.block k hk⟩
 have eu:=(Array.getElem?_eq_some_iff.1 h).1
 have hbB:b≠B:=by
  rintro rfl
  rw[show W.heap[b]? = _ from hv]at h
  cases h
  exact h1 rfl
 have YG:some b≠v.ownBlock:=by
  rcases fm.2 with⟨rfl,_⟩|⟨g,cap,cur,rfl,_,hg,_⟩
  ·simp[Value.ownBlock]
  ·intro e
   obtain rfl:b=g:=by simpa[Value.ownBlock]using e
   rw[hg]at h;cases h
   exact h2 rfl
 refine(Below.heap_setCell w1 ⟨B,0,none⟩ v' b hbB).trans ?_
 exact(Bd.block b (by simp;omega) YG).trans (Below.heap_alloc W tmp b eu)
theorem XD {w:World} {vS:Value} {l:List aa} (hP:rM w vS l):LB (iT w.heap.size) vS l where
 refl:=iT.refl _
 trans:=iT.trans
 of:=iT.of
 size h:=h.1
 typed h:=h.2.1
 pl {W W'} h hp:=by
  obtain⟨A,c,rfl,hm,hc⟩:=hp.sl
  refine⟨A,c,rfl,hm,?_⟩
  by_cases hl:l=[]
  ·exact .inl hl
  have lp:0<l.length:=List.length_pos_iff.2 hl
  rcases hc with h0|⟨b,o,rfl,lL⟩
  ·exact absurd h0 hl
  obtain⟨A',c',e,_,lF⟩:=hP.sl
  cases e
  rcases lF with h0|⟨b',o',e,hcell'⟩
  ·exact absurd h0 hl
  cases e
  have hb:=xR (hcell' 0 lp).1
  have hk:=h.2.2 b hb (xR (lL 0 lp).1)
  refine .inr ⟨b,o,rfl,fun i hi=>?_⟩
  have Cm:∀x,W'.cell? ⟨b,x,none⟩=W.cell? ⟨b,x,none⟩:=fun x=>World.cell?_of_block hk
  rw[Cm,Cm,Cm]
  exact lL i hi
theorem rrE {P:Program} {nt site0:Nat} {ops:Array Oper} {vl:List bL} (_:yD P ops site0 false (jO ops) (re P false ops.toList 0) ops.toList 0=some vl:=by(conv=>lhs;cbv)<;>exact rfl) (h:tM P nt site0 ops true false=some vl:=by kernel_rfl):tM P nt site0 ops true false=some vl:=h
theorem Nn (l:List Value) (d:Value):l=(List.range l.length).map fun i=>(⟨l⟩:Array Value).getD i d:=by
 refine List.ext_getElem (by simp) fun i h1 h2=>?_
 simp[h1]
theorem Hl {X:gx} {d:Bool} {ops:List bL} {K:Env->aw->Prop} {env:Env} {σ:aw} (h:dW X (.fF d ops) (fun _=>K) env σ):wpOps X d ops K env σ:=h
theorem yI (W:World) (T:TypeId) (x y z:Value):∀(j:Nat) (u:Value),[x,y,z][j]? =some u->(W.alloc (.cells #[x,y,z] T)).cell? ((⟨W.heap.size,0,none⟩:Addr).add j)=some u:=fun j u h=>by
 have hb:(W.alloc (.cells #[x,y,z] T)).heap[W.heap.size]? =some (.cells #[x,y,z] T (0,0)):=World.alloc_heap_new _ _
 have e:∀k,(W.alloc (.cells #[x,y,z] T)).cell? ⟨W.heap.size,k,none⟩=(#[x,y,z]:Array Value)[k]? :=fun k=>by
  unfold World.cell?
  rw[show(W.alloc (.cells #[x,y,z] T)).heap[(⟨W.heap.size,k,none⟩:Addr).block]? = _ from hb]
  rfl
 rw[show(⟨W.heap.size,0,none⟩:Addr).add j=⟨W.heap.size,j,none⟩ by simp[Addr.add];exact fun h=>h.symm,e]
 simpa using h
def L3 (n b:Nat):Names:=fun id=>if id=⟨1,0⟩then some ⟨n,2,2,none⟩else if id=⟨2,0⟩then some ⟨n+1,1,1,none⟩else if id=⟨3,0⟩then some ⟨n+1+1,1,1,none⟩else if id=⟨4,0⟩then some ⟨b,2,2,none⟩else if id=⟨5,0⟩then some ⟨n+1+1+1,1,1,none⟩else none
def Rw (s:ay) (l:List aa) (i k:Nat):Rows:=fun id=>if id=⟨1,0⟩then some ⟨false,2,[ae s]⟩else if id=⟨2,0⟩then some ⟨false,1,[[.sl (l.map ab)]]⟩else if id=⟨4,0⟩then some ⟨false,2,[[.int .i64 (i:Int),.int .i64 (k:Int)]]⟩else none
def SH (s:ay) (l:List aa) (i k:Nat) (d:Int):Env:=bW [.agg (ae s),.agg [.sl (l.map ab)],.ptr ⟨1,0⟩ 0 0,.ptr ⟨2,0⟩ 0 0,.bU,.ptr ⟨3,0⟩ 0 0,.ptr ⟨4,0⟩ 0 0,.int .i64 d,.undef,.agg [.sl (l.map ab)],.fn 257 [.ptr ⟨5,0⟩ 0 0],.agg [.int .i64 (i:Int),.int .i64 (k:Int)],.int .i64 d]
theorem Ht {P:Program} {W:World} {D:Nat->Prop} {ι:Names} {B:uX} {cells:Array Value} {T:TypeId} {cs:List AV} (hk:B.k=none) (hb:W.heap[B.b]? =some (.cells cells T (0,0))) (hC:cells.size=B.C) (hz:B.sz=cs.length) (hl:cs.length=cells.size) (hf:∀a∈cs,a.cell=true) (hr:∀(j:Nat) (a:AV),cs[j]? =some a->∃v,cells[j]? =some v/\dm P W D ι a v):iv P W D ι B ⟨false,cs.length,[cs]⟩:=
 lK.obj ⟨hz,⟨cells,T,hb,hC⟩,by simp;omega,fun c hc=>by simp at hc;rw[hc],fun c hc=>by simp at hc;rw[hc];exact hf,fun i j c a hi hj=>by
  match i,hi with
  |0,hi=>
   simp at hi;subst hi
   obtain⟨v,h1,h2⟩:=hr j a hj
   exact⟨v,by simp[World.cell?,hb,h1],h2⟩
  |i+1,hi=>simp at hi⟩ hk
theorem M6:(Tryz.prog.info? 266).map (fun i=>(i.zero,i.size,i.bytes))=some (some (.agg #[.int .i64 0,.int .i64 0,.int .i64 0]),3,24):=by kernel_rfl
end Go.Proofs.YtainmfbpilopaaaGreatDoor.V

namespace Go.Proofs.YtainmfbpilopaaaGreatDoor.V
open Go.RowKit Go.Shelf
attribute [local go_sem] Oper.semAt_some
attribute [local irreducible] dW wpOps fu Call
theorem L0 (s:ay) (l:List aa) (hF:jI s) (hA:jN s l) (w:World) (Ag At:Option Addr) (ng cg nt ct:Nat) (vS:Value) (hT:ko Tryz.prog w (fun b=>b<w.heap.size) (.agg (ae s)) (.agg #[.slice Ag ng cg,.slice At nt ct])) (hP:rM w vS l):
  CallsIn Fence.wide 5 Tryz.prog 173 #[.agg #[.slice Ag ng cg,.slice At nt ct],.agg #[vS]] w fun e W'=>∃v,e=.returned v/\W'.ownsRow w.heap.size 266 3 v (du s l).length (Pk (du s l))/\(v=.slice none 0 0↔du s l=[])/\Below w.heap.size w W':=by
 obtain⟨A,cp,rfl,_,_⟩:=hP.sl
 obtain⟨i0,hi,EE,y7,kJ⟩:=info_parts M6
 refine callsIn_of_wp_marks Tryz.func173 rfl trivial ?_ rfl
 simp only[Tryz.ntmps173,List.size_toArray,List.length_cons,List.length_nil,Nat.reduceAdd,Nat.reduceSub,Array.replicate_succ,Array.replicate_zero,List.push_toArray,List.append_toArray,List.nil_append,List.cons_append]
 gi_wp2_with (refine⟨trivial,?_⟩;gi_at_call 219;refine(CI _ _ _).mono ?_;rintro e w' ⟨rfl,rfl⟩)
 have bT:((w.alloc (.cells #[.slice Ag ng cg,.slice At nt ct] 28)).heap[w.heap.size]?)=some (.cells #[.slice Ag ng cg,.slice At nt ct] 28 (0,0)):=World.alloc_heap_new _ _
 obtain⟨w1,nv⟩:∃w1,w.alloc (.cells #[.slice Ag ng cg,.slice At nt ct] 28)=w1:=⟨_,rfl⟩
 have VX:w1.heap.size=w.heap.size+1:=by rw[<-nv];simp
 have z6:Below w.heap.size w w1:=by rw[<-nv];exact(Below.refl _ w).alloc (Nat.le_refl _) _
 rw[nv]at bT ⊢
 clear nv
 have bA:=Boxed.new w1 31 (.slice A l.length cp)
 have bO:=Boxed.new (w1.alloc (.cells #[.slice A l.length cp] 31)) 217 (.slice none 0 0)
 have bN:=Boxed.new ((w1.alloc (.cells #[.slice A l.length cp] 31)).alloc (.cells #[.slice none 0 0] 217)) 31 (.slice A l.length cp)
 replace bA:=(bA.alloc (.cells #[.slice none 0 0] 217)).alloc (.cells #[.slice A l.length cp] 31)
 replace bO:=bO.alloc (.cells #[.slice A l.length cp] 31)
 simp only[World.size_alloc,VX]at bA bO bN
 have oU:Below w1.heap.size w1 (((w1.alloc (.cells #[.slice A l.length cp] 31)).alloc (.cells #[.slice none 0 0] 217)).alloc (.cells #[.slice A l.length cp] 31)):=(((Below.refl _ w1).alloc (Nat.le_refl _) _).alloc (by simp) _).alloc (by simp;omega) _
 have fI:(((w1.alloc (.cells #[.slice A l.length cp] 31)).alloc (.cells #[.slice none 0 0] 217)).alloc (.cells #[.slice A l.length cp] 31)).heap.size=w.heap.size+4:=by simp;omega
 obtain⟨W0,WK⟩:∃W0,((w1.alloc (.cells #[.slice A l.length cp] 31)).alloc (.cells #[.slice none 0 0] 217)).alloc (.cells #[.slice A l.length cp] 31)=W0:=⟨_,rfl⟩
 rw[WK]at bA bO bN oU fI ⊢
 clear WK
 have zZ:Below w.heap.size w W0:=z6.trans (oU.mono ah)
 replace bT:=(oU.block w.heap.size ah).trans bT
 have hP0:rM W0 (.slice A l.length cp) l:=hP.below zZ
 have kl:=XD hP
 have oV:=sn (s:=s) hA.1
 refine wpIn_rangeFunc_ownH (n:=5) rfl ah (gf:=257) (lb:= #[.pointer (some ⟨w.heap.size+1+1+1,0,none⟩)]) rfl trivial (enters_of Tryz.func257 (by kernel_rfl) rfl)
  (Nz l hA.1 (w.heap.size+1+1+1) (5-1) ah (.slice A l.length cp) (iT w.heap.size) kl W0 bN hP0) iT.trans (iT.b ah) (Below.refl _ _) (fun _=>rfl)
  (fun pre W=>((∃v,Boxed W (w.heap.size+1+1) 217 v/\W.ownsRow w.heap.size 266 3 v (pP s l pre).length (Pk (pP s l pre))/\(v=.slice none 0 0↔pP s l pre=[]))/\(Boxed W (w.heap.size+1) 31 (.slice A l.length cp)/\W.heap[w.heap.size]? =some (.cells #[.slice Ag ng cg,.slice At nt ct] 28 (0,0))))/\Below w.heap.size w W)
  (fun _ _ _=>False)
  (OwnFrom.and (OwnFrom.and (Own.from (holdsRow_own w.heap.size (w.heap.size+1+1) 217 266 3 (fun pre=>(pP s l pre).length) (fun pre=>Pk (pP s l pre)) (fun pre v=>v=.slice none 0 0↔pP s l pre=[])) _) (OwnFrom.and (Own.from (boxed_own _ _ _) _) (Own.from (Ek _ _ _ _) _))) (ownFrom_below (Nat.le_refl _) ah))
  (fun _ _ _ _ _ hs _ _=>hs)
  ⟨⟨⟨_,bO,World.ownsRow_nil _ _ _ _,by simp[pP]⟩,bA,bT⟩,zZ⟩
  (fun x a' W=>∃Bx,w.heap.size+1+1<Bx/\W.heap[Bx]? =some (.cells #[.int .i64 (x.1.1:Int),.int .i64 (x.1.2.1:Int)] 272 (0,0))/\a'={tmps:= #[.agg #[.slice Ag ng cg,.slice At nt ct],.agg #[.slice A l.length cp],.pointer (some ⟨w.heap.size,0,none⟩),.pointer (some ⟨w.heap.size+1,0,none⟩),.slice none 0 0,.pointer (some ⟨w.heap.size+1+1,0,none⟩),.pointer (some ⟨Bx,0,none⟩),.int .i64 x.1.2.2,undef,.agg #[.slice A l.length cp],.func (.func 257) #[] #[.pointer (some ⟨w.heap.size+1+1+1,0,none⟩)],.agg #[.int .i64 (x.1.1:Int),.int .i64 (x.1.2.1:Int)],.int .i64 x.1.2.2,undef,undef,undef,undef,undef,undef,undef,undef,undef,undef,undef,undef,undef,undef,undef,undef,undef,undef,undef,undef,undef,undef,undef,undef,undef,undef,undef,undef,undef],defers:=[]})
  (fun x a' _ X Y row hs hg hr=>by obtain⟨Bx,h1,h2,h3⟩:=hs;exact⟨Bx,h1,Ek Bx _ _ _ () X Y row h2 hg (fun r e=>(hr r e).2),h3⟩)
  ?assign ?body ?done ?stop
 case assign=>
  rintro q pre ⟨⟨x0,x1,x2⟩,hx⟩ W K ⟨⟨⟨v,hv,fm,hnil⟩,bA1,bT1⟩,hB⟩ hK
  simp only[Ii]
  gi_wp2
  exact hK _ _ ((KeepsOthers.alloc _ _).from _) (iT.of ((Below.refl _ W).alloc (Nat.le_refl _) _)) ⟨⟨⟨v,hv.alloc _,fm.alloc _,hnil⟩,bA1.alloc _,(Below.heap_alloc _ _ _ (Array.getElem?_eq_some_iff.1 bT1).1).trans bT1⟩,hB.alloc hB.size _⟩ ⟨W.heap.size,hv.lt,World.alloc_heap_new _ _,rfl⟩
 case body=>
  rintro q pre ⟨⟨x0,x1,x2⟩,hx⟩ a' W hq hqr ⟨⟨⟨v,hv,fm,hnil⟩,bA1,bT1⟩,hB⟩ ⟨Bx,hBx,bX,rfl⟩ eu
  obtain⟨FZ,P8,F0,-⟩:=id hx
  simp only at FZ P8 F0 bX
  obtain⟨A',c',e',_,hc⟩:=(hP.below hB).sl
  cases e'
  have dY:∃b o,A=some ⟨b,o,none⟩/\W.cell? ⟨b,o+x0*3+2,none⟩=some (.int .i64 (bd l x0).bK)/\W.cell? ⟨b,o+x1*3+2,none⟩=some (.int .i64 (bd l x1).bK):=by
   rcases hc with rfl|⟨b,o,rfl,lL⟩
   ·simp at FZ
   ·exact⟨b,o,rfl,by rw[Nat.add_assoc];exact(lL x0 FZ).2.2,by rw[Nat.add_assoc];exact(lL x1 P8).2.2⟩
  obtain⟨b,o,rfl,cP0,cP1⟩:=dY
  have cT0:W.cell? ⟨w.heap.size,0,none⟩=some (.slice Ag ng cg):=by simp[World.cell?,bT1]
  have cT1:W.cell? ⟨w.heap.size,1,none⟩=some (.slice At nt ct):=by simp[World.cell?,bT1]
  have ZI:W.cell? ⟨Bx,0,none⟩=some (.int .i64 (x0:Int)):=by simp[World.cell?,bX]
  have ZJ:W.cell? ⟨Bx,1,none⟩=some (.int .i64 (x1:Int)):=by simp[World.cell?,bX]
  have cA:=bA1.cell
  have dP0:W.drew.cell? ⟨b,o+x0*3+2,none⟩=some (.int .i64 (bd l x0).bK):=cP0
  have dP1:W.drew.cell? ⟨b,o+x1*3+2,none⟩=some (.int .i64 (bd l x1).bK):=cP1
  have dT0:W.drew.cell? ⟨w.heap.size,0,none⟩=some (.slice Ag ng cg):=cT0
  have dT1:W.drew.cell? ⟨w.heap.size,1,none⟩=some (.slice At nt ct):=cT1
  have dX0:W.drew.cell? ⟨Bx,0,none⟩=some (.int .i64 (x0:Int)):=ZI
  have dX1:W.drew.cell? ⟨Bx,1,none⟩=some (.int .i64 (x1:Int)):=ZJ
  have dA:W.drew.cell? ⟨w.heap.size+1,0,none⟩=some (.slice (some ⟨b,o,none⟩) l.length cp):=cA
  have o3:∀i,i<l.length->bd l i∈l:=fun i hi=>by
   unfold bd
   rw[List.getD_eq_getElem?_getD,List.getElem?_eq_getElem hi]
   exact List.getElem_mem hi
  have hmix:=mixed
  have YN:=hA.1.xD
  have YH:=LY s hF (bd l x0).bK x2 (bd l x1).bK (hA.2 _ (o3 x0 FZ)) (hA.2 _ (o3 x1 P8)) (jD ah)
  have hTW:ko Tryz.prog W (fun b=>b<w.heap.size) (.agg (ae s)) (.agg #[.slice Ag ng cg,.slice At nt ct]):=hT.frame (fun b hb=>hB.block b hb) (fun _ h=>h)
  have hAW:ko Tryz.prog W (fun b=>b<w.heap.size) (.sl (l.map ab)) (.slice (some ⟨b,o,none⟩) l.length cp):=hP.eP.frame (fun b hb=>hB.block b hb) (fun _ h=>h)
  obtain⟨fT,hT0,hT1⟩:∃f:Nat->Value,(∀j,j<(ae s).length->(#[Value.slice Ag ng cg,.slice At nt ct])[j]? =some (f j))/\∀j a,(ae s)[j]? =some a->ko Tryz.prog W (fun b=>b<w.heap.size) a (f j):=by
   cases hTW with
   |agg _ _ f _ _ h3 h4=>exact⟨f,h3,h4⟩
  have dZ:St Tryz.prog W.heap.size 42 (fun b=>b<w.heap.size) (L3 w.heap.size Bx) (SH s l x0 x1 x2) ⟨Rw s l x0 x1,1⟩ {tmps:= #[.agg #[.slice Ag ng cg,.slice At nt ct],.agg #[.slice (some ⟨b,o,none⟩) l.length cp],.pointer (some ⟨w.heap.size,0,none⟩),.pointer (some ⟨w.heap.size+1,0,none⟩),.slice none 0 0,.pointer (some ⟨w.heap.size+1+1,0,none⟩),.pointer (some ⟨Bx,0,none⟩),.int .i64 x2,undef,.agg #[.slice (some ⟨b,o,none⟩) l.length cp],.func (.func 257) #[] #[.pointer (some ⟨w.heap.size+1+1+1,0,none⟩)],.agg #[.int .i64 (x0:Int),.int .i64 (x1:Int)],.int .i64 x2,undef,undef,undef,undef,undef,undef,undef,undef,undef,undef,undef,undef,undef,undef,undef,undef,undef,undef,undef,undef,undef,undef,undef,undef,undef,undef,undef,undef,undef],defers:=[]} W:=by
   have n1:(L3 w.heap.size Bx) ⟨1,0⟩=some ⟨w.heap.size,2,2,none⟩:=rfl
   have n2:(L3 w.heap.size Bx) ⟨2,0⟩=some ⟨w.heap.size+1,1,1,none⟩:=rfl
   have n3:(L3 w.heap.size Bx) ⟨3,0⟩=some ⟨w.heap.size+1+1,1,1,none⟩:=rfl
   have n4:(L3 w.heap.size Bx) ⟨4,0⟩=some ⟨Bx,2,2,none⟩:=rfl
   have n5:(L3 w.heap.size Bx) ⟨5,0⟩=some ⟨w.heap.size+1+1+1,1,1,none⟩:=rfl
   have rp:∀(id:Id) (B:uX),(L3 w.heap.size Bx) id=some B->B.k=none->dm Tryz.prog W (fun b=>b<w.heap.size) (L3 w.heap.size Bx) (.ptr id 0 0) (.pointer (some ⟨B.b,0,none⟩)):=fun id B h hk=>by
    have:=dm.ptr (P:=Tryz.prog) (w:=W) (D:=fun b=>b<w.heap.size) id 0 0 B h hk
    simpa using this
   have ri:∀n:Int,dm Tryz.prog W (fun b=>b<w.heap.size) (L3 w.heap.size Bx) (.int .i64 n) (.int .i64 n):=fun n=>.eP _ _ (.int _ _)
   have hA1:ko Tryz.prog W (fun b=>b<w.heap.size) (.agg [.sl (l.map ab)]) (.agg #[.slice (some ⟨b,o,none⟩) l.length cp]):=.agg _ _ (fun _=>.slice (some ⟨b,o,none⟩) l.length cp) rfl (fun a ha=>by simp at ha;rw[ha];rfl) (fun j hj=>by match j,hj with|0,_=>rfl|j+1,hj=>simp at hj) (fun j a ha=>by match j,ha with|0,ha=>simp at ha;subst ha;exact hAW|j+1,ha=>simp at ha)
   refine⟨⟨Nat.le_refl _,fun b hb=>Nat.lt_of_lt_of_le hb hB.size,fun id r hg=>?_,fun id kK r r' B B' h _ hw=>?_⟩,fun id hid=>?_,fun t=>?_,rfl⟩
   ·replace hg:Rw s l x0 x1 id=some r:=hg
    unfold Rw at hg
    split at hg
    ·rename_i e;subst e;injection hg with hg;subst hg
     exact⟨_,n1,Ht (cs:=ae s) rfl bT1 rfl rfl rfl (fun a ha=>by simp[ae]at ha;rcases ha with rfl|rfl<;>rfl) (fun j a ha=>⟨_,hT0 j (List.getElem?_eq_some_iff.1 ha).1,.eP _ _ (hT1 j a ha)⟩),fun h=>(by cases h),fun h=>(by cases h)⟩
    ·split at hg
     ·rename_i e;subst e;injection hg with hg;subst hg
      exact⟨_,n2,Ht (cs:=[.sl (l.map ab)]) rfl bA1 rfl rfl rfl (fun a ha=>by simp at ha;rw[ha];rfl) (fun j a ha=>by match j,ha with|0,ha=>simp at ha;subst ha;exact⟨_,rfl,.eP _ _ hAW⟩|j+1,ha=>simp at ha),fun h=>(by cases h),fun h=>(by cases h)⟩
     ·split at hg
      ·rename_i e;subst e;injection hg with hg;subst hg
       exact⟨_,n4,Ht (cs:=[.int .i64 (x0:Int),.int .i64 (x1:Int)]) rfl bX rfl rfl rfl (fun a ha=>by simp at ha;rcases ha with rfl|rfl<;>rfl) (fun j a ha=>by match j,ha with|0,ha=>simp at ha;subst ha;exact⟨_,rfl,ri _⟩|1,ha=>simp at ha;subst ha;exact⟨_,rfl,ri _⟩|j+2,ha=>simp at ha),fun h=>(by cases h),fun h=>(by cases h)⟩
      ·cases hg
   ·exfalso
    replace h:Rw s l x0 x1 id=some r:=h
    unfold Rw at h
    split at h
    ·injection h with h;subst h;cases hw
    ·split at h
     ·injection h with h;subst h;cases hw
     ·split at h
      ·injection h with h;subst h;cases hw
      ·cases h
   ·left
    unfold L3 at hid
    repeat' (split at hid)
    all_goals first|(rename_i e;subst e;exact Nat.zero_lt_one)|exact absurd rfl hid
   ·match t with
    |0=>exact .eP _ _ hTW
    |1=>exact .eP _ _ hA1
    |2=>exact rp _ _ n1 rfl
    |3=>exact rp _ _ n2 rfl
    |4=>exact .eP _ _ .bU
    |5=>exact rp _ _ n3 rfl
    |6=>exact rp _ _ n4 rfl
    |7=>exact ri _
    |8=>exact dm.undef
    |9=>exact .eP _ _ hA1
    |10=>exact .fn _ _ _ (fun _=>.pointer (some ⟨w.heap.size+1+1+1,0,none⟩)) (by kernel_rfl) rfl (fun j hj=>by match j,hj with|0,_=>rfl|j+1,hj=>simp at hj) (fun j a ha=>by match j,ha with|0,ha=>simp at ha;subst ha;exact rp _ _ n5 rfl|j+1,ha=>simp at ha)
    |11=>exact .agg _ _ (fun j=>if j=0 then .int .i64 (x0:Int)else .int .i64 (x1:Int)) rfl (fun a ha=>by simp at ha;rcases ha with rfl|rfl<;>rfl) (fun j hj=>by match j,hj with|0,_=>rfl|1,_=>rfl|j+2,hj=>simp at hj;omega) (fun j a ha=>by match j,ha with|0,ha=>simp at ha;subst ha;exact ri _|1,ha=>simp at ha;subst ha;exact ri _|j+2,ha=>simp at ha)
    |12=>exact ri _
    |13=>exact dm.undef
    |14=>exact dm.undef
    |15=>exact dm.undef
    |16=>exact dm.undef
    |17=>exact dm.undef
    |18=>exact dm.undef
    |19=>exact dm.undef
    |20=>exact dm.undef
    |21=>exact dm.undef
    |22=>exact dm.undef
    |23=>exact dm.undef
    |24=>exact dm.undef
    |25=>exact dm.undef
    |26=>exact dm.undef
    |27=>exact dm.undef
    |28=>exact dm.undef
    |29=>exact dm.undef
    |30=>exact dm.undef
    |31=>exact dm.undef
    |32=>exact dm.undef
    |33=>exact dm.undef
    |34=>exact dm.undef
    |35=>exact dm.undef
    |36=>exact dm.undef
    |37=>exact dm.undef
    |38=>exact dm.undef
    |39=>exact dm.undef
    |40=>exact dm.undef
    |41=>exact dm.undef
    |t+42=>exact dm.undef
  have hV:wpOps (Call Tryz.prog) true ?vl (fun e _=>e 5=.ptr ⟨3,0⟩ 0 0/\e 6=.ptr ⟨4,0⟩ 0 0/\e 8=.int .i64 (iw s (bd l x0).bK x2 (bd l x1).bK)) (SH s l x0 x1 x2) ⟨Rw s l x0 x1,1⟩:= ?hv
  gi_wp2
  refine CO mixed (rrE (nt:=42) (site0:=173005000)) (NC (by kernel_rfl)) (mK (fun _ _ _ _ h=>gD mixed h) l7 (fun _ _ h=>h) _ _ _ hV) dZ ?_
  rintro e1 σ1 ⟨tm,df⟩ w3 D1 ι1 ⟨h5,h6,h8⟩ T1 tA GI
  case hv=>
   refine Hl ?_
   have e0:=fV FZ
   have e1:=fV P8
   (have zF:=tw @e0 (tw @e1 (tw @SH.eq_1 (tw @Rw.eq_1 (tw @ab.eq_1 @ae.eq_1))));(repeat(first|((repeat(revert N;apply Pn.out));refine wk zF ?_;(repeat(apply Pn.mk;intro N hN)))|((try apply Or.inl);refine⟨_,au.x (YH) (sd zF),?_⟩;apply hN;clear hN N)));try clear zF)
   exact⟨sd @SH.eq_1,sd @SH.eq_1,sd @SH.eq_1⟩
  ·have Eh:Below W.heap.size W w3:=T1.below
   have qY:∀id B,L3 w.heap.size Bx id=some B->ι1 id=some B:=T1.names
   have p5:tm.getD 5 undef=.pointer (some ⟨w.heap.size+1+1,0,none⟩):=by
    have g:=tA.env 5
    rw[h5]at g
    obtain⟨B,e,hB,_⟩:=iR g
    have h:=qY ⟨3,0⟩ ⟨w.heap.size+1+1,1,1,none⟩ rfl
    rw[h]at hB;injection hB with hB;subst hB
    simpa using e
   have p6:tm.getD 6 undef=.pointer (some ⟨Bx,0,none⟩):=by
    have g:=tA.env 6
    rw[h6]at g
    obtain⟨B,e,hB,_⟩:=iR g
    have h:=qY ⟨4,0⟩ ⟨Bx,2,2,none⟩ rfl
    rw[h]at hB;injection hB with hB;subst hB
    simpa using e
   have p8:tm.getD 8 undef=.int .i64 (iw s (bd l x0).bK x2 (bd l x1).bK):=by
    have g:=tA.env 8
    rw[h8]at g
    exact dR g
   have fI:=tA.size
   obtain⟨tl⟩:=tm
   obtain⟨f,GW,hf⟩:∃f:Nat->Value,tl=[f 0,f 1,f 2,f 3,f 4,f 5,f 6,f 7,f 8,f 9,f 10,f 11,f 12,f 13,f 14,f 15,f 16,f 17,f 18,f 19,f 20,f 21,f 22,f 23,f 24,f 25,f 26,f 27,f 28,f 29,f 30,f 31,f 32,f 33,f 34,f 35,f 36,f 37,f 38,f 39,f 40,f 41]/\∀i,f i=(⟨tl⟩:Array Value).getD i undef:=by
    refine⟨fun i=>(⟨tl⟩:Array Value).getD i undef,?_,fun _=>rfl⟩
    have h:=Nn tl undef
    rw[show tl.length=42 from fI]at h
    exact h
   rw[<-hf]at p5 p6 p8
   have hdf':df=[]:=GI
   subst hdf'
   clear hf tA dZ hV
   subst GW
   rw[p5,p6,p8]
   have Y4:=hv.kept (grown_of Eh) (by simp)
   have IA:=fm.kept (grown_of Eh) (by rcases fm.2 with⟨e,_⟩|⟨_,_,_,e,_⟩<;>rw[e]<;>simp[Value.ownBlock])
   have hc3:=Y4.cell
   have hn3:w.heap.size<=w3.heap.size:=Nat.le_trans hB.size Eh.size
   have eX0:w3.cell? ⟨Bx,0,none⟩=some (.int .i64 (x0:Int)):=(Eh.cell (p:=⟨Bx,0,none⟩) (Array.getElem?_eq_some_iff.1 bX).1).trans ZI
   have eX1:w3.cell? ⟨Bx,1,none⟩=some (.int .i64 (x1:Int)):=(Eh.cell (p:=⟨Bx,1,none⟩) (Array.getElem?_eq_some_iff.1 bX).1).trans ZJ
   have lY:(pP s l pre).length<=2097152:=by
    have h1:=LW s l pre
    have h2:=Fb l l.length
    omega
   have hKF:KeepsFrom (w.heap.size+4) W w3:=⟨Eh.size,fun k o _ hk _=>(Eh.block k (Array.getElem?_eq_some_iff.1 hk).1).trans hk⟩
   have hKT:iT w.heap.size W w3:=iT.of Eh
   have ZE:w3.heap[w.heap.size+1]? = _:=(Eh.block _ bA1.lt).trans bA1
   have ZF:=(Eh.block _ (Array.getElem?_eq_some_iff.1 bT1).1).trans bT1
   by_cases lp:0<iw s (bd l x0).bK x2 (bd l x1).bK
   ·have Bb:pP s l (pre++[⟨(x0,x1,x2),hx⟩])=pP s l pre++[⟨x0,x1,iw s (bd l x0).bK x2 (bd l x1).bK⟩]:=by
     rw[AO];simp only[B6,if_pos lp]
    gi_wp2_with (gi_at_builtin;refine wpListIn_append_own _ rfl _ _ 217 rfl w.heap.size 266 i0 (.agg #[.int .i64 0,.int .i64 0,.int .i64 0]) 3 24 (by kernel_rfl) hi EE y7 kJ rfl (by decide) _ _ _ rfl (IA.alloc _) ⟨w3.heap.size,0,none⟩ 1 1 [.int .i64 (x0:Int),.int .i64 (x1:Int),.int .i64 (iw s (bd l x0).bK x2 (bd l x1).bK)] rfl rfl (yI _ _ _ _ _) (by simp[Value.oneCell']) (by unfold maxLen;omega) ah (by simp;omega) ?_;intro v' w4 Et Bd _;obtain⟨g',ZK,rfl⟩:=ownsRow_succ Et;obtain⟨sP,P5,Aa,vJ,A9⟩:=Y4.appended (by decide) IA hn3 ah Et Bd;have O0:=iT.app Y4 IA Bd A9;have pY:=sP.cell;have hf1:=sP.frozen)
    exact⟨hKF.trans (vJ.from _),hKT.trans O0,⟨⟨_,P5,by rw[Bb,LV,List.length_append];exact Aa,by rw[Bb];simp⟩,(O0.2.1 _ _ _ _ ZE (by decide) (by decide)).trans ZE,(O0.2.1 _ _ _ _ ZF (by decide) (by decide)).trans ZF⟩,hB.trans ((Eh.mono hB.size).trans A9)⟩
   ·have Bb:pP s l (pre++[⟨(x0,x1,x2),hx⟩])=pP s l pre:=by
     rw[AO];simp only[B6,if_neg lp,List.append_nil]
    gi_wp2
    exact⟨hKF,hKT,⟨⟨v,Y4,by rw[Bb];exact IA,by rw[Bb];exact hnil⟩,ZE,ZF⟩,hB.trans (Eh.mono hB.size)⟩
 case done=>
  rintro D ys W hD F2 ⟨⟨⟨v,hv,fm,hnil⟩,_⟩,hB⟩ hK
  have hc:=hv.cell
  have OQ:pP s l ys=du s l:=by rw[L1,<-F2];rfl
  rw[OQ]at fm hnil
  gi_wp2
  refine⟨by simp,.inl ⟨_,_,rfl,run_takeDeferred hK,?_⟩⟩
  exact⟨_,results_tmp rfl _ _ _,v,rfl,ownsRow_putObj fm _ hK rfl,hnil,hB.trans (belowK_b (w:=w) (Nat.le_refl _) W D _ _ ah hK rfl rfl)⟩
 case stop=>
  rintro D c pre W _ _ h _
  exact h.elim
end Go.Proofs.YtainmfbpilopaaaGreatDoor.V

namespace Go.Proofs.YtainmfbpilopaaaGreatDoor.V
open Go.RowKit Go.Shelf
theorem Ia:∀{bs:List PB} {i j:Nat} {b:PB},bs[i]? =some b->j<3->(Pk bs)[i*3+j]? =([.int .i64 b.a,.int .i64 b.b,.int .i64 b.s]:List Value)[j]?
 |c::bs,0,j,b,h,hj=>by
  simp at h;subst h
  simp only[Pk,List.flatMap_cons,Nat.zero_mul,Nat.zero_add]
  rw[List.getElem?_append_left (by simpa using hj)]
 |c::bs,i+1,j,b,h,hj=>by
  simp only[List.getElem?_cons_succ]at h
  have:=Ia (bs:=bs) (i:=i) (j:=j) h hj
  simp only[Pk,List.flatMap_cons]at this ⊢
  rw[List.getElem?_append_right (by simp;omega),<-this]
  congr 1
  simp;omega
theorem ue {P:Program} {w:World} {D:Nat->Prop} {rows:List (List AV)} {v:Value} (h:ko P w D (.sl rows) v):∃A n c,v=.slice A n c:=by
 cases h with
 |Dn a c _=>exact⟨_,_,_,rfl⟩
 |sl=>exact⟨_,_,_,rfl⟩
theorem s8 {P:Program} {w:World} {D:Nat->Prop} {ι:Names} {rows:List (List AV)} {v:Value} (h:dm P w D ι (.sl rows) v):ko P w D (.sl rows) v:=by
 cases h with
 |eP _ _ h=>exact h
theorem QJ {P:Program} {w:World} {D:Nat->Prop} {l:List aa} {v:Value} (h:ko P w D (.sl (l.map ab)) v):rM w v l:=by
 generalize hr:l.map ab=rows at h
 cases h with
 |Dn a c hc=>
  have:l=[]:=by simpa using hr
  subst this
  exact⟨a,c,rfl,⟨Nat.zero_le _,hc⟩,.inl rfl⟩
 |sl _ b o n c sz vs h1 h2 h3 h4 h5 h5' h6 h7=>
  have hn:n=l.length:=by rw[<-h1,<-hr];simp
  subst hn
  refine⟨some ⟨b,o,none⟩,c,rfl,⟨h2,h3⟩,?_⟩
  by_cases hl:l=[]
  ·exact .inl hl
  refine .inr ⟨b,o,rfl,fun i hi=>?_⟩
  have hg:rows[i]? =some (ab (bd l i)):=by rw[<-hr];exact fV hi
  have fI:sz=3:=by rw[<-h5 _ (List.mem_of_getElem? hg)];rfl
  subst fI
  have k:∀(j:Nat) (x:Int),(ab (bd l i))[j]? =some (.int .i64 x)->j<3->w.cell? ⟨b,o+(i*3+j),none⟩=some (.int .i64 x):=fun j x hj h3=>by
   have:=h7 i j _ _ hg hj
   rw[h6 i j hi h3,dR (.eP (ι:=fun _=>none) _ _ this)]
  exact⟨k 0 _ rfl ah,k 1 _ rfl ah,k 2 _ rfl ah⟩
theorem LZ:F3:=by
 intro s l hS hA n
 refine eW ?_
 intro hs D ι w vs S U A
 obtain⟨u0,Y3,r0⟩:=A.2 0 _ rfl
 obtain⟨u1,Xt,r1⟩:=A.2 1 _ rfl
 have eu:∀b,D b->b<w.heap.size:=S.dead
 obtain⟨v0,f0,rfl,EE,_,YL,hr0⟩:=jd r0
 obtain⟨v1,f1,rfl,y7,_,hf1,MZ⟩:=jd r1
 have g0:=s8 (hr0 0 _ rfl)
 have g1:=s8 (hr0 1 _ rfl)
 have a0:=s8 (MZ 0 _ rfl)
 obtain⟨Ag,ng,cg,eg⟩:=ue g0
 obtain⟨At,nt,ct,et⟩:=ue g1
 have e0:v0= #[.slice Ag ng cg,.slice At nt ct]:=by
  obtain⟨vl⟩:=v0
  have q0:=YL 0 (by simp[ae])
  have q1:=YL 1 (by simp[ae])
  rw[eg]at q0;rw[et]at q1
  match vl,EE with
  |[a,b],_=>simp at q0 q1;rw[q0,q1]
 have e1:v1= #[f1 0]:=by
  obtain⟨vl⟩:=v1
  have q0:=hf1 0 (by simp)
  match vl,y7 with
  |[a],_=>simp at q0;rw[q0]
 subst e0 e1
 have evs:vs= #[.agg #[.slice Ag ng cg,.slice At nt ct],.agg #[f1 0]]:=by
  obtain⟨vl⟩:=vs
  have hz:=A.1
  match vl,hz with
  |[a,b],_=>simp at Y3 Xt;rw[Y3,Xt]
 subst evs
 have up:∀{a v},ko Tryz.prog w D a v->ko Tryz.prog w (fun b=>b<w.heap.size) a v:=fun h=>h.frame (fun _ _=>rfl) eu
 have hT:ko Tryz.prog w (fun b=>b<w.heap.size) (.agg (ae s)) (.agg #[.slice Ag ng cg,.slice At nt ct]):=
  .agg _ _ f0 EE (fun a ha=>by simp[ae]at ha;rcases ha with rfl|rfl<;>rfl) YL (fun j a ha=>by
   match j,ha with
   |0,ha=>simp[ae]at ha;subst ha;exact up g0
   |1,ha=>simp[ae]at ha;subst ha;exact up g1
   |j+2,ha=>simp[ae]at ha)
 refine(callsIn_wide.1 (L0 s l hS.form hA w Ag At ng cg nt ct (f1 0) hT (QJ a0))).mono ?_
 rintro e W' ⟨v,rfl,⟨hl,hown⟩,hnil,hB⟩
 have S':gK Tryz.prog hs D ι (fun _=>none) W':=S.stay (fun b hb=>hB.block b hb) hB.size (fun _ h=>h) (fun b hb=>Nat.lt_of_lt_of_le (eu b hb) hB.size) (fun _ h=>.inl h) (fun _ _ h=>h)
 have T:Step hs D ι w D ι W':=Step.stay S (fun b hb=>hB.block b hb) hB.size hB.os hB.tape hB.output (fun _ h=>h) (fun _ h=>.inl h) (fun _ _ h=>h)
 rcases hown with⟨rfl,h0⟩|⟨gb,cap,cur,rfl,TA,hblk,hle,Ej,dY,nu⟩
 ·have Ei:du s l=[]:=hnil.1 rfl
  exact⟨.bU,_,n,D,ι,_,rfl,⟨.bU,ma _ _,by rw[Ei];rfl⟩,T,S',U,Nat.le_refl _,.eP _ _ .bU⟩
 ·have Ei:du s l≠[]:=fun h=>by have:=hnil.2 h;cases this
  have jy:ι ⟨0,n⟩=none:=fresh U (fun h=>h)
  have iu:∀{a v},dm Tryz.prog W' D ι a v->dm Tryz.prog W' D (lx ι ⟨0,n⟩ ⟨gb,3,cap*3,none⟩) a v:=fun h=>h.frame (fun _ _=>rfl) (fun _ h=>h) (fA jy)
  have hR:iv Tryz.prog W' D (lx ι ⟨0,n⟩ ⟨gb,3,cap*3,none⟩) ⟨gb,3,cap*3,none⟩ ⟨true,3,(du s l).map aL⟩:=by
   refine lK.obj ⟨rfl,⟨cur,_,hblk,dY⟩,?_,fun cs hc=>?_,fun cs hc a ha=>?_,fun i j cs a hi hj=>?_⟩ rfl
   ·simp only[List.length_map];exact Nat.mul_le_mul_right 3 hle
   ·obtain⟨b,_,rfl⟩:=List.mem_map.1 hc;rfl
   ·obtain⟨b,_,rfl⟩:=List.mem_map.1 hc
    simp[aL]at ha
    rcases ha with rfl|rfl|rfl<;>rfl
   ·rw[List.getElem?_map]at hi
    simp only[Option.map_eq_some_iff]at hi
    obtain⟨b,hb,rfl⟩:=hi
    have hj3:j<3:=by have:=(List.getElem?_eq_some_iff.1 hj).1;simpa[aL]using this
    have mL:=(List.getElem?_eq_some_iff.1 hb).1
    have hg:=Ia hb hj3
    rw[<-nu,List.getElem?_take,if_pos ah]at hg
    have key:∀x:Value,([.int .i64 b.a,.int .i64 b.b,.int .i64 b.s]:List Value)[j]? =some x->W'.cell? ⟨gb,i*3+j,none⟩=some x:=fun x hx=>by
     rw[hx]at hg
     have e:W'.cell? ⟨gb,i*3+j,none⟩=cur[i*3+j]? :=by
      unfold World.cell?
      rw[show W'.heap[(⟨gb,i*3+j,none⟩:Addr).block]? = _ from hblk]
      rfl
     rw[e,<-Array.getElem?_toList];exact hg
    match j,hj with
    |0,hj=>simp[aL]at hj;subst hj;exact⟨_,key _ rfl,.eP _ _ (.int _ _)⟩
    |1,hj=>simp[aL]at hj;subst hj;exact⟨_,key _ rfl,.eP _ _ (.int _ _)⟩
    |2,hj=>simp[aL]at hj;subst hj;exact⟨_,key _ rfl,.eP _ _ (.int _ _)⟩
    |j+3,hj=>simp[aL]at hj
  have S2:=gK.add (r:=⟨true,3,(du s l).map aL⟩) S S' jy TA hR
  refine⟨.own ⟨0,n⟩ 0 (du s l).length,bJ (fun _=>none) ⟨0,n⟩ ⟨true,3,(du s l).map aL⟩,n+1,D,lx ι ⟨0,n⟩ ⟨gb,3,cap*3,none⟩,_,rfl,⟨CX (du s l),?_,rfl⟩,T.trans (Step.stay S' (fun _ _=>rfl) (Nat.le_refl _) rfl rfl rfl (fun _ h=>h) (fun _ h=>.inl h) (fA jy)),S2,U.upd.next,Nat.le_succ _,.own _ _ _ _ _ _ (eE _ _ _) rfl hle (.inr (by simp)) (by simp) Ej⟩
  unfold CX
  rw[if_neg Ei]
  have hg:(bJ (fun _=>none) (⟨0,n⟩:Id) ⟨true,3,(du s l).map aL⟩:Rows) ⟨0,n⟩=some ⟨true,3,(du s l).map aL⟩:=by simp[bJ]
  have:=fH (n:=5) hg rfl fun b=>xV _ 4 b
  simpa using this
end Go.Proofs.YtainmfbpilopaaaGreatDoor.V

namespace Go.Proofs.YtainmfbpilopaaaGreatDoor.V
open Go.RowKit
attribute [local irreducible] dW wpOps fu Call
theorem UO {α:Type} (f:α->Nat) {xs:List α} {x:α} (h:x∈xs):f x<=(xs.map f).sum:=by
 induction xs with
 |nil=>cases h
 |cons y ys ih=>
  simp only[List.map_cons,List.sum_cons]
  rcases List.mem_cons.1 h with rfl|h
  ·omega
  ·have:=ih h;omega
theorem KX {s:ax} (h:FN s<=1048576):wJ s:=by
 unfold FN xM at h
 refine⟨⟨ah,ah,fun t ht=>?_⟩,ah⟩
 have:=UO lQ ht
 have h2:t.cz.length<=lQ t:=by unfold lQ;omega
 unfold u7
 omega
end Go.Proofs.YtainmfbpilopaaaGreatDoor.V

namespace Go.Proofs.YtainmfbpilopaaaGreatDoor.V
open Go.RowKit
attribute [local irreducible] dW wpOps fu Call
attribute [local go_sem] aJ fc eA fq fo dh upd bW K.av cC AV.cells AV.cell rowOf rowsOf part ld rowAt fR bJ bV dn dE fU bx cQ dO fj eK di dI cN cL dy dz bD aU cF bB cH cG dG dJ dH cE bF cP dF bz aH cJ cm fS bj cw bE aT da aX dp AV.undef br bt dC dD dt dw cr dM dP cj dL dK cI cK List.getD_cons_zero List.getD_cons_succ List.getD_nil List.all_cons List.all_nil Bool.and_true Bool.true_and Bool.and_self Bool.not_true Bool.not_false Option.map_some Option.map_none Option.bind_some Option.bind_none List.length_cons List.length_nil List.take_succ_cons List.take_zero List.take_nil List.drop_succ_cons List.drop_zero List.drop_nil List.head?_cons List.map_cons List.map_nil List.getElem?_cons_zero List.getElem?_cons_succ List.cons_append List.nil_append List.append_nil List.length_map List.set_cons_zero List.set_cons_succ eq_self Int.toNat_natCast Int.natCast_nonneg and_self true_and and_true decide_true decide_false Bool.false_eq_true Nat.zero_add Nat.add_zero List.contains_cons List.contains_nil Bool.or_false Bool.false_or beq_self_eq_true ne_eq not_true_eq_false not_false_eq_true Id.mk.injEq false_and and_false Nat.le_refl List.length_append beq_true beq_false Bool.not_eq_eq_eq_not or_false false_or ea ai ar aB aW bq bP aO aY aP aV cD bp
theorem Q2 {g:Rows} {v w:AV} {s:ax} {i:List Id} (hX:Dw g v s i) (hw:fz (ea g) 6 w=some w):dx (ea g) 6 [v,w]=some [.agg (aM s),w]:=by
 simp only[ai,ar,hX.fz 1,hw,Option.map_some]
theorem Pv (g:Rows) (s:ax):fz g 6 (.agg (aM s))=some (.agg (aM s)):=by simp[aM,aY,ai,ar,bP,aB]
theorem tf {g:Rows} {v w v' w':AV} (h1:fz g 6 v=some v') (h2:fz g 6 w=some w'):dx g 6 [v,w]=some [v',w']:=by
 simp only[ai,ar,h1,h2,Option.map_some]
theorem Qt (s:ax):EY s<=3*FN s:=by
 have h:∀l:List ft,(l.map ig).sum<=l.length+(l.map lQ).sum:=fun l=>by
  induction l with
  |nil=>simp
  |cons t l ih=>simp only[List.map_cons,List.sum_cons,List.length_cons,ig,lQ]at *;omega
 have:=h s.aD.aj
 unfold EY FN xM
 omega
theorem gp.not {a b:Nat} {ids:List Id} (h:gp a b ids) {x:Id} (hx:x.bG<a∨b<=x.bG):x∉ids:=fun hc=>by
 have:=h.2 x hc;omega
theorem p4.fz {α:Type} {e:α->List AV} {L:List α} {w:AV} (h:p4 e L w) (g:Rows):V.fz g 6 w=some w:=by
 rcases h with⟨rfl,rfl⟩|rfl
 ·exact aO _ _
 ·exact bP _ _ _
end Go.Proofs.YtainmfbpilopaaaGreatDoor.V

namespace Go.Proofs.YtainmfbpilopaaaGreatDoor.V
open Go.RowKit
attribute [local irreducible] dW wpOps fu Call
def resS (s:ax) (a:List aa):ax:=⟨s.aD,⟨a⟩,s.aA⟩
structure RepP (s:ax) (r a:List aa):Prop where
 sys:rN s
 right:jN s.aD r
 asm:jN s.aD a
 wr:yh s.bH.aj r=true
 wa:yh s.bH.aj a=true
def InM (X:Id) (st:sj) (e7:AV) (g:Rows) (n:Nat):Prop:=∃o u:Id,g X=some ⟨true,1,[[.own o 0 st.2.length]]⟩/\g o=some ⟨true,3,st.2.map ab⟩/\e7=.own u 0 st.1.length/\g u=some ⟨true,3,st.1.map ab⟩/\(o=u->False)/\(X=u->False)/\u.bG<n/\(X=o->False)/\o.bG<n/\X.bG<n
theorem G1 {a:List aa} (h:nC a) {i:Nat} (hi:i<a.length):ez a a[i].aQ=i:=by
 have h0:0<=ez a a[i].aQ:=by
  rcases Int.lt_or_le (ez a a[i].aQ) 0 with h0|h0
  ·exact absurd rfl (y8.1 h0 a[i] (List.getElem_mem hi))
  ·exact h0
 obtain⟨h1,h2⟩:=kb h0
 have h3:(ez a a[i].aQ).toNat=i:=by
  rcases Nat.lt_trichotomy (ez a a[i].aQ).toNat i with h4|h4|h4
  ·have:=h _ _ h4 hi
   rw[h2,fx hi,jc]at this;cases this
  ·exact h4
  ·have:=h _ _ h4 h1
   rw[h2,fx hi,jc]at this;cases this
 omega
def ee (s:ax) (es:List aa) (i:Nat):List aa:=(es.take i).foldl (fun n x=>iO n x) s.bH.aj
noncomputable def XQ (s:ax) (es:List aa) (i:Nat):Bool:=eO s.aD (bd es i).bK&&ei s (ee s es i) (bd es i).aQ (bd es i).bK
noncomputable def pc (s:ax) (es:List aa) (i:Nat):Bool:=XQ s es i&&decide ((ee s es i).length<500)
theorem KF (s:ax) (es:List aa):ee s es 0=s.bH.aj:=rfl
theorem rl (s:ax) (es:List aa) {i:Nat} (hi:i<es.length):ee s es (i+1)=iO (ee s es i) (bd es i):=by
 unfold ee
 rw[qO hi,List.foldl_append];rfl
theorem Pf {s:ax} {l:List aa} (hA:jN s.aD l) {x:aa} (hlen:l.length<500) (ht:eO s.aD x.bK=true) (hf:ei s l x.aQ x.bK=true) (hs:s.aD.aj.length<=160):jN s.aD (iO l x):=by
 have gh:iE x.bK 0 159=true:=jD (by have h:=ht;unfold eO at h;have:=ej h;omega)
 have hp:Ac x.aQ=true:=by simp[ei]at hf;exact hf.1.1
 have h0:ez l x.aQ<0:=(BY hA x.aQ).1 (by simp[ei]at hf;exact hf.1.2)
 have hR:=NU hA.1.QS h0
 refine⟨⟨by rw[oz];omega,fun i vI=>?_⟩,fun t ht2=>?_⟩
 ·rcases uq.1 (gI vI)with h|h
  ·rw[F8,h]
   exact⟨hp,gh,fun h1=>by have z:=hR (i-1) i ah vI;rw[h]at z;exact z⟩
  ·obtain⟨j,hj,gZ⟩:=List.getElem_of_mem h
   have h1:=hA.1.ok j hj
   rw[F8,fx hj,gZ]at h1
   exact⟨h1.1,h1.2.1,fun h0=>hR _ _ ah vI⟩
 ·rcases uq.1 ht2 with rfl|h
  ·exact ht
  ·exact hA.2 t h
theorem ju {s:ax} (hP:rN s) {es:List aa}:∀i,i<=es.length->(∀j,j<i->pc s es j=true)->jN s.aD (ee s es i)
 |0,_,_=>hP.Ft
 |i+1,hi,h=>by
  have ih:=ju hP (es:=es) i ah fun j hj=>h j ah
  have hg:=h i ah
  rw[pc,Bool.and_eq_true,XQ,Bool.and_eq_true]at hg
  rw[rl s es ah]
  exact Pf ih (of_decide_eq_true hg.2) hg.1.1 hg.1.2 hP.set.xo
def AtK (n:Nat) (l:List aa) (x:aa) (r:AV) (σ':aw):Prop:=(500<=l.length/\r=.fD [.agg [.bU],.int .i64 4])∨(l.length<500/\∃o:Id,r=.fD [.agg [.own o 0 (iO l x).length],.int .i64 0]/\σ'.get o=some ⟨true,3,(iO l x).map ab⟩/\n<=o.bG/\o.bG<σ'.next)
theorem EV (l:List aa) (hl:l.length<=1048576) (x:aa) (n0:Nat):Call Tryz.prog 143 [.dQ [.sl (l.map ab)],.agg (ab x)] ⟨fun _=>none,n0⟩ (AtK n0 l x):=by
 refine eB eI rfl fun iD=>?_
 clear iD
 by_cases h5:500<=l.length
 ·have hd:((500:Nat):Int)<=(l.length:Int):=ah
  have nJ:(500:Int)<=(l.length:Int):=ah
  (try((repeat(revert N;apply Pn.out));refine wk (tw @ab.eq_1 (tw @hd @nJ)) ?_;(repeat(apply Pn.mk;intro N hN))))
  exact er (.inl rfl) (vs:=[.agg [.bU],.int .i64 4]) (sd @Nat.zero_add) (.inl ⟨h5,rfl⟩)
 ·have nJ:¬(500:Int)<=(l.length:Int):=ah
  (try((repeat(revert N;apply Pn.out));refine wk (tw @ab.eq_1 @nJ) ?_;(repeat(apply Pn.mk;intro N hN))))
  refine .inr (az _ _ _ _ _ (fun r σ1 hq=>?_) (Sq.val (fun n=>Nh l hl x.aQ x.bK n) (by simp only[ai,ar,aP,aY,aB,Option.map_some];rfl)))
  obtain⟨⟨o,rfl,q1,q2,q3⟩,hK⟩:=hq
  obtain⟨g1,x1⟩:=σ1
  (try dsimp only at q1 q2 q3 hK)
  have hx:(⟨x.aQ,x.bK⟩:aa)=x:=rfl
  rw[hx]at q1 ⊢
  have k4:=hK.2 ⟨143000001,n0⟩ bc
  simp only[go_sem, ↓reduceIte,Nat.reduceEqDiff,Nat.reduceAdd,Nat.reduceSub,Nat.reduceLeDiff,reduceCtorEq]at k4
  have vo:=de (a:=⟨143000001,n0⟩) (b:=o) (by(try dsimp only at q2);(try dsimp only);omega)
  apply hN
  clear hN N
  (try((repeat(revert N;apply Pn.out));refine wk @k4 ?_;(repeat(apply Pn.mk;intro N hN))))
  exact er (.inl rfl) (vs:=[.agg [.own o 0 (iO l x).length],.int .i64 0]) (sd @Nat.zero_add) (.inr ⟨ah,o,rfl,sd (tw @vo @q1),by(try dsimp only at q2);omega,bc⟩)
theorem LQ {X o:Id} {l:List aa} {σ:aw} (hl:l.length<=1048576) (x:aa) (hX:σ.get X=some ⟨true,1,[[.own o 0 l.length]]⟩) (ho:σ.get o=some ⟨true,3,l.map ab⟩):
  Call Tryz.prog 143 [.ptr X 0 0,.agg (ab x)] σ (fun r σ'=>AtK σ.next l x r σ'/\Kept σ σ'):=by
 refine Dp mixed (args':=[.dQ [.sl (l.map ab)],.agg (ab x)]) (by
  have hp:=IQ hX ho
  simp only[ai,ar,hp,Option.map_some,ab,aY,aB]) (az _ _ _ _ _ (fun r σ' hq=>?_) (uY mixed (EV l hl x σ.next)))
 obtain⟨hq,hn⟩:=hq
 rcases hq with⟨h5,rfl⟩|⟨h5,o2,rfl,h2,h3,h4⟩
 ·exact⟨[],rfl,fun i hi=>by(cases hi),.inl ⟨h5,rfl⟩,hn,fun j hj=>jM (g':=σ'.get) (List.not_mem_nil)⟩
 ·refine⟨[o2],rfl,fun i hi=>?_,.inr ⟨h5,o2,rfl,(mJ (by simp)).trans h2,h3,h4⟩,hn,fun j hj=>jM fun hc=>?_⟩
  ·rw[List.mem_singleton.1 hi]
   exact⟨_,h2,rfl,fun cs dY a ha=>by
    obtain⟨y,_,rfl⟩:=List.mem_map.1 dY
    simp[ab]at ha
    rcases ha with rfl|rfl|rfl<;>rfl⟩
  ·rw[List.mem_singleton.1 hc]at hj;omega
theorem r5 {s:ay} (hS:iz s) {f g:aq->Int} (h:∀p,0<=f p->g p=f p) (p:aq) (t:Int):∀d,dr s f p t d<=dr s g p t d
 |0=>Int.le_refl _
 |d+1=>by
  have ih:=r5 hS h p t d
  simp only[dr]
  by_cases h0:0<=f (bR p d)
  ·rw[if_pos h0,if_pos (by rw[h _ h0];exact h0),h _ h0];omega
  ·rw[if_neg h0]
   have:=yz hS t d (g (bR p d))
   split<;>omega
theorem at_mem {l:List aa} (hR:nC l) {x:aa} (hx:x∈l):fG l x.aQ=x.bK:=by
 obtain⟨j,hj,rfl⟩:=List.getElem_of_mem hx
 have:=G1 hR hj
 unfold fG
 rw[this,if_pos ah,Int.toNat_natCast,fx hj]
theorem Uw {l:List aa} {p:aq} (h:0<=fG l p):∃x∈l,x.aQ=p/\x.bK=fG l p:=by
 unfold fG at h ⊢
 split at h
 ·rename_i h0
  obtain⟨h1,h2⟩:=kb h0
  exact⟨_,gI h1,h2,by rw[if_pos h0]⟩
 ·omega
theorem Ze {l:List aa} (hR:nC l) {x y:aa} (hx:x∈l) (hy:y∈l) (h:x.aQ=y.aQ):x=y:=by
 obtain⟨i,hi,rfl⟩:=List.getElem_of_mem hx
 obtain⟨j,hj,rfl⟩:=List.getElem_of_mem hy
 have h1:=G1 hR hi
 have h2:=G1 hR hj
 rw[h]at h1
 have:i=j:=ah
 subst this;rfl
theorem Wq {s:ax} (hS:iz s.aD) {l l':List aa} (WH:nC l') (h:∀x∈l,x∈l') {p:aq} {t:Int} (hf:ei s l p t=true) (WY:fG l' p<0):ei s l' p t=true:=by
 have qx:∀q,0<=fG l q->fG l' q=fG l q:=fun q hq=>by
  obtain⟨x,hx,rfl,e⟩:=Uw hq
  rw[<-e];exact at_mem WH (h x hx)
 have hm:=r5 hS qx p t 4
 simp only[ei,Bool.and_eq_true,decide_eq_true_eq,nj]at hf ⊢
 refine⟨⟨hf.1.1,WY⟩,?_⟩
 first
  |exact decide_eq_true (Int.le_trans (of_decide_eq_true hf.2) hm)
  |exact decide_eq_true (Int.le_trans hf.2 hm)
structure ShutA (s:ax) (K M:List aa):Prop where
 QS:nC M
 sub:∀x∈M,x∈K
 no:∀x∈K,ei s M x.aQ x.bK=false
def H8 (B:aq->Int->Bool) (p:aq):Nat->List aa
 |0=>[]
 |t+1=>if B p (t:Nat)=true then H8 B p t++[⟨p,(t:Nat)⟩]else H8 B p t
def tG (B:aq->Int->Bool) (m:Nat) (ps:List aq):List aa:=ps.flatMap fun p=>H8 B p m
theorem H9 (B:aq->Int->Bool) (p:aq):∀t,(H8 B p t).length<=t
 |0=>by simp[H8]
 |t+1=>by
  have:=H9 B p t
  rw[H8]
  split
  ·rw[List.length_append,List.length_singleton];omega
  ·omega
theorem xQ (B:aq->Int->Bool) (m:Nat):∀ps:List aq,(tG B m ps).length<=ps.length*m
 |[]=>by simp[tG]
 |p::ps=>by
  have h:=xQ B m ps
  have h2:=H9 B p m
  unfold tG at *
  rw[List.flatMap_cons,List.length_append,List.length_cons,Nat.add_mul,Nat.one_mul]
  omega
theorem DG {B:aq->Int->Bool} {m:Nat} {ps:List aq} {k:Nat} (hk:k<ps.length):tG B m (ps.take (k+1))=tG B m (ps.take k)++H8 B (jU ps k) m:=by
 unfold tG
 rw[List.take_succ_eq_append_getElem hk,List.flatMap_append,kU hk]
 simp
def lW (B:aq->Int->Bool) (p:aq):Nat->List Int
 |0=>[]
 |t+1=>if B p (t:Nat)=true then lW B p t++[(t:Int)]else lW B p t
theorem tV (B:aq->Int->Bool) (p:aq):∀t,(lW B p t).length<=t
 |0=>by simp[lW]
 |t+1=>by
  have:=tV B p t
  rw[lW]
  split
  ·rw[List.length_append,List.length_singleton];omega
  ·omega
theorem B4 (B:aq->Int->Bool) (p:aq):∀t,H8 B p t=(lW B p t).map fun k=>(⟨p,k⟩:aa)
 |0=>rfl
 |t+1=>by
  rw[H8,lW,B4 B p t]
  split<;>simp
theorem Ce {B:aq->Int->Bool} {p:aq} (h:∀t:Nat,B p t=false):∀t,lW B p t=[]
 |0=>rfl
 |t+1=>by rw[lW,if_neg (by rw[h t];simp),Ce h t]
theorem Ea {B:aq->Int->Bool} {p:aq}:∀{t:Nat},lW B p t≠[]->∃k:Nat,k<t/\B p k=true
 |0,h=>absurd rfl h
 |t+1,h=>by
  rw[lW]at h
  split at h
  ·rename_i hb;exact⟨t,Nat.lt_succ_self t,hb⟩
  ·obtain⟨k,hk,hb⟩:=Ea h
   exact⟨k,Nat.lt_succ_of_lt hk,hb⟩
theorem qV {B C:aq->Int->Bool} {p:aq} (h:∀t:Nat,B p t=C p t):∀t,lW B p t=lW C p t
 |0=>rfl
 |t+1=>by rw[lW,lW,h t,qV h t]
abbrev En:=aq×AV
def pS (e:En):List AV:=[.int .i64 e.1.eS,.int .i64 e.1.eM,e.2]
def pd:List En->aq->AV->List En
 |[],q,v=>[(q,v)]
 |e::es,q,v=>if e.1=q then(q,v)::es else e::pd es q v
def pR:List En->aq->List En
 |[],_=>[]
 |e::es,q=>if e.1=q then es else e::pR es q
theorem zk {q:aq} {v:AV} {x:En}:∀{es:List En},x.1≠q->(x∈pd es q v↔x∈es)
 |[],h=>by
  rw[pd,List.mem_singleton]
  exact⟨fun e=>absurd (by rw[e]) h,fun e=>by cases e⟩
 |e::es,h=>by
  have ih:=@zk q v x es h
  rw[pd]
  split
  ·rename_i he
   rw[List.mem_cons,List.mem_cons]
   exact⟨fun h1=>h1.elim (fun e=>absurd (by rw[e]) h) .inr,fun h1=>h1.elim (fun e'=>absurd (by rw[e'];exact he) h) .inr⟩
  ·rw[List.mem_cons,List.mem_cons,ih]
theorem BF (q:aq) (v:AV):∀es:List En,(q,v)∈pd es q v
 |[]=>by simp[pd]
 |e::es=>by
  have ih:=BF q v es
  rw[pd]
  split
  ·simp
  ·exact List.mem_cons_of_mem _ ih
theorem EM {q:aq} {v:AV} {p:aq}:∀{es:List En},p∈(pd es q v).map (·.1)->p=q∨p∈es.map (·.1)
 |[],h=>by simp[pd]at h;exact .inl h
 |e::es,h=>by
  rw[pd]at h
  split at h
  ·simp only[List.map_cons,List.mem_cons]at h ⊢
   exact h.imp_right .inr
  ·simp only[List.map_cons,List.mem_cons]at h ⊢
   rcases h with h|h
   ·exact .inr (.inl h)
   ·exact(EM h).imp_right .inr
theorem zw (q:aq) (v:AV):∀{es:List En},(es.map (·.1)).Nodup->((pd es q v).map (·.1)).Nodup
 |[],_=>by simp[pd]
 |e::es,h=>by
  obtain⟨h1,h2⟩:=List.nodup_cons.1 (show(e.1::es.map (·.1)).Nodup from h)
  rw[pd]
  split
  ·rename_i he
   refine List.nodup_cons.2 ⟨?_,h2⟩
   show q∉_
   rw[<-he];exact h1
  ·rename_i he
   refine List.nodup_cons.2 ⟨fun hc=>?_,zw q v h2⟩
   rcases EM hc with h3|h3
   ·exact he h3
   ·exact h1 h3
theorem zg {q:aq} {x:En}:∀{es:List En},x.1≠q->(x∈pR es q↔x∈es)
 |[],_=>Iff.rfl
 |e::es,h=>by
  have ih:=@zg q x es h
  rw[pR]
  split
  ·rename_i he
   rw[List.mem_cons]
   exact⟨.inr,fun h1=>h1.elim (fun e'=>absurd (by rw[e'];exact he) h) id⟩
  ·rw[List.mem_cons,List.mem_cons,ih]
theorem tQ {q:aq}:∀{es:List En},(pR es q).Sublist es
 |[]=>List.Sublist.slnil
 |e::es=>by
  rw[pR]
  split
  ·exact List.sublist_cons_self _ _
  ·exact(tQ (es:=es)).cons_cons _
theorem yK (q:aq) {es:List En} (h:(es.map (·.1)).Nodup):((pR es q).map (·.1)).Nodup:=((tQ (q:=q) (es:=es)).map _).nodup h
theorem Cb {q:aq}:∀{es:List En},(es.map (·.1)).Nodup->∀e∈pR es q,e.1≠q
 |[],_,e,h=>by cases h
 |x::es,hn,e,h=>by
  obtain⟨h1,h2⟩:=List.nodup_cons.1 (show(x.1::es.map (·.1)).Nodup from hn)
  rw[pR]at h
  split at h
  ·rename_i hx
   intro he
   exact h1 (by rw[hx,<-he];exact List.mem_map_of_mem h)
  ·rename_i hx
   rcases List.mem_cons.1 h with rfl|h
   ·exact hx
   ·exact Cb h2 e h
theorem Qj {es:List En} (hn:(es.map (·.1)).Nodup) {q:aq} {u v:AV} (h1:(q,u)∈es) (h2:(q,v)∈es):u=v:=by
 induction es with
 |nil=>cases h1
 |cons e es ih=>
  obtain⟨n1,n2⟩:=List.nodup_cons.1 (show(e.1::es.map (·.1)).Nodup from hn)
  rcases List.mem_cons.1 h1 with a|a<;>rcases List.mem_cons.1 h2 with b|b
  ·rw[<-a]at b;injection b with _ b;exact b.symm
  ·exact absurd (by rw[<-a];exact List.mem_map_of_mem (f:=(·.1)) b) n1
  ·exact absurd (by rw[<-b];exact List.mem_map_of_mem (f:=(·.1)) a) n1
  ·exact ih n2 a b
structure yp (g:Rows) (n:Nat) (es:List En) (fs:aq->List Int) (A:aq->Prop):Prop where
 nodup:(es.map (·.1)).Nodup
 at_:∀q,A q->(fs q=[]/\∀e∈es,e.1≠q)∨(fs q≠[]/\∃o:Id,(q,AV.own o 0 (fs q).length)∈es/\o.bG<n/\g o=some ⟨true,1,(fs q).map aC⟩)
theorem yp.mono {g:Rows} {n:Nat} {es:List En} {fs:aq->List Int} {A A':aq->Prop} (h:yp g n es fs A) (hA:∀q,A' q->A q):yp g n es fs A':=⟨h.nodup,fun q hq=>h.at_ q (hA q hq)⟩
theorem yp.frame {g g':Rows} {n n':Nat} {es:List En} {fs:aq->List Int} {A:aq->Prop} (h:yp g n es fs A) (hn:n<=n') (hf:∀x:Id,x.bG<n->(∃k r,g x=some ⟨k,1,r⟩)->g' x=g x):yp g' n' es fs A:=⟨h.nodup,fun q hq=>by
 rcases h.at_ q hq with h1|⟨h1,o,h2,h3,h4⟩
 ·exact .inl h1
 ·exact .inr ⟨h1,o,h2,ah,(hf o h3 ⟨_,_,h4⟩).trans h4⟩⟩
theorem yp.put {g:Rows} {n:Nat} {es:List En} {fs:aq->List Int} {A:aq->Prop} (h:yp g n es fs A) {q:aq} {o:Id} (h0:fs q≠[]) (ho:o.bG<n) (hg:g o=some ⟨true,1,(fs q).map aC⟩):yp g n (pd es q (.own o 0 (fs q).length)) fs (fun p=>A p∨p=q):=⟨zw _ _ h.nodup,fun p hp=>by
 by_cases e:p=q
 ·subst e
  exact .inr ⟨h0,o,BF _ _ _,ho,hg⟩
 ·rcases hp with hp|hp
  ·rcases h.at_ p hp with⟨h1,h2⟩|⟨h1,o',h2,h3⟩
   ·refine .inl ⟨h1,fun x hx Y9=>?_⟩
    have hxq:x.1≠q:=fun e'=>e (Y9.symm.trans e')
    exact h2 x ((zk hxq).1 hx) Y9
   ·exact .inr ⟨h1,o',(zk e).2 h2,h3⟩
  ·exact absurd hp e⟩
theorem yp.cut {g:Rows} {n:Nat} {es:List En} {fs:aq->List Int} {A:aq->Prop} (h:yp g n es fs A) {q:aq} (h0:fs q=[]):yp g n (pR es q) fs (fun p=>A p∨p=q):=⟨yK _ h.nodup,fun p hp=>by
 by_cases e:p=q
 ·subst e
  exact .inl ⟨h0,Cb h.nodup⟩
 ·rcases hp with hp|hp
  ·rcases h.at_ p hp with⟨h1,h2⟩|⟨h1,o',h2,h3⟩
   ·exact .inl ⟨h1,fun x hx=>h2 x (tQ.subset hx)⟩
   ·exact .inr ⟨h1,o',(zg e).2 h2,h3⟩
  ·exact absurd hp e⟩
theorem E6 (p:aq):∀(es:List En) (i:Nat),∃fi,gO ⟨true,[.tI,.tI]⟩ (ad p) (es.map pS) i=some fi/\
  (∀v,(match fi with|some j=>(es.map pS).set (j-i) [.int .i64 p.eS,.int .i64 p.eM,v]|none=>es.map pS++[[.int .i64 p.eS,.int .i64 p.eM,v]])=(pd es p v).map pS)/\
  ((match fi with|some j=>(es.map pS).eraseIdx (j-i)|none=>es.map pS)=(pR es p).map pS)/\
  (∀j,fi=some j->i<=j/\j-i<es.length/\∃v,es[j-i]? =some (p,v))/\(fi=none->∀e∈es,e.1≠p)
 |[],i=>⟨none,by simp[gO],fun v=>rfl,rfl,fun _ h=>(by cases h),fun _ _ he=>(by cases he)⟩
 |e::es,i=>by
  have hq:eK [TS.tI,TS.tI] (ad p) ((pS e).take 2)=some (decide (p=e.1)):=by
   have h:(p=e.1)↔(p.eS=e.1.eS/\p.eM=e.1.eM):=⟨fun h=>by rw[h];exact⟨rfl,rfl⟩,fun h=>zt h.1 h.2⟩
   simp[ad,pS,eK,fj,h]
  by_cases h:p=e.1
  ·refine⟨some i,?_,fun v=>?_,?_,fun j hj=>?_,fun hc=>by cases hc⟩
   ·rw[List.map_cons]
    unfold gO
    rw[show(⟨true,[.tI,.tI]⟩:MK).ts=[.tI,.tI]from rfl,show(⟨true,[.tI,.tI]⟩:MK).ks=2 from rfl,hq,decide_eq_true h]
   ·simp[pd,h,pS]
   ·simp[pR,h]
   ·cases hj
    exact⟨Nat.le_refl _,by simp,e.2,by simp[h]⟩
  ·obtain⟨fi,h1,h2,h3,h4,h5⟩:=E6 p es (i+1)
   have he:¬e.1=p:=fun hc=>h hc.symm
   refine⟨fi,?_,fun v=>?_,?_,fun j hj=>?_,fun hc x hx=>?_⟩
   ·rw[List.map_cons]
    unfold gO
    rw[show(⟨true,[.tI,.tI]⟩:MK).ts=[.tI,.tI]from rfl,show(⟨true,[.tI,.tI]⟩:MK).ks=2 from rfl,hq,decide_eq_false h]
    exact h1
   ·have Ys:=h2 v
    rw[pd,if_neg he]
    cases fi with
    |none=>
     simp only[List.map_cons,List.cons_append]at Ys ⊢
     rw[Ys]
    |some j=>
     obtain⟨h6,_⟩:=h4 j rfl
     obtain⟨k,hk⟩:∃k,j=i+1+k:=⟨j-(i+1),ah⟩
     subst hk
     simp only[show i+1+k-i=k+1 by omega,show i+1+k-(i+1)=k by omega,List.map_cons,List.set_cons_succ]at Ys ⊢
     rw[Ys]
   ·rw[pR,if_neg he]
    cases fi with
    |none=>
     simp only[List.map_cons]at h3 ⊢
     rw[h3]
    |some j=>
     obtain⟨h6,_⟩:=h4 j rfl
     obtain⟨k,hk⟩:∃k,j=i+1+k:=⟨j-(i+1),ah⟩
     subst hk
     simp only[show i+1+k-i=k+1 by omega,show i+1+k-(i+1)=k by omega,List.map_cons,List.eraseIdx_cons_succ]at h3 ⊢
     rw[h3]
   ·obtain⟨h6,h7,v,h8⟩:=h4 j hj
    refine⟨ah,by simp only[List.length_cons];omega,v,?_⟩
    rw[show j-i=(j-(i+1))+1 by omega,List.getElem?_cons_succ];exact h8
   ·rcases List.mem_cons.1 hx with rfl|hx
    ·exact he
    ·exact h5 hc x hx
theorem vZ (p:aq) (es:List En):∃fi,gH ⟨true,[.tI,.tI]⟩ (.agg [.int .i64 p.eS,.int .i64 p.eM]) (es.map pS)=some fi/\(∀v,dt (es.map pS) [.int .i64 p.eS,.int .i64 p.eM,v] fi=(pd es p v).map pS)/\dw (es.map pS) fi=(pR es p).map pS/\
  (∀j,fi=some j->∃v,es[j]? =some (p,v))/\(fi=none->∀e∈es,e.1≠p):=by
 obtain⟨fi,h1,h2,h3,h4,h5⟩:=E6 p es 0
 refine⟨fi,?_,fun v=>?_,?_,fun j hj=>?_,h5⟩
 ·unfold gH
  rw[if_pos ⟨rfl,rfl,rfl⟩]
  exact h1
 ·rw[<-h2 v];cases fi<;>rfl
 ·rw[<-h3];cases fi<;>rfl
 ·obtain⟨_,_,v,h6⟩:=h4 j hj
  exact⟨v,by simpa using h6⟩
theorem wq (p:aq) (k:Nat) (hk:k<4):bR (bR p k) (kS k)=p:=by
 have:k=0∨k=1∨k=2∨k=3:=ah
 rcases this with rfl|rfl|rfl|rfl<;>(cases p;simp[bR,kS,iE];try omega)
theorem bind_some {s:ay} {F:aq->Int} {p:aq} {t:Int}:∀d:Nat,0<dr s F p t d->∃k:Nat,k<d/\0<=F (bR p k)
 |0,h=>by simp[dr]at h
 |d+1,h=>by
  by_cases h0:0<=F (bR p d)
  ·exact⟨d,Nat.lt_succ_self d,h0⟩
  ·rw[dr,if_neg h0,Int.add_zero]at h
   obtain⟨k,hk,h1⟩:=bind_some d h
   exact⟨k,Nat.lt_succ_of_lt hk,h1⟩
theorem Ml {s:ax} (hT:1<=s.aA) {l:List aa} (hA:jN s.aD l) {p:aq} {t:Int} (h:ei s l p t=true):Ds l p:=by
 simp[ei]at h
 obtain⟨⟨h1,h2⟩,h3⟩:=h
 obtain⟨k,hk,h4⟩:=bind_some (s:=s.aD) (F:=fG l) (p:=p) (t:=t) 4 (by have:nj s.aD (fG l) p t=dr s.aD (fG l) p t 4:=rfl;omega)
 have h5:0<=ez l (bR p k):=by
  unfold fG at h4
  split at h4
  ·assumption
  ·omega
 obtain⟨h6,h7⟩:=kb h5
 refine⟨h1,(BY hA p).1 h2,(ez l (bR p k)).toNat,(kS k).toNat,h6,?_,?_⟩
 ·have:k=0∨k=1∨k=2∨k=3:=ah
  rcases this with rfl|rfl|rfl|rfl<;>decide
 ·rw[h7]
  have:((kS k).toNat:Int)=kS k:=by
   have:k=0∨k=1∨k=2∨k=3:=ah
   rcases this with rfl|rfl|rfl|rfl<;>decide
  rw[this,wq p k hk]
noncomputable def nF (s:ax) (l:List aa):List aq:=(js l).filter fun p=>decide (lW (ei s l) p s.aD.aj.length≠[])
theorem zh {s:ax} (hT:1<=s.aA) {l:List aa} (hA:jN s.aD l) (p:aq):p∈nF s l↔lW (ei s l) p s.aD.aj.length≠[]:=by
 unfold nF
 rw[List.mem_filter,Bt,decide_eq_true_eq]
 refine⟨fun h=>h.2,fun h=>⟨?_,h⟩⟩
 obtain⟨k,_,hk⟩:=Ea h
 exact Ml hT hA hk
theorem Gv (s:ax) (l:List aa):oM (nF s l):=List.Pairwise.sublist List.filter_sublist (sY l _)
theorem Gg (s:ax) (l:List aa):tG (ei s l) s.aD.aj.length (js l)=tG (ei s l) s.aD.aj.length (nF s l):=by
 unfold nF
 generalize js l=ps
 induction ps with
 |nil=>rfl
 |cons p ps ih=>
  unfold tG at *
  rw[List.flatMap_cons,List.filter_cons,ih]
  split
  ·rw[List.flatMap_cons]
  ·rename_i h
   simp only[decide_eq_true_eq,ne_eq,Classical.not_not]at h
   rw[B4,h];rfl
def qu (s:ay) (F:aq->Int) (p:aq) (d:Nat):Int:=if F (bR p d)<0 then 0 else dS (dU s (F (bR p d))) (kS d)
def qv (s:ay) (F:aq->Int) (p:aq) (k:Nat):List Int:=(List.range k).map (qu s F p)
theorem Ed (s:ay) (F:aq->Int) (p:aq) (k:Nat):(qv s F p k).length=k:=by simp[qv]
theorem JM (s:ay) (F:aq->Int) (p:aq) (k:Nat):qv s F p (k+1)=qv s F p k++[qu s F p k]:=by simp[qv,List.range_succ]
theorem Ms {s:ay} {F:aq->Int} {p:aq} {k d:Nat} (h:d<k):((qv s F p k).map aC)[d]? =some [.int .i64 (qu s F p d)]:=by simp[qv,h,aC]
theorem JB {s:ay} (hF:jI s) {F:aq->Int} (hT:∀q,0<=F q->eO s (F q)=true) {p:aq} {t:Int} (ht:eO s t=true) {d:Nat} (hd:d<4):
  dr s F p t (d+1)=if dS (dU s t) d=qu s F p d then dr s F p t d+rY s (qu s F p d)else dr s F p t d:=by
 rw[dr]
 unfold qu
 by_cases h0:F (bR p d)<0
 ·rw[if_neg ah,if_pos h0]
  have:rY s 0=0:=if_pos rfl
  rw[this,Int.add_zero]
  split<;>rfl
 ·rw[if_pos ah,if_neg h0]
  unfold iw
  split
  ·rename_i e;rw[e]
  ·rw[Int.add_zero]
theorem PE {s:ay} (hF:jI s) {F:aq->Int} (hT:∀q,0<=F q->eO s (F q)=true) (p:aq) {d:Nat} (hd:d<4):0<=qu s F p d/\qu s F p d<=s.aI.length:=by
 unfold qu
 split
 ·exact⟨Int.le_refl _,ah⟩
 ·rename_i h0
  obtain⟨_,_,a2⟩:=lv (hT _ (by omega:0<=F (bR p d)))
  exact hF.wS _ a2 _ (zM (hF.sf _ a2) (sZ (jD ah)))
noncomputable def BZ (s:ay) (l:List aa) (T:Int) (p:aq) (t:Int):Bool:=decide (T<=nj s (fG l) p t)
theorem Pg {s:ax} {l:List aa} {p:aq} (h:Ds l p) (hA:jN s.aD l) (t:Int):ei s l p t=BZ s.aD l s.aA p t:=by
 obtain⟨h1,h2,_⟩:=h
 simp[ei,BZ,h1,(BY hA p).2 h2]
theorem Qn (s:ay) (hS:iz s) (l:List aa) (hA:jN s l) (p:aq) (hx:iB p.eS) (hy:iB p.eM) (T:Int):
  au Tryz.prog 196 [.dQ (ae s),.dQ [.sl (l.map ab)],.agg (ad p),.int .i64 T] (.sl ((lW (BZ s l T) p s.aj.length).map aC)):=by
 refine au.body eI rfl fun iD n0=>?_
 clear iD
 have hF:=hS.form
 have GW:=hS.xo
 have hTl:∀q,0<=fG l q->eO s (fG l q)=true:=iz.LP hA
 (try((repeat(revert N;apply Pn.out));refine wk @ad.eq_1 ?_;(repeat(apply Pn.mk;intro N hN))))
 refine bf (fun n env st=>∃k:Nat,n=(4)-k/\k<=(4)/\env 10=.int .i64 (k:Int)/\st.get ⟨196000000,n0⟩=some ⟨true,2,[ad p]⟩/\(n0+2<=st.next/\∃o:Id,env 9=.own o 0 k/\st.get o=some ⟨true,1,(qv s (fG l) p k).map aC⟩/\n0<o.bG/\o.bG<st.next)) (4) ⟨0,ah,ah,sl @ad.eq_1,sl @ad.eq_1,by(try dsimp only);exact⟨ah,⟨196001000,n0+1⟩,sl @Nat.zero_add,sl @Nat.zero_add,bc,bc⟩⟩ ?_
 rintro n_a env_a st_a ⟨k,rfl,ale,Ah,ag0,kz⟩ dX
 have a0:=dX 0 (by kernel_rfl);have a1:=dX 1 (by kernel_rfl);have a3:=dX 3 (by kernel_rfl);have a6:=dX 6 (by kernel_rfl)
 simp only[go_sem, ↓reduceIte,Nat.reduceEqDiff,Nat.reduceAdd,Nat.reduceSub,Nat.reduceLeDiff,reduceCtorEq,ad]at a0 a1 a3 a6
 clear dX
 obtain⟨an,o,a9,ag,LN,aox⟩:=kz
 have vo:=db aox
 have vb:=db (i:=⟨196000000,n0⟩) (n:=st_a.next) bc
 have ob:=de (a:=⟨196000000,n0⟩) (b:=o) bc
 by_cases hk:(k:Int)<4
 ·have cV:∀{e:Env} {gg:Rows} {nx:Nat},(e 10=.int .i64 (IntKind.i64.wrap ((k:Int)+1)))->(gg ⟨196000000,n0⟩=some ⟨true,2,[ad p]⟩)->(n0+2<=nx/\∃o:Id,e 9=.own o 0 (k+1)/\gg o=some ⟨true,1,(qv s (fG l) p (k+1)).map aC⟩/\n0<o.bG/\o.bG<nx)->∃m0,m0<(4)-k/\∃k:Nat,m0=(4)-k/\k<=(4)/\e 10=.int .i64 (k:Int)/\gg ⟨196000000,n0⟩=some ⟨true,2,[ad p]⟩/\(n0+2<=nx/\∃o:Id,e 9=.own o 0 k/\gg o=some ⟨true,1,(qv s (fG l) p k).map aC⟩/\n0<o.bG/\o.bG<nx):=fun x1 x2 x3=>⟨_,ah,k+1,rfl,ah,(by rw[x1,aE ah]),x2,x3⟩
  have hd:iE (k:Int) 0 3=true:=jD ah
  have dZ:=vQ p k hd hx hy
  have tX:=Ql l (bR p k) hA.1.QS (by have:=hA.1.xD;omega)
  rw[ad]at dZ tX
  have gL:((qv s (fG l) p k).map aC).length=k:=by rw[List.length_map,Ed]
  have tk:k<=16777215:=ah
  have JW:=JM s (fG l) p k
  have uU:(qv s (fG l) p (k+1)).map aC=(qv s (fG l) p k).map aC++[[.int .i64 (qu s (fG l) p k)]]:=by rw[JW,List.map_append];rfl
  by_cases h0:fG l (bR p k)<0
  ·have qW:qu s (fG l) p k=0:=if_pos h0
   rw[qW]at uU
   (have zF:=tw @Ah (tw @ag0 (tw @a0 (tw @a1 (tw @a3 (tw @a6 (tw @hk (tw @a9 (tw @ag (tw @vo (tw @vb (tw @ob (tw @gL (tw @tk (tw @h0 @ad.eq_1))))))))))))));(repeat(first|((repeat(revert N;apply Pn.out));refine wk zF ?_;(repeat(apply Pn.mk;intro N hN)))|((try apply Or.inl);refine⟨_,au.x (dZ) (sd zF),?_⟩;apply hN;clear hN N)|((try apply Or.inl);refine⟨_,au.x (tX) (sd zF),?_⟩;apply hN;clear hN N)));try clear zF)
   refine cV ?_ ?_ (by(try dsimp only);exact⟨ah,⟨196007002,st_a.next+1+1+1⟩,sl @Nat.zero_add,by rw[uU];simp only[go_sem, ↓reduceIte,Nat.reduceEqDiff,Nat.reduceAdd,Nat.reduceSub,Nat.reduceLeDiff,reduceCtorEq]<;>rfl,bc,bc⟩)
   all_goals simp only[go_sem, ↓reduceIte,Nat.reduceEqDiff,Nat.reduceAdd,Nat.reduceSub,Nat.reduceLeDiff,reduceCtorEq,Ah,ag0,a0,a1,a3,a6,vb,ob,ad]
  ·have qW:qu s (fG l) p k=dS (dU s (fG l (bR p k))) (kS k):=if_neg h0
   rw[qW]at uU
   obtain⟨b0,b1,b2⟩:=lv (hTl _ (by omega:0<=fG l (bR p k)))
   have s2:=mC (hF.sf _ b2) (sZ hd)
   have d1:=(ej (sZ hd)).1
   have ev:=yq k hd
   (have zF:=tw @Ah (tw @ag0 (tw @a0 (tw @a1 (tw @a3 (tw @a6 (tw @hk (tw @a9 (tw @ag (tw @vo (tw @vb (tw @ob (tw @gL (tw @tk (tw @h0 (tw @b0 (tw @b1 (tw @s2 (tw @d1 (tw @ad.eq_1 (tw @ae.eq_1 @ck.eq_1))))))))))))))))))));(repeat(first|((repeat(revert N;apply Pn.out));refine wk zF ?_;(repeat(apply Pn.mk;intro N hN)))|((try apply Or.inl);refine⟨_,au.x (dZ) (sd zF),?_⟩;apply hN;clear hN N)|((try apply Or.inl);refine⟨_,au.x (tX) (sd zF),?_⟩;apply hN;clear hN N)|((try apply Or.inl);refine⟨_,au.x (ev) (sd zF),?_⟩;apply hN;clear hN N)));try clear zF)
   refine cV ?_ ?_ (by(try dsimp only);exact⟨ah,⟨196008014,st_a.next+1+1+1⟩,sl @Nat.zero_add,by rw[uU];simp only[go_sem, ↓reduceIte,Nat.reduceEqDiff,Nat.reduceAdd,Nat.reduceSub,Nat.reduceLeDiff,reduceCtorEq]<;>rfl,bc,bc⟩)
   all_goals simp only[go_sem, ↓reduceIte,Nat.reduceEqDiff,Nat.reduceAdd,Nat.reduceSub,Nat.reduceLeDiff,reduceCtorEq,Ah,ag0,a0,a1,a3,a6,vb,ob,ad]
 ·have hk4:k=4:=ah
  subst hk4
  (try((repeat(revert N;apply Pn.out));refine wk (tw @Ah (tw @ag0 (tw @a0 (tw @a1 (tw @a3 (tw @a6 (tw @hk @ae.eq_1))))))) ?_;(repeat(apply Pn.mk;intro N hN))))
  refine bf (fun n env st=>∃i:Nat,n=(s.aj.length)-i/\i<=(s.aj.length)/\env 13=.int .i64 (i:Int)/\(st_a.next<=st.next/\st.get o=some ⟨true,1,(qv s (fG l) p 4).map aC⟩/\∃u:Id,env 12=.own u 0 (lW (BZ s l T) p i).length/\st.get u=some ⟨true,1,(lW (BZ s l T) p i).map aC⟩/\st_a.next<=u.bG/\u.bG<st.next)) (s.aj.length) ⟨0,ah,ah,sl (tw @Ah (tw @ag0 (tw @a0 (tw @a1 (tw @a3 (tw @a6 (tw @a9 @ae.eq_1))))))),by(try dsimp only);exact⟨ah,sd (tw @vo @ag),⟨196009000,st_a.next+1⟩,sl @Nat.zero_add,sl @Nat.zero_add,bc,bc⟩⟩ ?_
  rintro n_b env_b st_b ⟨i,rfl,ble,yw,bI0⟩ fh
  have b0:=fh 0 (by kernel_rfl);have b1:=fh 1 (by kernel_rfl);have b3:=fh 3 (by kernel_rfl);have b9:=fh 9 (by kernel_rfl)
  simp only[go_sem, ↓reduceIte,Nat.reduceEqDiff,Nat.reduceAdd,Nat.reduceSub,Nat.reduceLeDiff,reduceCtorEq,Ah,ag0,a0,a1,a3,a6,a9,ae]at b0 b1 b3 b9
  clear fh
  obtain⟨bn,bo,u,FR,bu,bum,bux⟩:=bI0
  have vob:=db (i:=o) (n:=st_b.next) ah
  have vub:=db bux
  have JV:=tV (BZ s l T) p i
  have ou:=de (a:=o) (b:=u) ah
  by_cases hi:(i:Int)<(s.aj.length:Int)
  ·have fX:∀{e:Env} {gg:Rows} {nx:Nat},(e 13=.int .i64 (IntKind.i64.wrap ((i:Int)+1)))->(st_a.next<=nx/\gg o=some ⟨true,1,(qv s (fG l) p 4).map aC⟩/\∃u:Id,e 12=.own u 0 (lW (BZ s l T) p (i+1)).length/\gg u=some ⟨true,1,(lW (BZ s l T) p (i+1)).map aC⟩/\st_a.next<=u.bG/\u.bG<nx)->∃m0,m0<(s.aj.length)-i/\∃i:Nat,m0=(s.aj.length)-i/\i<=(s.aj.length)/\e 13=.int .i64 (i:Int)/\(st_a.next<=nx/\gg o=some ⟨true,1,(qv s (fG l) p 4).map aC⟩/\∃u:Id,e 12=.own u 0 (lW (BZ s l T) p i).length/\gg u=some ⟨true,1,(lW (BZ s l T) p i).map aC⟩/\st_a.next<=u.bG/\u.bG<nx):=fun x1 x2=>⟨_,ah,i+1,rfl,ah,(by rw[x1,aE ah]),x2⟩
   have gh:i<s.aj.length:=ah
   have htb:=FD gh
   obtain⟨t0,t1,t2⟩:=lv htb
   rw[Int.toNat_natCast]at t1
   have Ei:dr s (fG l) p i 0=0:=rfl
   (try((repeat(revert N;apply Pn.out));refine wk (tw @yw (tw @b0 (tw @b1 (tw @b3 (tw @b9 @hi))))) ?_;(repeat(apply Pn.mk;intro N hN))))
   refine bf (fun n env st=>∃j:Nat,n=(4)-j/\j<=(4)/\env 15=.int .i64 (j:Int)/\env 14=.int .i64 (dr s (fG l) p i j)/\(st_b.next<=st.next/\∀x:Id,x.bG<st_b.next->st.get x=st_b.get x)) (4) ⟨0,ah,ah,sl (tw @yw (tw @b0 (tw @b1 (tw @b3 (tw @b9 (tw @a9 (tw @Ei @ae.eq_1))))))),sl (tw @yw (tw @b0 (tw @b1 (tw @b3 (tw @b9 (tw @a9 (tw @Ei @ae.eq_1))))))),by(try dsimp only);exact⟨ah,fun x hx=>by
    have h1:=db hx
    simp only[go_sem, ↓reduceIte,Nat.reduceEqDiff,Nat.reduceAdd,Nat.reduceSub,Nat.reduceLeDiff,reduceCtorEq,h1]⟩⟩ ?_
   rintro n_c env_c st_c ⟨j,rfl,cle,c15,c14,cI0⟩ jq
   have c0:=jq 0 (by kernel_rfl);have c3:=jq 3 (by kernel_rfl);have c9:=jq 9 (by kernel_rfl);have qf:=jq 12 (by kernel_rfl);have Gi:=jq 13 (by kernel_rfl)
   simp only[go_sem, ↓reduceIte,Nat.reduceEqDiff,Nat.reduceAdd,Nat.reduceSub,Nat.reduceLeDiff,reduceCtorEq,yw,b0,b1,b3,b9,a9,Ei,ae]at c0 c3 c9 qf Gi
   clear jq
   obtain⟨cn,jq⟩:=cI0
   have go:=(jq o ah).trans bo
   have gu:=(jq u bux).trans bu
   have X6:=db (i:=o) (n:=st_c.next) ah
   have vuc:=db (i:=u) (n:=st_c.next) ah
   by_cases hj:(j:Int)<4
   ·have ik:∀{e:Env} {gg:Rows} {nx:Nat},(e 15=.int .i64 (IntKind.i64.wrap ((j:Int)+1)))->(e 14=.int .i64 (dr s (fG l) p i (j+1)))->(st_b.next<=nx/\∀x:Id,x.bG<st_b.next->gg x=st_b.get x)->∃m0,m0<(4)-j/\∃j:Nat,m0=(4)-j/\j<=(4)/\e 15=.int .i64 (j:Int)/\e 14=.int .i64 (dr s (fG l) p i j)/\(st_b.next<=nx/\∀x:Id,x.bG<st_b.next->gg x=st_b.get x):=fun x1 x2 x3=>⟨_,ah,j+1,rfl,ah,(by rw[x1,aE ah]),x2,x3⟩
    have hdj:iE (j:Int) 0 3=true:=jD ah
    have RN:(j:Int)<((4:Nat):Int):=ah
    have s1:=mC (hF.sf _ t2) hdj
    rw[Int.toNat_natCast]at s1
    have W7:=Ms (s:=s) (F:=fG l) (p:=p) (k:=4) (d:=j) ah
    have uT:((qv s (fG l) p 4).map aC).length=4:=by rw[List.length_map,Ed]
    have dZ:=JB hF hTl (p:=p) htb (d:=j) ah
    have gj:=lh hS (fG l) p i (j+1)
    have PL:=lh hS (fG l) p i j
    have jT:=PE hF hTl p (d:=j) ah
    have Y2:=sa s (qu s (fG l) p j) jT.1 jT.2
    rw[ae]at Y2
    by_cases he:dS (dU s i) j=qu s (fG l) p j
    ·have Cn:decide (dS (dU s i) j=qu s (fG l) p j)=true:=decide_eq_true he
     rw[if_pos he]at dZ
     have hw:IntKind.i64.wrap (dr s (fG l) p i j+rY s (qu s (fG l) p j))=dr s (fG l) p i (j+1):=by rw[<-dZ,cq ah]
     (have zF:=tw @c15 (tw @c14 (tw @c0 (tw @c3 (tw @c9 (tw @qf (tw @Gi (tw @hj (tw @RN (tw @t1 (tw @s1 (tw @W7 (tw @go (tw @X6 (tw @Cn (tw @ae.eq_1 @ck.eq_1)))))))))))))));(repeat(first|((repeat(revert N;apply Pn.out));refine wk zF ?_;(repeat(apply Pn.mk;intro N hN)))|((try apply Or.inl);refine⟨_,au.x (Y2) (sd zF),?_⟩;apply hN;clear hN N)));try clear zF)
     refine ik ?_ ?_ (by(try dsimp only);exact⟨ah,fun x hx=>by exact jq x hx⟩)
     all_goals simp only[go_sem, ↓reduceIte,Nat.reduceEqDiff,Nat.reduceAdd,Nat.reduceSub,Nat.reduceLeDiff,reduceCtorEq,c15,c14,c0,c3,c9,qf,Gi,hw,ae]
    ·have Cn:decide (dS (dU s i) j=qu s (fG l) p j)=false:=decide_eq_false he
     rw[if_neg he]at dZ
     (try((repeat(revert N;apply Pn.out));refine wk (tw @c15 (tw @c14 (tw @c0 (tw @c3 (tw @c9 (tw @qf (tw @Gi (tw @hj (tw @RN (tw @t1 (tw @s1 (tw @W7 (tw @go (tw @X6 (tw @Cn (tw @ae.eq_1 @ck.eq_1)))))))))))))))) ?_;(repeat(apply Pn.mk;intro N hN))))
     refine ik ?_ ?_ (by(try dsimp only);exact⟨ah,fun x hx=>by exact jq x hx⟩)
     all_goals simp only[go_sem, ↓reduceIte,Nat.reduceEqDiff,Nat.reduceAdd,Nat.reduceSub,Nat.reduceLeDiff,reduceCtorEq,c15,c14,c0,c3,c9,qf,Gi,dZ,ae]
   ·have hj4:j=4:=ah
    subst hj4
    have ji:dr s (fG l) p i 4=nj s (fG l) p i:=rfl
    have w5:lW (BZ s l T) p (i+1)=if BZ s l T p i=true then lW (BZ s l T) p i++[(i:Int)]else lW (BZ s l T) p i:=rfl
    have oi:BZ s l T p i=decide (T<=nj s (fG l) p i):=rfl
    generalize lW (BZ s l T) p i=L at w5 FR bu JV gu
    cases hb:BZ s l T p i
    ·rw[hb,if_neg (by simp)]at w5
     rw[hb]at oi
     (try((repeat(revert N;apply Pn.out));refine wk (tw @c15 (tw @c14 (tw @c0 (tw @c3 (tw @c9 (tw @qf (tw @Gi (tw @hj (tw @ji @oi.symm))))))))) ?_;(repeat(apply Pn.mk;intro N hN))))
     exact fX (sd (tw @yw (tw @b0 (tw @b1 (tw @b3 (tw @b9 (tw @c15 (tw @c14 (tw @c0 (tw @c3 (tw @c9 (tw @qf (tw @Gi @ae.eq_1))))))))))))) (by(try dsimp only);exact⟨ah,go,⟨u,by rw[w5];simp only[go_sem, ↓reduceIte,Nat.reduceEqDiff,Nat.reduceAdd,Nat.reduceSub,Nat.reduceLeDiff,reduceCtorEq,c15,c14,c0,c3,c9,qf,Gi,FR],by rw[w5];simp only[go_sem, ↓reduceIte,Nat.reduceEqDiff,Nat.reduceAdd,Nat.reduceSub,Nat.reduceLeDiff,reduceCtorEq,gu],ah,bc⟩⟩)
    ·rw[hb,if_pos rfl]at w5
     rw[hb]at oi
     have gL:(L.map aC).length=L.length:=by simp
     have hL1:L.length<=16777215:=ah
     have rR:(L++[(i:Int)]).length=L.length+1:=by simp
     have qY:(L++[(i:Int)]).map aC=L.map aC++[[.int .i64 i]]:=by rw[List.map_append];rfl
     (try((repeat(revert N;apply Pn.out));refine wk (tw @c15 (tw @c14 (tw @c0 (tw @c3 (tw @c9 (tw @qf (tw @Gi (tw @hj (tw @ji (tw @oi.symm (tw @FR (tw @gu (tw @vuc (tw @gL (tw @hL1 (tw @X6 @ou)))))))))))))))) ?_;(repeat(apply Pn.mk;intro N hN))))
     exact fX (sd (tw @yw (tw @b0 (tw @b1 (tw @b3 (tw @b9 (tw @c15 (tw @c14 (tw @c0 (tw @c3 (tw @c9 (tw @qf (tw @Gi @ae.eq_1))))))))))))) (by(try dsimp only);exact⟨ah,sd (tw @go (tw @X6 @ou)),⟨⟨196020003,st_c.next+1+1⟩,by rw[w5,rR];simp only[go_sem, ↓reduceIte,Nat.reduceEqDiff,Nat.reduceAdd,Nat.reduceSub,Nat.reduceLeDiff,reduceCtorEq]<;>rfl,by rw[w5,qY];simp only[go_sem, ↓reduceIte,Nat.reduceEqDiff,Nat.reduceAdd,Nat.reduceSub,Nat.reduceLeDiff,reduceCtorEq]<;>rfl,bc,bc⟩⟩)
  ·have mL:i=s.aj.length:=ah
   subst mL
   (try((repeat(revert N;apply Pn.out));refine wk (tw @yw (tw @b0 (tw @b1 (tw @b3 (tw @b9 (tw @hi @FR)))))) ?_;(repeat(apply Pn.mk;intro N hN))))
   exact qI (.inl rfl) (vs:=[.own u 0 (lW (BZ s l T) p s.aj.length).length]) (sd @FR) (by
    simp only[fb]
    exact fH (e:=aC) (n:=5) bu rfl fun x=>by simp[aC,cu,cZ,eL])
noncomputable def gW (s:ax) (ts:List aa) (q:aq):List Int:=lW (ei s ts) q s.aD.aj.length
def jg (σ:aw) (O:Id) (s:ax) (ts:List aa) (A:aq->Prop) (g:Rows) (n:Nat):Prop:=σ.next<=n/\(∀x:Id,x.bG<σ.next->x≠O->g x=σ.get x)/\∃es:List En,g O=some ⟨true,mP.lP,es.map pS⟩/\yp g n es (gW s ts) A
theorem jg.SM {σ:aw} {g:Rows} {n:Nat} {c T O:Id} {s s':ax} {ts O6:List aa} {A:aq->Prop} (h:Dq σ.get σ.next c T O s ts) (hc:c≠O) (hT:T≠O) (k:jg σ O s' O6 A g n):Dq g n c T O s ts:=
 h.frame k.1 (k.2.1 _ h.cv hc) (k.2.1 _ h.tv hT)
theorem jg.frame {a:aw} {O:Id} {s:ax} {ts:List aa} {A:aq->Prop} {g g':Rows} {n n' m:Nat} (h:jg a O s ts A g n) (ha:n<=m) (ho:O.bG<m) (hn:n<=n') (hf:∀x:Id,x.bG<m->g' x=g x):jg a O s ts A g' n':=by
 refine⟨Nat.le_trans h.1 hn,fun x hx hO=>(hf x (Nat.lt_of_lt_of_le hx (Nat.le_trans h.1 ha))).trans (h.2.1 x hx hO),?_⟩
 obtain⟨es,h1,h2⟩:=h.2.2
 exact⟨es,(hf O ho).trans h1,h2.frame hn fun x hx _=>hf x (Nat.lt_of_lt_of_le hx ha)⟩
theorem zH:¬mP.lP=1:=by decide
theorem jg.put {a:aw} {O:Id} {s:ax} {ts:List aa} {A A':aq->Prop} {g g':Rows} {n n':Nat} {es:List En} (h:jg a O s ts A g n) (hg:g O=some ⟨true,mP.lP,es.map pS⟩) (hw:yp g n es (gW s ts) A) (hn:n<=n') (hf:∀x:Id,x.bG<n->x≠O->g' x=g x) {q:aq} {o:Id} (h0:gW s ts q≠[]) (ho:o.bG<n') (xH:g' o=some ⟨true,1,(gW s ts q).map aC⟩) (hO:g' O=some ⟨true,mP.lP,(pd es q (.own o 0 (gW s ts q).length)).map pS⟩) (hA:∀p,A' p->A p∨p=q):jg a O s ts A' g' n':=
 ⟨Nat.le_trans h.1 hn,fun x hx ID=>(hf x (Nat.lt_of_lt_of_le hx h.1) ID).trans (h.2.1 x hx ID),_,hO,((hw.frame hn fun x hx hr=>hf x hx (by
  rintro rfl
  obtain⟨k,r,hr⟩:=hr
  rw[hg]at hr
  injection hr with hr
  injection hr with _ hr _
  exact zH hr)).put h0 ho xH).mono hA⟩
theorem jg.cut {a:aw} {O:Id} {s:ax} {ts:List aa} {A A':aq->Prop} {g g':Rows} {n n':Nat} {es:List En} (h:jg a O s ts A g n) (hg:g O=some ⟨true,mP.lP,es.map pS⟩) (hw:yp g n es (gW s ts) A) (hn:n<=n') (hf:∀x:Id,x.bG<n->x≠O->g' x=g x) {q:aq} (h0:gW s ts q=[]) (hO:g' O=some ⟨true,mP.lP,(pR es q).map pS⟩) (hA:∀p,A' p->A p∨p=q):jg a O s ts A' g' n':=
 ⟨Nat.le_trans h.1 hn,fun x hx ID=>(hf x (Nat.lt_of_lt_of_le hx h.1) ID).trans (h.2.1 x hx ID),_,hO,((hw.frame hn fun x hx hr=>hf x hx (by
  rintro rfl
  obtain⟨k,r,hr⟩:=hr
  rw[hg]at hr
  injection hr with hr
  injection hr with _ hr _
  exact zH hr)).cut h0).mono hA⟩
theorem jg.ow {a:aw} {O:Id} {s:ax} {ts:List aa} {A:aq->Prop} {g:Rows} {n:Nat} (h:jg a O s ts A g n):Rp a O g n:=by
 obtain⟨h1,h2,es,h3,_⟩:=h
 refine⟨h1,h2,_,h3,fun r hr=>?_⟩
 obtain⟨e,_,rfl⟩:=List.mem_map.1 hr
 exact⟨_,_,_,rfl⟩
theorem uk {σ:aw} {c T O:Id} {s:ax} {ts:List aa} (h:Dq σ.get σ.next c T O s ts) (hc:c≠O) (hT:T≠O) (A:aq->Prop) (hO:∃es:List En,σ.get O=some ⟨true,mP.lP,es.map pS⟩/\yp σ.get σ.next es (gW s ts) A) (hS:iz s.aD) (hF:∀q,0<=fG ts q->eO s.aD (fG ts q)=true) (p:aq) (hx:iB p.eS) (hy:iB p.eM):
  Call Tryz.prog 159 [.ptr c 0 0,.agg (ad p)] σ (fun r σ'=>r=.fD []/\jg σ O s ts (fun q=>A q∨∃k:Nat,k<4/\q=bR p k) σ'.get σ'.next):=by
 refine eB eI rfl fun iD=>?_
 clear iD
 have GW:=hS.xo
 have h0:jg σ O s ts (fun q=>A q∨∃k:Nat,k<0/\q=bR p k) σ.get σ.next:=⟨Nat.le_refl _,fun _ _ _=>rfl,by
  obtain⟨es,h1,h2⟩:=hO
  exact⟨es,h1,h2.mono fun q hq=>hq.elim id fun⟨k,hk,_⟩=>absurd hk (Nat.not_lt_zero k)⟩⟩
 (try((repeat(revert N;apply Pn.out));refine wk @ad.eq_1 ?_;(repeat(apply Pn.mk;intro N hN))))
 refine bf (fun n env st=>∃k:Nat,n=(4)-k/\k<=(4)/\env 8=.int .i64 (k:Int)/\st.get ⟨159000000,σ.next⟩=some ⟨true,2,[ad p]⟩/\(σ.next<st.next/\jg σ O s ts (fun q=>A q∨∃j:Nat,j<k/\q=bR p j) st.get st.next)) (4) ⟨0,ah,ah,sl @ad.eq_1,sl @ad.eq_1,⟨bc,h0.frame (Nat.le_refl _) h.ov bc (fun x hx=>by
  have:=db hx
  simp only[go_sem, ↓reduceIte,Nat.reduceEqDiff,Nat.reduceAdd,Nat.reduceSub,Nat.reduceLeDiff,reduceCtorEq,this])⟩⟩ ?_
 rintro n_a env_a st_a ⟨k,rfl,ale,a8,ag0,kz⟩ dX
 have a0:=dX 0 (by kernel_rfl);have a3:=dX 3 (by kernel_rfl)
 simp only[go_sem, ↓reduceIte,Nat.reduceEqDiff,Nat.reduceAdd,Nat.reduceSub,Nat.reduceLeDiff,reduceCtorEq,ad]at a0 a3
 clear dX
 obtain⟨an,ak⟩:=kz
 have ha:=ak.SM h hc hT
 by_cases hk:(k:Int)<4
 ·have cV:∀{e:Env} {gg:Rows} {nx:Nat},(e 8=.int .i64 (IntKind.i64.wrap ((k:Int)+1)))->(gg ⟨159000000,σ.next⟩=some ⟨true,2,[ad p]⟩)->(σ.next<nx/\jg σ O s ts (fun q=>A q∨∃j:Nat,j<(k+1)/\q=bR p j) gg nx)->∃m0,m0<(4)-k/\∃k:Nat,m0=(4)-k/\k<=(4)/\e 8=.int .i64 (k:Int)/\gg ⟨159000000,σ.next⟩=some ⟨true,2,[ad p]⟩/\(σ.next<nx/\jg σ O s ts (fun q=>A q∨∃j:Nat,j<k/\q=bR p j) gg nx):=fun x1 x2 x3=>⟨_,ah,k+1,rfl,ah,(by rw[x1,aE ah]),x2,x3⟩
  have dZ:=HD p k (jD ah) hx hy
  obtain⟨b,h1⟩:=ha.row
  have v1:=db ha.cv
  (have zF:=tw @a8 (tw @ag0 (tw @a0 (tw @a3 (tw @hk (tw @h1 (tw @v1 @ad.eq_1))))));(repeat(first|((repeat(revert N;apply Pn.out));refine wk zF ?_;(repeat(apply Pn.mk;intro N hN)))|((try apply Or.inl);refine⟨_,au.x (dZ) (sd zF),?_⟩;apply hN;clear hN N)));try clear zF)
  refine bf (fun n env st=>∃t:Nat,n=(s.aD.aj.length)-t/\t<=(s.aD.aj.length)/\env 21=.int .i64 (t:Int)/\st.get ⟨159000000,σ.next⟩=some ⟨true,2,[ad p]⟩/\st.get ⟨159004003,st_a.next+1+1⟩=some ⟨true,2,[ad (bR p k)]⟩/\(st_a.next+3<=st.next/\jg σ O s ts (fun q=>A q∨∃j:Nat,j<k/\q=bR p j) st.get st_a.next/\((lW (ei s ts) (bR p k) t=[]/\env 6=.bU)∨∃o:Id,env 6=.own o 0 (lW (ei s ts) (bR p k) t).length/\st.get o=some ⟨true,1,(lW (ei s ts) (bR p k) t).map aC⟩/\0<(lW (ei s ts) (bR p k) t).length/\st_a.next+3<=o.bG/\o.bG<st.next))) (s.aD.aj.length) ⟨0,ah,ah,sl (tw @a8 (tw @ag0 (tw @a0 (tw @a3 @ad.eq_1)))),sl (tw @a8 (tw @ag0 (tw @a0 (tw @a3 @ad.eq_1)))),sl (tw @a8 (tw @ag0 (tw @a0 (tw @a3 @ad.eq_1)))),⟨bc,ak.frame (Nat.le_refl _) ha.ov (Nat.le_refl _) (fun x hx=>(by
   have:=db hx
   simp only[go_sem, ↓reduceIte,Nat.reduceEqDiff,Nat.reduceAdd,Nat.reduceSub,Nat.reduceLeDiff,reduceCtorEq,this])),.inl ⟨rfl,sd @Nat.zero_add⟩⟩⟩ ?_
  rintro n_b env_b st_b ⟨t,rfl,ble,b21,bg0,bg1,bI0⟩ fh
  have b0:=fh 0 (by kernel_rfl);have b3:=fh 3 (by kernel_rfl);have b5:=fh 5 (by kernel_rfl);have b8:=fh 8 (by kernel_rfl);have Li:=fh 20 (by kernel_rfl)
  simp only[go_sem, ↓reduceIte,Nat.reduceEqDiff,Nat.reduceAdd,Nat.reduceSub,Nat.reduceLeDiff,reduceCtorEq,a8,ag0,a0,a3,ad]at b0 b3 b5 b8 Li
  clear fh
  obtain⟨bn,bk,b6⟩:=bI0
  have VD:Dq st_b.get st_b.next c T O s ts:=(bk.SM h hc hT).frame ah rfl rfl
  obtain⟨b2,h2⟩:=VD.row
  have v2:=db VD.cv
  have vt:=db (i:=⟨159000000,σ.next⟩) (n:=st_b.next) bc
  have vq:=db (i:=⟨159004003,st_a.next+1+1⟩) (n:=st_b.next) bc
  by_cases ht:(t:Int)<(s.aD.aj.length:Int)
  ·have fX:∀{e:Env} {gg:Rows} {nx:Nat},(e 21=.int .i64 (IntKind.i64.wrap ((t:Int)+1)))->(gg ⟨159000000,σ.next⟩=some ⟨true,2,[ad p]⟩)->(gg ⟨159004003,st_a.next+1+1⟩=some ⟨true,2,[ad (bR p k)]⟩)->(st_a.next+3<=nx/\jg σ O s ts (fun q=>A q∨∃j:Nat,j<k/\q=bR p j) gg st_a.next/\((lW (ei s ts) (bR p k) (t+1)=[]/\e 6=.bU)∨∃o:Id,e 6=.own o 0 (lW (ei s ts) (bR p k) (t+1)).length/\gg o=some ⟨true,1,(lW (ei s ts) (bR p k) (t+1)).map aC⟩/\0<(lW (ei s ts) (bR p k) (t+1)).length/\st_a.next+3<=o.bG/\o.bG<nx))->∃m0,m0<(s.aD.aj.length)-t/\∃t:Nat,m0=(s.aD.aj.length)-t/\t<=(s.aD.aj.length)/\e 21=.int .i64 (t:Int)/\gg ⟨159000000,σ.next⟩=some ⟨true,2,[ad p]⟩/\gg ⟨159004003,st_a.next+1+1⟩=some ⟨true,2,[ad (bR p k)]⟩/\(st_a.next+3<=nx/\jg σ O s ts (fun q=>A q∨∃j:Nat,j<k/\q=bR p j) gg st_a.next/\((lW (ei s ts) (bR p k) t=[]/\e 6=.bU)∨∃o:Id,e 6=.own o 0 (lW (ei s ts) (bR p k) t).length/\gg o=some ⟨true,1,(lW (ei s ts) (bR p k) t).map aC⟩/\0<(lW (ei s ts) (bR p k) t).length/\st_a.next+3<=o.bG/\o.bG<nx)):=fun x1 x2 x3 x4=>⟨_,ah,t+1,rfl,ah,(by rw[x1,aE ah]),x2,x3,x4⟩
   have Xs:t<s.aD.aj.length:=ah
   have JV:=tV (ei s ts) (bR p k) t
   have w5:lW (ei s ts) (bR p k) (t+1)=if ei s ts (bR p k) t=true then lW (ei s ts) (bR p k) t++[(t:Int)]else lW (ei s ts) (bR p k) t:=rfl
   generalize lW (ei s ts) (bR p k) t=L at b6 JV w5
   (try((repeat(revert N;apply Pn.out));refine wk (tw @b21 (tw @bg0 (tw @bg1 (tw @b0 (tw @b3 (tw @b5 (tw @b8 (tw @Li (tw @ht (tw @h2 (tw @v2 (tw @vt (tw @vq @ad.eq_1))))))))))))) ?_;(repeat(apply Pn.mk;intro N hN))))
   refine .inl ⟨_,SY (VD.frame bc (sd @v2) (by(have:=db VD.tv;simp only[go_sem, ↓reduceIte,Nat.reduceEqDiff,Nat.reduceAdd,Nat.reduceSub,Nat.reduceLeDiff,reduceCtorEq,this]))) hS hF (bR p k) t (FD Xs),?_⟩
   apply hN
   clear hN N
   cases hb:ei s ts (bR p k) t
   ·rw[hb,if_neg (by simp)]at w5
    (try((repeat(revert N;apply Pn.out));refine wk (tw @b21 (tw @bg0 (tw @bg1 (tw @b0 (tw @b3 (tw @b5 (tw @b8 (tw @Li @hb)))))))) ?_;(repeat(apply Pn.mk;intro N hN))))
    refine fX ?_ ?_ ?_ (by(try dsimp only);exact⟨ah,bk.frame (Nat.le_refl _) ha.ov (Nat.le_refl _) (fun x hx=>by
      have h1:=db (i:=x) (n:=st_b.next) ah
      simp only[go_sem, ↓reduceIte,Nat.reduceEqDiff,Nat.reduceAdd,Nat.reduceSub,Nat.reduceLeDiff,reduceCtorEq,h1]),by
     rw[w5]
     rcases b6 with⟨hL,h⟩|⟨o,h1,h2,h3,h4,h5⟩
     ·exact .inl ⟨hL,sd @h⟩
     ·have h8:=db h5
      exact .inr ⟨o,sd @h1,sd (tw @h2 @h8),h3,h4,ah⟩⟩)
    all_goals simp only[go_sem, ↓reduceIte,Nat.reduceEqDiff,Nat.reduceAdd,Nat.reduceSub,Nat.reduceLeDiff,reduceCtorEq,b21,bg0,bg1,b0,b3,b5,b8,Li,ad,vt,vq]
   ·rw[hb,if_pos rfl]at w5
    have rR:(L++[(t:Int)]).length=L.length+1:=by simp
    have qY:(L++[(t:Int)]).map aC=L.map aC++[[.int .i64 t]]:=by rw[List.map_append];rfl
    rcases b6 with⟨hL,b6⟩|⟨o,b6,bo,o4,o6,o7⟩
    ·subst hL
     (try((repeat(revert N;apply Pn.out));refine wk (tw @b21 (tw @bg0 (tw @bg1 (tw @b0 (tw @b3 (tw @b5 (tw @b8 (tw @Li (tw @b6 @hb))))))))) ?_;(repeat(apply Pn.mk;intro N hN))))
     refine fX ?_ ?_ ?_ (by(try dsimp only);exact⟨ah,bk.frame (Nat.le_refl _) ha.ov (Nat.le_refl _) (fun x hx=>by
      have h1:=db (i:=x) (n:=st_b.next) ah
      simp only[go_sem, ↓reduceIte,Nat.reduceEqDiff,Nat.reduceAdd,Nat.reduceSub,Nat.reduceLeDiff,reduceCtorEq,h1]),.inr ⟨⟨159010003,st_b.next+1+1+1⟩,by rw[w5,rR];simp only[go_sem, ↓reduceIte,Nat.reduceEqDiff,Nat.reduceAdd,Nat.reduceSub,Nat.reduceLeDiff,reduceCtorEq]<;>rfl,by rw[w5,qY];simp only[go_sem, ↓reduceIte,Nat.reduceEqDiff,Nat.reduceAdd,Nat.reduceSub,Nat.reduceLeDiff,reduceCtorEq]<;>rfl,by rw[w5,rR];omega,bc,bc⟩⟩)
     all_goals simp only[go_sem, ↓reduceIte,Nat.reduceEqDiff,Nat.reduceAdd,Nat.reduceSub,Nat.reduceLeDiff,reduceCtorEq,b21,bg0,bg1,b0,b3,b5,b8,Li,ad,vt,vq]
    ·have e1:L.length<=16777215:=ah
     have ub:(L.map aC).length=L.length:=by simp
     have vo:=db o7
     have vto:=de (a:=⟨159000000,σ.next⟩) (b:=o) bc
     have vqo:=de (a:=⟨159004003,st_a.next+1+1⟩) (b:=o) bc
     (try((repeat(revert N;apply Pn.out));refine wk (tw @b21 (tw @bg0 (tw @bg1 (tw @b0 (tw @b3 (tw @b5 (tw @b8 (tw @Li (tw @b6 (tw @bo (tw @hb (tw @e1 (tw @ub @vo))))))))))))) ?_;(repeat(apply Pn.mk;intro N hN))))
     refine fX ?_ ?_ ?_ (by(try dsimp only);exact⟨ah,bk.frame (Nat.le_refl _) ha.ov (Nat.le_refl _) (fun x hx=>by
      have h1:=db (i:=x) (n:=st_b.next) ah
      have h2:=de (a:=x) (b:=o) ah
      simp only[go_sem, ↓reduceIte,Nat.reduceEqDiff,Nat.reduceAdd,Nat.reduceSub,Nat.reduceLeDiff,reduceCtorEq,h1,h2]),.inr ⟨⟨159010003,st_b.next+1+1+1⟩,by rw[w5,rR];simp only[go_sem, ↓reduceIte,Nat.reduceEqDiff,Nat.reduceAdd,Nat.reduceSub,Nat.reduceLeDiff,reduceCtorEq]<;>rfl,by rw[w5,qY];simp only[go_sem, ↓reduceIte,Nat.reduceEqDiff,Nat.reduceAdd,Nat.reduceSub,Nat.reduceLeDiff,reduceCtorEq]<;>rfl,by rw[w5,rR];omega,bc,bc⟩⟩)
     all_goals simp only[go_sem, ↓reduceIte,Nat.reduceEqDiff,Nat.reduceAdd,Nat.reduceSub,Nat.reduceLeDiff,reduceCtorEq,b21,bg0,bg1,b0,b3,b5,b8,Li,ad,vt,vq,vto,vqo]
  ·obtain⟨es,hg,how⟩:=bk.2.2
   have vo:=db VD.ov
   obtain⟨fi,FV,rS,JS,_,_⟩:=vZ (bR p k) es
   unfold dt at rS
   unfold dw at JS
   have hq:((⟨159000000,σ.next⟩:Id)=O)=False:=(de (a:=O) (b:=⟨159000000,σ.next⟩) (by have:=h.ov;(try dsimp only);omega)).2
   have htt:t=s.aD.aj.length:=ah
   subst htt
   have rP:lW (ei s ts) (bR p k) s.aD.aj.length=gW s ts (bR p k):=rfl
   rw[rP]at b6
   have hAk:∀q,(A q∨∃j:Nat,j<k+1/\q=bR p j)->(A q∨∃j:Nat,j<k/\q=bR p j)∨q=bR p k:=fun q hq=>by
    rcases hq with hq|⟨j,hj,hq⟩
    ·exact .inl (.inl hq)
    ·rcases Nat.lt_or_ge j k with h|h
     ·exact .inl (.inr ⟨j,h,hq⟩)
     ·exact .inr (by rw[hq,show j=k by omega])
   rcases b6 with⟨hL,b6⟩|⟨o,b6,bo,o4,o6,o7⟩
   ·have d0:decide ((0:Int)<((0:Nat):Int))=false:=rfl
    (try((repeat(revert N;apply Pn.out));refine wk (tw @b21 (tw @bg0 (tw @bg1 (tw @b0 (tw @b3 (tw @b5 (tw @b8 (tw @Li (tw @b6 (tw @ht (tw @h2 (tw @v2 (tw @vt (tw @vq (tw @vo (tw @hg (tw @FV (tw @JS (tw @ad.eq_1 @d0))))))))))))))))))) ?_;(repeat(apply Pn.mk;intro N hN))))
    refine cV ?_ ?_ (by(try dsimp only);exact⟨ah,bk.cut hg how ah (fun x hx ID=>by
     have h1:=db (i:=x) (n:=st_b.next) ah
     have h2:(x=O)=False:=eq_false ID
     simp only[go_sem, ↓reduceIte,Nat.reduceEqDiff,Nat.reduceAdd,Nat.reduceSub,Nat.reduceLeDiff,reduceCtorEq,h1,h2]) hL (sl @JS) hAk⟩)
    all_goals simp only[go_sem, ↓reduceIte,Nat.reduceEqDiff,Nat.reduceAdd,Nat.reduceSub,Nat.reduceLeDiff,reduceCtorEq,a8,ag0,a0,a3,b21,bg0,bg1,b0,b3,b5,b8,Li,ad,vt,vo,hq]
   ·have gM:gW s ts (bR p k)≠[]:=fun e=>by rw[e]at o4;cases o4
    have d1:decide ((0:Int)<((gW s ts (bR p k)).length:Int))=true:=decide_eq_true ah
    have Iz:=rS (.own o 0 (gW s ts (bR p k)).length)
    have v8:=db o7
    have oO:(o=O)=False:=eq_false (by
     rintro rfl
     rw[hg]at bo
     injection bo with bo
     injection bo with _ bo _
     exact zH bo)
    (try((repeat(revert N;apply Pn.out));refine wk (tw @b21 (tw @bg0 (tw @bg1 (tw @b0 (tw @b3 (tw @b5 (tw @b8 (tw @Li (tw @b6 (tw @ht (tw @h2 (tw @v2 (tw @vt (tw @vq (tw @vo (tw @hg (tw @FV (tw @Iz (tw @ad.eq_1 @d1))))))))))))))))))) ?_;(repeat(apply Pn.mk;intro N hN))))
    refine cV ?_ ?_ (by(try dsimp only);exact⟨ah,bk.put hg how ah (fun x hx ID=>by
     have h1:=db (i:=x) (n:=st_b.next) ah
     have h2:(x=O)=False:=eq_false ID
     simp only[go_sem, ↓reduceIte,Nat.reduceEqDiff,Nat.reduceAdd,Nat.reduceSub,Nat.reduceLeDiff,reduceCtorEq,h1,h2]) (o:=o) gM ah (sd (tw @oO (tw @v8 @bo))) (sl @Iz) hAk⟩)
    all_goals simp only[go_sem, ↓reduceIte,Nat.reduceEqDiff,Nat.reduceAdd,Nat.reduceSub,Nat.reduceLeDiff,reduceCtorEq,a8,ag0,a0,a3,b21,bg0,bg1,b0,b3,b5,b8,Li,ad,vt,vo,hq]
 ·have hk4:k=4:=ah
  subst hk4
  (try((repeat(revert N;apply Pn.out));refine wk (tw @a8 (tw @ag0 (tw @a0 (tw @a3 @hk)))) ?_;(repeat(apply Pn.mk;intro N hN))))
  exact er (.inr rfl) (vs:=[]) rfl ⟨rfl,ak.frame (Nat.le_refl _) ha.ov bc (fun x hx=>rfl)⟩
structure rK (g:Rows) (n:Nat) (c T O:Id) (s:ax) (ts:List aa):Prop where
 o:mQ g n c T O s ts
 op:∃es:List En,g O=some ⟨true,mP.lP,es.map pS⟩/\yp g n es (gW s ts) (fun _=>True)
theorem rK.frame {g g':Rows} {n n':Nat} {c T O:Id} {s:ax} {ts:List aa} (h:rK g n c T O s ts) (hn:n<=n') (hf:∀x:Id,x.bG<n->g' x=g x):rK g' n' c T O s ts:=
 ⟨h.o.frame hn hf,by
  obtain⟨es,h1,h2⟩:=h.op
  exact⟨es,(hf _ h.o.ov).trans h1,h2.frame hn fun x hx _=>hf x hx⟩⟩
theorem mQ.R5 {σ:aw} {g:Rows} {n:Nat} {c T O:Id} {s:ax} {ts:List aa} {A:aq->Prop} (h:mQ σ.get σ.next c T O s ts) (k:jg σ O s ts A g n):mQ g n c T O s ts:=h.look k.ow
theorem Mi {s:ax} (hT:1<=s.aA) {ts:List aa} {q:aq} (h:∀t∈ts,∀k:Nat,k<4->q≠bR t.aQ k):gW s ts q=[]:=by
 unfold gW
 refine Ce (fun t=>?_) _
 cases hb:ei s ts q t
 ·rfl
 ·exfalso
  simp[ei]at hb
  obtain⟨⟨h1,h2⟩,h3⟩:=hb
  obtain⟨k,hk,h4⟩:=bind_some (s:=s.aD) (F:=fG ts) (p:=q) (t:=t) 4 (by have:nj s.aD (fG ts) q t=dr s.aD (fG ts) q t 4:=rfl;omega)
  have h5:0<=ez ts (bR q k):=by
   unfold fG at h4
   split at h4
   ·assumption
   ·omega
  obtain⟨h6,h7⟩:=kb h5
  have OY:(kS k).toNat<4/\((kS k).toNat:Int)=kS k:=by
   have:k=0∨k=1∨k=2∨k=3:=ah
   rcases this with rfl|rfl|rfl|rfl<;>decide
  refine h _ (gI h6) (kS k).toNat OY.1 ?_
  rw[h7,OY.2,wq q k hk]
theorem Fj {l:List aa} {t:aa} (h:t∈l):∃j,j<l.length/\t=bd l j:=by
 obtain⟨j,hj,rfl⟩:=List.getElem_of_mem h
 exact⟨j,hj,(fx hj).symm⟩
def Ga (s:ax) (l:List aa) (j:Nat) (q:aq):Prop:=gW s l q=[]/\(∀i:Nat,i<l.length->∀k:Nat,k<4->q≠bR (bd l i).aQ k)∨∃i:Nat,i<j/\∃k:Nat,k<4/\q=bR (bd l i).aQ k
theorem OC {s:ax} (hT:1<=s.aA) (l:List aa) (q:aq):Ga s l l.length q:=by
 by_cases h:∃i:Nat,i<l.length/\∃k:Nat,k<4/\q=bR (bd l i).aQ k
 ·exact .inr h
 ·have h2:∀i:Nat,i<l.length->∀k:Nat,k<4->q≠bR (bd l i).aQ k:=fun i hi k hk e=>h ⟨i,hi,k,hk,e⟩
  exact .inl ⟨Mi hT fun t ht k hk=>by
   obtain⟨j,hj,rfl⟩:=Fj ht
   exact h2 j hj k hk,h2⟩
def Zv (σ:aw) (s:ax) (ts:List aa) (r:AV) (σ':aw):Prop:=
 ∃c T O:Id,r=.ptr c 0 0/\rK σ'.get σ'.next c T O s ts/\σ.next<=c.bG/\σ.next<=T.bG/\σ.next<=O.bG/\σ.next<=σ'.next/\∀x:Id,x.bG<σ.next->σ'.get x=σ.get x
theorem CJ (s:ax) (hS:iz s.aD) (hT1:1<=s.aA) (l:List aa) (hA:jN s.aD l) (σ:aw):Call Tryz.prog 94 [.agg (aM s),.agg [.sl (l.map ab)]] σ (Zv σ s l):=by
 refine eB eI rfl fun iD=>?_
 clear iD
 have vG:=hA.1.xD
 (try((repeat(revert N;apply Pn.out));refine wk @aM.eq_1 ?_;(repeat(apply Pn.mk;intro N hN))))
 refine bf (fun n env st=>∃k:Nat,n=(l.length)-k/\k<=(l.length)/\env 18=.int .i64 (k:Int)/\st.get ⟨94001004,σ.next+1⟩=some ⟨true,6,[[.sl (s.aD.aI.map cU),.sl (s.aD.aj.map ck),.sl (s.bH.aj.map ab),.int .i64 s.aA,.map ⟨94001001,σ.next+1⟩ mP,.map ⟨94001002,σ.next+1⟩ mP]]⟩/\st.get ⟨94001001,σ.next+1⟩=some ⟨true,mP.lP,(l.take k).map ab⟩/\st.get ⟨94001002,σ.next+1⟩=some ⟨true,mP.lP,[]⟩/\st.get ⟨94000001,σ.next⟩=some ⟨true,1,[[.sl (l.map ab)]]⟩/\(σ.next+3<=st.next/\∀x:Id,x.bG<σ.next->st.get x=σ.get x)) (l.length) ⟨0,ah,ah,sl @Nat.zero_add,sl @Nat.zero_add,sl @Nat.zero_add,sl @Nat.zero_add,sl @Nat.zero_add,⟨bc,fun x hx=>by
  have:=db hx
  simp only[go_sem, ↓reduceIte,Nat.reduceEqDiff,Nat.reduceAdd,Nat.reduceSub,Nat.reduceLeDiff,reduceCtorEq,this]⟩⟩ ?_
 rintro n_a env_a st_a ⟨k,rfl,ale,a18,ag0,ag1,ag2,ag3,kz⟩ dX
 have a3:=dX 3 (by kernel_rfl);have a5:=dX 5 (by kernel_rfl);have Vv:=dX 16 (by kernel_rfl);have a17:=dX 17 (by kernel_rfl)
 simp only[go_sem, ↓reduceIte,Nat.reduceEqDiff,Nat.reduceAdd,Nat.reduceSub,Nat.reduceLeDiff,reduceCtorEq]at a3 a5 Vv a17
 clear dX
 obtain⟨an,dX⟩:=kz
 have v1:=db (i:=⟨94001004,σ.next+1⟩) (n:=st_a.next) bc
 have v2:=db (i:=⟨94001001,σ.next+1⟩) (n:=st_a.next) bc
 have v3:=db (i:=⟨94001002,σ.next+1⟩) (n:=st_a.next) bc
 have v4:=db (i:=⟨94000001,σ.next⟩) (n:=st_a.next) bc
 by_cases hk:(k:Int)<(l.length:Int)
 ·have cV:∀{e:Env} {gg:Rows} {nx:Nat},(e 18=.int .i64 (IntKind.i64.wrap ((k:Int)+1)))->(gg ⟨94001004,σ.next+1⟩=some ⟨true,6,[[.sl (s.aD.aI.map cU),.sl (s.aD.aj.map ck),.sl (s.bH.aj.map ab),.int .i64 s.aA,.map ⟨94001001,σ.next+1⟩ mP,.map ⟨94001002,σ.next+1⟩ mP]]⟩)->(gg ⟨94001001,σ.next+1⟩=some ⟨true,mP.lP,(l.take (k+1)).map ab⟩)->(gg ⟨94001002,σ.next+1⟩=some ⟨true,mP.lP,[]⟩)->(gg ⟨94000001,σ.next⟩=some ⟨true,1,[[.sl (l.map ab)]]⟩)->(σ.next+3<=nx/\∀x:Id,x.bG<σ.next->gg x=σ.get x)->∃m0,m0<(l.length)-k/\∃k:Nat,m0=(l.length)-k/\k<=(l.length)/\e 18=.int .i64 (k:Int)/\gg ⟨94001004,σ.next+1⟩=some ⟨true,6,[[.sl (s.aD.aI.map cU),.sl (s.aD.aj.map ck),.sl (s.bH.aj.map ab),.int .i64 s.aA,.map ⟨94001001,σ.next+1⟩ mP,.map ⟨94001002,σ.next+1⟩ mP]]⟩/\gg ⟨94001001,σ.next+1⟩=some ⟨true,mP.lP,(l.take k).map ab⟩/\gg ⟨94001002,σ.next+1⟩=some ⟨true,mP.lP,[]⟩/\gg ⟨94000001,σ.next⟩=some ⟨true,1,[[.sl (l.map ab)]]⟩/\(σ.next+3<=nx/\∀x:Id,x.bG<σ.next->gg x=σ.get x):=fun x1 x2 x3 x4 x5 x6=>⟨_,ah,k+1,rfl,ah,(by rw[x1,aE ah]),x2,x3,x4,x5,x6⟩
  have fC:k<l.length:=ah
  have hg:=fV fC
  have hm:=sU (Ou hA.1.QS fC)
  have qZ:=Q3 fC
  (try((repeat(revert N;apply Pn.out));refine wk (tw @a18 (tw @ag0 (tw @ag1 (tw @ag2 (tw @ag3 (tw @a3 (tw @a5 (tw @Vv (tw @a17 (tw @hk (tw @hg (tw @hm (tw @v1 (tw @v2 (tw @v3 (tw @v4 @ab.eq_1)))))))))))))))) ?_;(repeat(apply Pn.mk;intro N hN))))
  refine cV ?_ ?_ ?_ ?_ ?_ (by(try dsimp only);exact⟨ah,fun x hx=>by
   have h1:=db (i:=x) (n:=st_a.next) ah
   have h2:=de (a:=x) (b:=⟨94001001,σ.next+1⟩) bc
   have h3:=dX x hx
   simp only[go_sem, ↓reduceIte,Nat.reduceEqDiff,Nat.reduceAdd,Nat.reduceSub,Nat.reduceLeDiff,reduceCtorEq,h1,h2,h3]⟩)
  all_goals simp only[go_sem, ↓reduceIte,Nat.reduceEqDiff,Nat.reduceAdd,Nat.reduceSub,Nat.reduceLeDiff,reduceCtorEq,a18,ag0,ag1,ag2,ag3,a3,a5,Vv,a17,ab,v1,v2,v3,v4,qZ]
 ·have lN:k=l.length:=ah
  subst lN
  have nu:l.take l.length=l:=List.take_length
  (try((repeat(revert N;apply Pn.out));refine wk (tw @a18 (tw @ag0 (tw @ag1 (tw @ag2 (tw @ag3 (tw @a3 (tw @a5 (tw @Vv (tw @a17 (tw @hk (tw @v1 (tw @v2 (tw @v3 @v4))))))))))))) ?_;(repeat(apply Pn.mk;intro N hN))))
  refine bf (fun n env st=>∃j:Nat,n=(l.length)-j/\j<=(l.length)/\env 34=.int .i64 (j:Int)/\(σ.next+3<=st.next/\mQ st.get st.next ⟨94001004,σ.next+1⟩ ⟨94001001,σ.next+1⟩ ⟨94001002,σ.next+1⟩ s l/\(∀x:Id,x.bG<σ.next->st.get x=σ.get x)/\∃es:List En,st.get ⟨94001002,σ.next+1⟩=some ⟨true,mP.lP,es.map pS⟩/\yp st.get st.next es (gW s l) (Ga s l j))) (l.length) ⟨0,ah,ah,sl (tw @a18 (tw @ag0 (tw @ag1 (tw @ag2 (tw @ag3 (tw @a3 (tw @a5 (tw @Vv @a17)))))))),by(try dsimp only);exact⟨ah,⟨sd @ag0,sd (tw @ag1 @nu),⟨[],sd @ag2,by intro r hr;cases hr⟩,bc,bc,bc,(by intro e;injection e with e1 e2;revert e1;decide),(by intro e;injection e with e1 e2;revert e1;decide),(by intro e;injection e with e1 e2;revert e1;decide)⟩,fun x hx=>by
   have h3:=dX x hx
   simp only[go_sem, ↓reduceIte,Nat.reduceEqDiff,Nat.reduceAdd,Nat.reduceSub,Nat.reduceLeDiff,reduceCtorEq,h3],[],sl @ag2,List.nodup_nil,fun q hq=>.inl ⟨by
    rcases hq with hq|⟨i,hi,_⟩
    ·exact hq.1
    ·exact absurd hi (Nat.not_lt_zero i),fun e he=>by cases he⟩⟩⟩ ?_
  rintro n_b env_b st_b ⟨j,rfl,ble,b34,bI0⟩ fh
  have b5:=fh 5 (by kernel_rfl);have wK:=fh 32 (by kernel_rfl);have xw:=fh 33 (by kernel_rfl)
  simp only[go_sem, ↓reduceIte,Nat.reduceEqDiff,Nat.reduceAdd,Nat.reduceSub,Nat.reduceLeDiff,reduceCtorEq,a18,ag0,ag1,ag2,ag3,a3,a5,Vv,a17]at b5 wK xw
  clear fh
  obtain⟨bn,bC,fh,es,bO,bS⟩:=bI0
  by_cases hj:(j:Int)<(l.length:Int)
  ·have fX:∀{e:Env} {gg:Rows} {nx:Nat},(e 34=.int .i64 (IntKind.i64.wrap ((j:Int)+1)))->(σ.next+3<=nx/\mQ gg nx ⟨94001004,σ.next+1⟩ ⟨94001001,σ.next+1⟩ ⟨94001002,σ.next+1⟩ s l/\(∀x:Id,x.bG<σ.next->gg x=σ.get x)/\∃es:List En,gg ⟨94001002,σ.next+1⟩=some ⟨true,mP.lP,es.map pS⟩/\yp gg nx es (gW s l) (Ga s l (j+1)))->∃m0,m0<(l.length)-j/\∃j:Nat,m0=(l.length)-j/\j<=(l.length)/\e 34=.int .i64 (j:Int)/\(σ.next+3<=nx/\mQ gg nx ⟨94001004,σ.next+1⟩ ⟨94001001,σ.next+1⟩ ⟨94001002,σ.next+1⟩ s l/\(∀x:Id,x.bG<σ.next->gg x=σ.get x)/\∃es:List En,gg ⟨94001002,σ.next+1⟩=some ⟨true,mP.lP,es.map pS⟩/\yp gg nx es (gW s l) (Ga s l j)):=fun x1 x2=>⟨_,ah,j+1,rfl,ah,(by rw[x1,aE ah]),x2⟩
   have iN:j<l.length:=ah
   have hg:=fV iN
   have RS:=s6 (hA.1.pt iN)
   (try((repeat(revert N;apply Pn.out));refine wk (tw @b34 (tw @b5 (tw @wK (tw @xw (tw @hj (tw @hg @ab.eq_1)))))) ?_;(repeat(apply Pn.mk;intro N hN))))
   have hG:∀x:Id,x.bG<st_b.next->(bJ (bJ st_b.get ⟨94009002,st_b.next+1⟩ ⟨true,3,[[.int .i64 0,.int .i64 0,.int .i64 0]]⟩) ⟨94009002,st_b.next+1⟩ ⟨true,3,[[.int .i64 (bd l j).aQ.eS,.int .i64 (bd l j).aQ.eM,.int .i64 (bd l j).bK]]⟩) x=st_b.get x:=fun x hx=>by
    have h1:=db hx
    simp only[go_sem, ↓reduceIte,Nat.reduceEqDiff,Nat.reduceAdd,Nat.reduceSub,Nat.reduceLeDiff,reduceCtorEq,h1]
   have Lk:mQ (bJ (bJ st_b.get ⟨94009002,st_b.next+1⟩ ⟨true,3,[[.int .i64 0,.int .i64 0,.int .i64 0]]⟩) ⟨94009002,st_b.next+1⟩ ⟨true,3,[[.int .i64 (bd l j).aQ.eS,.int .i64 (bd l j).aQ.eM,.int .i64 (bd l j).bK]]⟩) (st_b.next+1+1+1) ⟨94001004,σ.next+1⟩ ⟨94001001,σ.next+1⟩ ⟨94001002,σ.next+1⟩ s l:=bC.frame ah hG
   refine .inr (az _ _ _ _ _ (fun r σ1 hq=>?_) (uk (σ:=⟨bJ (bJ st_b.get ⟨94009002,st_b.next+1⟩ ⟨true,3,[[.int .i64 0,.int .i64 0,.int .i64 0]]⟩) ⟨94009002,st_b.next+1⟩ ⟨true,3,[[.int .i64 (bd l j).aQ.eS,.int .i64 (bd l j).aQ.eM,.int .i64 (bd l j).bK]]⟩,st_b.next+1+1+1⟩) Lk.SM Lk.cO Lk.TO (Ga s l j) ⟨es,(hG _ bc).trans bO,bS.frame bc fun x hx _=>hG x hx⟩ hS (iz.LP hA) (bd l j).aQ RS.1 RS.2))
   obtain⟨g1,x1⟩:=σ1
   obtain⟨rfl,hL⟩:=hq
   (try dsimp only at hL)
   have yV:=Lk.R5 hL
   have hLn:=hL.1
   have hLf:=hL.2.1
   obtain⟨ZM,WG,JP⟩:=hL.2.2
   (try dsimp only at hLn hLf)
   have hAj:∀q,Ga s l (j+1) q->Ga s l j q∨∃k:Nat,k<4/\q=bR (bd l j).aQ k:=fun q hq=>by
    rcases hq with hq|⟨i,hi,hq⟩
    ·exact .inl (.inl hq)
    ·rcases Nat.lt_or_ge i j with h|h
     ·exact .inl (.inr ⟨i,h,hq⟩)
     ·exact .inr (by rw[show i=j by omega]at hq;exact hq)
   apply hN
   clear hN N
   (try((repeat(revert N;apply Pn.out));refine wk (tw @b34 (tw @b5 (tw @wK @xw))) ?_;(repeat(apply Pn.mk;intro N hN))))
   exact fX (sd (tw @b34 (tw @b5 (tw @wK @xw)))) (by(try dsimp only);exact⟨ah,yV.frame ah (fun x hx=>rfl),fun x hx=>by
    have h1:=db (i:=x) (n:=st_b.next) ah
    have h2:=hLf x ah (fun e=>by rw[e]at hx;(try dsimp only at hx);omega)
    have h3:=fh x hx
    simp only[h2]
    simp only[go_sem, ↓reduceIte,Nat.reduceEqDiff,Nat.reduceAdd,Nat.reduceSub,Nat.reduceLeDiff,reduceCtorEq,h1,h3],ZM,WG,(JP.frame ah fun x hx _=>rfl).mono hAj⟩)
  ·have gZ:j=l.length:=ah
   subst gZ
   (try((repeat(revert N;apply Pn.out));refine wk (tw @b34 (tw @b5 (tw @wK (tw @xw @hj)))) ?_;(repeat(apply Pn.mk;intro N hN))))
   exact er (.inl rfl) (vs:=[.ptr ⟨94001004,σ.next+1⟩ 0 0]) (sd @Nat.zero_add) ⟨_,_,_,rfl,⟨bC.frame bc (fun x hx=>rfl),es,bO,(bS.frame bc fun x hx _=>rfl).mono fun q _=>OC hT1 l q⟩,bc,bc,bc,bc,fh⟩
theorem JH {s:ax} {ts:List aa} {p q:aq} {t:Int} (h0:ez ts p<0) (hqp:q≠p) (hn:∀k:Nat,k<4->q≠bR p k):gW s (ts++[⟨p,t⟩]) q=gW s ts q:=by
 unfold gW
 have lS:=nw.1 h0
 have tX:∀x,x≠p->fG (ts++[⟨p,t⟩]) x=fG ts x:=fun x hx=>by
  rw[tF (q:=⟨p,t⟩) x lS]
  exact if_neg fun e=>hx e.symm
 have dZ:∀k:Nat,k<4->bR q k≠p:=fun k hk e=>by
  have OY:(kS k).toNat<4/\((kS k).toNat:Int)=kS k:=by
   have:k=0∨k=1∨k=2∨k=3:=ah
   rcases this with rfl|rfl|rfl|rfl<;>decide
  refine hn _ OY.1 ?_
  rw[OY.2,<-e,wq q k hk]
 have hb:∀(u:Int) (d:Nat),d<=4->dr s.aD (fG (ts++[⟨p,t⟩])) q u d=dr s.aD (fG ts) q u d:=fun u d=>by
  induction d with
  |zero=>intro _;rfl
  |succ d ih=>
   intro hd
   rw[dr,dr,ih ah,tX _ (dZ d ah)]
 refine qV (fun k=>?_) _
 unfold ei
 rw[tX q hqp,show nj s.aD (fG (ts++[⟨p,t⟩])) q k=nj s.aD (fG ts) q k from hb k 4 (Nat.le_refl _)]
theorem JI {s:ax} {ts:List aa} {p:aq} {t:Int} (h0:ez ts p<0) (ht:0<=t):gW s (ts++[⟨p,t⟩]) p=[]:=by
 unfold gW
 refine Ce (fun k=>?_) _
 have:¬fG (ts++[⟨p,t⟩]) p<0:=by
  rw[tF (q:=⟨p,t⟩) p (nw.1 h0),if_pos rfl]
  show ¬t<0
  omega
 simp[ei,this]
theorem XR {σ:aw} {c T O:Id} {s:ax} {ts:List aa} (h:rK σ.get σ.next c T O s ts) (hS:iz s.aD) (hF:∀q,0<=fG ts q->eO s.aD (fG ts q)=true) (p:aq) (hp:Ac p=true) (t:Int) (ht:eO s.aD t=true) (h0:ez ts p<0):
  Call Tryz.prog 102 [.ptr c 0 0,.agg (ad p),.int .i64 t] σ (fun r σ'=>r=.fD []/\rK σ'.get σ'.next c T O s (ts++[⟨p,t⟩])/\σ.next<=σ'.next/\∀x:Id,x.bG<σ.next->x≠T->x≠O->σ'.get x=σ.get x):=by
 refine eB eI rfl fun iD=>?_
 clear iD
 obtain⟨hx,hy⟩:=s6 hp
 have lS:=nw.1 h0
 have ht0:0<=t:=(ej ht).1
 have Ww:∀q,0<=fG (ts++[⟨p,t⟩]) q->eO s.aD (fG (ts++[⟨p,t⟩]) q)=true:=fun q hq=>by
  rw[tF q lS]at hq ⊢
  split at hq
  ·rename_i he;rw[if_pos he];exact ht
  ·rename_i he;rw[if_neg he];exact hF q hq
 obtain⟨es,ho,hw⟩:=h.op
 obtain⟨fi,FV,_,JS,_,_⟩:=vZ p es
 unfold dw at JS
 have h1:=h.o.row
 have h2:=h.o.tl
 have v1:=db h.o.cv
 have v2:=db h.o.tv
 have v3:=db h.o.ov
 have hm:=sU h0
 have cT:=eq_false h.o.cT
 have cO:=eq_false h.o.cO
 have TO:=eq_false h.o.TO
 have Tc:=eq_false (fun e:T=c=>h.o.cT e.symm)
 have Oc:=eq_false (fun e:O=c=>h.o.cO e.symm)
 have OT:=eq_false (fun e:O=T=>h.o.TO e.symm)
 (try((repeat(revert N;apply Pn.out));refine wk (tw @h1 (tw @h2 (tw @ho (tw @v1 (tw @v2 (tw @v3 (tw @hm (tw @FV (tw @JS (tw @cT (tw @cO (tw @TO (tw @Tc (tw @Oc (tw @OT @ad.eq_1))))))))))))))) ?_;(repeat(apply Pn.mk;intro N hN))))
 have hG:∀x:Id,x.bG<σ.next->x≠T->x≠O->(bJ (bJ (bJ σ.get ⟨102000000,σ.next⟩ ⟨true,2,[[.int .i64 p.eS,.int .i64 p.eM]]⟩) T ⟨true,mP.lP,ts.map ab++[[.int .i64 p.eS,.int .i64 p.eM,.int .i64 t]]⟩) O ⟨true,mP.lP,(pR es p).map pS⟩) x=σ.get x:=fun x Ug hxT ID=>by
  have a1:=eq_false hxT
  have a2:=eq_false ID
  have a3:=db Ug
  simp only[go_sem, ↓reduceIte,Nat.reduceEqDiff,Nat.reduceAdd,Nat.reduceSub,Nat.reduceLeDiff,reduceCtorEq,a1,a2,a3]
 have fI:∀x:Id,(∃k r,σ.get x=some ⟨k,1,r⟩)->x≠T/\x≠O:=fun x hr=>by
  obtain⟨k,r,hr⟩:=hr
  constructor
  ·rintro rfl
   rw[h2]at hr
   injection hr with hr
   injection hr with _ hr _
   exact zH hr
  ·rintro rfl
   rw[ho]at hr
   injection hr with hr
   injection hr with _ hr _
   exact zH hr
 obtain⟨G,Wy⟩:∃G,G=bJ (bJ (bJ σ.get ⟨102000000,σ.next⟩ ⟨true,2,[[.int .i64 p.eS,.int .i64 p.eM]]⟩) T ⟨true,mP.lP,ts.map ab++[[.int .i64 p.eS,.int .i64 p.eM,.int .i64 t]]⟩) O ⟨true,mP.lP,(pR es p).map pS⟩:=⟨_,rfl⟩
 have hGT:G T=some ⟨true,mP.lP,ts.map ab++[[.int .i64 p.eS,.int .i64 p.eM,.int .i64 t]]⟩:=by rw[Wy];simp only[go_sem, ↓reduceIte,Nat.reduceEqDiff,Nat.reduceAdd,Nat.reduceSub,Nat.reduceLeDiff,reduceCtorEq,TO]
 have hGO:G O=some ⟨true,mP.lP,(pR es p).map pS⟩:=by rw[Wy];simp only[go_sem, ↓reduceIte,Nat.reduceEqDiff,Nat.reduceAdd,Nat.reduceSub,Nat.reduceLeDiff,reduceCtorEq]
 rw[<-Wy]at hG ⊢
 clear Wy
 have hC:mQ G (σ.next+1+1+1+1) c T O s (ts++[⟨p,t⟩]):=
  ⟨(hG c h.o.cv h.o.cT h.o.cO).trans h1,by rw[hGT,List.map_append];rfl,⟨_,hGO,fun r hr=>by
   obtain⟨e,_,rfl⟩:=List.mem_map.1 hr
   exact⟨_,_,_,rfl⟩⟩,by have:=h.o.cv;omega,by have:=h.o.tv;omega,by have:=h.o.ov;omega,h.o.cT,h.o.cO,h.o.TO⟩
 have hE:yp G (σ.next+1+1+1+1) (pR es p) (gW s (ts++[⟨p,t⟩])) (fun q=>¬∃k:Nat,k<4/\q=bR p k):=by
  have e1:yp G (σ.next+1+1+1+1) es (gW s ts) (fun _=>True):=hw.frame ah fun x hx hr=>hG x hx (fI x hr).1 (fI x hr).2
  refine⟨yK _ e1.nodup,fun q hq=>?_⟩
  have hqk:∀k:Nat,k<4->q≠bR p k:=fun k hk e=>hq ⟨k,hk,e⟩
  by_cases e:q=p
  ·subst e
   exact .inl ⟨JI h0 ht0,Cb e1.nodup⟩
  ·rw[JH h0 e hqk]
   rcases e1.at_ q trivial with⟨a1,a2⟩|⟨a1,o',a2,a3⟩
   ·exact .inl ⟨a1,fun x hx=>a2 x (tQ.subset hx)⟩
   ·exact .inr ⟨a1,o',(zg e).2 a2,a3⟩
 refine .inr (az _ _ _ _ _ (fun r σ1 hq=>?_) (uk (σ:=⟨G,σ.next+1+1+1+1⟩) hC.SM hC.cO hC.TO _ ⟨_,hGO,hE⟩ hS Ww p hx hy))
 obtain⟨g1,x1⟩:=σ1
 obtain⟨rfl,hL⟩:=hq
 (try dsimp only at hL)
 have yV:=hC.R5 (σ:=⟨G,σ.next+1+1+1+1⟩) hL
 have hn:=hL.1
 have hf:=hL.2.1
 obtain⟨ZM,WG,JP⟩:=hL.2.2
 (try dsimp only at hn hf)
 apply hN
 clear hN N
 (try((repeat(revert N;apply Pn.out));refine wk @Nat.zero_add ?_;(repeat(apply Pn.mk;intro N hN))))
 exact er (.inr rfl) (vs:=[]) rfl ⟨rfl,⟨yV.frame bc fun _ _=>rfl,ZM,WG,(JP.frame bc fun x hx _=>rfl).mono fun q _=>by
  by_cases hq:∃k:Nat,k<4/\q=bR p k
  ·exact .inr hq
  ·exact .inl hq⟩,bc,fun x Ug hxT ID=>(hf x ah ID).trans (hG x Ug hxT ID)⟩
end Go.Proofs.YtainmfbpilopaaaGreatDoor.V

namespace Go.Proofs.YtainmfbpilopaaaGreatDoor.V
open Go.RowKit Go.Shelf
attribute [local go_sem] Oper.semAt_some
section
variable {F:Fence} {n:Nat} {P:Program} {ops:Array Oper} {Q:Exit->Act->World->Prop} {rest:List Oper} {a:Act} {w:World} {o:Oper}
theorem HU (hg:o.guard=none) (m:Operand) (t:TypeId) (ev:o.op=Op.range t m) {v:Value} {w':World} (gi:(Instr.range t (a.eval m)).run P w=.ok v w') (h:wpListIn F n P ops Q rest (a.put o.dst v) w'):wpListIn F n P ops Q (o::rest) a w:=by
 refine wpListIn_plain hg fun K' Yz=>?_
 unfold Oper.wpIn
 refine⟨by simp[Oper.about,ev],?_⟩
 rw[Oper.semAt_plain F _ _ (by rw[ev];intro c lF;cases lF)]
 simp[execOp,ev,gi,Result.andThen]
 exact Yz _ _ h
theorem Lf (hg:o.guard=none) (it:Operand) (ev:o.op=Op.next it false) (rr b clock:Nat) (seen:Array Nat) (es:Array MapEntry) (Lp:a.eval it=.pointer (some ⟨rr,0,none⟩)) (hr:w.heap[rr]? =some (.mapIter (some b) clock seen clock)) (hb:w.heap[b]? =some (.map es clock)) (dZ:H6 es clock)
  (Wv:(leftOf es seen).toList=[]->wpListIn F n P ops Q rest (a.put o.dst (.tuple #[.bool false])) w)
  (WE:∀e∈(leftOf es seen).toList,∀w',w'.heap[rr]? =some (.mapIter (some b) clock (seen.push e.born) clock)->w'.heap[b]? =some (.map es clock)->w.grownBy w' (some rr)->w'.heap.size=w.heap.size->(Instr.entry (.pointer (some ⟨rr,0,none⟩))).run P w'=.ok (.tuple #[e.key,e.val]) w'->wpListIn F n P ops Q rest (a.put o.dst (.tuple #[.bool true,e.key,e.val])) w'):
  wpListIn F n P ops Q (o::rest) a w:=by
 refine wpListIn_plain hg fun K' Yz=>?_
 unfold Oper.wpIn
 refine⟨by simp[Oper.about,ev],?_⟩
 rw[Oper.semAt_plain F _ _ (by rw[ev];intro c lF;cases lF)]
 rcases run_next_at (P:=P) w o.type rr b clock clock seen es clock hr hb dZ.1 (Nat.le_refl _)with⟨h0,gi⟩|⟨e,he,w1,nv,gi⟩
 ·simp[execOp,ev,Lp,gi,Result.andThen]
  exact Yz _ _ (Wv (List.eq_nil_of_length_eq_zero (by simpa using h0)))
 ·have MZ:w1.heap[rr]? =some (.mapIter (some b) clock seen clock):=by rcases nv with rfl|rfl<;>exact hr
  have ew:=MapKept.heap_set (o':=.mapIter (some b) clock (seen.push e.born) clock) MZ
  obtain⟨w2,mO⟩:∃w2,ChangeMaps.setBlock w1 rr (.mapIter (some b) clock (seen.push e.born) clock)=w2:=⟨_,rfl⟩
  have ho:∀k,k≠rr->w2.heap[k]? =w.heap[k]? :=fun k hk=>by
   rw[<-mO]
   refine(ew.2 k hk).trans ?_
   rcases nv with rfl|rfl<;>rfl
  have hz:w2.heap.size=w.heap.size:=by
   rw[<-mO]
   rcases nv with rfl|rfl<;>simp[ChangeMaps.setBlock]
  have Aa:w2.heap[rr]? =some (.mapIter (some b) clock (seen.push e.born) clock):=by rw[<-mO];exact ew.1
  have xI:w2.os=w.os/\w2.tape=w.tape/\w2.output=w.output:=by
   rw[<-mO]
   rcases nv with rfl|rfl<;>exact⟨rfl,rfl,rfl⟩
  have hbr:b≠rr:=fun e=>by subst e;rw[hr]at hb;cases hb
  have A9:w2.heap[b]? =some (.map es clock):=(ho b hbr).trans hb
  have El:=run_entry_at (P:=P) w2 rr b clock seen es clock e Aa A9 (mem_left he).1 dZ.2
  rw[mO]at gi
  simp[execOp,ev,Lp,gi,Result.andThen]
  exact Yz _ _ (WE e he w2 Aa A9 ⟨xI.1,xI.2.1,xI.2.2,ah,fun k _ hk=>ho k fun e=>hk (by rw[e])⟩ hz El)
end
def tR (p:aq):Value:=.agg #[.int .i64 p.eS,.int .i64 p.eM]
def G9 (es:Array MapEntry) (rr:Nat) (w:World):Nat:=match w.heap[rr]? with
 |some (.mapIter _ _ seen _)=>(leftOf es seen).size
 |_=>0
theorem Bs {es:Array MapEntry} {rr b clock:Nat} {seen:Array Nat} {w:World} (h:w.heap[rr]? =some (.mapIter (some b) clock seen clock)):G9 es rr w=(leftOf es seen).size:=by unfold G9;rw[h]
theorem Kl {es:Array MapEntry} {clock:Nat} {seen:Array Nat} {e:MapEntry} (hs:H6 es clock) (he:e∈(leftOf es seen).toList):((e.key::(leftOf es (seen.push e.born)).toList.map (·.key)).Perm ((leftOf es seen).toList.map (·.key)))/\(leftOf es (seen.push e.born)).size+1=(leftOf es seen).size:=by
 obtain⟨i,hi,GN⟩:=List.getElem_of_mem he
 have h2:=zd hs (i:=i) (e:=e) (seen:=seen) (by rw[List.getElem?_eq_getElem hi,GN])
 have hp:=s5 (l:=(leftOf es seen).toList) (i:=i) (x:=e) (by rw[List.getElem?_eq_getElem hi,GN])
 rw[h2]
 refine⟨by simpa using hp.map fun e:MapEntry=>e.key,?_⟩
 have h3:=congrArg List.length h2
 have h4:=hp.length_eq
 simp only[Array.length_toList,List.length_cons]at h3 h4
 rw[<-h3]at h4;exact h4
theorem JC {a b:List aq} (h:(a.map tR).Perm (b.map tR)):a.Perm b:=by
 have h2:=h.map (fun v:Value=>match v with| .agg ⟨[.int _ x,.int _ y]⟩=>(⟨x,y⟩:aq)|_=>⟨0,0⟩)
 simpa[List.map_map,Function.comp_def,tR]using h2
theorem Nc (q Bm b:Nat) (es:Array MapEntry) (clock:Nat) (dZ:H6 es clock) (ks:List aq) (hk:es.toList.map (·.key)=ks.map tR) (J Jx:List aq->World->Prop) (n:Nat) (hn:1<=n)
  (hY:∀pre x W,J pre W->pre.length<ks.length->YieldAt Fence.wide (n-1) Tryz.prog q #[tR x] W fun e W'=>
   (e=.returned (.bool true)/\J (pre++[x]) W'/\KeepsWalks W W')∨(e=.returned (.bool false)/\Jx (pre++[x]) W'))
  (W:World) (hJ:AbidesFrom W.heap.size J) (hm:W.cell? ⟨Bm,0,none⟩=some (.map (some b))) (hb:W.heap[b]? =some (.map es clock)) (h0:J [] W):
  CallsIn Fence.wide n Tryz.prog 272 #[.func (.yield q) #[] #[],.pointer (some ⟨Bm,0,none⟩)] W fun e W'=>(∃v,e=.returned v)/\
   ((∃ss:List aq,ss.Perm ks/\J ss W')∨(∃pre,Jx pre W')):=by
 refine callsIn_of_wp Tryz.func272 rfl trivial ?_ rfl
 simp only[Tryz.ntmps272,List.size_toArray,List.length_cons,List.length_nil,Nat.reduceAdd,Nat.reduceSub,Array.replicate_succ,Array.replicate_zero,List.push_toArray,List.append_toArray,List.nil_append,List.cons_append]
 have hrg:=fun(wx:World) (h:wx.heap[b]? =some (.map es clock))=>run_range_map (P:=Tryz.prog) wx 156 _ _ b es clock Tryz.underlying156 h
 gi_wp2_with (first
  |(refine HU rfl _ _ rfl (hrg _ hb) ?_)
  |gi_in)
 have oV:b<W.heap.size:=(Array.getElem?_eq_some_iff.1 hb).1
 have Z7:J [] (W.alloc (.mapIter (some b) clock #[] clock)):=hJ _ _ _ none h0 (grown_of ((Below.refl _ W).alloc (Nat.le_refl _) _)) (fun r h=>by cases h)
 have MZ:(W.alloc (.mapIter (some b) clock #[] clock)).heap[W.heap.size]? =some (.mapIter (some b) clock #[] clock):=World.alloc_heap_new _ _
 have Iu:(W.alloc (.mapIter (some b) clock #[] clock)).heap[b]? =some (.map es clock):=(Below.heap_alloc _ _ _ oV).trans hb
 go_frame
 gi_loopw [3] (fun _ wr=>∃(seen:Array Nat) (ss:List aq),wr.heap[W.heap.size]? =some (.mapIter (some b) clock seen clock)/\wr.heap[b]? =some (.map es clock)/\(ss.map tR++(leftOf es seen).toList.map (·.key)).Perm (ks.map tR)/\J ss wr)
  (fun _ wr=>G9 es W.heap.size wr)
 case atStart=>
  exact⟨#[],[],MZ,Iu,by rw[<-hk,show(leftOf es #[]).toList=es.toList by simp[leftOf]];exact List.Perm.refl _,Z7⟩
 case round=>
  obtain⟨seen,ss,hr,hbr,hp,WB⟩:=hrel
  gi_wp2_with (first
   |(refine Lf rfl _ rfl W.heap.size b clock seen es rfl hr hbr dZ ?_ ?_)
   |gi_in)
  ·intro O2
   gi_wp2
   go_end0
   rw[O2]at hp
   exact⟨⟨_,rfl⟩,.inl ⟨ss,JC (by simpa using hp),WB⟩⟩
  ·intro e he0 w2 Aa A9 Tz kJ El
   have he:e∈(leftOf es seen).toList:=by simpa using he0
   obtain⟨Eu,eu⟩:=Kl dZ he
   obtain⟨x,hx⟩:∃x,e.key=tR x:=by
    have h1:e.key∈es.toList.map (·.key):=List.mem_map_of_mem (mem_left he).1
    rw[hk]at h1
    obtain⟨x,_,hx⟩:=List.mem_map.1 h1
    exact⟨x,hx.symm⟩
   have Z8:J ss w2:=hJ ss wr w2 (some W.heap.size) WB Tz (fun r e=>by cases e;exact⟨Nat.le_refl _,_,hr,rfl⟩)
   have hlen:ss.length<ks.length:=by
    have h1:=hp.length_eq
    have h2:0<(leftOf es seen).toList.length:=List.length_pos_of_mem he
    simp only[List.length_append,List.length_map]at h1
    omega
   obtain⟨fn,tmps,assign,body,hy,hR⟩:=hY ss x (w2.alloc (.cells #[.int .i64 x.eS,.int .i64 x.eM] 51)) (hJ _ _ _ none Z8 (grown_of ((Below.refl _ w2).alloc (Nat.le_refl _) _)) (fun r h=>by cases h)) hlen
   rw[hx]at El ⊢
   simp only[tR]at El hy ⊢
   gi_wp2
   refine hR.mono ?_
   rintro e3 W3 (⟨rfl,hJ3,OY⟩|⟨rfl,hJx3⟩)
   ·gi_wp2
    have Mw:=KeepsWalks.alloc w2 (.cells #[.int .i64 x.eS,.int .i64 x.eM] 51)
    have hr3:=OY.same _ _ (Mw.same _ _ Aa rfl) rfl
    have hb3:=OY.same _ _ (Mw.same _ _ A9 rfl) rfl
    go_roundw
    case rel=>
     refine⟨_,ss++[x],hr3,hb3,?_,hJ3⟩
     rw[List.map_append,List.append_assoc]
     refine List.Perm.trans ?_ hp
     rw[hx]at Eu
     exact Eu.append_left _
    case measure=>rw[Bs hr3,Bs hr];omega
   ·gi_wp2
    refine bodyPost_ret (results_none rfl _ _ _) rfl ?_
    exact⟨⟨_,rfl⟩,.inr ⟨_,hJx3⟩⟩
theorem G4 (Bm b:Nat) (es:Array MapEntry) (clock:Nat) (dZ:H6 es clock) (ks:List aq) (hk:es.toList.map (·.key)=ks.map tR) (n:Nat) (hn:1<=n) (w:World) (ZT:Bm<w.heap.size) (hm:w.cell? ⟨Bm,0,none⟩=some (.map (some b))) (hb:w.heap[b]? =some (.map es clock)):
  SeqStopsK Fence.wide n Tryz.prog 272 #[.pointer (some ⟨Bm,0,none⟩)] (fun x:aq=> #[tR x]) KeepsWalks (fun ss=>ss.Perm ks) (fun _=>True) ks.length w:=fun q J Jx W hW hJ _ hY h0=>by
 refine(Nc q Bm b es clock dZ ks hk J Jx n hn hY W hJ ((hW.cell (p:=⟨Bm,0,none⟩) ZT).trans hm) ((hW.block b (Array.getElem?_eq_some_iff.1 hb).1).trans hb) h0).mono ?_
 rintro e W' ⟨h1,⟨ss,h2,h3⟩|⟨pre,h3⟩⟩
 ·exact⟨h1,.inl ⟨ss,h2,h3⟩⟩
 ·exact⟨h1,.inr ⟨pre,trivial,h3⟩⟩
def R7 (ps:List aq):List Value:=ps.flatMap fun p=>[.int .i64 p.eS,.int .i64 p.eM]
theorem NT (ps:List aq) (p:aq):R7 (ps++[p])=R7 ps++[.int .i64 p.eS,.int .i64 p.eM]:=by simp[R7]
theorem QK {ps:List aq} {i j:Nat} {p:aq} (h:ps[i]? =some p) (hj:j<2):(R7 ps)[i*2+j]? =([.int .i64 p.eS,.int .i64 p.eM]:List Value)[j]? :=by
 induction ps generalizing i with
 |nil=>simp at h
 |cons q r ih=>
  cases i with
  |zero=>
   simp at h;subst h
   match j,hj with
   |0,_=>rfl
   |1,_=>rfl
  |succ i=>
   simp only[List.getElem?_cons_succ]at h
   have:=ih h
   have e:(i+1)*2+j=i*2+j+2:=ah
   rw[e]
   simpa[R7]using this
theorem cell_two_new (W:World) (T:TypeId) (x y:Value):∀(j:Nat) (u:Value),[x,y][j]? =some u->(W.alloc (.cells #[x,y] T)).cell? ((⟨W.heap.size,0,none⟩:Addr).add j)=some u:=fun j u h=>by
 have hb:(W.alloc (.cells #[x,y] T)).heap[W.heap.size]? =some (.cells #[x,y] T (0,0)):=World.alloc_heap_new _ _
 have e:∀k,(W.alloc (.cells #[x,y] T)).cell? ⟨W.heap.size,k,none⟩=(#[x,y]:Array Value)[k]? :=fun k=>by
  unfold World.cell?
  rw[show(W.alloc (.cells #[x,y] T)).heap[(⟨W.heap.size,k,none⟩:Addr).block]? = _ from hb]
  rfl
 rw[show(⟨W.heap.size,0,none⟩:Addr).add j=⟨W.heap.size,j,none⟩ by simp[Addr.add];exact fun h=>h.symm,e]
 simpa using h
theorem Uj:(Tryz.prog.info? 51).map (fun i=>(i.zero,i.size,i.bytes))=some (some (.agg #[.int .i64 0,.int .i64 0]),2,16):=by kernel_rfl
theorem JU {β:Type} (B:Nat) (c:Array Value) (t:TypeId) (fr:Nat×Nat):Own (fun(_:β) W=>W.heap[B]? =some (.cells c t fr)):=fun _ X _ row h hg hr=>(hg.block B (Array.getElem?_eq_some_iff.1 h).1 (fun e=>by
 obtain⟨o,ho,hc⟩:=hr B e.symm
 rw[h]at ho;cases ho;cases hc)).trans h
theorem BV (Bm b:Nat) (es:Array MapEntry) (clock:Nat) (dZ:H6 es clock) (ks:List aq) (hk:es.toList.map (·.key)=ks.map tR) (hl:ks.length<=1000000) (w:World) (ZT:Bm<w.heap.size) (hm:w.cell? ⟨Bm,0,none⟩=some (.map (some b))) (hb:w.heap[b]? =some (.map es clock)):
  CallsIn Fence.wide 5 Tryz.prog 300 #[.slice none 0 0,.func (.func 272) #[] #[.pointer (some ⟨Bm,0,none⟩)]] w fun e W'=>∃(ss:List aq) (v:Value),ss.Perm ks/\e=.returned v/\W'.ownsRow w.heap.size 51 2 v ss.length (R7 ss)/\(v=.slice none 0 0↔ss=[])/\Below w.heap.size w W':=by
 obtain⟨i0,hi,EE,y7,kJ⟩:=info_parts Uj
 refine callsIn_of_wp_marks Tryz.func300 rfl trivial ?_ rfl
 simp only[Tryz.ntmps300,List.size_toArray,List.length_cons,List.length_nil,Nat.reduceAdd,Nat.reduceSub,Array.replicate_succ,Array.replicate_zero,List.push_toArray,List.append_toArray,List.nil_append,List.cons_append]
 gi_wp2
 have bO:=Boxed.new w 56 (.slice none 0 0)
 have zZ:Below w.heap.size w (w.alloc (.cells #[.slice none 0 0] 56)):=(Below.refl _ w).alloc (Nat.le_refl _) _
 have fI:(w.alloc (.cells #[.slice none 0 0] 56)).heap.size=w.heap.size+1:=by simp
 obtain⟨W0,WK⟩:∃W0,w.alloc (.cells #[.slice none 0 0] 56)=W0:=⟨_,rfl⟩
 rw[WK]at bO zZ fI ⊢
 clear WK
 have TL:W0.cell? ⟨Bm,0,none⟩=some (.map (some b)):=(zZ.cell (p:=⟨Bm,0,none⟩) ZT).trans hm
 have Ei:=(zZ.block b (Array.getElem?_eq_some_iff.1 hb).1).trans hb
 refine wpIn_rangeFunc_ownH (n:=5) rfl ah (gf:=272) (lb:= #[.pointer (some ⟨Bm,0,none⟩)]) rfl trivial (enters_of Tryz.func272 (by kernel_rfl) rfl)
  (G4 Bm b es clock dZ ks hk (5-1) ah W0 ah TL Ei) walksK_t (walksK_b (w:=W0)) (Below.refl _ _) (fun _=>rfl)
  (fun pre W=>(∃v,Boxed W w.heap.size 56 v/\W.ownsRow w.heap.size 51 2 v pre.length (R7 pre)/\(v=.slice none 0 0↔pre=[]))/\Below w.heap.size w W)
  (fun _ _ _=>False)
  (OwnFrom.and (Own.from (holdsRow_own w.heap.size w.heap.size 56 51 2 (fun pre=>pre.length) (fun pre=>R7 pre) (fun pre v=>v=.slice none 0 0↔pre=[])) _) (ownFrom_below (Nat.le_refl _) ah))
  (fun _ _ _ _ _ hs _ _=>hs)
  ⟨⟨_,bO,World.ownsRow_nil _ _ _ _,by simp⟩,zZ⟩
  (fun x a' W=>∃Bx,w.heap.size<Bx/\W.heap[Bx]? =some (.cells #[.int .i64 x.eS,.int .i64 x.eM] 51 (0,0))/\a'={tmps:= #[.slice none 0 0,.func (.func 272) #[] #[.pointer (some ⟨Bm,0,none⟩)],.pointer (some ⟨w.heap.size,0,none⟩),undef,.slice none 0 0,.pointer (some ⟨Bx,0,none⟩),.func (.func 272) #[] #[.pointer (some ⟨Bm,0,none⟩)],.agg #[.int .i64 x.eS,.int .i64 x.eM],undef,undef,undef,undef,undef],defers:=[]})
  (fun x a' _ X Y row hs hg hr=>by obtain⟨Bx,h1,h2,h3⟩:=hs;exact⟨Bx,h1,JU Bx _ _ _ () X Y row h2 hg (fun r e=>(hr r e).2),h3⟩)
  ?assign ?body ?done ?stop
 case assign=>
  rintro q pre x W K ⟨⟨v,hv,fm,hnil⟩,hB⟩ hK
  simp only[tR]
  gi_wp2
  exact hK _ _ ((KeepsOthers.alloc _ _).from _) (KeepsWalks.alloc _ _) ⟨⟨v,hv.alloc _,fm.alloc _,hnil⟩,hB.alloc hB.size _⟩ ⟨W.heap.size,hv.lt,World.alloc_heap_new _ _,rfl⟩
 case body=>
  rintro q pre x a' W hq hqr ⟨⟨v,hv,fm,hnil⟩,hB⟩ ⟨Bx,hBx,bX,rfl⟩ eu
  have hc:=hv.cell
  have ZI:W.cell? ⟨Bx,0,none⟩=some (.int .i64 x.eS):=by simp[World.cell?,bX]
  have ZJ:W.cell? ⟨Bx,1,none⟩=some (.int .i64 x.eM):=by simp[World.cell?,bX]
  have hn3:=hB.size
  gi_wp2_with (gi_at_builtin;refine wpListIn_append_own _ rfl _ _ 56 rfl w.heap.size 51 i0 (.agg #[.int .i64 0,.int .i64 0]) 2 16 (by kernel_rfl) hi EE y7 kJ rfl (by decide) _ _ _ rfl (fm.alloc _) ⟨W.heap.size,0,none⟩ 1 1 [.int .i64 x.eS,.int .i64 x.eM] rfl rfl (cell_two_new _ _ _ _) (by simp[Value.oneCell']) (by unfold maxLen;omega) ah (by simp;omega) ?_;intro v' w4 Et Bd _;obtain⟨g',ZK,rfl⟩:=ownsRow_succ Et;obtain⟨sP,P5,Aa,vJ,A9⟩:=hv.appended (by decide) fm hn3 ah Et Bd;have pY:=sP.cell;have hf1:=sP.frozen)
  exact⟨vJ.from _,⟨vJ.size,fun k o hk hw=>vJ.same k o hk (Obj.not_cells_of_walk hw)⟩,⟨⟨_,P5,by rw[NT,List.length_append];exact Aa,by simp⟩,hB.trans A9⟩⟩
 case done=>
  rintro D ys W hD F2 ⟨⟨v,hv,fm,hnil⟩,hB⟩ hK
  have hc:=hv.cell
  gi_wp2
  refine⟨by simp,.inl ⟨_,_,rfl,run_takeDeferred hK,?_⟩⟩
  exact⟨_,results_tmp rfl _ _ _,ys,v,F2,rfl,ownsRow_putObj fm _ hK rfl,hnil,hB.trans (belowK_b (w:=w) (Nat.le_refl _) W D _ _ ah hK rfl rfl)⟩
 case stop=>
  rintro D c pre W _ _ h _
  exact h.elim
end Go.Proofs.YtainmfbpilopaaaGreatDoor.V

namespace Go.Proofs.YtainmfbpilopaaaGreatDoor.V
open Go.RowKit
theorem UE {P:Program} {w:World} {D:Nat->Prop} {ι:Names} {x y:Int} {v:Value} (h:dm P w D ι (.agg [.int .i64 x,.int .i64 y]) v):v=.agg #[.int .i64 x,.int .i64 y]:=by
 obtain⟨vs,f,rfl,fI,_,h1,h2⟩:=jd h
 have v0:=h1 0 (by simp)
 have v1:=h1 1 (by simp)
 rw[dR (h2 0 _ rfl)]at v0
 rw[dR (h2 1 _ rfl)]at v1
 obtain⟨vl⟩:=vs
 match vl,fI with
 |[a,b],_=>
  simp at v0 v1
  rw[v0,v1]
theorem Dz {σ:aw} {X O:Id} {b1 b2:Bool} {es:List En} (hX:σ.get X=some ⟨b1,1,[[.map O mP]]⟩) (hO:σ.get O=some ⟨b2,mP.lP,es.map pS⟩) (hl:es.length<=1000000):
  Call Tryz.prog 300 [.bU,.fn 272 [.ptr X 0 0]] σ (fun r σ'=>σ.next<=σ'.next/\(∀x:Id,x.bG<σ.next->σ'.get x=σ.get x)/\∃ss:List aq,ss.Perm (es.map (·.1))/\((ss=[]/\r=.bU)∨∃o:Id,r=.own o 0 ss.length/\σ'.get o=some ⟨true,2,ss.map ad⟩/\σ.next<=o.bG/\o.bG<σ'.next/\ss≠[])):=by
 refine eW fun hs D ι w vs S U A=>?_
 obtain⟨u1,us1,rfl,h1,h2⟩:=jL A
 obtain⟨u2,us2,h3,h4,h5⟩:=jL h2
 simp at h3;subst h3
 have:=uz h5
 simp at this;subst this
 obtain rfl:=jv h1
 obtain⟨vc,gf,rfl,_,Ab,RI,hrc⟩:=wg h4
 obtain⟨BX,hp,hBX,hkX⟩:=iR (hrc 0 _ rfl)
 have hvc:vc= #[.pointer (some ⟨BX.b,0,none⟩)]:=by
  obtain⟨l⟩:=vc
  have q0:=RI 0 (by simp)
  match l,Ab with
  |[a],_=>simp at q0;rw[q0,hp];simp
 subst hvc
 obtain⟨BX',PI,RX,_,_⟩:=S.row X _ hX
 rw[hBX]at PI;injection PI with PI;subst PI
 obtain⟨vm,J1,PZ⟩:=(RX.row hkX).at_ 0 0 _ _ rfl rfl
 obtain⟨BO,rfl,hBO,hkO⟩:=CP PZ
 obtain⟨BO',PH,RO,_,_⟩:=S.row O _ hO
 rw[hBO]at PH;injection PH with PH;subst PH
 obtain⟨_,Lj,clock,hblk,fI,⟨_,EB⟩,hM⟩:=RO.map mP hkO
 have hk:Lj.toList.map (·.key)=(es.map (·.1)).map tR:=by
  have GV:Lj.toList.length=es.length:=by simpa using fI
  refine List.ext_getElem (by simpa using GV) fun i h1 h2=>?_
  have hi:i<es.length:=by simpa using h2
  obtain⟨e,kv,vv,q1,q2,_,q4,_⟩:=hM i (pS es[i]) (by simp[hi])
  have e1:kv=.agg [.int .i64 es[i].1.eS,.int .i64 es[i].1.eM]:=by
   simp[part,MK.ks,pS]at q2
   exact q2.symm
  subst e1
  have e2:=UE q4
  simp only[List.getElem_map]
  have e3:Lj.toList[i]'ah=e:=by
   have:=Array.getElem?_eq_some_iff.1 q1
   obtain⟨_,h⟩:=this
   simpa using h
  rw[e3,e2];rfl
 have eu:∀b,D b->b<w.heap.size:=S.dead
 have hbx:BX.b<w.heap.size:=RX.lt
 have WO:w.cell? ⟨BX.b,0,none⟩=some (.map (some BO.b)):=by simpa using J1
 refine(callsIn_wide.1 (BV BX.b BO.b Lj clock EB (es.map (·.1)) hk (by simpa using hl) w hbx WO hblk)).mono ?_
 rintro e W' ⟨ss,v,r8,rfl,⟨hle',hown⟩,hnil,hB⟩
 have S':gK Tryz.prog hs D ι σ.get W':=S.stay (fun b hb=>hB.block b hb) hB.size (fun _ h=>h) (fun b hb=>Nat.lt_of_lt_of_le (eu b hb) hB.size) (fun _ h=>.inl h) (fun _ _ h=>h)
 have T:Step hs D ι w D ι W':=Step.stay S (fun b hb=>hB.block b hb) hB.size hB.os hB.tape hB.output (fun _ h=>h) (fun _ h=>.inl h) (fun _ _ h=>h)
 rcases hown with⟨rfl,h0⟩|⟨gb,cap,cur,rfl,TA,hblk2,hle,Ej,dY,nu⟩
 ·have Ei:ss=[]:=hnil.1 rfl
  exact⟨.bU,_,σ.next,D,ι,_,rfl,⟨Nat.le_refl _,fun _ _=>rfl,ss,r8,.inl ⟨Ei,rfl⟩⟩,T,S',U,Nat.le_refl _,.eP _ _ .bU⟩
 ·have Ei:ss≠[]:=fun h=>by have:=hnil.2 h;cases this
  have jy:ι ⟨0,σ.next⟩=none:=fresh U (fun h=>h)
  have hR:iv Tryz.prog W' D (lx ι ⟨0,σ.next⟩ ⟨gb,2,cap*2,none⟩) ⟨gb,2,cap*2,none⟩ ⟨true,2,ss.map ad⟩:=by
   refine lK.obj ⟨rfl,⟨cur,_,hblk2,dY⟩,?_,fun cs hc=>?_,fun cs hc a ha=>?_,fun i j cs a hi hj=>?_⟩ rfl
   ·simp only[List.length_map];exact Nat.mul_le_mul_right 2 hle
   ·obtain⟨b,_,rfl⟩:=List.mem_map.1 hc;rfl
   ·obtain⟨b,_,rfl⟩:=List.mem_map.1 hc
    simp[ad]at ha
    rcases ha with rfl|rfl<;>rfl
   ·rw[List.getElem?_map]at hi
    simp only[Option.map_eq_some_iff]at hi
    obtain⟨b,hb,rfl⟩:=hi
    have hj3:j<2:=by have:=(List.getElem?_eq_some_iff.1 hj).1;simpa[ad]using this
    have mL:=(List.getElem?_eq_some_iff.1 hb).1
    have hg:=QK hb hj3
    rw[<-nu,List.getElem?_take,if_pos ah]at hg
    have key:∀x:Value,([.int .i64 b.eS,.int .i64 b.eM]:List Value)[j]? =some x->W'.cell? ⟨gb,i*2+j,none⟩=some x:=fun x hx=>by
     rw[hx]at hg
     have e:W'.cell? ⟨gb,i*2+j,none⟩=cur[i*2+j]? :=by
      unfold World.cell?
      rw[show W'.heap[(⟨gb,i*2+j,none⟩:Addr).block]? = _ from hblk2]
      rfl
     rw[e,<-Array.getElem?_toList];exact hg
    match j,hj with
    |0,hj=>simp[ad]at hj;subst hj;exact⟨_,key _ rfl,.eP _ _ (.int _ _)⟩
    |1,hj=>simp[ad]at hj;subst hj;exact⟨_,key _ rfl,.eP _ _ (.int _ _)⟩
    |j+2,hj=>simp[ad]at hj
  have S2:=gK.add (r:=⟨true,2,ss.map ad⟩) S S' jy TA hR
  refine⟨.own ⟨0,σ.next⟩ 0 ss.length,bJ σ.get ⟨0,σ.next⟩ ⟨true,2,ss.map ad⟩,σ.next+1,D,lx ι ⟨0,σ.next⟩ ⟨gb,2,cap*2,none⟩,_,rfl,⟨Nat.le_succ _,fun x hx=>?_,ss,r8,.inr ⟨_,rfl,by simp[bJ],Nat.le_refl _,Nat.lt_succ_self _,Ei⟩⟩,T.trans (Step.stay S' (fun _ _=>rfl) (Nat.le_refl _) rfl rfl rfl (fun _ h=>h) (fun _ h=>.inl h) (fA jy)),S2,U.upd.next,Nat.le_succ _,.own _ _ _ _ _ _ (eE _ _ _) rfl hle (.inr (by simp)) (by simp) Ej⟩
  have:¬x=⟨0,σ.next⟩:=fun e=>by subst e;simp at hx
  simp[bJ,this]
end Go.Proofs.YtainmfbpilopaaaGreatDoor.V

namespace Go.Proofs.YtainmfbpilopaaaGreatDoor.V
open Go.RowKit
attribute [local irreducible] dW wpOps fu Call
theorem qG {α:Type} [DecidableEq α]:∀{xs ys:List α},xs.Nodup->(∀x∈xs,x∈ys)->xs.length=ys.length->xs.Perm ys
 |[],ys,_,_,h=>by
  have:ys=[]:=List.eq_nil_of_length_eq_zero h.symm
  subst this;exact List.Perm.nil
 |x::xs,ys,hn,hs,h=>by
  obtain⟨h1,h2⟩:=List.nodup_cons.1 hn
  have hx:=hs x (by simp)
  have hl:=List.length_erase_of_mem hx
  have:=@qG α _ xs (ys.erase x) h2 (fun y hy=>(List.mem_erase_of_ne fun e=>h1 (by rw[<-e];exact hy)).2 (hs y (by simp[hy]))) (by rw[hl];simp only[List.length_cons]at h;omega)
  exact(this.cons x).trans (List.perm_cons_erase hx).symm
theorem pe {L:List aq} (h:oM L):L.Nodup:=List.Pairwise.imp (fun {a b} oi e=>by rw[e,jc]at oi;cases oi) h
theorem QY {L qs:List aq} (hR:oM L) (hp:qs.Perm L) (hs:∀i j:Nat,i<j->j<qs.length->jj (jU qs j) (jU qs i)=false):qs=L:=by
 have hd:qs.Nodup:=hp.nodup_iff.2 (pe hR)
 have hq:oM qs:=by
  unfold oM
  unfold List.Nodup at hd
  rw[List.pairwise_iff_getElem]at hd ⊢
  intro i j hi hj Be
  have h1:=hs i j Be hj
  rw[kU hj,kU hi]at h1
  exact ya h1 fun e=>hd i j hi hj Be e.symm
 exact IT hq hR fun x=>hp.mem_iff
theorem KR (σ:aw):Call Tryz.prog 244 [.bU,.fn 189 []] σ fun r σ'=>r=.fD []/\σ'.next=σ.next/\σ'.get=σ.get:=by
 refine eW fun hs D ι w vs S U A=>?_
 obtain⟨u1,us1,rfl,h1,h2⟩:=jL A
 obtain⟨u2,us2,h3,h4,h5⟩:=jL h2
 simp at h3;subst h3
 have:=uz h5
 simp at this;subst this
 obtain rfl:=jv h1
 refine(R9 _ _ _ w).mono ?_
 rintro e w' ⟨rfl,rfl⟩
 exact⟨.fD [],σ.get,σ.next,D,ι,_,rfl,⟨rfl,rfl,rfl⟩,Step.refl _ _ _ _,S,U,Nat.le_refl _,.fD [] #[] (fun _=>Go.undef) rfl (fun j hj=>by simp at hj) (fun j a h=>by simp at h)⟩
theorem Nd (O:Id) (σ:aw):Call Tryz.prog 252 [.map O mP] σ (fun r σ'=>r=.fn 272 [.ptr ⟨252000000,σ.next⟩ 0 0]/\σ'.get ⟨252000000,σ.next⟩=some ⟨true,1,[[.map O mP]]⟩/\σ.next<σ'.next/\∀x:Id,x.bG<σ.next->σ'.get x=σ.get x):=by
 refine eB eI rfl fun hl=>?_
 clear hl
 (try((repeat(revert N;apply Pn.out));refine wk @Nat.zero_add ?_;(repeat(apply Pn.mk;intro N hN))))
 exact er (.inl rfl) (vs:=[.fn 272 [.ptr ⟨252000000,σ.next⟩ 0 0]]) (sd @Nat.zero_add) ⟨rfl,sd @Nat.zero_add,bc,fun x hx=>by
  have:=db hx
  simp only[go_sem, ↓reduceIte,Nat.reduceEqDiff,Nat.reduceAdd,Nat.reduceSub,Nat.reduceLeDiff,reduceCtorEq,this]⟩
theorem Jr {σ:aw} {X O:Id} {b1 b2:Bool} {es:List En} (hX:σ.get X=some ⟨b1,1,[[.map O mP]]⟩) (hO:σ.get O=some ⟨b2,mP.lP,es.map pS⟩) (hl:es.length<=1000000) (hXv:X.bG<σ.next) (JO:O.bG<σ.next):
  Call Tryz.prog 271 [.fn 272 [.ptr X 0 0]] σ (fun r σ'=>σ.next<=σ'.next/\(∀x:Id,x.bG<σ.next->σ'.get x=σ.get x)/\∃ss:List aq,ss.Perm (es.map (·.1))/\((ss=[]/\r=.bU)∨∃o:Id,r=.own o 0 ss.length/\σ'.get o=some ⟨true,2,ss.map ad⟩/\σ.next<=o.bG/\o.bG<σ'.next/\ss≠[])):=by
 refine eB eI rfl fun iD=>?_
 clear iD
 (try((repeat(revert N;apply Pn.out));refine wk @Nat.zero_add ?_;(repeat(apply Pn.mk;intro N hN))))
 refine .inr (az _ _ _ _ _ (fun r σ1 hq=>?_) (Dz (σ:=⟨σ.get,_⟩) hX hO hl))
 obtain⟨g1,x1⟩:=σ1
 obtain⟨q1,q2,ss,q3,q4⟩:=hq
 (try dsimp only at q1 q2 q4)
 apply hN
 clear hN N
 (try((repeat(revert N;apply Pn.out));refine wk @Nat.zero_add ?_;(repeat(apply Pn.mk;intro N hN))))
 exact er (.inl rfl) (vs:=[r]) (sd @Nat.zero_add) ⟨bc,fun x hx=>q2 x ah,ss,q3,by
  rcases q4 with h|⟨o,h1,h2,h3,h4,h5⟩
  ·exact .inl h
  ·exact .inr ⟨o,h1,h2,ah,bc,h5⟩⟩
theorem Oe {σ:aw} {X O:Id} {b1 b2:Bool} {es:List En} (hX:σ.get X=some ⟨b1,1,[[.map O mP]]⟩) (hO:σ.get O=some ⟨b2,mP.lP,es.map pS⟩) (hl:es.length<=1000000) (hXv:X.bG<σ.next) (JO:O.bG<σ.next) (L:List aq) (hR:oM L) (hn:(es.map (·.1)).Nodup) (hm:∀x,x∈L↔x∈es.map (·.1)):
  Call Tryz.prog 251 [.fn 272 [.ptr X 0 0],.fn 189 []] σ (fun r σ'=>σ.next<=σ'.next/\(∀x:Id,x.bG<σ.next->σ'.get x=σ.get x)/\((L=[]/\r=.bU)∨∃o:Id,r=.own o 0 L.length/\σ'.get o=some ⟨true,2,L.map ad⟩/\σ.next<=o.bG/\o.bG<σ'.next/\L≠[])):=by
 refine eB eI rfl fun iD=>?_
 clear iD
 (try((repeat(revert N;apply Pn.out));refine wk @Nat.zero_add ?_;(repeat(apply Pn.mk;intro N hN))))
 refine .inr (az _ _ _ _ _ (fun r σ1 hq=>?_) (Jr (σ:=⟨σ.get,_⟩) hX hO hl bc bc))
 obtain⟨g1,x1⟩:=σ1
 obtain⟨q1,q2,ss,q3,q4⟩:=hq
 (try dsimp only at q1 q2 q4)
 have mV:ss.Nodup:=q3.nodup_iff.2 hn
 have o3:∀x,x∈L↔x∈ss:=fun x=>(hm x).trans q3.mem_iff.symm
 apply hN
 clear hN N
 rcases q4 with⟨hs,rfl⟩|⟨o,rfl,q5,q6,q7,q8⟩
 ·have hL:L=[]:=List.eq_nil_iff_forall_not_mem.2 fun x hx=>by have:=(o3 x).1 hx;rw[hs]at this;cases this
  (try((repeat(revert N;apply Pn.out));refine wk @Nat.zero_add ?_;(repeat(apply Pn.mk;intro N hN))))
  refine .inr (az _ _ _ _ _ (fun r σ2 hq=>?_) (KR ⟨g1,_⟩))
  obtain⟨g2,x2⟩:=σ2
  obtain⟨rfl,u1,u2⟩:=hq
  (try dsimp only at u1 u2)
  apply hN
  clear hN N
  (try((repeat(revert N;apply Pn.out));refine wk @Nat.zero_add ?_;(repeat(apply Pn.mk;intro N hN))))
  exact er (.inl rfl) (vs:=[.bU]) (sd @Nat.zero_add) ⟨bc,fun x hx=>(congrFun u2 x).trans (q2 x ah),.inl ⟨hL,rfl⟩⟩
 ·have qw:ss.length<=1048576:=by rw[q3.length_eq,List.length_map];omega
  (try((repeat(revert N;apply Pn.out));refine wk @Nat.zero_add ?_;(repeat(apply Pn.mk;intro N hN))))
  refine .inr (az _ _ _ _ _ (fun r σ2 hq=>?_) (KT X2 R9 ss qw ⟨g1,_⟩ o q5))
  obtain⟨g2,x2⟩:=σ2
  obtain⟨u1,u2,qs,u3,u4,u5,u6⟩:=hq
  (try dsimp only at u1 u2 u3)
  have Y0:qs=L:=QY hR ((qG (pe hR) (fun x hx=>(u5 x).2 ((o3 x).1 hx)) (by
   rw[u4]
   exact(qG (pe hR) (fun x hx=>(o3 x).1 hx) (Nat.le_antisymm (rh (pe hR) fun x hx=>(o3 x).1 hx) (rh mV fun x hx=>(o3 x).2 hx))).length_eq)).symm) u6
  rw[Y0]at u3 u4
  have Ir:L≠[]:=fun e=>by rw[e]at u4;exact q8 (List.eq_nil_of_length_eq_zero u4.symm)
  apply hN
  clear hN N
  (try((repeat(revert N;apply Pn.out));refine wk @Nat.zero_add ?_;(repeat(apply Pn.mk;intro N hN))))
  exact er (.inl rfl) (vs:=[.own o 0 ss.length]) (sd @Nat.zero_add) ⟨bc,fun x hx=>by
   have h1:x≠o:=fun e=>by rw[e]at hx;omega
   exact(u2 x h1).trans (q2 x ah),.inr ⟨o,by rw[u4];rfl,u3,ah,bc,Ir⟩⟩
def HY (z m:Nat) (L:List aa) (v:AV) (g:Rows) (n:Nat):Prop:=(L=[]/\v=.bU)∨∃u:Id,v=.own u 0 L.length/\g u=some ⟨true,3,L.map ab⟩/\m<=u.bG/\u.bG<n/\0<L.length/\u.site=z
theorem HY.frame {z m:Nat} {L:List aa} {v v':AV} {g g':Rows} {n n':Nat} (h:HY z m L v g n) (he:v'=v) (hn:n<=n') (hf:∀x:Id,x.bG<n->g' x=g x):HY z m L v' g' n':=by
 subst he
 rcases h with h|⟨u,h1,h2,h3,h4,h5⟩
 ·exact .inl h
 ·exact .inr ⟨u,h1,(hf u h4).trans h2,h3,ah,h5⟩
def kg (p:aq) (ks:List Int) (j:Nat):List aa:=(ks.take j).map fun k=>⟨p,k⟩
theorem Bz {p:aq} {ks:List Int} {j:Nat} (h:j<ks.length):kg p ks (j+1)=kg p ks j++[⟨p,ks.getD j 0⟩]:=by
 unfold kg
 rw[List.take_succ_eq_append_getElem h,List.map_append]
 simp[List.getD_eq_getElem?_getD,h]
theorem Fg (p:aq) (ks:List Int):kg p ks ks.length=ks.map fun k=>(⟨p,k⟩:aa):=by unfold kg;rw[List.take_length]
theorem IG {ks:List Int} {j:Nat} (h:j<ks.length):(ks.map aC)[j]? =some [.int .i64 (ks.getD j 0)]:=by simp[aC,List.getD_eq_getElem?_getD,h]
structure Zq (g:Rows) (n:Nat) (c T O:Id) (s:ax) (l:List aa):Prop where
 row:g c=some ⟨true,6,[[.sl (s.aD.aI.map cU),.sl (s.aD.aj.map ck),.sl (s.bH.aj.map ab),.int .i64 s.aA,.map T mP,.map O mP]]⟩
 cv:c.bG<n
 ov:O.bG<n
 op:∃es:List En,g O=some ⟨true,mP.lP,es.map pS⟩/\yp g n es (gW s l) (fun _=>True)
theorem Uq {σ:aw} {c T O:Id} {s:ax} {l:List aa} (h:Zq σ.get σ.next c T O s l) (hT:1<=s.aA) (hS:iz s.aD) (hA:jN s.aD l):
  Call Tryz.prog 210 [.ptr c 0 0] σ (fun r σ'=>σ.next<=σ'.next/\(∀x:Id,x.bG<σ.next->σ'.get x=σ.get x)/\HY 210008005 σ.next (tG (ei s l) s.aD.aj.length (js l)) r σ'.get σ'.next):=by
 refine eB eI rfl fun iD=>?_
 clear iD
 obtain⟨es,hO,hE⟩:=h.op
 have fm:=h.row
 have v1:=db h.cv
 have v2:=db h.ov
 have GW:=hS.xo
 have vG:=hA.1.xD
 have TH:∀q,q∈nF s l↔q∈es.map (·.1):=fun q=>by
  rw[zh hT hA]
  rcases hE.at_ q trivial with⟨h1,h2⟩|⟨h1,o,h2,_⟩
  ·refine⟨fun h=>absurd h1 h,fun h=>?_⟩
   obtain⟨e,he,rfl⟩:=List.mem_map.1 h
   exact absurd rfl (h2 e he)
  ·exact⟨fun _=>List.mem_map_of_mem (f:=(·.1)) h2,fun _=>h1⟩
 have VO:(nF s l).length<=10000:=by
  have h1:(nF s l).length<=(js l).length:=List.length_filter_le _ _
  have h2:(js l).length<=l.length*4:=ml l l.length
  omega
 have hes:es.length<=1000000:=by
  have h1:=rh hE.nodup fun x hx=>(TH x).2 hx
  rw[List.length_map]at h1
  omega
 rw[Gg]
 have hR:=Gv s l
 have rP:∀q∈nF s l,gW s l q≠[]:=fun q hq=>(zh hT hA q).1 hq
 generalize nF s l=ps at TH VO hR rP
 (try((repeat(revert N;apply Pn.out));refine wk (tw @fm @v1) ?_;(repeat(apply Pn.mk;intro N hN))))
 refine .inr (az _ _ _ _ _ (fun r σ1 hq=>?_) (Nd O _))
 obtain⟨g1,x1⟩:=σ1
 obtain⟨rfl,q1,q2,q3⟩:=hq
 (try dsimp only at q1 q2 q3)
 have hO1:g1 O=some ⟨true,mP.lP,es.map pS⟩:=(q3 O (by have:=h.ov;(try dsimp only);omega)).trans hO
 apply hN
 clear hN N
 (try((repeat(revert N;apply Pn.out));refine wk @Nat.zero_add ?_;(repeat(apply Pn.mk;intro N hN))))
 refine .inr (az _ _ _ _ _ (fun r σ2 hq=>?_) (Oe (σ:=⟨g1,_⟩) q1 hO1 hes bc (by have:=h.ov;(try dsimp only);omega) ps hR hE.nodup TH))
 obtain⟨g2,x2⟩:=σ2
 obtain⟨u1,u2,u3⟩:=hq
 (try dsimp only at u1 u2 u3)
 have MG:∀x:Id,x.bG<σ.next->g2 x=σ.get x:=fun x hx=>(u2 x ah).trans (q3 x bc)
 apply hN
 clear hN N
 rcases u3 with⟨hps,rfl⟩|⟨o,rfl,ho,uc,YX,hpne⟩
 ·(try((repeat(revert N;apply Pn.out));refine wk @Nat.zero_add ?_;(repeat(apply Pn.mk;intro N hN))))
  refine bf (fun n env st=>(env 15=.int .i64 0/\env 14=.int .i64 0/\env 3=.bU)/\σ.next<=st.next/\∀x:Id,x.bG<σ.next->st.get x=σ.get x) 0 ⟨⟨sd @Nat.zero_add,sl @Nat.zero_add,sd @Nat.zero_add⟩,bc,fun x hx=>MG x hx⟩ ?_
  rintro m e st ⟨⟨a15,Pd,a3⟩,an,aF⟩ -
  have d0:decide ((0:Int)<0)=false:=rfl
  (try((repeat(revert N;apply Pn.out));refine wk (tw @a3 (tw @Pd (tw @a15 @d0))) ?_;(repeat(apply Pn.mk;intro N hN))))
  exact er (.inl rfl) (vs:=[.bU]) (sd @a3) ⟨bc,fun x hx=>aF x hx,.inl ⟨by rw[hps];rfl,rfl⟩⟩
 ·have GH:g2 c=some ⟨true,6,[[.sl (s.aD.aI.map cU),.sl (s.aD.aj.map ck),.sl (s.bH.aj.map ab),.int .i64 s.aA,.map T mP,.map O mP]]⟩:=(MG c h.cv).trans fm
  have WG:g2 O=some ⟨true,mP.lP,es.map pS⟩:=(MG O h.ov).trans hO
  have Tw:=h.cv
  have JO:=h.ov
  (try((repeat(revert N;apply Pn.out));refine wk @Nat.zero_add ?_;(repeat(apply Pn.mk;intro N hN))))
  refine bf (fun n env st=>∃k:Nat,n=(ps.length)-k/\k<=(ps.length)/\env 15=.int .i64 (k:Int)/\(x2<=st.next/\(∀x:Id,x.bG<x2->st.get x=g2 x)/\HY 210008005 x2 (tG (ei s l) s.aD.aj.length (ps.take k)) (env 3) st.get st.next)) (ps.length) ⟨0,ah,ah,sl @Nat.zero_add,by(try dsimp only);exact⟨ah,fun x hx=>sd @Nat.zero_add,.inl ⟨rfl,sd @Nat.zero_add⟩⟩⟩ ?_
  rintro n_a env_a st_a ⟨k,rfl,ale,a15,kz⟩ dX
  have a0:=dX 0 (by kernel_rfl);have Sw:=dX 13 (by kernel_rfl);have Pd:=dX 14 (by kernel_rfl)
  simp only[go_sem, ↓reduceIte,Nat.reduceEqDiff,Nat.reduceAdd,Nat.reduceSub,Nat.reduceLeDiff,reduceCtorEq]at a0 Sw Pd
  clear dX
  obtain⟨an,dX,a3⟩:=kz
  have bl:(tG (ei s l) s.aD.aj.length (ps.take k)).length<=10000*160:=by
   have h2:=xQ (ei s l) s.aD.aj.length (ps.take k)
   have h3:(ps.take k).length*s.aD.aj.length<=10000*160:=Nat.mul_le_mul (by rw[List.length_take];omega) GW
   omega
  by_cases hk:(k:Int)<(ps.length:Int)
  ·have cV:∀{e:Env} {gg:Rows} {nx:Nat},(e 15=.int .i64 (IntKind.i64.wrap ((k:Int)+1)))->(x2<=nx/\(∀x:Id,x.bG<x2->gg x=g2 x)/\HY 210008005 x2 (tG (ei s l) s.aD.aj.length (ps.take (k+1))) (e 3) gg nx)->∃m0,m0<(ps.length)-k/\∃k:Nat,m0=(ps.length)-k/\k<=(ps.length)/\e 15=.int .i64 (k:Int)/\(x2<=nx/\(∀x:Id,x.bG<x2->gg x=g2 x)/\HY 210008005 x2 (tG (ei s l) s.aD.aj.length (ps.take k)) (e 3) gg nx):=fun x1 x2=>⟨_,ah,k+1,rfl,ah,(by rw[x1,aE ah]),x2⟩
   have fC:k<ps.length:=ah
   have xH:=(dX o YX).trans ho
   have vao:=db (i:=o) (n:=st_a.next) ah
   have fE:=xj fC
   have RI:=(dX c ah).trans GH
   have vac:=db (i:=c) (n:=st_a.next) ah
   have YO:=(dX O ah).trans WG
   have vaO:=db (i:=O) (n:=st_a.next) ah
   obtain⟨o',Cn,ho'v,TR⟩:∃o':Id,(jU ps k,AV.own o' 0 (gW s l (jU ps k)).length)∈es/\o'.bG<σ.next/\σ.get o'=some ⟨true,1,(gW s l (jU ps k)).map aC⟩:=by
    rcases hE.at_ (jU ps k) trivial with⟨h1,_⟩|⟨_,o',h2⟩
    ·exact absurd h1 (rP _ (CN fC))
    ·exact⟨o',h2⟩
   obtain⟨fi,FV,_,_,EA,Xg⟩:=vZ (jU ps k) es
   obtain⟨j0,rfl,RM⟩:∃j,fi=some j/\(es.map pS)[j]? =some [.int .i64 (jU ps k).eS,.int .i64 (jU ps k).eM,.own o' 0 (gW s l (jU ps k)).length]:=by
    cases fi with
    |none=>exact absurd rfl (Xg rfl _ Cn)
    |some j=>
     obtain⟨v,hv⟩:=EA j rfl
     have e:=Qj hE.nodup (List.mem_of_getElem? hv) Cn
     subst e
     exact⟨j,rfl,by rw[List.getElem?_map,hv];rfl⟩
   have Ll:=DG (B:=ei s l) (m:=s.aD.aj.length) fC
   have gj:H8 (ei s l) (jU ps k) s.aD.aj.length=(gW s l (jU ps k)).map fun t=>(⟨jU ps k,t⟩:aa):=B4 _ _ _
   rw[gj,<-Fg]at Ll
   have P4:(gW s l (jU ps k)).length<=160:=by
    have:=tV (ei s l) (jU ps k) s.aD.aj.length
    unfold gW;omega
   generalize jU ps k=q at FV RM Cn TR fE Ll P4
   generalize gW s l q=us at RM Cn TR Ll P4
   generalize tG (ei s l) s.aD.aj.length (ps.take k)=L at a3 bl Ll
   (try((repeat(revert N;apply Pn.out));refine wk (tw @a15 (tw @a0 (tw @Sw (tw @Pd (tw @hk (tw @xH (tw @vao (tw @fE (tw @RI (tw @vac (tw @YO (tw @vaO (tw @FV (tw @RM @ad.eq_1)))))))))))))) ?_;(repeat(apply Pn.mk;intro N hN))))
   refine bf (fun n env st=>∃j:Nat,n=(us.length)-j/\j<=(us.length)/\env 26=.int .i64 (j:Int)/\st.get ⟨210004002,st_a.next+1⟩=some ⟨true,2,[ad q]⟩/\(st_a.next+2<=st.next/\(∀x:Id,x.bG<x2->st.get x=g2 x)/\HY 210008005 x2 (L++kg q us j) (env 3) st.get st.next)) (us.length) ⟨0,ah,ah,sl (tw @a15 (tw @a0 (tw @Sw (tw @Pd @ad.eq_1)))),sl (tw @a15 (tw @a0 (tw @Sw (tw @Pd @ad.eq_1)))),by(try dsimp only);exact⟨ah,fun x hx=>by
    have h2:=db (i:=x) (n:=st_a.next) ah
    have h3:=dX x hx
    simp only[go_sem, ↓reduceIte,Nat.reduceEqDiff,Nat.reduceAdd,Nat.reduceSub,Nat.reduceLeDiff,reduceCtorEq,h2,h3],by
    rw[show kg q us 0=[]from rfl,List.append_nil]
    exact a3.frame (sd @Nat.zero_add) ah fun x hx=>by
     have h2:=db hx
     simp only[go_sem, ↓reduceIte,Nat.reduceEqDiff,Nat.reduceAdd,Nat.reduceSub,Nat.reduceLeDiff,reduceCtorEq,h2]⟩⟩ ?_
   rintro n_b env_b st_b ⟨j,rfl,ble,b26,bg0,bI0⟩ fh
   have b0:=fh 0 (by kernel_rfl);have b5:=fh 5 (by kernel_rfl);have yw:=fh 13 (by kernel_rfl);have SC:=fh 14 (by kernel_rfl);have SD:=fh 15 (by kernel_rfl);have SE:=fh 24 (by kernel_rfl);have SF:=fh 25 (by kernel_rfl)
   simp only[go_sem, ↓reduceIte,Nat.reduceEqDiff,Nat.reduceAdd,Nat.reduceSub,Nat.reduceLeDiff,reduceCtorEq,a15,a0,Sw,Pd,ad]at b0 b5 yw SC SD SE SF
   clear fh
   obtain⟨bn,fh,b3⟩:=bI0
   have Zh:=db (i:=⟨210004002,st_a.next+1⟩) (n:=st_b.next) bc
   have yW:(L++kg q us j).length<=16777214:=by
    have:(kg q us j).length<=us.length:=by unfold kg;simp;omega
    rw[List.length_append];omega
   by_cases hj:(j:Int)<(us.length:Int)
   ·have fX:∀{e:Env} {gg:Rows} {nx:Nat},(e 26=.int .i64 (IntKind.i64.wrap ((j:Int)+1)))->(gg ⟨210004002,st_a.next+1⟩=some ⟨true,2,[ad q]⟩)->(st_a.next+2<=nx/\(∀x:Id,x.bG<x2->gg x=g2 x)/\HY 210008005 x2 (L++kg q us (j+1)) (e 3) gg nx)->∃m0,m0<(us.length)-j/\∃j:Nat,m0=(us.length)-j/\j<=(us.length)/\e 26=.int .i64 (j:Int)/\gg ⟨210004002,st_a.next+1⟩=some ⟨true,2,[ad q]⟩/\(st_a.next+2<=nx/\(∀x:Id,x.bG<x2->gg x=g2 x)/\HY 210008005 x2 (L++kg q us j) (e 3) gg nx):=fun x1 x2 x3=>⟨_,ah,j+1,rfl,ah,(by rw[x1,aE ah]),x2,x3⟩
    have iN:j<us.length:=ah
    have w5:=Bz (p:=q) iN
    have Co:=IG iN
    have W9:=(fh o' ah).trans ((MG o' ho'v).trans TR)
    have X5:=db (i:=o') (n:=st_b.next) ah
    have PR:(us.map aC).length=us.length:=by simp
    have JN:L++kg q us (j+1)=(L++kg q us j)++[⟨q,us.getD j 0⟩]:=by rw[w5,List.append_assoc]
    generalize us.getD j 0=t at Co JN
    generalize L++kg q us j=M at b3 yW JN
    have rR:(M++[(⟨q,t⟩:aa)]).length=M.length+1:=by simp
    have qY:(M++[(⟨q,t⟩:aa)]).map ab=M.map ab++[[.int .i64 q.eS,.int .i64 q.eM,.int .i64 t]]:=by rw[List.map_append];rfl
    rcases b3 with⟨hM,b3⟩|⟨u,b3,hug,hum,huv,hul0,hus⟩
    ·subst hM
     (try((repeat(revert N;apply Pn.out));refine wk (tw @b26 (tw @bg0 (tw @b0 (tw @b5 (tw @yw (tw @SC (tw @SD (tw @SE (tw @SF (tw @hj (tw @Co (tw @W9 (tw @X5 (tw @PR (tw @b3 (tw @Zh @ad.eq_1)))))))))))))))) ?_;(repeat(apply Pn.mk;intro N hN))))
     refine fX ?_ ?_ (by(try dsimp only);exact⟨ah,fun x hx=>by
      have h2:=db (i:=x) (n:=st_b.next) ah
      have h3:=fh x hx
      simp only[go_sem, ↓reduceIte,Nat.reduceEqDiff,Nat.reduceAdd,Nat.reduceSub,Nat.reduceLeDiff,reduceCtorEq,h2,h3],.inr ⟨⟨210008005,st_b.next+1+1⟩,by rw[JN,rR];simp only[go_sem, ↓reduceIte,Nat.reduceEqDiff,Nat.reduceAdd,Nat.reduceSub,Nat.reduceLeDiff,reduceCtorEq]<;>rfl,by rw[JN,qY];simp only[go_sem, ↓reduceIte,Nat.reduceEqDiff,Nat.reduceAdd,Nat.reduceSub,Nat.reduceLeDiff,reduceCtorEq]<;>rfl,bc,bc,by rw[JN,rR];omega,rfl⟩⟩)
     all_goals simp only[go_sem, ↓reduceIte,Nat.reduceEqDiff,Nat.reduceAdd,Nat.reduceSub,Nat.reduceLeDiff,reduceCtorEq,b26,bg0,b0,b5,yw,SC,SD,SE,SF,Zh,ad]
    ·have vub:=db huv
     have gL:(M.map ab).length=M.length:=by simp
     have hM1:M.length<=16777215:=ah
     have ux:=il hus (b:=210004002) (v:=st_a.next+1) (by decide)
     (try((repeat(revert N;apply Pn.out));refine wk (tw @b26 (tw @bg0 (tw @b0 (tw @b5 (tw @yw (tw @SC (tw @SD (tw @SE (tw @SF (tw @hj (tw @Co (tw @W9 (tw @X5 (tw @PR (tw @b3 (tw @hug (tw @vub (tw @gL (tw @hM1 (tw @Zh (tw @ux @ad.eq_1))))))))))))))))))))) ?_;(repeat(apply Pn.mk;intro N hN))))
     refine fX ?_ ?_ (by(try dsimp only);exact⟨ah,fun x hx=>by
      have h2:=db (i:=x) (n:=st_b.next) ah
      have h4:=de (a:=x) (b:=u) ah
      have h3:=fh x hx
      simp only[go_sem, ↓reduceIte,Nat.reduceEqDiff,Nat.reduceAdd,Nat.reduceSub,Nat.reduceLeDiff,reduceCtorEq,h2,h3,h4],.inr ⟨⟨210008005,st_b.next+1+1⟩,by rw[JN,rR];simp only[go_sem, ↓reduceIte,Nat.reduceEqDiff,Nat.reduceAdd,Nat.reduceSub,Nat.reduceLeDiff,reduceCtorEq]<;>rfl,by rw[JN,qY];simp only[go_sem, ↓reduceIte,Nat.reduceEqDiff,Nat.reduceAdd,Nat.reduceSub,Nat.reduceLeDiff,reduceCtorEq]<;>rfl,bc,bc,by rw[JN,rR];omega,rfl⟩⟩)
     all_goals simp only[go_sem, ↓reduceIte,Nat.reduceEqDiff,Nat.reduceAdd,Nat.reduceSub,Nat.reduceLeDiff,reduceCtorEq,b26,bg0,b0,b5,yw,SC,SD,SE,SF,Zh,ux,ad]
   ·have hju:j=us.length:=ah
    subst hju
    (try((repeat(revert N;apply Pn.out));refine wk (tw @b26 (tw @bg0 (tw @b0 (tw @b5 (tw @yw (tw @SC (tw @SD (tw @SE (tw @SF @hj))))))))) ?_;(repeat(apply Pn.mk;intro N hN))))
    exact cV (sd (tw @a15 (tw @a0 (tw @Sw (tw @Pd (tw @b26 (tw @bg0 (tw @b0 (tw @b5 (tw @yw (tw @SC (tw @SD (tw @SE @SF))))))))))))) (by(try dsimp only);exact⟨ah,fun x hx=>fh x hx,by
     rw[Ll]
     exact b3.frame (sd @Nat.zero_add) ah fun x hx=>rfl⟩)
  ·have lN:k=ps.length:=ah
   subst lN
   rw[List.take_length]at a3
   (try((repeat(revert N;apply Pn.out));refine wk (tw @a15 (tw @a0 (tw @Sw (tw @Pd @hk)))) ?_;(repeat(apply Pn.mk;intro N hN))))
   exact er (.inl rfl) (vs:=[env_a 3]) (sd @Nat.zero_add) ⟨bc,fun x hx=>(dX x ah).trans (MG x hx),by
    rcases a3 with h1|⟨u,h1,h2,h3,h4,h5⟩
    ·exact .inl h1
    ·exact .inr ⟨u,h1,h2,ah,bc,h5⟩⟩
theorem Cx (s:ax) (hP:rN s) (l:List aa) (hA:jN s.aD l):au Tryz.prog 142 [.dQ (aM s),.dQ [.sl (l.map ab)]] (.sl ((tG (ei s l) s.aD.aj.length (js l)).map ab)):=by
 refine au.body eI rfl fun iD n0=>?_
 clear iD
 have hS:=hP.set
 have GW:=hS.xo
 have vG:=hA.1.xD
 have hlen:=ml l l.length
 have rR:eY l l.length=js l:=rfl
 rw[rR]at hlen
 have hnp:∀x∈js l,Ds l x:=fun x hx=>(Bt l x).1 hx
 have hnv:=fun σ=>Kg l hA.1 σ
 clear rR
 generalize js l=ps at hlen hnp hnv ⊢
 (try((repeat(revert N;apply Pn.out));refine wk @Nat.zero_add ?_;(repeat(apply Pn.mk;intro N hN))))
 refine .inr (az _ _ _ _ _ (fun r σ1 hq=>?_) (hnv _))
 obtain⟨g1,x1⟩:=σ1
 obtain⟨o0,rfl,q1,q2,q3,q4,q5⟩:=hq
 (try dsimp only at q1 q2 q3 q4 q5)
 have q6:=q5 ⟨142001000,n0+1⟩ bc trivial
 simp only[go_sem, ↓reduceIte,Nat.reduceEqDiff,Nat.reduceAdd,Nat.reduceSub,Nat.reduceLeDiff,reduceCtorEq]at q6
 have on:n0+2<=o0.bG:=by rcases q4 with h|h;omega;exact absurd trivial h
 clear q4 q5
 apply hN
 clear hN N
 (try((repeat(revert N;apply Pn.out));refine wk (tw @q1 @q6) ?_;(repeat(apply Pn.mk;intro N hN))))
 refine bf (fun n env st=>∃k:Nat,n=(ps.length)-k/\k<=(ps.length)/\env 7=.int .i64 (k:Int)/\st.get o0=some ⟨true,2,ps.map ad⟩/\(∃o:Id,env 5=.own o 0 (tG (ei s l) s.aD.aj.length (ps.take k)).length/\st.get o=some ⟨true,3,(tG (ei s l) s.aD.aj.length (ps.take k)).map ab⟩/\o.bG<st.next/\o0.bG<st.next/\o≠o0)) (ps.length) ⟨0,ah,ah,sl (tw @q1 @q6),sl (tw @q1 @q6),by(try dsimp only);exact⟨⟨142001000,n0+1⟩,sl @Nat.zero_add,sl @q6,bc,ah,fun e=>by rw[<-e]at on;(try dsimp only at on);omega⟩⟩ ?_
 rintro n_a env_a st_a ⟨k,rfl,ale,a7,ag0,kz⟩ dX
 have a0:=dX 0 (by kernel_rfl);have a1:=dX 1 (by kernel_rfl);have a6:=dX 6 (by kernel_rfl)
 simp only[go_sem, ↓reduceIte,Nat.reduceEqDiff,Nat.reduceAdd,Nat.reduceSub,Nat.reduceLeDiff,reduceCtorEq,q1,q6]at a0 a1 a6
 clear dX
 obtain⟨o,a5,ao,LN,Rt,ZC⟩:=kz
 have vo:=db LN
 have v0:=db Rt
 have Xj:=eq_false ZC
 have hoo2:=eq_false (fun e:o0=o=>ZC e.symm)
 have hB:(tG (ei s l) s.aD.aj.length (ps.take k)).length<=10000*160:=by
  have h2:=xQ (ei s l) s.aD.aj.length (ps.take k)
  have h3:(ps.take k).length*s.aD.aj.length<=10000*160:=Nat.mul_le_mul (by rw[List.length_take];omega) GW
  omega
 by_cases hk:(k:Int)<(ps.length:Int)
 ·have cV:∀{e:Env} {gg:Rows} {nx:Nat},(e 7=.int .i64 (IntKind.i64.wrap ((k:Int)+1)))->(gg o0=some ⟨true,2,ps.map ad⟩)->(∃o:Id,e 5=.own o 0 (tG (ei s l) s.aD.aj.length (ps.take (k+1))).length/\gg o=some ⟨true,3,(tG (ei s l) s.aD.aj.length (ps.take (k+1))).map ab⟩/\o.bG<nx/\o0.bG<nx/\o≠o0)->∃m0,m0<(ps.length)-k/\∃k:Nat,m0=(ps.length)-k/\k<=(ps.length)/\e 7=.int .i64 (k:Int)/\gg o0=some ⟨true,2,ps.map ad⟩/\(∃o:Id,e 5=.own o 0 (tG (ei s l) s.aD.aj.length (ps.take k)).length/\gg o=some ⟨true,3,(tG (ei s l) s.aD.aj.length (ps.take k)).map ab⟩/\o.bG<nx/\o0.bG<nx/\o≠o0):=fun x1 x2 x3=>⟨_,ah,k+1,rfl,ah,(by rw[x1,aE ah]),x2,x3⟩
  have fC:k<ps.length:=ah
  have fa:=xj fC
  have sM:=hnp _ (CN fC)
  obtain⟨hx,hy⟩:=s6 sM.1
  have tX:=(Qn s.aD hS l hA (jU ps k) hx hy s.aA).cut mixed (.ptr _ [.sl (s.bH.aj.map ab),.int .i64 s.aA] (.same _ (.same _ (.same _ .nil))))
  have WZ:lW (BZ s.aD l s.aA) (jU ps k) s.aD.aj.length=gW s l (jU ps k):=qV (fun t=>(Pg sM hA t).symm) _
  rw[WZ]at tX
  have Ll:=DG (B:=ei s l) (m:=s.aD.aj.length) fC
  have gj:H8 (ei s l) (jU ps k) s.aD.aj.length=(gW s l (jU ps k)).map fun t=>(⟨jU ps k,t⟩:aa):=B4 _ _ _
  rw[gj,<-Fg]at Ll
  have P4:(gW s l (jU ps k)).length<=160:=by
   have:=tV (ei s l) (jU ps k) s.aD.aj.length
   unfold gW;omega
  have PR:(ps.map ad).length=ps.length:=by simp
  generalize jU ps k=q at tX Ll fa P4
  generalize gW s l q=us at tX Ll P4
  generalize tG (ei s l) s.aD.aj.length (ps.take k)=L at a5 ao hB Ll
  rw[ae]at tX
  (have zF:=tw @a7 (tw @ag0 (tw @a0 (tw @a1 (tw @a6 (tw @hk (tw @fa (tw @v0 (tw @PR (tw @aM.eq_1 @ad.eq_1)))))))));(repeat(first|((repeat(revert N;apply Pn.out));refine wk zF ?_;(repeat(apply Pn.mk;intro N hN)))|((try apply Or.inl);refine⟨_,au.x (tX) (sd zF),?_⟩;apply hN;clear hN N)));try clear zF)
  refine bf (fun n env st=>∃j:Nat,n=(us.length)-j/\j<=(us.length)/\env 9=.int .i64 (j:Int)/\st.get o0=some ⟨true,2,ps.map ad⟩/\(∃o:Id,env 5=.own o 0 (L++kg q us j).length/\st.get o=some ⟨true,3,(L++kg q us j).map ab⟩/\o.bG<st.next/\o0.bG<st.next/\o≠o0)) (us.length) ⟨0,ah,ah,sl (tw @a7 (tw @ag0 (tw @a0 (tw @a1 @a6)))),sl (tw @a7 (tw @ag0 (tw @a0 (tw @a1 @a6)))),by(try dsimp only);exact⟨o,by rw[show kg q us 0=[]from rfl,List.append_nil];simp only[go_sem, ↓reduceIte,Nat.reduceEqDiff,Nat.reduceAdd,Nat.reduceSub,Nat.reduceLeDiff,reduceCtorEq,a5],by rw[show kg q us 0=[]from rfl,List.append_nil];simp only[go_sem, ↓reduceIte,Nat.reduceEqDiff,Nat.reduceAdd,Nat.reduceSub,Nat.reduceLeDiff,reduceCtorEq,ao,vo],ah,ah,ZC⟩⟩ ?_
  rintro n_b env_b st_b ⟨j,rfl,ble,b9,bg0,bI0⟩ fh
  have b0:=fh 0 (by kernel_rfl);have b1:=fh 1 (by kernel_rfl);have b6:=fh 6 (by kernel_rfl);have b7:=fh 7 (by kernel_rfl);have b8:=fh 8 (by kernel_rfl)
  simp only[go_sem, ↓reduceIte,Nat.reduceEqDiff,Nat.reduceAdd,Nat.reduceSub,Nat.reduceLeDiff,reduceCtorEq,a7,ag0,a0,a1,a6]at b0 b1 b6 b7 b8
  clear fh
  obtain⟨u,b5,bu,buv,Rv,ZG⟩:=bI0
  have yW:(L++kg q us j).length<=16777215:=by
   have:(kg q us j).length<=us.length:=by unfold kg;simp;omega
   rw[List.length_append];omega
  have vu:=db buv
  have v0b:=db Rv
  have hou:=eq_false ZG
  have Xk:=eq_false (fun e:o0=u=>ZG e.symm)
  by_cases hj:(j:Int)<(us.length:Int)
  ·have fX:∀{e:Env} {gg:Rows} {nx:Nat},(e 9=.int .i64 (IntKind.i64.wrap ((j:Int)+1)))->(gg o0=some ⟨true,2,ps.map ad⟩)->(∃o:Id,e 5=.own o 0 (L++kg q us (j+1)).length/\gg o=some ⟨true,3,(L++kg q us (j+1)).map ab⟩/\o.bG<nx/\o0.bG<nx/\o≠o0)->∃m0,m0<(us.length)-j/\∃j:Nat,m0=(us.length)-j/\j<=(us.length)/\e 9=.int .i64 (j:Int)/\gg o0=some ⟨true,2,ps.map ad⟩/\(∃o:Id,e 5=.own o 0 (L++kg q us j).length/\gg o=some ⟨true,3,(L++kg q us j).map ab⟩/\o.bG<nx/\o0.bG<nx/\o≠o0):=fun x1 x2 x3=>⟨_,ah,j+1,rfl,ah,(by rw[x1,aE ah]),x2,x3⟩
   have iN:j<us.length:=ah
   have w5:=Bz (p:=q) iN
   have Co:=IG iN
   have JN:L++kg q us (j+1)=(L++kg q us j)++[⟨q,us.getD j 0⟩]:=by rw[w5,List.append_assoc]
   generalize us.getD j 0=t at Co JN
   generalize L++kg q us j=M at b5 bu yW JN
   have rR:(M++[(⟨q,t⟩:aa)]).length=M.length+1:=by simp
   have qY:(M++[(⟨q,t⟩:aa)]).map ab=M.map ab++[[.int .i64 q.eS,.int .i64 q.eM,.int .i64 t]]:=by rw[List.map_append];rfl
   have gL:(M.map ab).length=M.length:=by simp
   have hmu:(us.map aC).length=us.length:=by simp
   (try((repeat(revert N;apply Pn.out));refine wk (tw @b9 (tw @bg0 (tw @b0 (tw @b1 (tw @b6 (tw @b7 (tw @b8 (tw @b5 (tw @bu (tw @hj (tw @hk (tw @Co (tw @fa (tw @vu (tw @v0b (tw @hou (tw @Xk (tw @PR (tw @gL (tw @hmu (tw @yW @ad.eq_1))))))))))))))))))))) ?_;(repeat(apply Pn.mk;intro N hN))))
   refine fX ?_ ?_ (by(try dsimp only);exact⟨⟨142010011,st_b.next+1⟩,by rw[JN,rR];simp only[go_sem, ↓reduceIte,Nat.reduceEqDiff,Nat.reduceAdd,Nat.reduceSub,Nat.reduceLeDiff,reduceCtorEq]<;>rfl,by rw[JN,qY];simp only[go_sem, ↓reduceIte,Nat.reduceEqDiff,Nat.reduceAdd,Nat.reduceSub,Nat.reduceLeDiff,reduceCtorEq]<;>rfl,bc,bc,fun e=>by rw[<-e]at Rv;(try dsimp only at Rv);omega⟩)
   all_goals simp only[go_sem, ↓reduceIte,Nat.reduceEqDiff,Nat.reduceAdd,Nat.reduceSub,Nat.reduceLeDiff,reduceCtorEq,b9,bg0,b0,b1,b6,b7,b8,v0b,Xk]
  ·have hju:j=us.length:=ah
   subst hju
   (try((repeat(revert N;apply Pn.out));refine wk (tw @b9 (tw @bg0 (tw @b0 (tw @b1 (tw @b6 (tw @b7 (tw @b8 @hj))))))) ?_;(repeat(apply Pn.mk;intro N hN))))
   refine cV ?_ ?_ (by(try dsimp only);exact⟨u,by rw[Ll];simp only[go_sem, ↓reduceIte,Nat.reduceEqDiff,Nat.reduceAdd,Nat.reduceSub,Nat.reduceLeDiff,reduceCtorEq,b5],by rw[Ll];simp only[go_sem, ↓reduceIte,Nat.reduceEqDiff,Nat.reduceAdd,Nat.reduceSub,Nat.reduceLeDiff,reduceCtorEq,bu],ah,ah,ZG⟩)
   all_goals simp only[go_sem, ↓reduceIte,Nat.reduceEqDiff,Nat.reduceAdd,Nat.reduceSub,Nat.reduceLeDiff,reduceCtorEq,a7,ag0,a0,a1,a6,b9,bg0,b0,b1,b6,b7,b8]
 ·have lN:k=ps.length:=ah
  subst lN
  rw[List.take_length]at a5 ao
  (try((repeat(revert N;apply Pn.out));refine wk (tw @a7 (tw @ag0 (tw @a0 (tw @a1 (tw @a6 (tw @hk @a5)))))) ?_;(repeat(apply Pn.mk;intro N hN))))
  exact qI (.inl rfl) (vs:=[.own o 0 (tG (ei s l) s.aD.aj.length ps).length]) (sd @a5) (by
   simp only[fb]
   exact fH (e:=ab) (n:=5) ao rfl fun x=>Ws _ 4 x)
theorem B5 {B:aq->Int->Bool} {p:aq}:∀{t:Nat} {x:aa},x∈H8 B p t->∃k:Nat,k<t/\x=⟨p,k⟩/\B p k=true
 |0,x,h=>by simp[H8]at h
 |t+1,x,h=>by
  rw[H8]at h
  split at h
  ·rename_i hb
   rcases List.mem_append.1 h with h|h
   ·obtain⟨k,hk,h1⟩:=B5 h
    exact⟨k,ah,h1⟩
   ·exact⟨t,ah,by simpa using h,hb⟩
  ·obtain⟨k,hk,h1⟩:=B5 h
   exact⟨k,ah,h1⟩
theorem Pj {B:aq->Int->Bool} {m:Nat} {ps:List aq} {x:aa} (h:x∈tG B m ps):x.aQ∈ps/\∃k:Nat,k<m/\x.bK=k/\B x.aQ x.bK=true:=by
 obtain⟨p,hp,hx⟩:=List.mem_flatMap.1 h
 obtain⟨k,hk,rfl,hb⟩:=B5 hx
 exact⟨hp,k,hk,rfl,hb⟩
noncomputable def kh (s:ax) (l:List aa):List aa:=tG (ei s l) s.aD.aj.length (js l)
theorem NI {s:ax} {l:List aa} (hS:iz s.aD) (hA:jN s.aD l):(kh s l).length<=320000:=by
 have h1:=xQ (ei s l) s.aD.aj.length (js l)
 have h2:(js l).length<=l.length*4:=ml l l.length
 have h3:=hA.1.xD
 have h4:=hS.xo
 have h5:(js l).length*s.aD.aj.length<=2000*160:=Nat.mul_le_mul ah h4
 unfold kh;omega
def s9 (dj:List Int) (d n:Nat):Nat:=if dj.length=0 then 0 else(dj.getD (d % dj.length) 0).toNat % n
theorem rD {dj:List Int} {d n:Nat} (h:0<n):s9 dj d n<n:=by
 unfold s9
 split
 ·exact h
 ·exact Nat.mod_lt _ h
noncomputable def oh (s:ax) (dj:List Int) (steps:Nat):Nat->List aa->Option (List aa)
 |0,es=>some es
 |f+1,es=>if (kh s (ee s es es.length)).length=0 then some es else if steps<=es.length then some es else if 500<=(ee s es es.length).length then none else oh s dj steps f (es++[bd (kh s (ee s es es.length)) (s9 dj es.length (kh s (ee s es es.length)).length)])
theorem zr {s:ax} {es ds:List aa} {i:Nat} (h:i<=es.length):ee s (es++ds) i=ee s es i:=by
 unfold ee
 rw[List.take_append_of_le_length h]
theorem NQ (s:ax) (es:List aa) (x:aa):ee s (es++[x]) (es.length+1)=iO (ee s es es.length) x:=by
 rw[rl s (es++[x]) (by simp),zr (Nat.le_refl _)]
 congr 1
 simp[bd]
theorem NP {es ds:List aa} {i:Nat} (h:i<es.length):bd (es++ds) i=bd es i:=by
 simp[bd,List.getD_eq_getElem?_getD,List.getElem?_append_left h]
theorem Ho {s:ax} {es ds:List aa} {i:Nat} (h:i<es.length):pc s (es++ds) i=pc s es i:=by
 unfold pc XQ
 rw[zr ah,NP h]
theorem Fh {s:ax} {l:List aa} {x:aa} (h:x∈kh s l):eO s.aD x.bK=true/\ei s l x.aQ x.bK=true:=by
 obtain⟨_,k,hk,e,hf⟩:=Pj h
 refine⟨?_,hf⟩
 rw[e]
 exact jD ah
def jW (s:ax) (es:List aa):Prop:=∀j,j<es.length->pc s es j=true
theorem jW.nil (s:ax):jW s []:=fun j hj=>by simp at hj
theorem jW.add {s:ax} {es:List aa} (h:jW s es) {x:aa} (hx:x∈kh s (ee s es es.length)) (hl:(ee s es es.length).length<500):jW s (es++[x]):=fun j hj=>by
 rw[List.length_append,List.length_singleton]at hj
 by_cases h0:j<es.length
 ·rw[Ho h0];exact h j h0
 ·have e:j=es.length:=ah
  subst e
  obtain⟨h1,h2⟩:=Fh hx
  unfold pc XQ
  rw[zr (Nat.le_refl _),show bd (es++[x]) es.length=x by simp[bd],h1,h2]
  simpa using hl
theorem oy (s:ax) (es:List aa):∀i,i<=es.length->(ee s es i).length=s.bH.aj.length+i
 |0,_=>rfl
 |i+1,hi=>by rw[rl s es ah,oz,oy s es i ah];rfl
theorem A8 {s:ax} {dj:List Int} {steps:Nat}:∀(f:Nat) (es Lj:List aa),jW s es->es.length<=steps->oh s dj steps f es=some Lj->jW s Lj/\Lj.length<=steps
 |0,es,Lj,h,hl,he=>by
  rw[oh]at he;injection he with he;subst he
  exact⟨h,hl⟩
 |f+1,es,Lj,h,hl,he=>by
  rw[oh]at he
  split at he
  ·injection he with he;subst he;exact⟨h,hl⟩
  ·split at he
   ·injection he with he;subst he;exact⟨h,hl⟩
   ·split at he
    ·cases he
    ·refine A8 f _ _ (h.add (gI (rD ah)) ah) ?_ he
     rw[List.length_append,List.length_singleton];omega
noncomputable def nG (s:ax) (dj:List Int) (steps:Nat):Option (List aa):=oh s dj steps 501 []
theorem vp {s:ax} {dj:List Int} {steps:Nat} {es:List aa} (h:nG s dj steps=some es):jW s es/\es.length<=steps:=A8 _ _ _ (jW.nil s) (Nat.zero_le _) h
def p2 (d:Nat):Int:=2 ^ d
noncomputable def Uy (s:ax) (l:List aa) (x:aa):Nat->Int
 |0=>0
 |d+1=>if 0<=fG l (bR x.aQ d)/\0<iw s.aD x.bK d (fG l (bR x.aQ d))then Uy s l x d+p2 d else Uy s l x d
noncomputable def mskL (s:ax) (es:List aa) (i:Nat):List Int:=(List.range i).map fun j=>Uy s (ee s es j) (bd es j) 4
noncomputable def sumL (s:ax) (es:List aa) (i:Nat):List Int:=(List.range i).map fun j=>nj s.aD (fG (ee s es j)) (bd es j).aQ (bd es j).bK
def PyL (s:ax) (es:List aa) (i:Nat) (X:Id) (e7 e8:AV) (g:Rows) (n:Nat):Prop:=∃o u v:Id,g X=some ⟨true,1,[[.own o 0 (ee s es i).length]]⟩/\g o=some ⟨true,3,(ee s es i).map ab⟩/\e7=.own u 0 i/\g u=some ⟨true,1,(mskL s es i).map aC⟩/\e8=.own v 0 i/\g v=some ⟨true,1,(sumL s es i).map aC⟩/\X.bG<n/\o.bG<n/\u.bG<n/\v.bG<n/\o≠X/\u≠X/\v≠X/\o≠u/\o≠v/\u≠v
theorem KE {s:ax} {es:List aa} {i:Nat} (hA:jN s.aD (ee s es i)) (hf:ei s (ee s es i) (bd es i).aQ (bd es i).bK=true):ez (ee s es i) (bd es i).aQ<0:=
 (BY hA _).1 (by simp[ei]at hf;exact hf.1.2)
theorem wc {s:ax} (hP:rN s) {es:List aa}:∀i,i<=es.length->(∀j,j<i->pc s es j=true)->wI s (es.take i,ee s es i)
 |0,_,_=>⟨fun q=>by simp[ee],by simp[ee]⟩
 |i+1,hi,h=>by
  have ih:=wc hP (es:=es) i ah fun j hj=>h j ah
  have hg:=h i ah
  rw[pc,Bool.and_eq_true,XQ,Bool.and_eq_true]at hg
  have hA:=ju hP (es:=es) i ah fun j hj=>h j ah
  have:=ih.put (x:=bd es i) (KE hA hg.1.2)
  rw[rl s es ah,qO ah]
  exact this
structure MadeP (s:ax) (a:List aa):Prop where
 asm:jN s.aD a
 Ft:yh s.bH.aj a=true
 grown:(insA s a).2=a
section
variable {P:Program} {α:Type} {e:α->List AV} {z:Nat} {g g':Rows} {v:AV} {L:List α} {ids:List Id}
def OutT (e:α->List AV) (z:Nat) (g:Rows) (v:AV) (L:List α) (ids:List Id):Prop:=(L=[]/\v=.bU/\ids=[])∨∃(o:Id) (J:List α),v=.own o 0 L.length/\g o=some ⟨true,z,(L++J).map e⟩/\ids=[o]/\0<L.length
end
theorem ZQ {g:Rows} {u v u' v':AV} (h0:V.fz g 6 u=some u') (h1:V.fz g 6 v=some v'):dx g 6 [u,v]=some [u',v']:=by simp only[ai,ar,h0,h1,Option.map_some]
theorem ZR {g:Rows} {u v w x u' v' w' x':AV} (h0:V.fz g 6 u=some u') (h1:V.fz g 6 v=some v') (h2:V.fz g 6 w=some w') (h3:V.fz g 6 x=some x'):dx g 6 [u,v,w,x]=some [u',v',w',x']:=by simp only[ai,ar,h0,h1,h2,h3,Option.map_some]
theorem CT {dj:List Int} {k:Nat} (h:k<dj.length):(dj.map aC)[k]? =some [.int .i64 (dj.getD k 0)]:=getD_map aC h
theorem pj (a b:Nat):(a:Int).tmod (b:Int)=((a % b:Nat):Int):=by rw[Int.tmod_eq_emod_of_nonneg ah];rfl
noncomputable def Ef (s:ax) (dj:List Int) (steps:Nat) (b:Bool):AV:=match nG s dj steps with
 |some es=>.fD [.sl (es.map ab),.agg [.sl ((ee s es es.length).map ab)],.bool b,.int .i64 0]
 |none=>.fD [.bU,.agg [.bU],.bool b,.int .i64 4]
theorem Kf (s:ax) (hP:rN s) (dj:List Int) (hs:∀x∈dj,0<=x/\x<=1000) (qw:dj.length<=200) (steps:Nat) (dZ:steps<=500):
  jV Tryz.prog 81 [.dQ (aM s),.dQ [.sl (s.bH.aj.map ab)],.sl (dj.map aC),.int .i64 (steps:Int)] fun r=>∃b,r=Ef s dj steps b:=by
 refine jV.body eI rfl fun iD n0=>?_
 clear iD
 have Xq:=hP.Ft.1.xD
 have gL:(dj.map aC).length=dj.length:=by simp
 (try((repeat(revert N;apply Pn.out));refine wk @aM.eq_1 ?_;(repeat(apply Pn.mk;intro N hN))))
 refine .inr (az _ _ _ _ _ (fun r σ1 z8=>?_) (Sq.val (fun n=>Ng s.bH.aj ah n) (by simp only[ai,ar,aP,Option.map_some])))
 obtain⟨⟨o,rfl,q1,q2,q3⟩,hK⟩:=z8
 obtain⟨g1,x1⟩:=σ1
 (try dsimp only at q1 q2 q3 hK)
 have tn:=hK.1
 (try dsimp only at tn)
 have k4:=hK.2 ⟨81000001,n0⟩ bc
 simp only[go_sem, ↓reduceIte,Nat.reduceEqDiff,Nat.reduceAdd,Nat.reduceSub,Nat.reduceLeDiff,reduceCtorEq]at k4
 apply hN
 clear hN N
 (try((repeat(revert N;apply Pn.out));refine wk (tw @k4 @aM.eq_1) ?_;(repeat(apply Pn.mk;intro N hN))))
 have Xl:=KF s []
 obtain⟨X,hX⟩:∃X:Id,X=⟨81001002,x1⟩:=⟨_,rfl⟩
 obtain⟨Y,hY⟩:∃Y:Id,Y=⟨81000001,n0⟩:=⟨_,rfl⟩
 have hXY:X≠Y:=by rw[hX,hY];intro e;injection e with e1 e2;revert e1;decide
 have vo0:=db (i:=o) (n:=x1) q3
 refine bf (fun m env st=>∃(es:List aa) (f:Nat),m=f/\oh s dj steps f es=nG s dj steps/\jW s es/\es.length<=steps/\501<=f+(ee s es es.length).length/\(∃o w:Id,env 13=.own w 0 es.length/\st.get w=some ⟨true,3,es.map ab⟩/\st.get X=some ⟨true,1,[[.own o 0 (ee s es es.length).length]]⟩/\st.get o=some ⟨true,3,(ee s es es.length).map ab⟩/\o≠w/\o≠X/\o≠Y/\o.bG<st.next/\w.bG<st.next/\(w.site=81002000∨w.site=81015006))/\st.get Y=some ⟨true,1,[[.bU]]⟩/\x1<st.next) 501 ⟨[],501,rfl,rfl,jW.nil s,by simp,ah,⟨o,⟨81002000,x1+1⟩,sl @Nat.zero_add,sl @Nat.zero_add,by rw[hX];simp only[go_sem, ↓reduceIte,Nat.reduceEqDiff,Nat.reduceAdd,Nat.reduceSub,Nat.reduceLeDiff,reduceCtorEq]<;>rfl,sl (tw @vo0 @q1),fun e=>by rw[e]at q3;(try dsimp only at q3);omega,fun e=>by rw[e,hX]at q3;(try dsimp only at q3);omega,fun e=>by rw[e,hY]at q2;(try dsimp only at q2);omega,bc,bc,.inl rfl⟩,by rw[hY];simp only[go_sem, ↓reduceIte,Nat.reduceEqDiff,Nat.reduceAdd,Nat.reduceSub,Nat.reduceLeDiff,reduceCtorEq,k4],bc⟩ ?_
 rintro m env_b st_b ⟨es,f,rfl,hgro,hgood,hes,WZ,⟨o,w,yw,gw,gX,go,n1,n2,n3,vo,vw,sw⟩,gY,bn⟩ fh
 have b0:=fh 0 (by kernel_rfl)
 have b2:=fh 2 (by kernel_rfl)
 have b3:=fh 3 (by kernel_rfl)
 have b9:=fh 9 (by kernel_rfl)
 have FR:=fh 12 (by kernel_rfl)
 rw[<-hX]at FR
 rw[<-hY]at b9
 simp only[go_sem, ↓reduceIte,Nat.reduceEqDiff,Nat.reduceAdd,Nat.reduceSub,Nat.reduceLeDiff,reduceCtorEq,aM]at b0 b2 b3 b9 FR
 clear fh
 have hA:=ju hP (es:=es) es.length (Nat.le_refl _) hgood
 have YN:=hA.1.xD
 obtain⟨f,rfl⟩:∃f,m=f+1:=⟨m-1,ah⟩
 rw[oh]at hgro
 have ev:=Cx s hP _ hA
 rw[show tG (ei s (ee s es es.length)) s.aD.aj.length (js (ee s es es.length))=kh s (ee s es es.length)from rfl]at ev
 obtain⟨L,hL⟩:∃L,kh s (ee s es es.length)=L:=⟨_,rfl⟩
 rw[hL]at hgro ev
 have yW:(L.map ab).length=L.length:=by simp
 have hptr:=IQ gX go
 have xv:X.bG<st_b.next:=by rw[hX];exact bn
 have vX:=db xv
 have vY:=db (i:=Y) (n:=st_b.next) (by rw[hY];(try dsimp only);omega)
 have vO:=db vo
 have vW:=db vw
 have e1:(o=w)=False/\(w=o)=False:=⟨eq_false n1,eq_false fun e=>n1 e.symm⟩
 have e2:(o=X)=False/\(X=o)=False:=⟨eq_false n2,eq_false fun e=>n2 e.symm⟩
 have e3:(o=Y)=False/\(Y=o)=False:=⟨eq_false n3,eq_false fun e=>n3 e.symm⟩
 have e4:(X=Y)=False/\(Y=X)=False:=⟨eq_false hXY,eq_false fun e=>hXY e.symm⟩
 have e5:(X=w)=False/\(w=X)=False:=by
  have:X≠w:=fun e=>by rw[<-e,hX]at sw;(try dsimp only at sw);revert sw;decide
  exact⟨eq_false this,eq_false fun e=>this e.symm⟩
 have e6:(Y=w)=False/\(w=Y)=False:=by
  have:Y≠w:=fun e=>by rw[<-e,hY]at sw;(try dsimp only at sw);revert sw;decide
  exact⟨eq_false this,eq_false fun e=>this e.symm⟩
 have fzW:∀g:Rows,g w=some ⟨true,3,es.map ab⟩->gS g 5 (.own w 0 es.length)=some (.sl (es.map ab)):=fun g h=>fH (e:=ab) h rfl fun x=>by simp[ab,cu,cZ,eL]
 have fzO:∀g:Rows,g o=some ⟨true,3,(ee s es es.length).map ab⟩->gS g 4 (.own o 0 (ee s es es.length).length)=some (.sl ((ee s es es.length).map ab)):=fun g h=>fH (e:=ab) h rfl fun x=>by simp[ab,cu,cZ,eL]
 have hmw:(es.map ab).length=es.length:=by simp
 (try((repeat(revert N;apply Pn.out));refine wk (tw @b0 (tw @FR @vX)) ?_;(repeat(apply Pn.mk;intro N hN))))
 refine .inl ⟨_,au.x ev (ZQ (by simp only[aM,aP]) hptr),?_⟩
 apply hN
 clear hN N
 have JY:(ee s es es.length).length<=500:=YN
 have hgW:=fzW (bJ st_b.get Y ⟨true,1,[[.own o 0 (ee s es es.length).length]]⟩) (sd (tw @e6 @gw))
 have YO:=fzO (bJ st_b.get Y ⟨true,1,[[.own o 0 (ee s es es.length).length]]⟩) (sd (tw @e3 @go))
 by_cases Ir:L.length=0
 ·rw[if_pos Ir]at hgro
  have hd:decide ((L.length:Int)=0)=true:=decide_eq_true ah
  have nJ:decide (L.length=0)=true:=decide_eq_true Ir
  (try((repeat(revert N;apply Pn.out));refine wk (tw @b0 (tw @b2 (tw @b3 (tw @b9 (tw @FR (tw @yw (tw @gX (tw @gY (tw @yW (tw @hd (tw @nJ (tw @vX (tw @vY @e4))))))))))))) ?_;(repeat(apply Pn.mk;intro N hN))))
  exact⟨[.own w 0 es.length,.agg [.own o 0 (ee s es es.length).length],.bool true,.int .i64 0],sd @b9,_,by simp only[fb,fK,cu,cZ,xW,hgW,YO,fN,eL,Option.map_some]<;>rfl,true,by rw[Ef,<-hgro]⟩
 have JT:decide ((L.length:Int)=0)=false:=decide_eq_false ah
 have WU:decide (L.length=0)=false:=decide_eq_false Ir
 rw[if_neg Ir]at hgro
 by_cases tZ:(steps:Int)<=(es.length:Int)
 ·rw[if_pos ah]at hgro
  (try((repeat(revert N;apply Pn.out));refine wk (tw @b0 (tw @b2 (tw @b3 (tw @b9 (tw @FR (tw @yw (tw @gX (tw @gY (tw @yW (tw @JT (tw @WU (tw @tZ (tw @vX (tw @vY @e4)))))))))))))) ?_;(repeat(apply Pn.mk;intro N hN))))
  exact⟨[.own w 0 es.length,.agg [.own o 0 (ee s es es.length).length],.bool false,.int .i64 0],sd @b9,_,by simp only[fb,fK,cu,cZ,xW,hgW,YO,fN,eL,Option.map_some]<;>rfl,false,by rw[Ef,<-hgro]⟩
 rw[if_neg ah]at hgro
 obtain⟨j,hj⟩:∃j,s9 dj es.length L.length=j:=⟨_,rfl⟩
 have gZ:j<L.length:=by rw[<-hj];exact rD ah
 rw[hj]at hgro
 (try((repeat(revert N;apply Pn.out));refine wk (tw @b0 (tw @b2 (tw @b3 (tw @b9 (tw @FR (tw @yw (tw @gX (tw @gY (tw @yW (tw @JT (tw @WU (tw @tZ @gL)))))))))))) ?_;(repeat(apply Pn.mk;intro N hN))))
 refine Dc (fun e st=>∃n,st=⟨st_b.get,n⟩/\st_b.next<=n/\e 0=.dQ (aM s)/\e 2=.sl (dj.map aC)/\e 3=.int .i64 (steps:Int)/\e 9=.ptr Y 0 0/\e 12=.ptr X 0 0/\e 13=.own w 0 es.length/\e 14=.sl (L.map ab)/\e 15=.int .i64 (j:Int)) ?_ ?_
 ·rintro e st ⟨n,rfl,hn,c0,c2,c3,c9,qf,Gi,c14,c15⟩
  apply hN
  clear hN N
  have oj:=fV gZ
  have mM:(j:Int)<(L.length:Int):=ah
  have ED:bd L j∈kh s (ee s es es.length):=by rw[hL];exact gI gZ
  have tX:=fun σ h1 h2=>LQ (X:=X) (o:=o) (l:=ee s es es.length) (σ:=σ) ah (bd L j) h1 h2
  obtain⟨x,hx⟩:∃x,bd L j=x:=⟨_,rfl⟩
  rw[hx]at oj hgro ED tX
  rw[ab]at oj tX
  (try((repeat(revert N;apply Pn.out));refine wk (tw @c0 (tw @c2 (tw @c3 (tw @c9 (tw @qf (tw @Gi (tw @c14 (tw @c15 (tw @oj (tw @yW @mM)))))))))) ?_;(repeat(apply Pn.mk;intro N hN))))
  refine .inr (az _ _ _ _ _ (fun r σ2 vK=>?_) (tX _ (sd @gX) (sd @go)))
  obtain⟨tX,hK⟩:=vK
  obtain⟨g2,x2⟩:=σ2
  (try dsimp only at tX hK)
  have TP:=hK.1
  (try dsimp only at TP)
  have kX:=(hK.2 X bc).trans gX
  have kY:=(hK.2 Y (by rw[hY];(try dsimp only);omega)).trans gY
  have kW:=(hK.2 w bc).trans gw
  (try dsimp only at kX kY kW)
  have wX:=db (i:=X) (n:=x2) ah
  have wY:=db (i:=Y) (n:=x2) (by rw[hY];(try dsimp only);omega)
  have wW:=db (i:=w) (n:=x2) ah
  apply hN
  clear hN N
  rcases tX with⟨h5,rfl⟩|⟨h5,o2,rfl,p1,p2,p3⟩
  ·rw[if_pos h5]at hgro
   (try((repeat(revert N;apply Pn.out));refine wk (tw @c0 (tw @c2 (tw @c3 (tw @c9 (tw @qf (tw @Gi (tw @kY (tw @wX (tw @wY @wW))))))))) ?_;(repeat(apply Pn.mk;intro N hN))))
   exact⟨[.bU,.agg [.bU],.bool false,.int .i64 4],sd @c9,_,by simp only[fb,fK,cu,cZ,xW,ma,fN,eL,Option.map_some]<;>rfl,false,by rw[Ef,<-hgro]⟩
  ·rw[if_neg ah]at hgro
   (try dsimp only at p1 p2 p3)
   have wo:=db (i:=o2) (n:=x2) p3
   have oX:=de (a:=X) (b:=o2) ah
   have oY:=de (a:=Y) (b:=o2) (by rw[hY];(try dsimp only);omega)
   have oW:=de (a:=w) (b:=o2) ah
   have w5:=NQ s es x
   have qw:=oz x (ee s es es.length)
   have TI:(es++[x]).length=es.length+1:=by simp
   have qW:=hgood.add ED h5
   have hes1:es.length<=16777215:=ah
   have Em:(es++[x]).map ab=es.map ab++[ab x]:=by simp
   rw[ab]at Em
   (try((repeat(revert N;apply Pn.out));refine wk (tw @c0 (tw @c2 (tw @c3 (tw @c9 (tw @qf (tw @Gi (tw @kX (tw @kY (tw @kW (tw @wX (tw @wY (tw @wW (tw @wo (tw @oX (tw @oY (tw @oW (tw @e4 (tw @e5 (tw @e6 (tw @oj (tw @yW (tw @mM (tw @c14 (tw @c15 (tw @hmw @hes1))))))))))))))))))))))))) ?_;(repeat(apply Pn.mk;intro N hN))))
   refine⟨f,ah,es++[x],f,rfl,hgro,qW,by rw[TI];omega,by rw[TI,w5,qw];omega,⟨o2,⟨81015006,x2+1+1+1⟩,by rw[TI];simp only[go_sem, ↓reduceIte,Nat.reduceEqDiff,Nat.reduceAdd,Nat.reduceSub,Nat.reduceLeDiff,reduceCtorEq]<;>rfl,by rw[Em];simp only[go_sem, ↓reduceIte,Nat.reduceEqDiff,Nat.reduceAdd,Nat.reduceSub,Nat.reduceLeDiff,reduceCtorEq]<;>rfl,by rw[TI,w5];simp only[go_sem, ↓reduceIte,Nat.reduceEqDiff,Nat.reduceAdd,Nat.reduceSub,Nat.reduceLeDiff,reduceCtorEq,wX,e5]<;>rfl,by rw[TI,w5];simp only[go_sem, ↓reduceIte,Nat.reduceEqDiff,Nat.reduceAdd,Nat.reduceSub,Nat.reduceLeDiff,reduceCtorEq,wo,oX,oW,p1],fun e=>by rw[e]at p3;(try dsimp only at p3);omega,fun e=>by rw[e]at p2;omega,fun e=>by rw[e,hY]at p2;(try dsimp only at p2);omega,bc,bc,.inr rfl⟩,sd (tw @wY (tw @e4 (tw @e6 @kY))),bc⟩
 ·intro N hN
  by_cases FY:dj.length=0
  ·have RM:j=0:=by rw[<-hj,s9,if_pos FY]
   have hsn:¬(0:Int)<(dj.length:Int):=ah
   subst RM
   (try((repeat(revert N;apply Pn.out));refine wk (tw @b0 (tw @b2 (tw @b3 (tw @b9 (tw @FR (tw @yw (tw @gL @hsn))))))) ?_;(repeat(apply Pn.mk;intro N hN))))
   exact⟨_,rfl,bc,sd (tw @b0 @aM.eq_1),sd @b2,sd @b3,sd @b9,sd @FR,sd @yw,sd @Nat.zero_add,sl @Nat.zero_add⟩
  ·have hsn:(0:Int)<(dj.length:Int):=ah
   have T7:((dj.length:Int)=0)=False:=eq_false ah
   have Tr:((L.length:Int)=0)=False:=eq_false ah
   have th:=pj es.length dj.length
   have Lm:es.length % dj.length<dj.length:=Nat.mod_lt _ ah
   have hdi:((es.length % dj.length:Nat):Int)<(dj.length:Int):=ah
   have PN:=CT Lm
   have TL:=(hs (dj.getD (es.length % dj.length) 0) (by rw[List.getD_eq_getElem?_getD,List.getElem?_eq_getElem Lm];exact List.getElem_mem Lm)).1
   have VF:(dj.getD (es.length % dj.length) 0).tmod (L.length:Int)=(j:Int):=by
    rw[<-hj,s9,if_neg FY]
    have h9:=pj (dj.getD (es.length % dj.length) 0).toNat L.length
    rwa [Int.toNat_of_nonneg TL]at h9
   generalize dj.getD (es.length % dj.length) 0=z at *
   generalize es.length % dj.length=d at *
   (try((repeat(revert N;apply Pn.out));refine wk (tw @b0 (tw @b2 (tw @b3 (tw @b9 (tw @FR (tw @yw (tw @gL (tw @hsn (tw @T7 (tw @Tr (tw @yW (tw @th (tw @hdi (tw @PN @VF)))))))))))))) ?_;(repeat(apply Pn.mk;intro N hN))))
   exact⟨_,rfl,bc,sd (tw @b0 @aM.eq_1),sd @b2,sd @b3,sd @b9,sd @FR,sd @yw,sd @Nat.zero_add,sd @VF⟩
end Go.Proofs.YtainmfbpilopaaaGreatDoor.V

namespace Go.Proofs.YtainmfbpilopaaaGreatDoor.V
open Go.RowKit
def pq (w:World) (g t:Nat) (s:ByteArray):Prop:=∃(a:Addr) (c:Array Value) (ty ty0:TypeId),w.heap[g]? =some (.cells #[.iface t (.pointer (some a))] ty0 (0,0))/\w.heap[a.block]? =some (.cells c ty (0,0))/\w.cell? a=some (.string s)
def yN (g t:Nat) (s:ByteArray):Row:=⟨false,1,[[.err g t s]]⟩
def Ao (x y t:Nat) (s u:ByteArray):Rows:=fun id=>if id=qt x then some (yN x t s)else if id=qt y then some (yN y t u)else none
def JG (x y:Nat):Names:=fun id=>if id=qt x then some ⟨x,1,1,none⟩else if id=qt y then some ⟨y,1,1,none⟩else none
variable {P:Program} {w:World} {ι:Names}
theorem pq.eP {g t:Nat} {s:ByteArray} (h:pq w g t s):∃v,w.cell? ⟨g,0,none⟩=some v/\ko P w (fun b=>b<w.heap.size) (.err g t s) v:=by
 obtain⟨a,c,ty,ty0,h1,h2,h3⟩:=h
 have hc:w.cell? ⟨g,0,none⟩=some (.iface t (.pointer (some a))):=by simp[World.cell?,h1]
 exact⟨_,hc,.err g t s a c ty (Array.getElem?_eq_some_iff.1 h1).1 hc (Array.getElem?_eq_some_iff.1 h2).1 h2 h3⟩
theorem pq.obj {g t:Nat} {s:ByteArray} (h:pq w g t s):iv P w (fun b=>b<w.heap.size) ι ⟨g,1,1,none⟩ (yN g t s):=by
 obtain⟨v,hv,hi⟩:=h.eP (P:=P)
 obtain⟨a,c,ty,ty0,h1,_⟩:=h
 refine lK.obj ⟨rfl,⟨_,_,h1,rfl⟩,Nat.le_refl _,?_,?_,?_⟩ rfl
 ·intro cs dY
  rw[List.mem_singleton.1 dY];rfl
 ·intro cs dY a ha
  rw[List.mem_singleton.1 dY]at ha
  rw[List.mem_singleton.1 ha];rfl
 ·intro i j cs a hi hj
  cases i with
  |zero=>
   simp[yN]at hi
   subst hi
   cases j with
   |zero=>
    simp at hj
    subst hj
    exact⟨v,by simpa using hv,.eP _ _ hi⟩
   |succ j=>simp at hj
  |succ i=>simp[yN]at hi
theorem S4 {x y:Nat} (h:x≠y):qt y≠qt x:=fun e=>by
 have:=congrArg Id.site e
 simp only[qt]at this
 omega
theorem SV {x y t:Nat} {s u:ByteArray} (gM:x≠y) (h1:pq w x t s) (h2:pq w y t u):gK P w.heap.size (fun b=>b<w.heap.size) (JG x y) (Ao x y t s u) w:=by
 refine⟨Nat.le_refl _,fun _ h=>h,fun id r h=>?_,fun id kK r r' B B' h h' hw=>?_⟩
 ·unfold Ao at h
  unfold JG
  split at h
  ·rename_i e
   injection h with h
   subst h
   rw[if_pos e]
   exact⟨_,rfl,h1.obj,fun h=>(by cases h),fun h=>(by cases h)⟩
  ·rename_i e
   rw[if_neg e]
   split at h
   ·rename_i e2
    injection h with h
    subst h
    rw[if_pos e2]
    exact⟨_,rfl,h2.obj,fun h=>(by cases h),fun h=>(by cases h)⟩
   ·cases h
 ·exfalso
  unfold Ao at h
  split at h
  ·injection h with h;subst h;cases hw
  ·split at h
   ·injection h with h;subst h;cases hw
   ·cases h
theorem PA (x y:Nat):Used (JG x y) 1 (fun _=>False):=fun id h=>.inl (by
 unfold JG at h
 split at h
 ·rename_i e;rw[e];exact Nat.zero_lt_one
 ·split at h
  ·rename_i e;rw[e];exact Nat.zero_lt_one
  ·exact absurd rfl h)
theorem Qp (hm:P.follows .mixedOrders=true) {f:Nat} {args:List AV} {vs:Array Value} {x y t:Nat} {s u:ByteArray} (gM:x≠y) (h:Call P f args ⟨Ao x y t s u,1⟩ fun r _=>r=.bool true)
  (h1:pq w x t s) (h2:pq w y t u) (hA:fQ P w (fun b=>b<w.heap.size) (fun _=>none) args vs):
  Calls P f vs w fun e w'=>e=.returned (.bool true)/\Below w.heap.size w w':=by
 have Wu:fQ P w (fun b=>b<w.heap.size) (JG x y) args vs:=⟨hA.1,fun j a hj=>by
  obtain⟨v,k1,k2⟩:=hA.2 j a hj
  exact⟨v,k1,k2.frame (fun _ _=>rfl) (fun _ h=>h) fun id B hB=>(by cases hB)⟩⟩
 refine(gD hm h w.heap.size (fun b=>b<w.heap.size) (JG x y) w vs (SV gM h1 h2) (PA x y) Wu).mono ?_
 rintro e w' ⟨r,g',n',D',ι',v,rfl,rfl,dZ,hsim,_,_,iu⟩
 exact⟨by rw[fP iu],dZ.below⟩
theorem SS (x y t:Nat) (s u:ByteArray):Ao x y t s u (qt x)=some ⟨false,1,[[.err x t s]]⟩:=by unfold Ao;rw[if_pos rfl];rfl
theorem SU {x y:Nat} (h:x≠y) (t:Nat) (s u:ByteArray):Ao x y t s u (qt y)=some ⟨false,1,[[.err y t u]]⟩:=by unfold Ao;rw[if_neg (S4 h),if_pos rfl];rfl
end Go.Proofs.YtainmfbpilopaaaGreatDoor.V

namespace Go.Proofs.YtainmfbpilopaaaGreatDoor.V
open Go.RowKit Go.ChangeShapes Go.WideShapes Go.ChangeAt
theorem Kh {P:Program} {n0 n1 nm:String} {Sd Se:List UInt8} {r:List (String×DataW Unit)} {W:World} {g0 g1:Nat} {ti tp te ts:TypeId} {ms:Array (String×TypeId)} {f:Field}
  (h:laidMet P ((n0,.iface nm (.ptr (.agg [.lit (.string Sd)])))::(n1,.iface nm (.ptr (.agg [.lit (.string Se)])))::r) W)
  (W4:P.globalNamed n0=some g0) (ht0:(P.globals[g0]?).map (·.type)=some ti) (Ar:P.globalNamed n1=some g1) (ht1:(P.globals[g1]?).map (·.type)=some ti)
  (hi:P.underlying ti=some (.interface ms)) (fm:∀u,P.typeName? 3 u=some nm->u=tp)
  (hp:P.underlying tp=some (.pointer te)) (he:P.underlying te=some (.struct #[f])) (hft:f.type=ts) (MI:f.offset=0) (hs:P.underlying ts=some .string) (hc:P.cellsOf te=1) (dY:P.cellsOf ts=1):
  ∃a0 a1:Addr,W.var? P n0=some #[.iface tp (.pointer (some a0))]/\W.var? P n1=some #[.iface tp (.pointer (some a1))]/\pq W g0 tp ⟨Sd.toArray⟩/\pq W g1 tp ⟨Se.toArray⟩:=by
 obtain⟨ps,⟨g0',t0',Rx,f0,p0,q0,W5,ht0',pK,hd0,⟨OO,t1',cs1,f1,p1,q1,W6,ht1',sP,th,_,e1⟩,e0⟩,mV,kG⟩:=h
 obtain rfl:=Option.some.inj (W4.symm.trans W5)
 obtain rfl:=Option.some.inj (Ar.symm.trans W6)
 obtain rfl:=Option.some.inj (ht0.symm.trans ht0')
 obtain rfl:=Option.some.inj (ht1.symm.trans ht1')
 subst e1
 subst e0
 obtain⟨l0⟩:=Rx
 obtain⟨l1⟩:=cs1
 have ok0:∀u v,l0=[.iface u v]->Value.okWide P W .any 0 u v:=fun u v e=>by
  subst e
  exact(kG g0 0 (by simp[MemPlace.row])).2 u v (by simpa using World.var?_cell W5 pK 0)
 have ok1:∀u v,l1=[.iface u v]->Value.okWide P W .any 0 u v:=fun u v e=>by
  subst e
  exact(kG g1 0 (by simp[MemPlace.row])).2 u v (by simpa using World.var?_cell W6 sP 0)
 obtain⟨a0,s0,rfl,j6,FY,EE,rfl⟩:=errorString_of_trod hi fm hp he hft MI hs hc dY hd0 ok0
 obtain⟨a1,s1,rfl,pY,Dk,y7,rfl⟩:=errorString_of_trod hi fm hp he hft MI hs hc dY th ok1
 have k0:=kG g0 0 (by simp[MemPlace.row])
 have k1:=kG g1 0 (by simp[MemPlace.row])
 obtain⟨c0,t0,Ei⟩:=(kG a0.block a0.off (by simp[MemPlace.row])).1
 obtain⟨c1,t1,Iu⟩:=(kG a1.block a1.off (by simp[MemPlace.row])).1
 have Wt:∀{n:String} {g:Nat} {v:Value},P.globalNamed n=some g->W.var? P n=some #[v]->(∃c t,W.heap[g]? =some (.cells c t (0,0)))->∃t,W.heap[g]? =some (.cells #[v] t (0,0)):=fun {n g v} hg hv ⟨c,t,hb⟩=>by
  unfold World.var? at hv
  rw[hg]at hv
  simp only[Option.bind_some,hb,Option.some.injEq]at hv
  exact⟨t,by rw[hb,hv]⟩
 obtain⟨y0,z0⟩:=Wt W4 pK k0.1
 obtain⟨y1,z1⟩:=Wt Ar sP k1.1
 have str:∀{s:ByteArray} {l:List UInt8},s.data.toList=l->s=⟨l.toArray⟩:=fun {s l} e=>by
  subst e;cases s;simp
 rw[str FY]at j6
 rw[str Dk]at pY
 exact⟨a0,a1,pK,sP,⟨a0,c0,t0,y0,z0,Ei,j6⟩,⟨a1,c1,t1,y1,z1,Iu,pY⟩⟩
theorem var?_below {P:Program} {n:String} {W W':World} {g:Nat} {x:Array Value} (hg:P.globalNamed n=some g) (hv:W.var? P n=some x) (hb:Below W.heap.size W W'):W'.var? P n=some x:=by
 rw[<-hv]
 unfold World.var? at hv ⊢
 rw[hg]at hv ⊢
 simp only[Option.bind_some]at hv ⊢
 have eu:g<W.heap.size:=by
  rcases Nat.lt_or_ge g W.heap.size with h'|h'
  ·exact h'
  ·rw[Array.getElem?_eq_none h']at hv;cases hv
 rw[hb.block g eu]
def gT:Nat:=0
def gN:Nat:=1
def tE:Nat:=391
def sT:ByteArray:=⟨#[110,111,32,116,105,108,101,32,99,97,110,32,97,116,116,97,99,104]⟩
def sN:ByteArray:=⟨#[116,111,111,32,109,97,110,121,32,116,105,108,101,115]⟩
theorem sTN:sT≠sN:=by decide
theorem Mr:Tryz.prog.globalNamed "loop.example/g01081/impl.errTerminal" =some gT:=by kernel_rfl
theorem Mq:Tryz.prog.globalNamed "loop.example/g01081/impl.errNoSpace" =some gN:=by kernel_rfl
theorem RB:(Tryz.prog.globals[gT]?).map (·.type)=some 208:=by kernel_rfl
theorem RA:(Tryz.prog.globals[gN]?).map (·.type)=some 208:=by kernel_rfl
theorem UP:Tryz.prog.cellsOf 417=1:=by kernel_rfl
theorem US:Tryz.prog.cellsOf 9=1:=by kernel_rfl
theorem IY: "*" ++ "errors.errorString" = "*errors.errorString" :=by decide
theorem UQ (u:TypeId) (h:Tryz.prog.typeName? 3 u=some "*errors.errorString"):u=391:=
 typeName_ptr_named (nm:= "errors.errorString") (by rw[IY];kernel_rfl) (by kernel_rfl) (by decide) u (by rw[IY];exact h)
theorem Ki {W:World} {r:List (String×DataW Unit)} (h:laidMet Tryz.prog (("loop.example/g01081/impl.errTerminal",Rows.laid_loop_example_g01081_impl_errTerminal)::("loop.example/g01081/impl.errNoSpace",Rows.laid_loop_example_g01081_impl_errNoSpace)::r) W):
  ∃a0 a1:Addr,W.var? Tryz.prog "loop.example/g01081/impl.errTerminal" =some #[.iface tE (.pointer (some a0))]/\W.var? Tryz.prog "loop.example/g01081/impl.errNoSpace" =some #[.iface tE (.pointer (some a1))]/\pq W gT tE sT/\pq W gN tE sN:=
 Kh h Mr RB Mq RA Tryz.underlying208 UQ Tryz.underlying391 Tryz.underlying417 rfl rfl Tryz.underlying9 UP US
end Go.Proofs.YtainmfbpilopaaaGreatDoor.V

namespace Go.Proofs.YtainmfbpilopaaaGreatDoor.V
open Go.RowKit
attribute [local irreducible] dW wpOps fu Call
theorem X0 (dj:List Int) (hs:∀x∈dj,0<=x/\x<=1000) (qw:dj.length<=200) (n d:Nat) (hn:0<n):au Tryz.prog 209 [.int .i64 (n:Int),.int .i64 (d:Int),.dQ [.sl (dj.map aC)]] (.int .i64 (s9 dj d n:Int)):=by
 refine au.body eI rfl fun iD n0=>?_
 clear iD
 have gL:(dj.map aC).length=dj.length:=by simp
 by_cases FY:dj.length=0
 ·have hz:decide ((dj.length:Int)=0)=true:=decide_eq_true ah
  (try((repeat(revert N;apply Pn.out));refine wk (tw @gL @hz) ?_;(repeat(apply Pn.mk;intro N hN))))
  exact dq (b:=0) (.inl rfl) (sd @Nat.zero_add) (by rw[s9,if_pos FY];rfl)
 ·have hz:decide ((dj.length:Int)=0)=false:=decide_eq_false ah
  have T7:((dj.length:Int)=0)=False:=eq_false ah
  have Tr:((n:Int)=0)=False:=eq_false ah
  have th:=pj d dj.length
  have Lm:d % dj.length<dj.length:=Nat.mod_lt _ ah
  have hdi:((d % dj.length:Nat):Int)<(dj.length:Int):=ah
  have PN:=CT Lm
  have TL:=(hs (dj.getD (d % dj.length) 0) (by rw[List.getD_eq_getElem?_getD,List.getElem?_eq_getElem Lm];exact List.getElem_mem Lm)).1
  have VF:(dj.getD (d % dj.length) 0).tmod (n:Int)=(s9 dj d n:Int):=by
   rw[s9,if_neg FY]
   have h9:=pj (dj.getD (d % dj.length) 0).toNat n
   rwa [Int.toNat_of_nonneg TL]at h9
  generalize dj.getD (d % dj.length) 0=z at *
  generalize d % dj.length=dd at *
  (try((repeat(revert N;apply Pn.out));refine wk (tw @gL (tw @hz (tw @T7 (tw @Tr (tw @th (tw @hdi (tw @PN @VF))))))) ?_;(repeat(apply Pn.mk;intro N hN))))
  exact dq (.inl rfl) (sd @VF) rfl
def eU (g:Rows):Prop:=(∃b,g (qt 0)=some ⟨b,1,[[.err 0 tE sT]]⟩)/\∃b,g (qt 1)=some ⟨b,1,[[.err 1 tE sN]]⟩
theorem eU.frame {g g':Rows} (h:eU g) {n:Nat} (hn:1<=n) (hf:∀x:Id,x.bG<n->x.site=999000000∨x.site=999000001->g' x=g x):eU g':=by
 obtain⟨⟨b,h1⟩,c,h2⟩:=h
 exact⟨⟨b,(hf (qt 0) hn (.inl rfl)).trans h1⟩,c,(hf (qt 1) hn (.inr rfl)).trans h2⟩
theorem jx (k:Nat):(qt k).bG=0:=rfl
def V6 (σ:aw) (c T O:Id) (s:ax) (dj:List Int) (es:List aa) (r:AV) (σ':aw):Prop:=
 σ.next<=σ'.next/\(∀x:Id,x.bG<σ.next->x≠T->x≠O->σ'.get x=σ.get x)/\
 ((kh s (ee s es es.length)=[]/\r=.fD [.agg [.int .i64 0,.int .i64 0,.int .i64 0],.err 0 tE sT]/\rK σ'.get σ'.next c T O s (s.bH.aj++es))∨(kh s (ee s es es.length)≠[]/\500<=(ee s es es.length).length/\r=.fD [.agg [.int .i64 0,.int .i64 0,.int .i64 0],.err 1 tE sN])∨(kh s (ee s es es.length)≠[]/\(ee s es es.length).length<500/\r=.fD [.agg (ab (bd (kh s (ee s es es.length)) (s9 dj es.length (kh s (ee s es es.length)).length))),.jn]/\rK σ'.get σ'.next c T O s (s.bH.aj++(es++[bd (kh s (ee s es es.length)) (s9 dj es.length (kh s (ee s es es.length)).length)]))))
theorem NA {σ:aw} {c T O B:Id} {s:ax} (hP:rN s) {es:List aa} (hG:jW s es) (h:rK σ.get σ.next c T O s (s.bH.aj++es)) (hE:eU σ.get) (tn:1<=σ.next)
  {dj:List Int} (hs:∀x∈dj,0<=x/\x<=1000) (qw:dj.length<=200) {bw:Bool} (hB:σ.get B=some ⟨bw,1,[[.sl (dj.map aC)]]⟩) (Yt:B.bG<σ.next):
  Call Tryz.prog 165 [.ptr c 0 0,.fn 209 [.ptr B 0 0],.int .i64 (es.length:Int)] σ (V6 σ c T O s dj es):=by
 refine F4 (cfM [(3,2),(5,2)]) rfl fun iD=>?_
 clear iD
 have hT:1<=s.aA:=(ej hP.K3).1
 have hA:=ju hP (es:=es) es.length (Nat.le_refl _) hG
 have Ts:=wc hP (es:=es) es.length (Nat.le_refl _) hG
 rw[List.take_length]at Ts
 have rP:gW s (s.bH.aj++es)=gW s (ee s es es.length):=by
  funext q
  unfold gW
  exact qV (fun t=>Ts.fit q t) _
 have lY:=oy s es es.length (Nat.le_refl _)
 have vG:=hA.1.xD
 have v1:=db (i:=qt 0) (n:=σ.next) (by rw[jx];omega)
 have v2:=db (i:=qt 1) (n:=σ.next) (by rw[jx];omega)
 have v3:=db h.o.cv
 have v4:=db h.o.tv
 have v5:=db h.o.ov
 have v6:=db Yt
 have fm:=h.o.row
 have GW:=h.o.tl
 obtain⟨⟨b0,hE0⟩,b1,Tg⟩:=hE
 (try((repeat(revert N;apply Pn.out));refine wk (tw @fm @v3) ?_;(repeat(apply Pn.mk;intro N hN))))
 refine .inr (az _ _ _ _ _ (fun r σ1 hq=>?_) (Uq (c:=c) (T:=T) (O:=O) (l:=ee s es es.length) ⟨sd (tw @fm @v3),by have:=h.o.cv;(try dsimp only);omega,by have:=h.o.ov;(try dsimp only);omega,by
  obtain⟨en,a1,a2⟩:=h.op
  rw[rP]at a2
  exact⟨en,sd (tw @a1 @v5),a2.frame bc fun x hx _=>by
   have h1:=db hx
   simp only[go_sem, ↓reduceIte,Nat.reduceEqDiff,Nat.reduceAdd,Nat.reduceSub,Nat.reduceLeDiff,reduceCtorEq,h1]⟩⟩ hT hP.set hA))
 obtain⟨g1,x1⟩:=σ1
 obtain⟨hn,hf,hL⟩:=hq
 (try dsimp only at hn hf hL)
 have Lk:rK g1 x1 c T O s (s.bH.aj++es):=h.frame ah fun x hx=>by
  have h1:=db hx
  have h2:=hf x bc
  simp only[go_sem, ↓reduceIte,Nat.reduceEqDiff,Nat.reduceAdd,Nat.reduceSub,Nat.reduceLeDiff,reduceCtorEq,h1]at h2
  exact h2
 have k0:=hf (qt 0) (by rw[jx];(try dsimp only);omega)
 have k1:=hf (qt 1) (by rw[jx];(try dsimp only);omega)
 have kB:=hf B bc
 have kr:=hf ⟨165000000,σ.next⟩ bc
 simp only[go_sem, ↓reduceIte,Nat.reduceEqDiff,Nat.reduceAdd,Nat.reduceSub,Nat.reduceLeDiff,reduceCtorEq,v1,hE0]at k0
 simp only[go_sem, ↓reduceIte,Nat.reduceEqDiff,Nat.reduceAdd,Nat.reduceSub,Nat.reduceLeDiff,reduceCtorEq,v2,Tg]at k1
 simp only[go_sem, ↓reduceIte,Nat.reduceEqDiff,Nat.reduceAdd,Nat.reduceSub,Nat.reduceLeDiff,reduceCtorEq,v6,hB]at kB
 simp only[go_sem, ↓reduceIte,Nat.reduceEqDiff,Nat.reduceAdd,Nat.reduceSub,Nat.reduceLeDiff,reduceCtorEq]at kr
 have M1:=Lk.o.row
 have Ud:=Lk.o.tl
 have w0:=db (i:=qt 0) (n:=x1) (by rw[jx];omega)
 have w1:=db (i:=qt 1) (n:=x1) (by rw[jx];omega)
 have w2:=db (i:=(⟨165000000,σ.next⟩:Id)) (n:=x1) bc
 have w3:=db Lk.o.cv
 have w4:=db Lk.o.tv
 have w6:=db (i:=B) (n:=x1) ah
 have u0:(qt 0=(⟨165000000,σ.next⟩:Id))=False:=eq_false fun e=>by have:=congrArg Id.bG e;rw[jx]at this;(try dsimp only at this);omega
 have u1:(qt 1=(⟨165000000,σ.next⟩:Id))=False:=eq_false fun e=>by have:=congrArg Id.bG e;rw[jx]at this;(try dsimp only at this);omega
 have base:∀x:Id,x.bG<σ.next->g1 x=σ.get x:=fun x hx=>by
  have h1:=db hx
  have h2:=hf x bc
  simp only[go_sem, ↓reduceIte,Nat.reduceEqDiff,Nat.reduceAdd,Nat.reduceSub,Nat.reduceLeDiff,reduceCtorEq,h1]at h2
  exact h2
 apply hN
 clear hN N
 have MR:((s.bH.aj++es).map ab).length=(ee s es es.length).length:=by rw[List.length_map,List.length_append,lY]
 rw[show tG (ei s (ee s es es.length)) s.aD.aj.length (js (ee s es es.length))=kh s (ee s es es.length)from rfl]at hL
 have RQ:=NI hP.set hA
 have p0:(qt 0).site=999000000:=rfl
 have p1:(qt 1).site=999000001:=rfl
 rcases hL with⟨hO,rfl⟩|⟨u,rfl,gu,z1,z2,z3,z4⟩
 ·have EE:decide (((0:Nat):Int)=0)=true:=rfl
  have y7:decide ((0:Int)=0)=true:=rfl
  (try((repeat(revert N;apply Pn.out));refine wk (tw @k0 (tw @kr (tw @w0 (tw @u0 (tw @p0 (tw @EE @y7)))))) ?_;(repeat(apply Pn.mk;intro N hN))))
  refine fB ?_ ?_
  ·(try((repeat(revert N;apply Pn.out));refine wk (tw @k0 (tw @kr (tw @w0 (tw @u0 @p0)))) ?_;(repeat(apply Pn.mk;intro N hN))))
   exact er (.inl rfl) (vs:=[.agg [.int .i64 0,.int .i64 0,.int .i64 0],.err 0 tE sT]) (sd @Nat.zero_add) ⟨bc,fun x hx _ _=>by
    have q1:=db hx
    simp only[go_sem, ↓reduceIte,Nat.reduceEqDiff,Nat.reduceAdd,Nat.reduceSub,Nat.reduceLeDiff,reduceCtorEq,q1,base x hx],.inl ⟨hO,rfl,h.frame bc fun x hx=>by
     have q1:=db hx
     simp only[go_sem, ↓reduceIte,Nat.reduceEqDiff,Nat.reduceAdd,Nat.reduceSub,Nat.reduceLeDiff,reduceCtorEq,q1,base x hx]⟩⟩
  ·(try((repeat(revert N;apply Pn.out));refine wk (tw @k0 (tw @kr (tw @w0 (tw @u0 @p0)))) ?_;(repeat(apply Pn.mk;intro N hN))))
   exact er (.inl rfl) (vs:=[.agg [.int .i64 0,.int .i64 0,.int .i64 0],.err 0 tE sT]) (sd @Nat.zero_add) ⟨bc,fun x hx _ _=>by
    have q1:=db hx
    simp only[go_sem, ↓reduceIte,Nat.reduceEqDiff,Nat.reduceAdd,Nat.reduceSub,Nat.reduceLeDiff,reduceCtorEq,q1,base x hx],.inl ⟨hO,rfl,h.frame bc fun x hx=>by
     have q1:=db hx
     simp only[go_sem, ↓reduceIte,Nat.reduceEqDiff,Nat.reduceAdd,Nat.reduceSub,Nat.reduceLeDiff,reduceCtorEq,q1,base x hx]⟩⟩
 ·generalize hO:kh s (ee s es es.length)=L at *
  have Ir:decide ((L.length:Int)=0)=false:=decide_eq_false ah
  have gM:L≠[]:=fun e=>by rw[e]at z3;simp at z3
  by_cases tZ:500<=(ee s es es.length).length
  ·have YM:(500:Int)<=((ee s es es.length).length:Int):=ah
   (try((repeat(revert N;apply Pn.out));refine wk (tw @k1 (tw @kr (tw @w1 (tw @w2 (tw @u1 (tw @p1 (tw @Ir (tw @M1 (tw @w3 (tw @Ud (tw @w4 (tw @MR @YM)))))))))))) ?_;(repeat(apply Pn.mk;intro N hN))))
   refine fB ?_ ?_
   ·(try((repeat(revert N;apply Pn.out));refine wk (tw @k1 (tw @kr (tw @w1 (tw @w2 (tw @u1 @p1))))) ?_;(repeat(apply Pn.mk;intro N hN))))
    exact er (.inl rfl) (vs:=[.agg [.int .i64 0,.int .i64 0,.int .i64 0],.err 1 tE sN]) (sd @Nat.zero_add) ⟨bc,fun x hx _ _=>by
     have q1:=db hx
     simp only[go_sem, ↓reduceIte,Nat.reduceEqDiff,Nat.reduceAdd,Nat.reduceSub,Nat.reduceLeDiff,reduceCtorEq,q1,base x hx],.inr (.inl ⟨by rw[hO];exact gM,tZ,rfl⟩)⟩
   ·(try((repeat(revert N;apply Pn.out));refine wk (tw @k1 (tw @kr (tw @w1 (tw @w2 (tw @u1 @p1))))) ?_;(repeat(apply Pn.mk;intro N hN))))
    exact er (.inl rfl) (vs:=[.agg [.int .i64 0,.int .i64 0,.int .i64 0],.err 1 tE sN]) (sd @Nat.zero_add) ⟨bc,fun x hx _ _=>by
     have q1:=db hx
     simp only[go_sem, ↓reduceIte,Nat.reduceEqDiff,Nat.reduceAdd,Nat.reduceSub,Nat.reduceLeDiff,reduceCtorEq,q1,base x hx],.inr (.inl ⟨by rw[hO];exact gM,tZ,rfl⟩)⟩
  ·have YM:decide ((500:Int)<=((ee s es es.length).length:Int))=false:=decide_eq_false ah
   obtain⟨j,hj⟩:∃j,s9 dj es.length L.length=j:=⟨_,rfl⟩
   have gZ:j<L.length:=by rw[<-hj];exact rD z3
   have mM:(j:Int)<(L.length:Int):=ah
   have Ub:=X0 dj hs qw L.length es.length z3
   rw[hj]at Ub
   have oj:=fV gZ
   have ED:bd L j∈kh s (ee s es es.length):=by rw[hO];exact gI gZ
   obtain⟨x,hx⟩:∃x,bd L j=x:=⟨_,rfl⟩
   rw[hx]at oj ED
   obtain⟨hxt,Y8⟩:=Fh ED
   have Y9:Ac x.aQ=true:=by
    unfold ei at Y8
    simp only[Bool.and_eq_true]at Y8
    exact Y8.1.1
   have FZ:ez (s.bH.aj++es) x.aQ<0:=Ts.no (Mj hA (fun _ h=>h) Y8)
   rw[ab]at oj
   have yW:(L.map ab).length=L.length:=by simp
   (have zF:=tw @k1 (tw @kr (tw @kB (tw @w1 (tw @w2 (tw @w6 (tw @u1 (tw @p1 (tw @Ir (tw @M1 (tw @w3 (tw @Ud (tw @w4 (tw @MR (tw @YM (tw @gu (tw @yW (tw @mM @oj)))))))))))))))));(repeat(first|((repeat(revert N;apply Pn.out));refine wk zF ?_;(repeat(apply Pn.mk;intro N hN)))|((try apply Or.inl);refine⟨_,au.x (Ub) (sd zF),?_⟩;apply hN;clear hN N)));try clear zF)
   have hF:∀q,0<=fG (s.bH.aj++es) q->eO s.aD (fG (s.bH.aj++es) q)=true:=fun q h=>by
    have e:=Ts.at_ q
    (try dsimp only at e)
    rw[e]at h ⊢
    exact iz.LP hA q h
   have YY:=fun(σ:aw) (h:rK σ.get σ.next c T O s (s.bH.aj++es))=>XR h hP.set hF x.aQ Y9 x.bK hxt FZ
   rw[ad]at YY
   refine .inr (az _ _ _ _ _ (fun r σ2 hq=>?_) (YY _ (Lk.frame bc fun y hy=>by
    have q:=db hy
    simp only[go_sem, ↓reduceIte,Nat.reduceEqDiff,Nat.reduceAdd,Nat.reduceSub,Nat.reduceLeDiff,reduceCtorEq,q])))
   obtain⟨g2,x2⟩:=σ2
   obtain⟨rfl,ZV,n3,f3⟩:=hq
   (try dsimp only at ZV n3 f3)
   have GG:=h.o.tv
   have JO:=h.o.ov
   have kr2:=f3 ⟨165000000,σ.next⟩ bc (fun e=>by rw[<-e]at GG;(try dsimp only at GG);omega) (fun e=>by rw[<-e]at JO;(try dsimp only at JO);omega)
   have kx2:=f3 ⟨165006008,x1+1+1+1⟩ bc (fun e=>by rw[<-e]at GG;(try dsimp only at GG);omega) (fun e=>by rw[<-e]at JO;(try dsimp only at JO);omega)
   simp only[go_sem, ↓reduceIte,Nat.reduceEqDiff,Nat.reduceAdd,Nat.reduceSub,Nat.reduceLeDiff,reduceCtorEq,w2,kr]at kr2
   simp only[go_sem, ↓reduceIte,Nat.reduceEqDiff,Nat.reduceAdd,Nat.reduceSub,Nat.reduceLeDiff,reduceCtorEq]at kx2
   apply hN
   clear hN N
   (try((repeat(revert N;apply Pn.out));refine wk (tw @kr2 @kx2) ?_;(repeat(apply Pn.mk;intro N hN))))
   refine er (.inl rfl) (vs:=[.agg [.int .i64 x.aQ.eS,.int .i64 x.aQ.eM,.int .i64 x.bK],.jn]) (sd @Nat.zero_add) ⟨bc,fun y hy Ui hyO=>?_,.inr (.inr ⟨by rw[hO];exact gM,ah,by rw[hO,hj,hx];rfl,?_⟩)⟩
   ·have q1:=db hy
    have q2:=f3 y bc Ui hyO
    have q3:=db (i:=y) (n:=x1) ah
    simp only[go_sem, ↓reduceIte,Nat.reduceEqDiff,Nat.reduceAdd,Nat.reduceSub,Nat.reduceLeDiff,reduceCtorEq,q3]at q2
    simp only[go_sem, ↓reduceIte,Nat.reduceEqDiff,Nat.reduceAdd,Nat.reduceSub,Nat.reduceLeDiff,reduceCtorEq,q1]
    exact q2.trans (base y hy)
   ·rw[hO,hj,hx,<-List.append_assoc]
    have e6:∀y:Id,y.bG<σ.next->(y=(⟨165000000,σ.next⟩:Id))=False:=fun y hy=>eq_false fun e=>by rw[e]at hy;(try dsimp only at hy);omega
    have u6c:=e6 c h.o.cv
    have u6T:=e6 T GG
    have u6O:=e6 O JO
    obtain⟨en,a1,a2⟩:=ZV.op
    refine⟨ZV.o.three bc (sd @u6c) (sd @u6T) (sd @u6O),en,sd (tw @u6O @a1),a2.frame bc fun y hy ⟨k,r,hk⟩=>?_⟩
    have hne6:(y=(⟨165000000,σ.next⟩:Id))=False:=eq_false fun e=>by
     rw[e,kr2]at hk
     simp at hk
    simp only[go_sem, ↓reduceIte,Nat.reduceEqDiff,Nat.reduceAdd,Nat.reduceSub,Nat.reduceLeDiff,reduceCtorEq,hne6]
end Go.Proofs.YtainmfbpilopaaaGreatDoor.V

namespace Go.Proofs.YtainmfbpilopaaaGreatDoor.V
open Go.RowKit Go.Extern.Stop Go.Stop Go.Extern
theorem EK (v:Value) (w:World):(Extern.ReflectliteType.typeOf #[.iface 391 v]).run Tryz.prog w=.ok (.iface 309 (.agg #[.pointer (some ⟨5,391,none⟩)])) w:=by kernel_rfl
def B9:Array Value->Sem Value:=Extern.ReflectliteType.method fun t=>do Extern.Rtype.noPackHeld "Comparable" t;pure (.bool (<-typeInfo t).comparable)
theorem uh (w:World):(B9 #[.agg #[.pointer (some ⟨5,391,none⟩)]]).run Tryz.prog w=.ok (.bool true) w:=by kernel_rfl
theorem me (v:Value) (w:World):(Go.method 529 309 v "Comparable").run Tryz.prog w=.ok (339,v) w:=by kernel_rfl
theorem M8:(Tryz.prog.info? 391).map (·.comparable)=some true:=by kernel_rfl
theorem M9:(Tryz.prog.info? 417).map (·.size)=some 1:=by kernel_rfl
theorem XM (v:Value) (xT:TypeId) (w:World):(Instr.typeAssert (.iface 391 v) xT 311 true).run Tryz.prog w=.ok (.tuple #[.nilIface,.bool false]) w:=run_typeAssert_lacksB Tryz.underlying311 (by kernel_rfl) (by kernel_rfl) v xT w
theorem Ky (v:Value) (xT:TypeId) (w:World):(Instr.typeAssert (.iface 391 v) xT 314 true).run Tryz.prog w=.ok (.tuple #[.nilIface,.bool false]) w:=run_typeAssert_lacksB Tryz.underlying314 (by kernel_rfl) (by kernel_rfl) v xT w
theorem Hf (v:Value) (xT:TypeId) (w:World):(Instr.typeAssert (.iface 391 v) xT 316 true).run Tryz.prog w=.ok (.tuple #[.nilIface,.bool false]) w:=run_typeAssert_lacksB Tryz.underlying316 (by kernel_rfl) (by kernel_rfl) v xT w
theorem Qi (a:Addr) (w:World):
  Calls Tryz.prog 166 #[.iface 391 (.pointer (some a)),.iface 391 (.pointer (some a))] w fun e w'=>e=.returned (.bool true)/\w'=w:=by
 obtain⟨i,hi,Tu⟩:=Option.map_eq_some_iff.1 M8
 obtain⟨j,hj,hjs⟩:=Option.map_eq_some_iff.1 M9
 have h8:=@run_callFunc_extern Tryz.prog 211 _ Extern.ReflectliteType.typeOf Tryz.func211 (by kernel_rfl) (by kernel_rfl) (by kernel_rfl) (by kernel_rfl)
 have h32:=@run_callFunc_extern Tryz.prog 339 _ B9 Tryz.func339 (by kernel_rfl) (by kernel_rfl) (by kernel_rfl) (by kernel_rfl)
 have tT:=EK
 have cT:=uh
 have mR:=me
 have heq:=run_eql_iface_ptr_same (P:=Tryz.prog) w a Tryz.underlying208 Tryz.underlying391 hi Tu hj
 go_enter Tryz.func166,Tryz.ntmps166
 go_wp2
 refine wp_loop_rounds 1 ?_
 rw[rounds_succ]
 go_wp2
 go_ret
 exact⟨rfl,rfl⟩
theorem Ul (b:Addr) (w:World):
  Calls Tryz.prog 166 #[.nilIface,.iface 391 (.pointer (some b))] w fun e w'=>e=.returned (.bool false)/\w'=w:=by
 have hn:=run_eql_iface_nil_left (P:=Tryz.prog) w 391 (.pointer (some b)) Tryz.underlying208
 go_enter Tryz.func166,Tryz.ntmps166
 go_wp2
 go_ret
 exact⟨rfl,rfl⟩
theorem Nb (a b:Addr) (ca cb:Array Value) (ta tb:TypeId) (w:World) (gM:a≠b) (ha:w.heap[a.block]? =some (.cells ca ta (0,0))) (hb:w.heap[b.block]? =some (.cells cb tb (0,0))):
  Calls Tryz.prog 166 #[.iface 391 (.pointer (some a)),.iface 391 (.pointer (some b))] w fun e w'=>e=.returned (.bool false)/\w'=w:=by
 obtain⟨i,hi,Tu⟩:=Option.map_eq_some_iff.1 M8
 obtain⟨j,hj,hjs⟩:=Option.map_eq_some_iff.1 M9
 have h8:=@run_callFunc_extern Tryz.prog 211 _ Extern.ReflectliteType.typeOf Tryz.func211 (by kernel_rfl) (by kernel_rfl) (by kernel_rfl) (by kernel_rfl)
 have h32:=@run_callFunc_extern Tryz.prog 339 _ B9 Tryz.func339 (by kernel_rfl) (by kernel_rfl) (by kernel_rfl) (by kernel_rfl)
 have tT:=EK
 have cT:=uh
 have mR:=me
 have nE:=XM
 have uE:=Ky
 have vE:=Hf
 have heq:=run_eql_iface_ptr_other (P:=Tryz.prog) w Tryz.underlying208 Tryz.underlying391 hi Tu hj (by rw[hjs];decide) gM ha hb
 go_enter Tryz.func166,Tryz.ntmps166
 go_wp2
 refine wp_loop_rounds 1 ?_
 rw[rounds_succ]
 go_wp2
 go_ret
 exact⟨rfl,rfl⟩
variable {σ:aw}
theorem zV {w:World} {D:Nat->Prop} {ι:Names} {x y:AV} {vs:Array Value} (h:fQ Tryz.prog w D ι [x,y] vs):∃u v,vs= #[u,v]/\dm Tryz.prog w D ι x u/\dm Tryz.prog w D ι y v:=by
 obtain⟨h1,h2⟩:=h
 obtain⟨u,e1,r1⟩:=h2 0 x rfl
 obtain⟨v,e2,r2⟩:=h2 1 y rfl
 refine⟨u,v,?_,r1,r2⟩
 apply Array.ext
 ·simpa using h1
 ·intro i hi hj
  have:i=0∨i=1:=by simp at hj;omega
  rcases this with rfl|rfl
  ·rw[Array.getElem?_eq_some_iff]at e1;obtain⟨_,e1⟩:=e1;simpa using e1
  ·rw[Array.getElem?_eq_some_iff]at e2;obtain⟨_,e2⟩:=e2;simpa using e2
theorem xN (g:Nat) (s:ByteArray):Call Tryz.prog 166 [.err g tE s,.err g tE s] σ fun r σ'=>r=.bool true/\σ'=σ:=by
 refine eW fun hs D ι w vs S U A=>?_
 obtain⟨u,v,rfl,r1,r2⟩:=zV A
 obtain⟨a,c,ty,rfl,d1,e1,_⟩:=rm r1
 obtain⟨b,c',ty',rfl,_,e2,_⟩:=rm r2
 rw[e1]at e2
 simp only[Option.some.injEq,Value.iface.injEq,Value.pointer.injEq,true_and]at e2
 subst e2
 refine(Qi a w).mono ?_
 rintro e w' ⟨rfl,rfl⟩
 exact⟨.bool true,σ.get,σ.next,D,ι,.bool true,rfl,⟨rfl,rfl⟩,.refl _ _ _ _,S,U,Nat.le_refl _,.eP _ _ (.bool _)⟩
theorem BS (g:Nat) (s:ByteArray):Call Tryz.prog 166 [.jn,.err g tE s] σ fun r σ'=>r=.bool false/\σ'=σ:=by
 refine eW fun hs D ι w vs S U A=>?_
 obtain⟨u,v,rfl,r1,r2⟩:=zV A
 rw[zD r1]
 obtain⟨b,c',ty',rfl,_,e2,_⟩:=rm r2
 refine(Ul b w).mono ?_
 rintro e w' ⟨rfl,rfl⟩
 exact⟨.bool false,σ.get,σ.next,D,ι,.bool false,rfl,⟨rfl,rfl⟩,.refl _ _ _ _,S,U,Nat.le_refl _,.eP _ _ (.bool _)⟩
theorem Dr (x y:Nat) (s u:ByteArray) (gM:s≠u):Call Tryz.prog 166 [.err x tE s,.err y tE u] σ fun r σ'=>r=.bool false/\σ'=σ:=by
 refine eW fun hs D ι w vs S U A=>?_
 obtain⟨u1,v,rfl,r1,r2⟩:=zV A
 obtain⟨a,c,ty,rfl,_,_,_,k1,k2⟩:=rm r1
 obtain⟨b,c',ty',rfl,_,_,_,q1,q2⟩:=rm r2
 have oi:a≠b:=fun e=>by
  subst e
  rw[k2]at q2
  simp only[Option.some.injEq,Value.string.injEq]at q2
  exact gM q2
 refine(Nb a b c c' ty ty' w oi k1 q1).mono ?_
 rintro e w' ⟨rfl,rfl⟩
 exact⟨.bool false,σ.get,σ.next,D,ι,.bool false,rfl,⟨rfl,rfl⟩,.refl _ _ _ _,S,U,Nat.le_refl _,.eP _ _ (.bool _)⟩
end Go.Proofs.YtainmfbpilopaaaGreatDoor.V
