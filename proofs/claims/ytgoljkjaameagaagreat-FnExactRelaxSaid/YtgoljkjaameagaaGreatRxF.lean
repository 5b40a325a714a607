/- TileSet.bonds, walked. -/
import Derived.Test.YtgoljkjaameagaaGreatRxE
import Derived.Test.YtgoljkjaameagaaGreatRxB
import Derived.Test.YtgoljkjaameagaaGreatRxC
import Derived.Test.YtgoljkjaameagaaGreatRxD
import Derived.Test.YtgoljkjaameagaaGreatChecked
import Derived.ProofKit
import Derived.Deep.Slices
import Derived.ChangeSame
import Derived.Test.YtgoljkjaameagaaGreatRows
import Derived.OpenShut
import Derived.ShutString
import Derived.ChangeOld
import Derived.Below
set_option linter.unusedVariables false
set_option linter.unusedSimpArgs false
set_option maxRecDepth 100000
set_option maxHeartbeats 16000000
namespace Go.Proofs.YtgoljkjaameagaaGreat.V
open Go.RowKit Go.Shelf
attribute [local go_sem] Oper.semAt_some
attribute [local irreducible] dL wpOps fu Call
attribute [local go_sem] az eQ ec eY eW cJ upd bJ K.av b4 AV.cells AV.cell rowOf rowsOf part ld rowAt bH bG cX dr fR bo cE dD e6 eF cQ dx cC cz db dc br aJ ck bq cq cm dv dy dw cj bx cD dt bp aA cu bQ fQ bd bY bt aH cW aX cY AV.undef bj bl de dn da dj bV dC dE bK dB dz cr cw List.getD_cons_zero List.getD_cons_succ List.getD_nil List.all_cons List.all_nil Bool.and_true Bool.true_and Bool.and_self Bool.not_true Bool.not_false Option.map_some Option.map_none Option.bind_some Option.bind_none List.length_cons List.length_nil List.take_succ_cons List.take_zero List.take_nil List.drop_succ_cons List.drop_zero List.drop_nil List.head?_cons List.map_cons List.map_nil List.getElem?_cons_zero List.getElem?_cons_succ List.cons_append List.nil_append List.append_nil List.length_map List.set_cons_zero List.set_cons_succ Nat.reduceMul eq_self Int.toNat_natCast Int.natCast_nonneg and_self true_and and_true decide_true decide_false Bool.false_eq_true Nat.zero_add Nat.add_zero List.contains_cons List.contains_nil Bool.or_false Bool.false_or beq_self_eq_true Nat.reduceBEq ne_eq not_true_eq_false not_false_eq_true Id.mk.injEq false_and and_false Nat.reduceLT Int.reduceLE Int.reduceLT Int.reduceToNat Int.reduceNeg Int.reduceAdd Nat.le_refl List.length_append beq_true beq_false Bool.not_eq_eq_eq_not or_false false_or dd ae ai ay bh bD aG aM aD aL bZ bm
theorem G5 (s:aq) (l:List ad) (hF:j8 s) (hA:gN s l) (w:World) (Ag At:Option Addr) (ng cg nt ct:Nat) (vS:Value) (hT:jK Tryz.prog w (fun b=>b<w.heap.size) (.agg (ab s)) (.agg #[.slice Ag ng cg,.slice At nt ct])) (hP:oO w vS l):
  CallsIn Fence.wide 5 Tryz.prog 205 #[.agg #[.slice Ag ng cg,.slice At nt ct],.agg #[vS]] w fun e W'=>∃v,e=.returned v/\W'.ownsRow w.heap.size 254 3 v (cL s l).length (JH (cL s l))/\(v=.slice none 0 0↔cL s l=[])/\Below w.heap.size w W':=by
 obtain⟨A,cp,rfl,_,_⟩:=hP.sl
 obtain⟨i0,hi,GF,xf,kK⟩:=info_parts HV
 refine callsIn_of_wp_marks Tryz.func205 rfl trivial ?_ rfl
 simp only[Tryz.ntmps205,List.size_toArray,List.length_cons,List.length_nil,Nat.reduceAdd,Nat.reduceSub,Array.replicate_succ,Array.replicate_zero,List.push_toArray,List.append_toArray,List.nil_append,List.cons_append]
 gi_wp2_with (refine⟨trivial,?_⟩;gi_at_call 260;refine(yR _ _ _).mono ?_;rintro e w' ⟨rfl,rfl⟩)
 have bT:((w.alloc (.cells #[.slice Ag ng cg,.slice At nt ct] 39)).heap[w.heap.size]?)=some (.cells #[.slice Ag ng cg,.slice At nt ct] 39 (0,0)):=World.alloc_heap_new _ _
 obtain⟨w1,mc⟩:∃w1,w.alloc (.cells #[.slice Ag ng cg,.slice At nt ct] 39)=w1:=⟨_,rfl⟩
 have O2:w1.heap.size=w.heap.size+1:=by rw[<-mc];simp
 have zt:Below w.heap.size w w1:=by rw[<-mc];exact(Below.refl _ w).alloc (Nat.le_refl _) _
 rw[mc]at bT ⊢
 clear mc
 have bA:=Boxed.new w1 42 (.slice A l.length cp)
 have bO:=Boxed.new (w1.alloc (.cells #[.slice A l.length cp] 42)) 179 (.slice none 0 0)
 have bN:=Boxed.new ((w1.alloc (.cells #[.slice A l.length cp] 42)).alloc (.cells #[.slice none 0 0] 179)) 42 (.slice A l.length cp)
 replace bA:=(bA.alloc (.cells #[.slice none 0 0] 179)).alloc (.cells #[.slice A l.length cp] 42)
 replace bO:=bO.alloc (.cells #[.slice A l.length cp] 42)
 simp only[World.size_alloc,O2]at bA bO bN
 have oU:Below w1.heap.size w1 (((w1.alloc (.cells #[.slice A l.length cp] 42)).alloc (.cells #[.slice none 0 0] 179)).alloc (.cells #[.slice A l.length cp] 42)):=(((Below.refl _ w1).alloc (Nat.le_refl _) _).alloc (by simp) _).alloc (by simp;omega) _
 have fb:(((w1.alloc (.cells #[.slice A l.length cp] 42)).alloc (.cells #[.slice none 0 0] 179)).alloc (.cells #[.slice A l.length cp] 42)).heap.size=w.heap.size+4:=by simp;omega
 obtain⟨W0,hW0⟩:∃W0,((w1.alloc (.cells #[.slice A l.length cp] 42)).alloc (.cells #[.slice none 0 0] 179)).alloc (.cells #[.slice A l.length cp] 42)=W0:=⟨_,rfl⟩
 rw[hW0]at bA bO bN oU fb ⊢
 clear hW0
 have Af:Below w.heap.size w W0:=zt.trans (oU.mono (by omega))
 replace bT:=(oU.block w.heap.size (by omega)).trans bT
 have hP0:oO W0 (.slice A l.length cp) l:=hP.below Af
 have kl:=QC hP
 have nk:=pf (s:=s) hA.1
 refine wpIn_rangeFunc_ownH (n:=5) rfl (by omega) (gf:=302) (lb:= #[.pointer (some ⟨w.heap.size+1+1+1,0,none⟩)]) rfl trivial (enters_of Tryz.func302 (by kernel_rfl) rfl)
  (Ih l hA.1 (w.heap.size+1+1+1) (5-1) (by omega) (.slice A l.length cp) (gO w.heap.size) kl W0 bN hP0) gO.trans (gO.b (by omega)) (Below.refl _ _) (fun _=>rfl)
  (fun pre W=>((∃v,Boxed W (w.heap.size+1+1) 179 v/\W.ownsRow w.heap.size 254 3 v (mT s l pre).length (JH (mT s l pre))/\(v=.slice none 0 0↔mT s l pre=[]))/\(Boxed W (w.heap.size+1) 42 (.slice A l.length cp)/\W.heap[w.heap.size]? =some (.cells #[.slice Ag ng cg,.slice At nt ct] 39 (0,0))))/\Below w.heap.size w W)
  (fun _ _ _=>False)
  (OwnFrom.and (OwnFrom.and (Own.from (holdsRow_own w.heap.size (w.heap.size+1+1) 179 254 3 (fun pre=>(mT s l pre).length) (fun pre=>JH (mT s l pre)) (fun pre v=>v=.slice none 0 0↔mT s l pre=[])) _) (OwnFrom.and (Own.from (boxed_own _ _ _) _) (Own.from (Ai _ _ _ _) _))) (ownFrom_below (Nat.le_refl _) (by omega)))
  (fun _ _ _ _ _ hs _ _=>hs)
  ⟨⟨⟨_,bO,World.ownsRow_nil _ _ _ _,by simp[mT]⟩,bA,bT⟩,Af⟩
  (fun x a' W=>∃Bx,w.heap.size+1+1<Bx/\W.heap[Bx]? =some (.cells #[.int .i64 (x.1.1:Int),.int .i64 (x.1.2.1:Int)] 322 (0,0))/\a'={tmps:= #[.agg #[.slice Ag ng cg,.slice At nt ct],.agg #[.slice A l.length cp],.pointer (some ⟨w.heap.size,0,none⟩),.pointer (some ⟨w.heap.size+1,0,none⟩),.slice none 0 0,.pointer (some ⟨w.heap.size+1+1,0,none⟩),.pointer (some ⟨Bx,0,none⟩),.int .i64 x.1.2.2,undef,.agg #[.slice A l.length cp],.func (.func 302) #[] #[.pointer (some ⟨w.heap.size+1+1+1,0,none⟩)],.agg #[.int .i64 (x.1.1:Int),.int .i64 (x.1.2.1:Int)],.int .i64 x.1.2.2,undef,undef,undef,undef,undef,undef,undef,undef,undef,undef,undef,undef,undef,undef,undef,undef,undef,undef,undef,undef,undef,undef,undef,undef,undef,undef,undef,undef,undef],defers:=[]})
  (fun x a' _ X Y row hs hg hr=>by obtain⟨Bx,h1,h2,h3⟩:=hs;exact⟨Bx,h1,Ai Bx _ _ _ () X Y row h2 hg (fun r e=>(hr r e).2),h3⟩)
  ?assign ?body ?done ?stop
 case assign=>
  rintro q pre ⟨⟨x0,x1,x2⟩,hx⟩ W K ⟨⟨⟨v,hv,fV,hnil⟩,bA1,bT1⟩,hB⟩ hK
  simp only[DT]
  gi_wp2
  exact hK _ _ ((KeepsOthers.alloc _ _).from _) (gO.of ((Below.refl _ W).alloc (Nat.le_refl _) _)) ⟨⟨⟨v,hv.alloc _,fV.alloc _,hnil⟩,bA1.alloc _,(Below.heap_alloc _ _ _ (Array.getElem?_eq_some_iff.1 bT1).1).trans bT1⟩,hB.alloc hB.size _⟩ ⟨W.heap.size,hv.lt,World.alloc_heap_new _ _,rfl⟩
 case body=>
  rintro q pre ⟨⟨x0,x1,x2⟩,hx⟩ a' W hq hqr ⟨⟨⟨v,hv,fV,hnil⟩,bA1,bT1⟩,hB⟩ ⟨Bx,hBx,bX,rfl⟩ dV
  obtain⟨BG,LR,zx⟩:=hx
  simp only at BG LR zx bX
  obtain⟨A',c',e',_,hc⟩:=(hP.below hB).sl
  cases e'
  have di:∃b o,A=some ⟨b,o,none⟩/\W.cell? ⟨b,o+x0*3+2,none⟩=some (.int .i64 (bc l x0).aZ)/\W.cell? ⟨b,o+x1*3+2,none⟩=some (.int .i64 (bc l x1).aZ):=by
   rcases hc with rfl|⟨b,o,rfl,j0⟩
   ·simp at BG
   ·exact⟨b,o,rfl,by rw[Nat.add_assoc];exact(j0 x0 BG).2.2,by rw[Nat.add_assoc];exact(j0 x1 LR).2.2⟩
  obtain⟨b,o,rfl,cP0,cP1⟩:=di
  have cT0:W.cell? ⟨w.heap.size,0,none⟩=some (.slice Ag ng cg):=by simp[World.cell?,bT1]
  have cT1:W.cell? ⟨w.heap.size,1,none⟩=some (.slice At nt ct):=by simp[World.cell?,bT1]
  have cX0:W.cell? ⟨Bx,0,none⟩=some (.int .i64 (x0:Int)):=by simp[World.cell?,bX]
  have cX1:W.cell? ⟨Bx,1,none⟩=some (.int .i64 (x1:Int)):=by simp[World.cell?,bX]
  have cA:=bA1.cell
  have dP0:W.drew.cell? ⟨b,o+x0*3+2,none⟩=some (.int .i64 (bc l x0).aZ):=cP0
  have dP1:W.drew.cell? ⟨b,o+x1*3+2,none⟩=some (.int .i64 (bc l x1).aZ):=cP1
  have dT0:W.drew.cell? ⟨w.heap.size,0,none⟩=some (.slice Ag ng cg):=cT0
  have dT1:W.drew.cell? ⟨w.heap.size,1,none⟩=some (.slice At nt ct):=cT1
  have dX0:W.drew.cell? ⟨Bx,0,none⟩=some (.int .i64 (x0:Int)):=cX0
  have dX1:W.drew.cell? ⟨Bx,1,none⟩=some (.int .i64 (x1:Int)):=cX1
  have dA:W.drew.cell? ⟨w.heap.size+1,0,none⟩=some (.slice (some ⟨b,o,none⟩) l.length cp):=cA
  have v7:∀i,i<l.length->bc l i∈l:=fun i hi=>by
   unfold bc
   rw[List.getD_eq_getElem?_getD,List.getElem?_eq_getElem hi]
   exact List.getElem_mem hi
  have Tf:=mixed
  have PZ:=hA.1.sU
  have Rt:=G4 s hF (bc l x0).aZ x2 (bc l x1).aZ (hA.2 _ (v7 x0 BG)) (hA.2 _ (v7 x1 LR)) (mh (by omega))
  have hTW:jK Tryz.prog W (fun b=>b<w.heap.size) (.agg (ab s)) (.agg #[.slice Ag ng cg,.slice At nt ct]):=hT.frame (fun b hb=>hB.block b hb) (fun _ h=>h)
  have hAW:jK Tryz.prog W (fun b=>b<w.heap.size) (.sl (l.map aa)) (.slice (some ⟨b,o,none⟩) l.length cp):=hP.eH.frame (fun b hb=>hB.block b hb) (fun _ h=>h)
  obtain⟨fT,hT0,hT1⟩:∃f:Nat->Value,(∀j,j<(ab s).length->(#[Value.slice Ag ng cg,.slice At nt ct])[j]? =some (f j))/\∀j a,(ab s)[j]? =some a->jK Tryz.prog W (fun b=>b<w.heap.size) a (f j):=by
   cases hTW with
   |agg _ _ f _ _ h3 h4=>exact⟨f,h3,h4⟩
  have er:St Tryz.prog W.heap.size 42 (fun b=>b<w.heap.size) (G7 w.heap.size Bx) (Mp s l x0 x1 x2) ⟨Ll s l x0 x1,1⟩ {tmps:= #[.agg #[.slice Ag ng cg,.slice At nt ct],.agg #[.slice (some ⟨b,o,none⟩) l.length cp],.pointer (some ⟨w.heap.size,0,none⟩),.pointer (some ⟨w.heap.size+1,0,none⟩),.slice none 0 0,.pointer (some ⟨w.heap.size+1+1,0,none⟩),.pointer (some ⟨Bx,0,none⟩),.int .i64 x2,undef,.agg #[.slice (some ⟨b,o,none⟩) l.length cp],.func (.func 302) #[] #[.pointer (some ⟨w.heap.size+1+1+1,0,none⟩)],.agg #[.int .i64 (x0:Int),.int .i64 (x1:Int)],.int .i64 x2,undef,undef,undef,undef,undef,undef,undef,undef,undef,undef,undef,undef,undef,undef,undef,undef,undef,undef,undef,undef,undef,undef,undef,undef,undef,undef,undef,undef,undef],defers:=[]} W:=by
   have n1:(G7 w.heap.size Bx) ⟨1,0⟩=some ⟨w.heap.size,2,2,none⟩:=rfl
   have n2:(G7 w.heap.size Bx) ⟨2,0⟩=some ⟨w.heap.size+1,1,1,none⟩:=rfl
   have n3:(G7 w.heap.size Bx) ⟨3,0⟩=some ⟨w.heap.size+1+1,1,1,none⟩:=rfl
   have n4:(G7 w.heap.size Bx) ⟨4,0⟩=some ⟨Bx,2,2,none⟩:=rfl
   have n5:(G7 w.heap.size Bx) ⟨5,0⟩=some ⟨w.heap.size+1+1+1,1,1,none⟩:=rfl
   have rp:∀(id:Id) (B:r9),(G7 w.heap.size Bx) id=some B->B.k=none->cV Tryz.prog W (fun b=>b<w.heap.size) (G7 w.heap.size Bx) (.ptr id 0 0) (.pointer (some ⟨B.b,0,none⟩)):=fun id B h hk=>by
    have:=cV.ptr (P:=Tryz.prog) (w:=W) (D:=fun b=>b<w.heap.size) id 0 0 B h hk
    simpa using this
   have ri:∀n:Int,cV Tryz.prog W (fun b=>b<w.heap.size) (G7 w.heap.size Bx) (.int .i64 n) (.int .i64 n):=fun n=>.eH _ _ (.int _ _)
   have hA1:jK Tryz.prog W (fun b=>b<w.heap.size) (.agg [.sl (l.map aa)]) (.agg #[.slice (some ⟨b,o,none⟩) l.length cp]):=.agg _ _ (fun _=>.slice (some ⟨b,o,none⟩) l.length cp) rfl (fun a ha=>by simp at ha;rw[ha];rfl) (fun j hj=>by match j,hj with|0,_=>rfl|j+1,hj=>simp at hj) (fun j a ha=>by match j,ha with|0,ha=>simp at ha;subst ha;exact hAW|j+1,ha=>simp at ha)
   refine⟨⟨Nat.le_refl _,fun b hb=>Nat.lt_of_lt_of_le hb hB.size,fun id r hg=>?_,fun id ki r r' B B' h _ hw=>?_⟩,fun id hid=>?_,fun t=>?_,rfl⟩
   ·replace hg:Ll s l x0 x1 id=some r:=hg
    unfold Ll at hg
    split at hg
    ·rename_i e;subst e;injection hg with hg;subst hg
     exact⟨_,n1,De (cs:=ab s) rfl bT1 rfl rfl rfl (fun a ha=>by simp[ab]at ha;rcases ha with rfl|rfl<;>rfl) (fun j a ha=>⟨_,hT0 j (List.getElem?_eq_some_iff.1 ha).1,.eH _ _ (hT1 j a ha)⟩),fun h=>(by cases h),fun h=>(by cases h)⟩
    ·split at hg
     ·rename_i e;subst e;injection hg with hg;subst hg
      exact⟨_,n2,De (cs:=[.sl (l.map aa)]) rfl bA1 rfl rfl rfl (fun a ha=>by simp at ha;rw[ha];rfl) (fun j a ha=>by match j,ha with|0,ha=>simp at ha;subst ha;exact⟨_,rfl,.eH _ _ hAW⟩|j+1,ha=>simp at ha),fun h=>(by cases h),fun h=>(by cases h)⟩
     ·split at hg
      ·rename_i e;subst e;injection hg with hg;subst hg
       exact⟨_,n4,De (cs:=[.int .i64 (x0:Int),.int .i64 (x1:Int)]) rfl bX rfl rfl rfl (fun a ha=>by simp at ha;rcases ha with rfl|rfl<;>rfl) (fun j a ha=>by match j,ha with|0,ha=>simp at ha;subst ha;exact⟨_,rfl,ri _⟩|1,ha=>simp at ha;subst ha;exact⟨_,rfl,ri _⟩|j+2,ha=>simp at ha),fun h=>(by cases h),fun h=>(by cases h)⟩
      ·cases hg
   ·exfalso
    replace h:Ll s l x0 x1 id=some r:=h
    unfold Ll at h
    split at h
    ·injection h with h;subst h;cases hw
    ·split at h
     ·injection h with h;subst h;cases hw
     ·split at h
      ·injection h with h;subst h;cases hw
      ·cases h
   ·left
    unfold G7 at hid
    repeat' (split at hid)
    all_goals first|(rename_i e;subst e;exact Nat.zero_lt_one)|exact absurd rfl hid
   ·match t with
    |0=>exact .eH _ _ hTW
    |1=>exact .eH _ _ hA1
    |2=>exact rp _ _ n1 rfl
    |3=>exact rp _ _ n2 rfl
    |4=>exact .eH _ _ .bP
    |5=>exact rp _ _ n3 rfl
    |6=>exact rp _ _ n4 rfl
    |7=>exact ri _
    |8=>exact cV.undef
    |9=>exact .eH _ _ hA1
    |10=>exact .fn _ _ _ (fun _=>.pointer (some ⟨w.heap.size+1+1+1,0,none⟩)) (by kernel_rfl) rfl (fun j hj=>by match j,hj with|0,_=>rfl|j+1,hj=>simp at hj) (fun j a ha=>by match j,ha with|0,ha=>simp at ha;subst ha;exact rp _ _ n5 rfl|j+1,ha=>simp at ha)
    |11=>exact .agg _ _ (fun j=>if j=0 then .int .i64 (x0:Int)else .int .i64 (x1:Int)) rfl (fun a ha=>by simp at ha;rcases ha with rfl|rfl<;>rfl) (fun j hj=>by match j,hj with|0,_=>rfl|1,_=>rfl|j+2,hj=>simp at hj;omega) (fun j a ha=>by match j,ha with|0,ha=>simp at ha;subst ha;exact ri _|1,ha=>simp at ha;subst ha;exact ri _|j+2,ha=>simp at ha)
    |12=>exact ri _
    |13=>exact cV.undef
    |14=>exact cV.undef
    |15=>exact cV.undef
    |16=>exact cV.undef
    |17=>exact cV.undef
    |18=>exact cV.undef
    |19=>exact cV.undef
    |20=>exact cV.undef
    |21=>exact cV.undef
    |22=>exact cV.undef
    |23=>exact cV.undef
    |24=>exact cV.undef
    |25=>exact cV.undef
    |26=>exact cV.undef
    |27=>exact cV.undef
    |28=>exact cV.undef
    |29=>exact cV.undef
    |30=>exact cV.undef
    |31=>exact cV.undef
    |32=>exact cV.undef
    |33=>exact cV.undef
    |34=>exact cV.undef
    |35=>exact cV.undef
    |36=>exact cV.undef
    |37=>exact cV.undef
    |38=>exact cV.undef
    |39=>exact cV.undef
    |40=>exact cV.undef
    |41=>exact cV.undef
    |t+42=>exact cV.undef
  have hV:wpOps (Call Tryz.prog) true ?vl (fun e _=>e 5=.ptr ⟨3,0⟩ 0 0/\e 6=.ptr ⟨4,0⟩ 0 0/\e 8=.int .i64 (gD s (bc l x0).aZ x2 (bc l x1).aZ)) (Mp s l x0 x1 x2) ⟨Ll s l x0 x1,1⟩:= ?hv
  gi_wp2
  refine yY mixed (rrE (nt:=42) (site0:=205005000)) (Ij (by kernel_rfl)) (mB (fun _ _ _ _ h=>gP mixed h) pd (fun _ _ h=>h) _ _ _ hV) er ?_
  rintro e1 σ1 ⟨tm,df⟩ w3 D1 ι1 ⟨h5,h6,h8⟩ T1 Me Cx
  case hv=>
   refine C3 ?_
   have e0:=fH BG
   have e1:=fH LR
   (repeat(first|((repeat(revert hN;revert N;apply Pn.out));refine wk (tw @e0 (tw @e1 (tw @Mp.eq_1 (tw @Ll.eq_1 (tw @aa.eq_1 @ab.eq_1))))) ?_;(repeat(refine Pn.mk ?_;intro N hN)))|((try apply Or.inl);refine⟨_,ak.x (Rt) (sd (tw @e0 (tw @e1 (tw @Mp.eq_1 (tw @Ll.eq_1 (tw @aa.eq_1 @ab.eq_1)))))),?_⟩;refine hN _ _ ?_;clear hN N)))
   exact⟨sd @Mp.eq_1,sd @Mp.eq_1,sd @Mp.eq_1⟩
  ·have Ah:Below W.heap.size W w3:=T1.below
   have HI:∀id B,G7 w.heap.size Bx id=some B->ι1 id=some B:=T1.names
   have p5:tm.getD 5 undef=.pointer (some ⟨w.heap.size+1+1,0,none⟩):=by
    have g:=Me.env 5
    rw[h5]at g
    obtain⟨B,e,hB,_⟩:=je g
    have h:=HI ⟨3,0⟩ ⟨w.heap.size+1+1,1,1,none⟩ rfl
    rw[h]at hB;injection hB with hB;subst hB
    simpa using e
   have p6:tm.getD 6 undef=.pointer (some ⟨Bx,0,none⟩):=by
    have g:=Me.env 6
    rw[h6]at g
    obtain⟨B,e,hB,_⟩:=je g
    have h:=HI ⟨4,0⟩ ⟨Bx,2,2,none⟩ rfl
    rw[h]at hB;injection hB with hB;subst hB
    simpa using e
   have p8:tm.getD 8 undef=.int .i64 (gD s (bc l x0).aZ x2 (bc l x1).aZ):=by
    have g:=Me.env 8
    rw[h8]at g
    exact dh g
   have fb:=Me.size
   obtain⟨tl⟩:=tm
   obtain⟨f,RP,hf⟩:∃f:Nat->Value,tl=[f 0,f 1,f 2,f 3,f 4,f 5,f 6,f 7,f 8,f 9,f 10,f 11,f 12,f 13,f 14,f 15,f 16,f 17,f 18,f 19,f 20,f 21,f 22,f 23,f 24,f 25,f 26,f 27,f 28,f 29,f 30,f 31,f 32,f 33,f 34,f 35,f 36,f 37,f 38,f 39,f 40,f 41]/\∀i,f i=(⟨tl⟩:Array Value).getD i undef:=by
    refine⟨fun i=>(⟨tl⟩:Array Value).getD i undef,?_,fun _=>rfl⟩
    have h:=H7 tl undef
    rw[show tl.length=42 from fb]at h
    exact h
   rw[<-hf]at p5 p6 p8
   have SQ:df=[]:=Cx
   subst SQ
   clear hf Me er hV
   subst RP
   rw[p5,p6,p8]
   have RS:=hv.kept (grown_of Ah) (by simp)
   have Ef:=fV.kept (grown_of Ah) (by rcases fV.2 with⟨e,_⟩|⟨_,_,_,e,_⟩<;>rw[e]<;>simp[Value.ownBlock])
   have hc3:=RS.cell
   have hn3:w.heap.size<=w3.heap.size:=Nat.le_trans hB.size Ah.size
   have eX0:w3.cell? ⟨Bx,0,none⟩=some (.int .i64 (x0:Int)):=(Ah.cell (p:=⟨Bx,0,none⟩) (Array.getElem?_eq_some_iff.1 bX).1).trans cX0
   have eX1:w3.cell? ⟨Bx,1,none⟩=some (.int .i64 (x1:Int)):=(Ah.cell (p:=⟨Bx,1,none⟩) (Array.getElem?_eq_some_iff.1 bX).1).trans cX1
   have mZ:(mT s l pre).length<=2097152:=by
    have h1:=G2 s l pre
    have h2:=AZ l l.length
    omega
   have hKF:KeepsFrom (w.heap.size+4) W w3:=⟨Ah.size,fun k o _ hk _=>(Ah.block k (Array.getElem?_eq_some_iff.1 hk).1).trans hk⟩
   have hKT:gO w.heap.size W w3:=gO.of Ah
   have Sb:w3.heap[w.heap.size+1]? = _:=(Ah.block _ bA1.lt).trans bA1
   have Sc:=(Ah.block _ (Array.getElem?_eq_some_iff.1 bT1).1).trans bT1
   by_cases jZ:0<gD s (bc l x0).aZ x2 (bc l x1).aZ
   ·have rH:mT s l (pre++[⟨(x0,x1,x2),BG,LR,zx⟩])=mT s l pre++[⟨x0,x1,gD s (bc l x0).aZ x2 (bc l x1).aZ⟩]:=by
     rw[wK];simp only[xR,if_pos jZ]
    gi_wp2_with (gi_at_builtin;refine wpListIn_append_own _ rfl _ _ 179 rfl w.heap.size 254 i0 (.agg #[.int .i64 0,.int .i64 0,.int .i64 0]) 3 24 (by kernel_rfl) hi GF xf kK rfl (by decide) _ _ _ rfl (Ef.alloc _) ⟨w3.heap.size,0,none⟩ 1 1 [.int .i64 (x0:Int),.int .i64 (x1:Int),.int .i64 (gD s (bc l x0).aZ x2 (bc l x1).aZ)] rfl rfl (ua _ _ _ _ _) (by simp[Value.oneCell']) (by unfold maxLen;omega) (by omega) (by simp;omega) ?_;intro v' w4 LJ Eb _;obtain⟨g',cap',rfl⟩:=ownsRow_succ LJ;obtain⟨xe,NC,Fv,sZ,Gz⟩:=RS.appended (by decide) Ef hn3 (by omega) LJ Eb;have J8:=gO.app RS Ef Eb Gz;have o6:=xe.cell;have PW:=xe.frozen)
    exact⟨hKF.trans (sZ.from _),hKT.trans J8,⟨⟨_,NC,by rw[rH,G1,List.length_append];exact Fv,by rw[rH];simp⟩,(J8.2.1 _ _ _ _ Sb (by decide) (by decide)).trans Sb,(J8.2.1 _ _ _ _ Sc (by decide) (by decide)).trans Sc⟩,hB.trans ((Ah.mono hB.size).trans Gz)⟩
   ·have rH:mT s l (pre++[⟨(x0,x1,x2),BG,LR,zx⟩])=mT s l pre:=by
     rw[wK];simp only[xR,if_neg jZ,List.append_nil]
    gi_wp2
    exact⟨hKF,hKT,⟨⟨v,RS,by rw[rH];exact Ef,by rw[rH];exact hnil⟩,Sb,Sc⟩,hB.trans (Ah.mono hB.size)⟩
 case done=>
  rintro D ys W hD Ei ⟨⟨⟨v,hv,fV,hnil⟩,_⟩,hB⟩ hK
  have hc:=hv.cell
  have Jf:mT s l ys=cL s l:=by rw[G6,<-Ei];rfl
  rw[Jf]at fV hnil
  gi_wp2
  refine⟨by simp,.inl ⟨_,_,rfl,run_takeDeferred hK,?_⟩⟩
  exact⟨_,results_tmp rfl _ _ _,v,rfl,ownsRow_putObj fV _ hK rfl,hnil,hB.trans (belowK_b (w:=w) (Nat.le_refl _) W D _ _ (by omega) hK rfl rfl)⟩
 case stop=>
  rintro D c pre W _ _ h _
  exact h.elim
end Go.Proofs.YtgoljkjaameagaaGreat.V

namespace Go.Proofs.YtgoljkjaameagaaGreat.V
open Go.RowKit Go.Shelf
theorem DN:∀{bs:List PB} {i j:Nat} {b:PB},bs[i]? =some b->j<3->(JH bs)[i*3+j]? =([.int .i64 b.a,.int .i64 b.b,.int .i64 b.s]:List Value)[j]?
 |c::bs,0,j,b,h,hj=>by
  simp at h;subst h
  simp only[JH,List.flatMap_cons,Nat.zero_mul,Nat.zero_add]
  rw[List.getElem?_append_left (by simpa using hj)]
 |c::bs,i+1,j,b,h,hj=>by
  simp only[List.getElem?_cons_succ]at h
  have:=DN (bs:=bs) (i:=i) (j:=j) h hj
  simp only[JH,List.flatMap_cons]at this ⊢
  rw[List.getElem?_append_right (by simp;omega),<-this]
  congr 1
  simp;omega
theorem qq {P:Program} {w:World} {D:Nat->Prop} {rows:List (List AV)} {v:Value} (h:jK P w D (.sl rows) v):∃A n c,v=.slice A n c:=by
 cases h with
 |BI a c _=>exact⟨_,_,_,rfl⟩
 |sl=>exact⟨_,_,_,rfl⟩
theorem pP {P:Program} {w:World} {D:Nat->Prop} {ι:Names} {rows:List (List AV)} {v:Value} (h:cV P w D ι (.sl rows) v):jK P w D (.sl rows) v:=by
 cases h with
 |eH _ _ h=>exact h
theorem KP {P:Program} {w:World} {D:Nat->Prop} {l:List ad} {v:Value} (h:jK P w D (.sl (l.map aa)) v):oO w v l:=by
 generalize hr:l.map aa=rows at h
 cases h with
 |BI a c hc=>
  have:l=[]:=by simpa using hr
  subst this
  exact⟨a,c,rfl,⟨Nat.zero_le _,hc⟩,.inl rfl⟩
 |sl _ b o n c sz vs h1 h2 h3 h4 h5 h5' h6 h7=>
  have hn:n=l.length:=by rw[<-h1,<-hr];simp
  subst hn
  refine⟨some ⟨b,o,none⟩,c,rfl,⟨h2,h3⟩,?_⟩
  by_cases hl:l=[]
  ·exact .inl hl
  refine .inr ⟨b,o,rfl,fun i hi=>?_⟩
  have hg:rows[i]? =some (aa (bc l i)):=by rw[<-hr];exact fH hi
  have fb:sz=3:=by rw[<-h5 _ (List.mem_of_getElem? hg)];rfl
  subst fb
  have k:∀(j:Nat) (x:Int),(aa (bc l i))[j]? =some (.int .i64 x)->j<3->w.cell? ⟨b,o+(i*3+j),none⟩=some (.int .i64 x):=fun j x hj h3=>by
   have:=h7 i j _ _ hg hj
   rw[h6 i j hi h3,dh (.eH (ι:=fun _=>none) _ _ this)]
  exact⟨k 0 _ rfl (by omega),k 1 _ rfl (by omega),k 2 _ rfl (by omega)⟩
theorem Mo:BJ:=by
 intro s l hS hA n
 refine gr ?_
 intro hs D ι w vs S U A
 obtain⟨u0,RQ,r0⟩:=A.2 0 _ rfl
 obtain⟨u1,Jq,r1⟩:=A.2 1 _ rfl
 have dV:∀b,D b->b<w.heap.size:=S.dead
 obtain⟨v0,f0,rfl,GF,_,Rx,Tw⟩:=iA r0
 obtain⟨v1,f1,rfl,xf,_,PW,Qm⟩:=iA r1
 have g0:=pP (Tw 0 _ rfl)
 have g1:=pP (Tw 1 _ rfl)
 have a0:=pP (Qm 0 _ rfl)
 obtain⟨Ag,ng,cg,eg⟩:=qq g0
 obtain⟨At,nt,ct,et⟩:=qq g1
 have e0:v0= #[.slice Ag ng cg,.slice At nt ct]:=by
  obtain⟨vl⟩:=v0
  have q0:=Rx 0 (by simp[ab])
  have q1:=Rx 1 (by simp[ab])
  rw[eg]at q0;rw[et]at q1
  match vl,GF with
  |[a,b],_=>simp at q0 q1;rw[q0,q1]
 have e1:v1= #[f1 0]:=by
  obtain⟨vl⟩:=v1
  have q0:=PW 0 (by simp)
  match vl,xf with
  |[a],_=>simp at q0;rw[q0]
 subst e0 e1
 have evs:vs= #[.agg #[.slice Ag ng cg,.slice At nt ct],.agg #[f1 0]]:=by
  obtain⟨vl⟩:=vs
  have hz:=A.1
  match vl,hz with
  |[a,b],_=>simp at RQ Jq;rw[RQ,Jq]
 subst evs
 have up:∀{a v},jK Tryz.prog w D a v->jK Tryz.prog w (fun b=>b<w.heap.size) a v:=fun h=>h.frame (fun _ _=>rfl) dV
 have hT:jK Tryz.prog w (fun b=>b<w.heap.size) (.agg (ab s)) (.agg #[.slice Ag ng cg,.slice At nt ct]):=
  .agg _ _ f0 GF (fun a ha=>by simp[ab]at ha;rcases ha with rfl|rfl<;>rfl) Rx (fun j a ha=>by
   match j,ha with
   |0,ha=>simp[ab]at ha;subst ha;exact up g0
   |1,ha=>simp[ab]at ha;subst ha;exact up g1
   |j+2,ha=>simp[ab]at ha)
 refine(callsIn_wide.1 (G5 s l hS.form hA w Ag At ng cg nt ct (f1 0) hT (KP a0))).mono ?_
 rintro e W' ⟨v,rfl,⟨hl,hown⟩,hnil,hB⟩
 have S':gp Tryz.prog hs D ι (fun _=>none) W':=S.stay (fun b hb=>hB.block b hb) hB.size (fun _ h=>h) (fun b hb=>Nat.lt_of_lt_of_le (dV b hb) hB.size) (fun _ h=>.inl h) (fun _ _ h=>h)
 have T:Step hs D ι w D ι W':=Step.stay S (fun b hb=>hB.block b hb) hB.size hB.os hB.tape hB.output (fun _ h=>h) (fun _ h=>.inl h) (fun _ _ h=>h)
 rcases hown with⟨rfl,h0⟩|⟨gb,cap,cur,rfl,P3,hblk,hle,Hu,di,nq⟩
 ·have PM:cL s l=[]:=hnil.1 rfl
  exact⟨.bP,_,n,D,ι,_,rfl,⟨.bP,iV _ _,by rw[PM];rfl⟩,T,S',U,Nat.le_refl _,.eH _ _ .bP⟩
 ·have PM:cL s l≠[]:=fun h=>by have:=hnil.2 h;cases this
  have jY:ι ⟨0,n⟩=none:=fresh U (fun h=>h)
  have gH:∀{a v},cV Tryz.prog W' D ι a v->cV Tryz.prog W' D (kF ι ⟨0,n⟩ ⟨gb,3,cap*3,none⟩) a v:=fun h=>h.frame (fun _ _=>rfl) (fun _ h=>h) (fZ jY)
  have hR:iq Tryz.prog W' D (kF ι ⟨0,n⟩ ⟨gb,3,cap*3,none⟩) ⟨gb,3,cap*3,none⟩ ⟨true,3,(cL s l).map aw⟩:=by
   refine kT.obj ⟨rfl,⟨cur,_,hblk,di⟩,?_,fun cs hc=>?_,fun cs hc a ha=>?_,fun i j cs a hi hj=>?_⟩ rfl
   ·simp only[List.length_map];exact Nat.mul_le_mul_right 3 hle
   ·obtain⟨b,_,rfl⟩:=List.mem_map.1 hc;rfl
   ·obtain⟨b,_,rfl⟩:=List.mem_map.1 hc
    simp[aw]at ha
    rcases ha with rfl|rfl|rfl<;>rfl
   ·rw[List.getElem?_map]at hi
    simp only[Option.map_eq_some_iff]at hi
    obtain⟨b,hb,rfl⟩:=hi
    have hj3:j<3:=by have:=(List.getElem?_eq_some_iff.1 hj).1;simpa[aw]using this
    have o7:=(List.getElem?_eq_some_iff.1 hb).1
    have hg:=DN hb hj3
    rw[<-nq,List.getElem?_take,if_pos (by omega)]at hg
    have key:∀x:Value,([.int .i64 b.a,.int .i64 b.b,.int .i64 b.s]:List Value)[j]? =some x->W'.cell? ⟨gb,i*3+j,none⟩=some x:=fun x hx=>by
     rw[hx]at hg
     have e:W'.cell? ⟨gb,i*3+j,none⟩=cur[i*3+j]? :=by
      unfold World.cell?
      rw[show W'.heap[(⟨gb,i*3+j,none⟩:Addr).block]? = _ from hblk]
      rfl
     rw[e,<-Array.getElem?_toList];exact hg
    match j,hj with
    |0,hj=>simp[aw]at hj;subst hj;exact⟨_,key _ rfl,.eH _ _ (.int _ _)⟩
    |1,hj=>simp[aw]at hj;subst hj;exact⟨_,key _ rfl,.eH _ _ (.int _ _)⟩
    |2,hj=>simp[aw]at hj;subst hj;exact⟨_,key _ rfl,.eH _ _ (.int _ _)⟩
    |j+3,hj=>simp[aw]at hj
  have S2:=gp.add (r:=⟨true,3,(cL s l).map aw⟩) S S' jY P3 hR
  refine⟨.own ⟨0,n⟩ 0 (cL s l).length,bH (fun _=>none) ⟨0,n⟩ ⟨true,3,(cL s l).map aw⟩,n+1,D,kF ι ⟨0,n⟩ ⟨gb,3,cap*3,none⟩,_,rfl,⟨zb (cL s l),?_,rfl⟩,T.trans (Step.stay S' (fun _ _=>rfl) (Nat.le_refl _) rfl rfl rfl (fun _ h=>h) (fun _ h=>.inl h) (fZ jY)),S2,U.upd.next,Nat.le_succ _,.own _ _ _ _ _ _ (ep _ _ _) rfl hle (.inr (by simp)) (by simp) Hu⟩
  unfold zb
  rw[if_neg PM]
  have hg:(bH (fun _=>none) (⟨0,n⟩:Id) ⟨true,3,(cL s l).map aw⟩:Rows) ⟨0,n⟩=some ⟨true,3,(cL s l).map aw⟩:=by simp[bH]
  have:=eS (n:=5) hg rfl fun b=>tj _ 4 b
  simpa using this
end Go.Proofs.YtgoljkjaameagaaGreat.V

namespace Go.Proofs.YtgoljkjaameagaaGreat.V
open Go.RowKit
attribute [local irreducible] dL wpOps fu Call
attribute [local go_sem] az eQ ec eY eW cJ upd bJ K.av b4 AV.cells AV.cell rowOf rowsOf part ld rowAt bH bG cX dr fR bo cE dD e6 eF cQ dx cC cz db dc br aJ ck bq cq cm dv dy dw cj bx cD dt bp aA cu bQ fQ bd bY bt aH cW aX cY AV.undef bj bl de dn da dj bV dC dE bK dB dz cr cw List.getD_cons_zero List.getD_cons_succ List.getD_nil List.all_cons List.all_nil Bool.and_true Bool.true_and Bool.and_self Bool.not_true Bool.not_false Option.map_some Option.map_none Option.bind_some Option.bind_none List.length_cons List.length_nil List.take_succ_cons List.take_zero List.take_nil List.drop_succ_cons List.drop_zero List.drop_nil List.head?_cons List.map_cons List.map_nil List.getElem?_cons_zero List.getElem?_cons_succ List.cons_append List.nil_append List.append_nil List.length_map List.set_cons_zero List.set_cons_succ Nat.reduceMul eq_self Int.toNat_natCast Int.natCast_nonneg and_self true_and and_true decide_true decide_false Bool.false_eq_true Nat.zero_add Nat.add_zero List.contains_cons List.contains_nil Bool.or_false Bool.false_or beq_self_eq_true Nat.reduceBEq ne_eq not_true_eq_false not_false_eq_true Id.mk.injEq false_and and_false Nat.reduceLT Int.reduceLE Int.reduceLT Int.reduceToNat Int.reduceNeg Int.reduceAdd Nat.le_refl List.length_append beq_true beq_false Bool.not_eq_eq_eq_not or_false false_or dd ae ai ay bh bD aG aM aD aL bZ bm
theorem KG (lb:List ad) (hb:jm lb) (t:ad):ak Tryz.prog 243 [.agg (aa t),.cN [.sl (lb.map aa)]] (.bool (!decide (iE lb t.aW=t.aZ))):=by
 refine ak.body eb rfl fun hl n0=>?_
 clear hl
 have h:=Mm lb t.aW hb.zz (by have:=hb.sU;omega)
 (repeat(first|((repeat(revert hN;revert N;apply Pn.out));refine wk (tw @aa.eq_1 @aj.eq_1) ?_;(repeat(refine Pn.mk ?_;intro N hN)))|((try apply Or.inl);refine⟨_,ak.x (h) (sd (tw @aa.eq_1 @aj.eq_1)),?_⟩;refine hN _ _ ?_;clear hN N)))
 exact aQ (b:= !decide (iE lb t.aW=t.aZ)) (.inl rfl) (sd @Nat.zero_add) (by simp)
theorem BQ (la lb:List ad) (ha:jm la) (hb:jm lb):ak Tryz.prog 172 [.agg [.sl (la.map aa)],.agg [.sl (lb.map aa)]] (.bool (jI la lb)):=by
 refine ak.body eb rfl fun hl n0=>?_
 clear hl
 have h1:=rF la
 have h2:=rF lb
 rw[rC.2 ha]at h1
 rw[rC.2 hb]at h2
 have h3:ak Tryz.prog 201 [.sl (la.map aa),.fn 243 [.cN [.sl (lb.map aa)]]] (.bool (la.any fun t=> !decide (iE lb t.aW=t.aZ))):=
  kc pw (show lx Tryz.prog 201=some (ym 201 247) by kernel_rfl)
   (show lx Tryz.prog 247=some (pH 247 3 true) by kernel_rfl) la (by have:=ha.sU;omega) _ _ _ rfl (fun g=>by rw[ae,aD,ai];rfl) (fun x _=>KG lb hb x) fun g=>by rw[ae,aD,ai];rfl
 (repeat(first|((repeat(revert hN;revert N;apply Pn.out));refine wk @Nat.zero_add ?_;(repeat(refine Pn.mk ?_;intro N hN)))|((try apply Or.inl);refine⟨_,ak.x (h1) (sd @Nat.zero_add),?_⟩;refine hN _ _ ?_;clear hN N)|((try apply Or.inl);refine⟨_,ak.x (h2) (sd @Nat.zero_add),?_⟩;refine hN _ _ ?_;clear hN N)|((try apply Or.inl);refine⟨_,ak.x (h3) (sd @Nat.zero_add),?_⟩;refine hN _ _ ?_;clear hN N)))
 exact aQ (b:= !(la.any fun t=> !decide (iE lb t.aW=t.aZ))) (.inl rfl) (sd @Nat.zero_add) (by rw[DK];rfl)
theorem yj (s:aU) (l:List ad) (hn:fm s.aV) (hm:oY s) (hl:l.length<=1048576):ak Tryz.prog 82 [.agg (ao s),.agg [.sl (l.map aa)]] (.int .i64 (if p4 s l then 0 else 1)):=by
 refine ak.body eb rfl fun nP n0=>?_
 clear nP
 have h1:=vK Mo s hn hm.s.g hm.s.t hm.s.s hm.a
 have h2:=mH s.aV l hn hm.s.g hm.s.t hm.s.s hl
 cases b1:mv s
 ·rw[b1]at h1
  rw[ao]at h1 ⊢
  (repeat(first|((repeat(revert hN;revert N;apply Pn.out));refine wk @Nat.zero_add ?_;(repeat(refine Pn.mk ?_;intro N hN)))|((try apply Or.inl);refine⟨_,ak.x (h1) (sd @Nat.zero_add),?_⟩;refine hN _ _ ?_;clear hN N)))
  exact bL (b:=1) (.inl rfl) (sd @Nat.zero_add) (by simp[p4,b1])
 have eo:pQ s.aV=true:=lR.2 (vh.1 b1).set
 rw[b1]at h1
 rw[eo,Bool.true_and]at h2
 rw[ao]at h1 ⊢
 rw[ab]at h2
 cases b2:oQ s.aV l
 ·rw[b2]at h2
  (repeat(first|((repeat(revert hN;revert N;apply Pn.out));refine wk @Nat.zero_add ?_;(repeat(refine Pn.mk ?_;intro N hN)))|((try apply Or.inl);refine⟨_,ak.x (h1) (sd @Nat.zero_add),?_⟩;refine hN _ _ ?_;clear hN N)|((try apply Or.inl);refine⟨_,ak.x (h2) (sd @Nat.zero_add),?_⟩;refine hN _ _ ?_;clear hN N)))
  exact bL (b:=1) (.inl rfl) (sd @Nat.zero_add) (by simp[p4,b1,b2])
 ·rw[b2]at h2
  (repeat(first|((repeat(revert hN;revert N;apply Pn.out));refine wk @Nat.zero_add ?_;(repeat(refine Pn.mk ?_;intro N hN)))|((try apply Or.inl);refine⟨_,ak.x (h1) (sd @Nat.zero_add),?_⟩;refine hN _ _ ?_;clear hN N)|((try apply Or.inl);refine⟨_,ak.x (h2) (sd @Nat.zero_add),?_⟩;refine hN _ _ ?_;clear hN N)))
  exact bL (b:=0) (.inl rfl) (sd @Nat.zero_add) (by simp[p4,b1,b2])
theorem yD (s:aU) (l:List ad) (hn:fm s.aV) (hm:oY s) (hl:l.length<=1048576):ak Tryz.prog 115 [.agg (ao s),.agg [.sl (l.map aa)]] (.int .i64 (iM s l)):=by
 refine ak.body eb rfl fun nP n0=>?_
 clear nP
 have h1:=yj s l hn hm hl
 cases b:p4 s l
 ·rw[b]at h1
  rw[ao]at h1 ⊢
  (repeat(first|((repeat(revert hN;revert N;apply Pn.out));refine wk @Nat.zero_add ?_;(repeat(refine Pn.mk ?_;intro N hN)))|((try apply Or.inl);refine⟨_,ak.x (h1) (sd @Nat.zero_add),?_⟩;refine hN _ _ ?_;clear hN N)))
  exact bL (b:=1) (.inl rfl) (sd @Nat.zero_add) (by simp[iM,b])
 obtain⟨hP,hA⟩:=p7.1 b
 have h2:=BQ s.bf.ah l hP.s8.1 hA.1
 rw[b]at h1
 rw[ao]at h1 ⊢
 cases b2:jI s.bf.ah l
 ·rw[b2]at h2
  (repeat(first|((repeat(revert hN;revert N;apply Pn.out));refine wk @Nat.zero_add ?_;(repeat(refine Pn.mk ?_;intro N hN)))|((try apply Or.inl);refine⟨_,ak.x (h1) (sd @Nat.zero_add),?_⟩;refine hN _ _ ?_;clear hN N)|((try apply Or.inl);refine⟨_,ak.x (h2) (sd @Nat.zero_add),?_⟩;refine hN _ _ ?_;clear hN N)))
  exact bL (b:=2) (.inl rfl) (sd @Nat.zero_add) (by simp[iM,b,b2])
 ·rw[b2]at h2
  (repeat(first|((repeat(revert hN;revert N;apply Pn.out));refine wk @Nat.zero_add ?_;(repeat(refine Pn.mk ?_;intro N hN)))|((try apply Or.inl);refine⟨_,ak.x (h1) (sd @Nat.zero_add),?_⟩;refine hN _ _ ?_;clear hN N)|((try apply Or.inl);refine⟨_,ak.x (h2) (sd @Nat.zero_add),?_⟩;refine hN _ _ ?_;clear hN N)))
  exact bL (b:=0) (.inl rfl) (sd @Nat.zero_add) (by simp[iM,b,b2])
def resS (s:aU) (a:List ad):aU:=⟨s.aV,⟨a⟩,s.aB⟩
structure RepP (s:aU) (r a:List ad):Prop where
 sys:BT s
 right:gN s.aV r
 asm:gN s.aV a
 wr:jI s.bf.ah r=true
 wa:jI s.bf.ah a=true
def InM (X:Id) (st:BO) (e7:AV) (g:Rows) (n:Nat):Prop:=∃o u:Id,g X=some ⟨true,1,[[.own o 0 st.2.length]]⟩/\g o=some ⟨true,3,st.2.map aa⟩/\e7=.own u 0 st.1.length/\g u=some ⟨true,3,st.1.map aa⟩/\(o=u->False)/\(X=u->False)/\u.bW<n/\(X=o->False)/\o.bW<n/\X.bW<n
end Go.Proofs.YtgoljkjaameagaaGreat.V

namespace Go.Proofs.YtgoljkjaameagaaGreat.V
open Go.RowKit
theorem JE {s:aq} {l m:List ad} (hA:gN s l) (hR:ji m) (hm:∀x∈m,x∈l) (hlen:m.length<=l.length):gN s m:=by
 refine⟨⟨Nat.le_trans hlen hA.1.sU,fun i hi=>?_⟩,fun t ht=>hA.2 t (hm t ht)⟩
 obtain⟨j,hj,gC⟩:=List.getElem_of_mem (hm _ (iy hi))
 have h1:=hA.1.ok j hj
 rw[Bw,ee hj,gC]at h1
 exact⟨h1.1,h1.2.1,fun h0=>hR _ _ (by omega) hi⟩
def NV (s:aU) (x:ad):Bool:=decide (iE s.bf.ah x.aW=x.aZ)
theorem NG {a:List ad} (h:ji a) {i:Nat} (hi:i<a.length):eG a a[i].aW=i:=by
 have h0:0<=eG a a[i].aW:=by
  rcases Int.lt_or_le (eG a a[i].aW) 0 with h0|h0
  ·exact absurd rfl (Ay.1 h0 a[i] (List.getElem_mem hi))
  ·exact h0
 obtain⟨h1,h2⟩:=me h0
 have h3:(eG a a[i].aW).toNat=i:=by
  rcases Nat.lt_trichotomy (eG a a[i].aW).toNat i with h4|h4|h4
  ·have:=h _ _ h4 hi
   rw[h2,ee hi,iz]at this;cases this
  ·exact h4
  ·have:=h _ _ h4 h1
   rw[h2,ee hi,iz]at this;cases this
 omega
theorem BW {a:List ad} (h:ji a) {x:ad} (hx:x∈a):iE a x.aW=x.aZ:=by
 obtain⟨i,hi,rfl⟩:=List.getElem_of_mem hx
 unfold iE
 rw[NG h hi,if_pos (by omega),Int.toNat_natCast,ee hi]
end Go.Proofs.YtgoljkjaameagaaGreat.V

namespace Go.Proofs.YtgoljkjaameagaaGreat.V
open Go.RowKit
attribute [local irreducible] dL wpOps fu Call
attribute [local go_sem] az eQ ec eY eW cJ upd bJ K.av b4 AV.cells AV.cell rowOf rowsOf part ld rowAt bH bG cX dr fR bo cE dD e6 eF cQ dx cC cz db dc br aJ ck bq cq cm dv dy dw cj bx cD dt bp aA cu bQ fQ bd bY bt aH cW aX cY AV.undef bj bl de dn da dj bV dC dE bK dB dz cr cw List.getD_cons_zero List.getD_cons_succ List.getD_nil List.all_cons List.all_nil Bool.and_true Bool.true_and Bool.and_self Bool.not_true Bool.not_false Option.map_some Option.map_none Option.bind_some Option.bind_none List.length_cons List.length_nil List.take_succ_cons List.take_zero List.take_nil List.drop_succ_cons List.drop_zero List.drop_nil List.head?_cons List.map_cons List.map_nil List.getElem?_cons_zero List.getElem?_cons_succ List.cons_append List.nil_append List.append_nil List.length_map List.set_cons_zero List.set_cons_succ Nat.reduceMul eq_self Int.toNat_natCast Int.natCast_nonneg and_self true_and and_true decide_true decide_false Bool.false_eq_true Nat.zero_add Nat.add_zero List.contains_cons List.contains_nil Bool.or_false Bool.false_or beq_self_eq_true Nat.reduceBEq ne_eq not_true_eq_false not_false_eq_true Id.mk.injEq false_and and_false Nat.reduceLT Int.reduceLE Int.reduceLT Int.reduceToNat Int.reduceNeg Int.reduceAdd Nat.le_refl List.length_append beq_true beq_false Bool.not_eq_eq_eq_not or_false false_or dd ae ai ay bh bD aG aM aD aL bZ bm
theorem yE (s:aU) (hA:gN s.aV s.bf.ah) (x:ad):ak Tryz.prog 245 [.agg (ao s),.agg (aa x)] (.bool (NV s x)):=by
 refine ak.body eb rfl fun hl n0=>?_
 clear hl
 have h:=Mm s.bf.ah x.aW hA.1.zz (by have:=hA.1.sU;omega)
 rw[aj]at h
 (repeat(first|((repeat(revert hN;revert N;apply Pn.out));refine wk (tw @ao.eq_1 @aa.eq_1) ?_;(repeat(refine Pn.mk ?_;intro N hN)))|((try apply Or.inl);refine⟨_,ak.x (h) (sd (tw @ao.eq_1 @aa.eq_1)),?_⟩;refine hN _ _ ?_;clear hN N)))
 exact aQ (b:=decide (iE s.bf.ah x.aW=x.aZ)) (.inl rfl) (sd @Nat.zero_add) rfl
def GrQ (L:List aP) (v:AV) (g:Rows) (n:Nat):Prop:=(L=[]/\v=.bP)∨∃u:Id,v=.own u 0 L.length/\g u=some ⟨true,2,L.map aj⟩/\u.bW<n/\0<L.length/\u.site=177006004
theorem yJ (l:List ad) (k:Nat) (hk:k<l.length) (hl:l.length<=1048576) (n0:Nat):Call Tryz.prog 176 [.cN [.sl (l.map aa)],.int .i64 k] ⟨fun _=>none,n0⟩ (Jw n0 (l.eraseIdx k)):=by
 refine tK Mr rfl fun nP=>?_
 try simp only[q]
 clear nP
 have gR:(l.map aa).length=l.length:=by simp
 have dH:∀m:List ad,(m.map aa).all (fun c=>c.length==3&&c.all AV.cell)=true:=fun m=>all_map fun x=>⟨rfl,rfl⟩
 have tu:(0:Int)<=(k:Int):=by omega
 have tx:(k:Int)<=(l.length:Int):=by omega
 have sZ:(k:Int)+1<=(l.length:Int):=by omega
 have hw:IntKind.i64.wrap ((k:Int)+1)=((k+1:Nat):Int):=ax (by omega)
 have S9:(0:Int)<=((k+1:Nat):Int):=by omega
 have hk4:((k+1:Nat):Int)<=(l.length:Int):=by omega
 have ht:(l.map aa).take k=(l.take k).map aa:=List.map_take.symm
 have hd:(l.map aa).drop (k+1)=(l.drop (k+1)).map aa:=List.map_drop.symm
 have OK:=dH (l.take k)
 have SJ:=dH (l.drop (k+1))
 have hc3:=eq_true (show ∀cs:List AV,cs∈l.map aa->cs.length=3 from fun cs di=>by
  obtain⟨x,_,rfl⟩:=List.mem_map.1 di
  rfl)
 have Fv:((l.drop (k+1)).map aa).take (l.length-(k+1))=(l.drop (k+1)).map aa:=List.take_of_length_le (by simp)
 have Te:((l.drop (k+1)).map aa).length=l.length-(k+1):=by simp
 have Gz:k+(l.length-(k+1))<=16777216:=by omega
 have hes:(l.eraseIdx k).length=k+(l.length-(k+1)):=by rw[List.length_eraseIdx,if_pos hk];omega
 have hem:(l.eraseIdx k).map aa=(l.take k).map aa++(l.drop (k+1)).map aa:=by rw[List.eraseIdx_eq_take_drop_succ,List.map_append]
 have Td:(l.take k).length=k:=by rw[List.length_take];omega
 have hln2:(l.drop (k+1)).length=l.length-(k+1):=by simp
 have hc4:(List.map aa (List.take k l)).length=k:=by rw[List.length_map,Td]
 have Gy:k<=16777216:=by omega
 (try((repeat(revert hN;revert N;apply Pn.out));refine wk (tw @gR (tw @hc3 (tw @Nat.sub_zero (tw @Fv (tw @Te (tw @Gz (tw @hc4 (tw @Gy (tw @tu (tw @tx (tw @sZ (tw @S9 (tw @hk4 (tw @hw (tw @ht (tw @hd (tw @OK @SJ))))))))))))))))) ?_;(repeat(refine Pn.mk ?_;intro N hN))))
 exact fI (.inl rfl) (vs:=[.agg [.own ⟨176001015,n0+1⟩ 0 (l.eraseIdx k).length]]) (by rw[hes];simp only[eX,gM,go_sem, ↓reduceIte,Nat.reduceEqDiff,Nat.reduceAdd,Nat.reduceSub,Nat.reduceLeDiff,reduceCtorEq]) ⟨⟨176001015,n0+1⟩,rfl,by rw[hem];simp only[go_sem, ↓reduceIte,Nat.reduceEqDiff,Nat.reduceAdd,Nat.reduceSub,Nat.reduceLeDiff,reduceCtorEq],by(try dsimp only);omega,by(try dsimp only);omega⟩
theorem erase_filter:∀{m:List ad} (_:m.Pairwise fun a b=>lN a.aW b.aW=true) {k:Nat} (hk:k<m.length),m.eraseIdx k=m.filter fun x=> !decide (x.aW=m[k].aW)
 |[],_,k,hk=>by simp at hk
 |x::r,h,0,hk=>by
  obtain⟨h1,h2⟩:=List.pairwise_cons.1 h
  rw[List.eraseIdx_cons_zero,List.filter_cons,if_neg (by simp)]
  symm
  rw[List.filter_eq_self]
  intro y hy
  have:=h1 y hy
  simp only[List.getElem_cons_zero,Bool.not_eq_true',decide_eq_false_iff_not]
  intro e
  rw[e,iz]at this;cases this
 |x::r,h,k+1,hk=>by
  obtain⟨h1,h2⟩:=List.pairwise_cons.1 h
  have Ed:k<r.length:=by simpa using hk
  have ih:=erase_filter h2 Ed
  have hx:=h1 _ (List.getElem_mem Ed)
  rw[List.eraseIdx_cons_succ,List.filter_cons,ih,if_pos]
  ·rfl
  ·simp only[List.getElem_cons_succ,Bool.not_eq_true',decide_eq_false_iff_not]
   intro e
   rw[e,iz]at hx;cases hx
def qv (s:aU) (a:List ad) (x:ad):Bool:= !NV s x&&decide (sg s.aV (iE a) x.aW x.aZ<s.aB)
theorem FE (s:aU) (hS:iD s.aV) (Gx:gN s.aV s.bf.ah) (a:List ad) (hA:gN s.aV a) (x:ad) (hx:x∈a):ak Tryz.prog 184 [.agg (ao s),.agg [.sl (a.map aa)],.agg (aa x)] (.bool (qv s a x)):=by
 refine ak.body eb rfl fun hl n0=>?_
 clear hl
 have h1:=yE s Gx x
 obtain⟨j,hj,hjx⟩:=List.getElem_of_mem hx
 have qo:=hA.1.ok j hj
 rw[Bw,ee hj,hjx]at qo
 obtain⟨Fu,Tt⟩:=yW qo.1
 have zu:∀q,ak Tryz.prog 244 [.agg [.sl (a.map aa)],.agg (aj q)] (.int .i64 (iE a q)):=fun q=>Mm a q hA.1.zz (by have:=hA.1.sU;omega)
 have h2:∀σ:ar,fu (Call Tryz.prog) 249 [.agg (ab s.aV),.agg (aj x.aW),.int .i64 x.aZ,.tC 244 [.agg [.sl (a.map aa)]]] σ (fun r=>r=.int .i64 (sg s.aV (iE a) x.aW x.aZ)):=fun σ=>by
  unfold fu PC
  exact Or.inl (aE _ _ _ _ _ (fun r σ' hr=>⟨_,by rw[hr];exact ay _ _ _ _,rfl⟩) (EO (σ:=⟨V.ro σ.get,σ.next⟩) s.aV hS (iE a) (fun q hq=>iD.Pb hA q hq) x.aW Fu Tt x.aZ (hA.2 x hx) 244 [.agg [.sl (a.map aa)]] (fun σ' _ _ q=>ak.x (zu q) (by simp only[List.cons_append,List.nil_append,aj,ae,ai,aM,bD,ay,Option.map_some]))))
 rw[ao,aa]at h1
 rw[ab,aj]at h2
 cases hb:NV s x
 ·rw[hb]at h1
  (repeat(first|((repeat(revert hN;revert N;apply Pn.out));refine wk (tw @ao.eq_1 @aa.eq_1) ?_;(repeat(refine Pn.mk ?_;intro N hN)))|((try apply Or.inl);refine⟨_,ak.x (h1) (sd (tw @ao.eq_1 @aa.eq_1)),?_⟩;refine hN _ _ ?_;clear hN N)))
  refine⟨_,h2 _,?_⟩
  refine hN _ _ ?_
  clear hN N
  (try((repeat(revert hN;revert N;apply Pn.out));refine wk @Nat.zero_add ?_;(repeat(refine Pn.mk ?_;intro N hN))))
  exact aQ (b:=decide (sg s.aV (iE a) x.aW x.aZ<s.aB)) (.inl rfl) (sd @Nat.zero_add) (by rw[qv,hb];rfl)
 ·rw[hb]at h1
  (repeat(first|((repeat(revert hN;revert N;apply Pn.out));refine wk (tw @ao.eq_1 @aa.eq_1) ?_;(repeat(refine Pn.mk ?_;intro N hN)))|((try apply Or.inl);refine⟨_,ak.x (h1) (sd (tw @ao.eq_1 @aa.eq_1)),?_⟩;refine hN _ _ ?_;clear hN N)))
  exact aQ (b:=false) (.inl rfl) (sd @Nat.zero_add) (by rw[qv,hb];rfl)
def fG (s:aU) (a:List ad):Nat->List Int
 |0=>[]
 |k+1=>if qv s a (bc a k)=true then fG s a k++[(k:Int)]else fG s a k
theorem uH (s:aU) (a:List ad):∀k,(fG s a k).length<=k
 |0=>by simp[fG]
 |k+1=>by
  have ih:=uH s a k
  rw[fG]
  split
  ·rw[List.length_append,List.length_singleton];omega
  ·omega
def Ox (L:List Int) (v:AV) (g:Rows) (n:Nat):Prop:=(L=[]/\v=.bP)∨∃u:Id,v=.own u 0 L.length/\g u=some ⟨true,1,L.map aT⟩/\u.bW<n/\0<L.length/\u.site=117006003
theorem Ox.frame {L:List Int} {v v':AV} {g g':Rows} {n n':Nat} (h:Ox L v g n) (he:v'=v) (hn:n<=n') (hf:∀x:Id,x.bW<n->g' x=g x):Ox L v' g' n':=by
 subst he
 rcases h with h|⟨u,h1,h2,h3,h4⟩
 ·exact .inl h
 ·exact .inr ⟨u,h1,(hf u h3).trans h2,by omega,h4⟩
theorem Eo (s:aU) (hS:iD s.aV) (Gx:gN s.aV s.bf.ah) (a:List ad) (hA:gN s.aV a):∃w,(w=.bP/\fG s a a.length=[]∨w=.sl ((fG s a a.length).map aT))/\ak Tryz.prog 117 [.agg (ao s),.agg [.sl (a.map aa)]] w:=by
 refine⟨if fG s a a.length=[]then .bP else .sl ((fG s a a.length).map aT),?_,?_⟩
 ·by_cases h:fG s a a.length=[]
  ·exact .inl ⟨if_pos h,h⟩
  ·exact .inr (if_neg h)
 refine ak.body eb rfl fun nP n0=>?_
 clear nP
 have gR:(a.map aa).length=a.length:=by simp
 have Fk:=hA.1.sU
 (try((repeat(revert hN;revert N;apply Pn.out));refine wk @gR ?_;(repeat(refine Pn.mk ?_;intro N hN))))
 refine aY (fun n env st=>∃k:Nat,n=(a.length)-k/\k<=(a.length)/\env 11=.int .i64 (k:Int)/\st.get ⟨117000000,n0⟩=some ⟨true,4,[ao s]⟩/\st.get ⟨117000001,n0⟩=some ⟨true,1,[[.sl (a.map aa)]]⟩/\(n0+1<=st.next/\Ox (fG s a k) (env 5) st.get st.next)) (a.length) ⟨0,by omega,by omega,sl (tw @gR @ao.eq_1),sl (tw @gR @ao.eq_1),sl (tw @gR @ao.eq_1),by(try dsimp only);exact⟨by omega,.inl ⟨rfl,sd @Nat.zero_add⟩⟩⟩ ?_
 rintro n_b env_b st_b ⟨k,rfl,ble,b11,bg0,bg1,bI0⟩ bfr
 have b2:=bfr 2 (by kernel_rfl);have b3:=bfr 3 (by kernel_rfl);have b9:=bfr 9 (by kernel_rfl);have By:=bfr 10 (by kernel_rfl)
 simp only[go_sem, ↓reduceIte,Nat.reduceEqDiff,Nat.reduceAdd,Nat.reduceSub,Nat.reduceLeDiff,reduceCtorEq,gR,ao]at b2 b3 b9 By
 clear bfr
 obtain⟨bn,b5⟩:=bI0
 have vS:=ef (i:=⟨117000000,n0⟩) (n:=st_b.next) (by(try dsimp only);omega)
 have vT:=ef (i:=⟨117000001,n0⟩) (n:=st_b.next) (by(try dsimp only);omega)
 by_cases hk:(k:Int)<(a.length:Int)
 ·have gK:∀{e:Env} {gg:Rows} {nx:Nat},(e 11=.int .i64 (IntKind.i64.wrap ((k:Int)+1)))->(gg ⟨117000000,n0⟩=some ⟨true,4,[ao s]⟩)->(gg ⟨117000001,n0⟩=some ⟨true,1,[[.sl (a.map aa)]]⟩)->(n0+1<=nx/\Ox (fG s a (k+1)) (e 5) gg nx)->∃m0,m0<(a.length)-k/\∃k:Nat,m0=(a.length)-k/\k<=(a.length)/\e 11=.int .i64 (k:Int)/\gg ⟨117000000,n0⟩=some ⟨true,4,[ao s]⟩/\gg ⟨117000001,n0⟩=some ⟨true,1,[[.sl (a.map aa)]]⟩/\(n0+1<=nx/\Ox (fG s a k) (e 5) gg nx):=fun x1 x2 x3 x4=>⟨_,by omega,k+1,rfl,by omega,(by rw[x1,ax (by omega)]),x2,x3,x4⟩
  have eU:k<a.length:=by omega
  have ea:=fH eU
  have uw:=FE s hS Gx a hA (bc a k) (iy eU)
  have hlen:=uH s a k
  have pU:fG s a (k+1)=if qv s a (bc a k)=true then fG s a k++[(k:Int)]else fG s a k:=rfl
  rw[ao]at uw
  generalize bc a k=x at ea uw pU
  generalize fG s a k=M at b5 pU hlen
  cases hb:qv s a x
  ·rw[hb]at uw pU
   rw[if_neg (by simp)]at pU
   (repeat(first|((repeat(revert hN;revert N;apply Pn.out));refine wk (tw @b11 (tw @bg0 (tw @bg1 (tw @b2 (tw @b3 (tw @b9 (tw @By (tw @hk (tw @ea (tw @gR (tw @vS (tw @vT (tw @ao.eq_1 @aa.eq_1))))))))))))) ?_;(repeat(refine Pn.mk ?_;intro N hN)))|((try apply Or.inl);refine⟨_,ak.x (uw) (sd (tw @b11 (tw @bg0 (tw @bg1 (tw @b2 (tw @b3 (tw @b9 (tw @By (tw @hk (tw @ea (tw @gR (tw @vS (tw @vT (tw @ao.eq_1 @aa.eq_1)))))))))))))),?_⟩;refine hN _ _ ?_;clear hN N)))
   refine gK ?_ ?_ ?_ (by(try dsimp only);exact⟨by omega,by rw[pU];exact b5.frame (sd @Nat.zero_add) (by omega) fun x hx=>(by have h9:=ef hx;simp only[go_sem, ↓reduceIte,Nat.reduceEqDiff,Nat.reduceAdd,Nat.reduceSub,Nat.reduceLeDiff,reduceCtorEq,h9])⟩)
   all_goals simp only[go_sem, ↓reduceIte,Nat.reduceEqDiff,Nat.reduceAdd,Nat.reduceSub,Nat.reduceLeDiff,reduceCtorEq,b11,bg0,bg1,b2,b3,b9,By,vS,vT,gR,ao]
  ·rw[hb]at uw pU
   rw[if_pos rfl]at pU
   have BE:(fG s a (k+1)).map aT=M.map aT++[[.int .i64 (k:Int)]]:=by rw[pU,List.map_append];rfl
   have sC:(fG s a (k+1)).length=M.length+1:=by rw[pU];simp
   rcases b5 with⟨hM,b5⟩|⟨u,b5,hug,HR,wc,Qr⟩
   ·subst hM
    (repeat(first|((repeat(revert hN;revert N;apply Pn.out));refine wk (tw @b11 (tw @bg0 (tw @bg1 (tw @b2 (tw @b3 (tw @b9 (tw @By (tw @hk (tw @ea (tw @gR (tw @vS (tw @vT (tw @b5 (tw @ao.eq_1 @aa.eq_1)))))))))))))) ?_;(repeat(refine Pn.mk ?_;intro N hN)))|((try apply Or.inl);refine⟨_,ak.x (uw) (sd (tw @b11 (tw @bg0 (tw @bg1 (tw @b2 (tw @b3 (tw @b9 (tw @By (tw @hk (tw @ea (tw @gR (tw @vS (tw @vT (tw @b5 (tw @ao.eq_1 @aa.eq_1))))))))))))))),?_⟩;refine hN _ _ ?_;clear hN N)))
    refine gK ?_ ?_ ?_ (by(try dsimp only);exact⟨by omega,.inr ⟨⟨117006003,st_b.next+1+1+1⟩,by rw[sC];simp only[go_sem, ↓reduceIte,Nat.reduceEqDiff,Nat.reduceAdd,Nat.reduceSub,Nat.reduceLeDiff,reduceCtorEq]<;>rfl,by rw[BE];simp only[go_sem, ↓reduceIte,Nat.reduceEqDiff,Nat.reduceAdd,Nat.reduceSub,Nat.reduceLeDiff,reduceCtorEq]<;>rfl,by(try dsimp only);omega,by rw[sC];omega,rfl⟩⟩)
    all_goals simp only[go_sem, ↓reduceIte,Nat.reduceEqDiff,Nat.reduceAdd,Nat.reduceSub,Nat.reduceLeDiff,reduceCtorEq,b11,bg0,bg1,b2,b3,b9,By,vS,vT,gR,ao]
   ·have vu:=ef HR
    have BC:(M.map aT).length=M.length:=by simp
    have OI:M.length<=16777215:=by omega
    have ux:=eV Qr (b:=117000000) (v:=n0) (by decide)
    have uy:=eV Qr (b:=117000001) (v:=n0) (by decide)
    (repeat(first|((repeat(revert hN;revert N;apply Pn.out));refine wk (tw @b11 (tw @bg0 (tw @bg1 (tw @b2 (tw @b3 (tw @b9 (tw @By (tw @hk (tw @ea (tw @gR (tw @vS (tw @vT (tw @b5 (tw @hug (tw @vu (tw @BC (tw @OI (tw @ux (tw @uy (tw @ao.eq_1 @aa.eq_1)))))))))))))))))))) ?_;(repeat(refine Pn.mk ?_;intro N hN)))|((try apply Or.inl);refine⟨_,ak.x (uw) (sd (tw @b11 (tw @bg0 (tw @bg1 (tw @b2 (tw @b3 (tw @b9 (tw @By (tw @hk (tw @ea (tw @gR (tw @vS (tw @vT (tw @b5 (tw @hug (tw @vu (tw @BC (tw @OI (tw @ux (tw @uy (tw @ao.eq_1 @aa.eq_1))))))))))))))))))))),?_⟩;refine hN _ _ ?_;clear hN N)))
    refine gK ?_ ?_ ?_ (by(try dsimp only);exact⟨by omega,.inr ⟨⟨117006003,st_b.next+1+1+1⟩,by rw[sC];simp only[go_sem, ↓reduceIte,Nat.reduceEqDiff,Nat.reduceAdd,Nat.reduceSub,Nat.reduceLeDiff,reduceCtorEq]<;>rfl,by rw[BE];simp only[go_sem, ↓reduceIte,Nat.reduceEqDiff,Nat.reduceAdd,Nat.reduceSub,Nat.reduceLeDiff,reduceCtorEq]<;>rfl,by(try dsimp only);omega,by rw[sC];omega,rfl⟩⟩)
    all_goals simp only[go_sem, ↓reduceIte,Nat.reduceEqDiff,Nat.reduceAdd,Nat.reduceSub,Nat.reduceLeDiff,reduceCtorEq,b11,bg0,bg1,b2,b3,b9,By,vS,vT,ux,uy,gR,ao]
 ·have kJ:k=a.length:=by omega
  subst kJ
  (try((repeat(revert hN;revert N;apply Pn.out));refine wk (tw @b11 (tw @bg0 (tw @bg1 (tw @b2 (tw @b3 (tw @b9 (tw @By (tw @hk @gR)))))))) ?_;(repeat(refine Pn.mk ?_;intro N hN))))
  rcases b5 with⟨hM,b5⟩|⟨u,b5,hug,HR,wc,Qr⟩
  ·rw[if_pos hM]
   exact k7 (.inl rfl) (vs:=[.bP]) (sd @b5) (by simp only[eL,iV])
  ·rw[if_neg (by intro h;rw[h]at wc;simp at wc)]
   exact k7 (.inl rfl) (vs:=[.own u 0 (fG s a a.length).length]) (sd @b5) (by
    simp only[eL]
    exact eS (e:=aT) (n:=5) hug rfl fun x=>by simp[aT,bC,cG,ek])
theorem CT (s:aU) (hS:iD s.aV) (Gx:gN s.aV s.bf.ah) (a:List ad) (hA:gN s.aV a):ak Tryz.prog 183 [.cN (ao s),.cN [.sl (a.map aa)]] (.sl ((fG s a a.length).map aT)):=by
 refine ak.body eb rfl fun nP n0=>?_
 clear nP
 have gR:(a.map aa).length=a.length:=by simp
 have Fk:=hA.1.sU
 have hz:fG s a 0=[]:=rfl
 (try((repeat(revert hN;revert N;apply Pn.out));refine wk @Nat.zero_add ?_;(repeat(refine Pn.mk ?_;intro N hN))))
 refine aY (fun n env st=>∃k:Nat,n=(a.length)-k/\k<=(a.length)/\env 6=.int .i64 (k:Int)/\(n0<=st.next/\∃u:Id,env 5=.own u 0 (fG s a k).length/\st.get u=some ⟨true,1,(fG s a k).map aT⟩/\u.bW<st.next)) (a.length) ⟨0,by omega,by omega,sl @gR,by(try dsimp only);exact⟨by omega,⟨183001000,n0+1⟩,sl @hz,sl @hz,by(try dsimp only);omega⟩⟩ ?_
 rintro n_b env_b st_b ⟨k,rfl,ble,b6,bI0⟩ bfr
 have b0:=bfr 0 (by kernel_rfl);have b1:=bfr 1 (by kernel_rfl)
 simp only[go_sem, ↓reduceIte,Nat.reduceEqDiff,Nat.reduceAdd,Nat.reduceSub,Nat.reduceLeDiff,reduceCtorEq,gR]at b0 b1
 clear bfr
 obtain⟨bn,u,b5,bu,bux⟩:=bI0
 have vu:=ef bux
 by_cases hk:(k:Int)<(a.length:Int)
 ·have gK:∀{e:Env} {gg:Rows} {nx:Nat},(e 6=.int .i64 (IntKind.i64.wrap ((k:Int)+1)))->(n0<=nx/\∃u:Id,e 5=.own u 0 (fG s a (k+1)).length/\gg u=some ⟨true,1,(fG s a (k+1)).map aT⟩/\u.bW<nx)->∃m0,m0<(a.length)-k/\∃k:Nat,m0=(a.length)-k/\k<=(a.length)/\e 6=.int .i64 (k:Int)/\(n0<=nx/\∃u:Id,e 5=.own u 0 (fG s a k).length/\gg u=some ⟨true,1,(fG s a k).map aT⟩/\u.bW<nx):=fun x1 x2=>⟨_,by omega,k+1,rfl,by omega,(by rw[x1,ax (by omega)]),x2⟩
  have eU:k<a.length:=by omega
  have ea:=fH eU
  have hx:=iy eU
  have qo:=hA.1.ok k eU
  rw[Bw]at qo
  obtain⟨Fu,Tt⟩:=yW qo.1
  have uw:=FM s Gx (bc a k)
  have rH:=(yH s.aV hS a hA (bc a k).aW Fu Tt (bc a k).aZ (hA.2 _ hx)).cut mixed (.ptr _ [.sl (s.bf.ah.map aa),.int .i64 s.aB] (.same _ (.same _ (.same _ .nil))))
  have hlen:=uH s a k
  have pU:fG s a (k+1)=if qv s a (bc a k)=true then fG s a k++[(k:Int)]else fG s a k:=rfl
  have hse:decide (iE s.bf.ah (bc a k).aW=(bc a k).aZ)=NV s (bc a k):=rfl
  have iv:qv s a (bc a k)=(!NV s (bc a k)&&decide (sg s.aV (iE a) (bc a k).aW (bc a k).aZ<s.aB)):=rfl
  rw[hse]at uw
  rw[aa]at ea uw
  rw[ab,aj]at rH
  rw[ao]at uw
  generalize bc a k=x at ea uw rH pU iv
  generalize fG s a k=M at b5 bu pU hlen
  have BC:(M.map aT).length=M.length:=by simp
  have OI:M.length<=16777215:=by omega
  cases hb:NV s x
  ·rw[hb]at uw iv
   rw[Bool.not_false,Bool.true_and]at iv
   by_cases ht:sg s.aV (iE a) x.aW x.aZ<s.aB
   ·rw[decide_eq_true ht]at iv
    rw[iv,if_pos rfl]at pU
    have BE:(fG s a (k+1)).map aT=M.map aT++[[.int .i64 (k:Int)]]:=by rw[pU,List.map_append];rfl
    have sC:(fG s a (k+1)).length=M.length+1:=by rw[pU];simp
    (repeat(first|((repeat(revert hN;revert N;apply Pn.out));refine wk (tw @b6 (tw @b0 (tw @b1 (tw @hk (tw @ea (tw @gR (tw @ht (tw @b5 (tw @bu (tw @vu (tw @BC (tw @OI @ao.eq_1)))))))))))) ?_;(repeat(refine Pn.mk ?_;intro N hN)))|((try apply Or.inl);refine⟨_,ak.x (uw) (sd (tw @b6 (tw @b0 (tw @b1 (tw @hk (tw @ea (tw @gR (tw @ht (tw @b5 (tw @bu (tw @vu (tw @BC (tw @OI @ao.eq_1))))))))))))),?_⟩;refine hN _ _ ?_;clear hN N)|((try apply Or.inl);refine⟨_,ak.x (rH) (sd (tw @b6 (tw @b0 (tw @b1 (tw @hk (tw @ea (tw @gR (tw @ht (tw @b5 (tw @bu (tw @vu (tw @BC (tw @OI @ao.eq_1))))))))))))),?_⟩;refine hN _ _ ?_;clear hN N)))
    exact gK (sd (tw @b6 (tw @b0 (tw @b1 @gR)))) (by(try dsimp only);exact⟨by omega,⟨183007003,st_b.next+1+1+1⟩,by rw[sC];simp only[go_sem, ↓reduceIte,Nat.reduceEqDiff,Nat.reduceAdd,Nat.reduceSub,Nat.reduceLeDiff,reduceCtorEq]<;>rfl,by rw[BE];simp only[go_sem, ↓reduceIte,Nat.reduceEqDiff,Nat.reduceAdd,Nat.reduceSub,Nat.reduceLeDiff,reduceCtorEq]<;>rfl,by(try dsimp only);omega⟩)
   ·rw[decide_eq_false ht]at iv
    rw[iv,if_neg (by simp)]at pU
    (repeat(first|((repeat(revert hN;revert N;apply Pn.out));refine wk (tw @b6 (tw @b0 (tw @b1 (tw @hk (tw @ea (tw @gR (tw @ht @ao.eq_1))))))) ?_;(repeat(refine Pn.mk ?_;intro N hN)))|((try apply Or.inl);refine⟨_,ak.x (uw) (sd (tw @b6 (tw @b0 (tw @b1 (tw @hk (tw @ea (tw @gR (tw @ht @ao.eq_1)))))))),?_⟩;refine hN _ _ ?_;clear hN N)|((try apply Or.inl);refine⟨_,ak.x (rH) (sd (tw @b6 (tw @b0 (tw @b1 (tw @hk (tw @ea (tw @gR (tw @ht @ao.eq_1)))))))),?_⟩;refine hN _ _ ?_;clear hN N)))
    exact gK (sd (tw @b6 (tw @b0 (tw @b1 @gR)))) (by(try dsimp only);exact⟨by omega,u,by rw[pU];simp only[go_sem, ↓reduceIte,Nat.reduceEqDiff,Nat.reduceAdd,Nat.reduceSub,Nat.reduceLeDiff,reduceCtorEq,b5],by rw[pU];simp only[go_sem, ↓reduceIte,Nat.reduceEqDiff,Nat.reduceAdd,Nat.reduceSub,Nat.reduceLeDiff,reduceCtorEq,vu,bu],by(try dsimp only);omega⟩)
  ·rw[hb]at uw iv
   rw[Bool.not_true,Bool.false_and]at iv
   rw[iv,if_neg (by simp)]at pU
   (repeat(first|((repeat(revert hN;revert N;apply Pn.out));refine wk (tw @b6 (tw @b0 (tw @b1 (tw @hk (tw @ea (tw @gR @ao.eq_1)))))) ?_;(repeat(refine Pn.mk ?_;intro N hN)))|((try apply Or.inl);refine⟨_,ak.x (uw) (sd (tw @b6 (tw @b0 (tw @b1 (tw @hk (tw @ea (tw @gR @ao.eq_1))))))),?_⟩;refine hN _ _ ?_;clear hN N)))
   exact gK (sd (tw @b6 (tw @b0 (tw @b1 @gR)))) (by(try dsimp only);exact⟨by omega,u,by rw[pU];simp only[go_sem, ↓reduceIte,Nat.reduceEqDiff,Nat.reduceAdd,Nat.reduceSub,Nat.reduceLeDiff,reduceCtorEq,b5],by rw[pU];simp only[go_sem, ↓reduceIte,Nat.reduceEqDiff,Nat.reduceAdd,Nat.reduceSub,Nat.reduceLeDiff,reduceCtorEq,vu,bu],by(try dsimp only);omega⟩)
 ·have kJ:k=a.length:=by omega
  subst kJ
  (try((repeat(revert hN;revert N;apply Pn.out));refine wk (tw @b6 (tw @b0 (tw @b1 (tw @hk (tw @gR @b5))))) ?_;(repeat(refine Pn.mk ?_;intro N hN))))
  exact k7 (.inl rfl) (vs:=[.own u 0 (fG s a a.length).length]) (sd @b5) (by
   simp only[eL]
   exact eS (e:=aT) (n:=5) bu rfl fun x=>by simp[aT,bC,cG,ek])
end Go.Proofs.YtgoljkjaameagaaGreat.V

namespace Go.Proofs.YtgoljkjaameagaaGreat.V
open Go.RowKit
theorem rR {s:aU} {a:List ad}:∀k,(fG s a k=[]/\∀j,j<k->qv s a (bc a j)=false)∨∃i r,i<k/\fG s a k=(i:Int)::r/\qv s a (bc a i)=true/\∀j,j<i->qv s a (bc a j)=false
 |0=>.inl ⟨rfl,fun j hj=>by omega⟩
 |k+1=>by
  rcases rR (s:=s) (a:=a) k with⟨h1,h2⟩|⟨i,r,h1,h2,h3,h4⟩
  ·cases hb:qv s a (bc a k)
   ·refine .inl ⟨by rw[fG,hb,if_neg (by simp)];exact h1,fun j hj=>?_⟩
    rcases Nat.lt_succ_iff_lt_or_eq.1 hj with h|h
    ·exact h2 j h
    ·rw[h];exact hb
   ·exact .inr ⟨k,[],Nat.lt_succ_self k,by rw[fG,hb,if_pos rfl,h1];rfl,hb,h2⟩
  ·refine .inr ?_
   rw[fG]
   split
   ·exact⟨i,r++[(k:Int)],by omega,by rw[h2];rfl,h3,h4⟩
   ·exact⟨i,r,by omega,h2,h3,h4⟩
noncomputable def Js (s:aU):Nat->List ad->List ad
 |0,a=>a
 |n+1,a=>match fG s a a.length with
  |[]=>a
  |i::_=>Js s n (a.eraseIdx i.toNat)
theorem Ev {l m:List ad} (h:ji l) (hs:m.Sublist l):ji m:=by
 rw[jQ]at h ⊢
 exact List.Pairwise.sublist hs h
theorem ox {s:aq} {a:List ad} (h:gN s a) (k:Nat):gN s (a.eraseIdx k):=
 JE h (Ev h.1.zz (List.eraseIdx_sublist a k)) (fun x hx=>(List.eraseIdx_sublist a k).subset hx) (List.eraseIdx_sublist a k).length_le
theorem Dc {s:aU} {a:List ad} (h:fG s a a.length=[]):∀n,Js s n a=a
 |0=>rfl
 |n+1=>by rw[Js,h]
theorem y5 {s:aU} {a:List ad} {i:Int} {r:List Int} (h:fG s a a.length=i::r) (n:Nat):Js s (n+1) a=Js s n (a.eraseIdx i.toNat):=by rw[Js,h]
theorem Ew {s:aU}:∀(n:Nat) (a:List ad),(Js s n a).Sublist a
 |0,a=>List.Sublist.refl a
 |n+1,a=>by
  rcases hl:fG s a a.length with _|⟨i,r⟩
  ·rw[Dc hl];exact List.Sublist.refl a
  ·rw[y5 hl];exact(Ew n _).trans (List.eraseIdx_sublist a _)
end Go.Proofs.YtgoljkjaameagaaGreat.V

namespace Go.Proofs.YtgoljkjaameagaaGreat.V
open Go.RowKit
attribute [local irreducible] dL wpOps fu Call
attribute [local go_sem] az eQ ec eY eW cJ upd bJ K.av b4 AV.cells AV.cell rowOf rowsOf part ld rowAt bH bG cX dr fR bo cE dD e6 eF cQ dx cC cz db dc br aJ ck bq cq cm dv dy dw cj bx cD dt bp aA cu bQ fQ bd bY bt aH cW aX cY AV.undef bj bl de dn da dj bV dC dE bK dB dz cr cw List.getD_cons_zero List.getD_cons_succ List.getD_nil List.all_cons List.all_nil Bool.and_true Bool.true_and Bool.and_self Bool.not_true Bool.not_false Option.map_some Option.map_none Option.bind_some Option.bind_none List.length_cons List.length_nil List.take_succ_cons List.take_zero List.take_nil List.drop_succ_cons List.drop_zero List.drop_nil List.head?_cons List.map_cons List.map_nil List.getElem?_cons_zero List.getElem?_cons_succ List.cons_append List.nil_append List.append_nil List.length_map List.set_cons_zero List.set_cons_succ Nat.reduceMul eq_self Int.toNat_natCast Int.natCast_nonneg and_self true_and and_true decide_true decide_false Bool.false_eq_true Nat.zero_add Nat.add_zero List.contains_cons List.contains_nil Bool.or_false Bool.false_or beq_self_eq_true Nat.reduceBEq ne_eq not_true_eq_false not_false_eq_true Id.mk.injEq false_and and_false Nat.reduceLT Int.reduceLE Int.reduceLT Int.reduceToNat Int.reduceNeg Int.reduceAdd Nat.le_refl List.length_append beq_true beq_false Bool.not_eq_eq_eq_not or_false false_or dd ae ai ay bh bD aG aM aD aL bZ bm
def fF (a m:List ad) (k:Nat):List ad:=(a.take k).filter fun x=>decide (eG m x.aW<0)
theorem Ff {a m:List ad} {k:Nat} (h:k<a.length):fF a m (k+1)=fF a m k++if eG m (bc a k).aW<0 then[bc a k]else[]:=by
 unfold fF
 rw[List.take_succ_eq_append_getElem h,List.filter_append,ee h]
 congr 1
 by_cases hb:eG m a[k].aW<0<;>simp[hb]
theorem Ad (a m:List ad) (k:Nat):(fF a m k).length<=k:=by
 unfold fF
 have h1:=List.length_filter_le (fun x=>decide (eG m x.aW<0)) (a.take k)
 rw[List.length_take]at h1
 omega
noncomputable def nj (s:aU) (a:List ad):List ad:=Js s a.length a
theorem CU (s:aU) (hS:iD s.aV) (Gx:gN s.aV s.bf.ah) (a:List ad) (hA:gN s.aV a):ak Tryz.prog 114 [.cN (ao s),.cN [.sl (a.map aa)]] (.ij [.agg [.sl ((nj s a).map aa)],.sl ((fF a (nj s a) a.length).map aa)]):=by
 refine ak.body eb rfl fun nP n0=>?_
 clear nP
 have Fk:=hA.1.sU
 have LI:(a.map aa).length=a.length:=by simp
 (try((repeat(revert hN;revert N;apply Pn.out));refine wk @Nat.zero_add ?_;(repeat(refine Pn.mk ?_;intro N hN))))
 refine .inr (aE _ _ _ _ _ (fun r σ1 xc=>?_) (Jw.val (fun n=>H0 a (by omega) n) (by simp only[ae,ai,aD,Option.map_some])))
 obtain⟨⟨o,rfl,q1,q2,q3⟩,hK⟩:=xc
 obtain⟨g1,x1⟩:=σ1
 (try dsimp only at q1 q2 q3 hK)
 have rK:=hK.1
 have k4:=hK.2 ⟨114000000,n0⟩ (by(try dsimp only);omega)
 simp only[go_sem, ↓reduceIte,Nat.reduceEqDiff,Nat.reduceAdd,Nat.reduceSub,Nat.reduceLeDiff,reduceCtorEq]at k4
 (try dsimp only at rK)
 refine hN _ _ ?_
 clear hN N
 (try((repeat(revert hN;revert N;apply Pn.out));refine wk @k4 ?_;(repeat(refine Pn.mk ?_;intro N hN))))
 refine aY (fun n env st=>∃(T:List ad) (m:Nat),n=m/\T.length=m/\Js s m T=nj s a/\gN s.aV T/\x1<st.next/\st.get ⟨114000000,n0⟩=some ⟨true,1,[[.bP]]⟩/\∃o:Id,st.get ⟨114001002,x1⟩=some ⟨true,1,[[.own o 0 T.length]]⟩/\st.get o=some ⟨true,3,T.map aa⟩/\n0<o.bW/\o.bW<st.next/\(⟨114001002,x1⟩=o->False)) a.length ⟨a,a.length,rfl,rfl,rfl,hA,by(try dsimp only);omega,sd @k4,o,sd @Nat.zero_add,(by have vo:=ef (i:=o) (n:=x1) (by omega);simp only[go_sem, ↓reduceIte,Nat.reduceEqDiff,Nat.reduceAdd,Nat.reduceSub,Nat.reduceLeDiff,reduceCtorEq,vo,q1]),by omega,by(try dsimp only);omega,fun e=>by rw[<-e]at q3;(try dsimp only at q3);omega⟩ ?_
 rintro n env_f st_f ⟨T,m,rfl,hTl,mb,hTA,fx,f4,o2,fX,fo,fo1,fo2,fXo⟩ hk
 have c0:=hk 0 (by kernel_rfl)
 have c1:=hk 1 (by kernel_rfl)
 have c6:=hk 6 (by kernel_rfl)
 have OD:=hk 4 (by kernel_rfl)
 simp only[go_sem, ↓reduceIte,Nat.reduceEqDiff,Nat.reduceAdd,Nat.reduceSub,Nat.reduceLeDiff,reduceCtorEq]at c0 c1 c6 OD
 clear hk
 have hTf:=hTA.1.sU
 have vX:=ef (i:=⟨114001002,x1⟩) (n:=st_f.next) (by(try dsimp only);omega)
 have vo:=ef (i:=o2) (n:=st_f.next) (by omega)
 have v4:=ef (i:=⟨114000000,n0⟩) (n:=st_f.next) (by(try dsimp only);omega)
 have iv:=CT s hS Gx T hTA
 have tr:∀g:Rows,g ⟨114001002,x1⟩=some ⟨true,1,[[.own o2 0 T.length]]⟩->g o2=some ⟨true,3,T.map aa⟩->cI (dd g) 6 [.cN (ao s),.ptr ⟨114001002,x1⟩ 0 0]=some [.cN (ao s),.cN [.sl (T.map aa)]]:=fun g h1 h2=>by
  rw[ae,ae,yX h1 h2]
  simp only[aD,ai,Option.map_some]
 rcases rR (s:=s) (a:=T) T.length with⟨h1,_⟩|⟨i,r,h1,h2,_,_⟩
 ·rw[Dc h1]at mb
  subst mb
  rw[h1]at iv
  (try((repeat(revert hN;revert N;apply Pn.out));refine wk (tw @c0 @c6) ?_;(repeat(refine Pn.mk ?_;intro N hN))))
  refine .inl ⟨_,ak.x iv (tr _ fX fo),?_⟩
  refine hN _ _ ?_
  clear hN N
  have d0:decide (((0:Nat):Int)=0)=true:=rfl
  (try((repeat(revert hN;revert N;apply Pn.out));refine wk (tw @c0 (tw @c1 @d0)) ?_;(repeat(refine Pn.mk ?_;intro N hN))))
  have hz:fF a (nj s a) 0=[]:=rfl
  generalize hMM:nj s a=M at *
  refine aY (fun n env st=>∃k:Nat,n=(a.length)-k/\k<=(a.length)/\env 9=.int .i64 (k:Int)/\st.get ⟨114001002,x1⟩=some ⟨true,1,[[.own o2 0 M.length]]⟩/\st.get o2=some ⟨true,3,M.map aa⟩/\st.get ⟨114000000,n0⟩=some ⟨true,1,[[.bP]]⟩/\(st_f.next<=st.next/\∃u:Id,env 8=.own u 0 (fF a M k).length/\st.get u=some ⟨true,3,(fF a M k).map aa⟩/\st_f.next<=u.bW/\u.bW<st.next)) (a.length) ⟨0,by omega,by omega,sl (tw @fX (tw @fo (tw @f4 (tw @vX (tw @vo (tw @v4 (tw @c1 (tw @c6 @OD)))))))),sl (tw @fX (tw @fo (tw @f4 (tw @vX (tw @vo (tw @v4 (tw @c1 (tw @c6 @OD)))))))),sl (tw @fX (tw @fo (tw @f4 (tw @vX (tw @vo (tw @v4 (tw @c1 (tw @c6 @OD)))))))),sl (tw @fX (tw @fo (tw @f4 (tw @vX (tw @vo (tw @v4 (tw @c1 (tw @c6 @OD)))))))),by(try dsimp only);exact⟨by omega,⟨114005000,st_f.next+1+1⟩,sl @hz,sl @hz,by(try dsimp only);omega,by(try dsimp only);omega⟩⟩ ?_
  rintro n_h env_h st_h ⟨k,rfl,hle,h9,Fm,qU,Fo,PH⟩ jY
  have h1:=jY 1 (by kernel_rfl);have h4:=jY 4 (by kernel_rfl);have h6:=jY 6 (by kernel_rfl)
  simp only[go_sem, ↓reduceIte,Nat.reduceEqDiff,Nat.reduceAdd,Nat.reduceSub,Nat.reduceLeDiff,reduceCtorEq,fX,fo,f4,vX,vo,v4,c1,c6,OD]at h1 h4 h6
  clear jY
  obtain⟨vG,u,h8,hu,Jq,NB⟩:=PH
  have wu:=ef NB
  have wX:=ef (i:=⟨114001002,x1⟩) (n:=st_h.next) (by(try dsimp only);omega)
  have wo:=ef (i:=o2) (n:=st_h.next) (by omega)
  have w4:=ef (i:=⟨114000000,n0⟩) (n:=st_h.next) (by(try dsimp only);omega)
  have Xu:=du (a:=⟨114001002,x1⟩) (b:=u) (by(try dsimp only);omega)
  have ou:=du (a:=o2) (b:=u) (by omega)
  have eu:=du (a:=⟨114000000,n0⟩) (b:=u) (by(try dsimp only);omega)
  by_cases hk:(k:Int)<(a.length:Int)
  ·have LX:∀{e:Env} {gg:Rows} {nx:Nat},(e 9=.int .i64 (IntKind.i64.wrap ((k:Int)+1)))->(gg ⟨114001002,x1⟩=some ⟨true,1,[[.own o2 0 M.length]]⟩)->(gg o2=some ⟨true,3,M.map aa⟩)->(gg ⟨114000000,n0⟩=some ⟨true,1,[[.bP]]⟩)->(st_f.next<=nx/\∃u:Id,e 8=.own u 0 (fF a M (k+1)).length/\gg u=some ⟨true,3,(fF a M (k+1)).map aa⟩/\st_f.next<=u.bW/\u.bW<nx)->∃m0,m0<(a.length)-k/\∃k:Nat,m0=(a.length)-k/\k<=(a.length)/\e 9=.int .i64 (k:Int)/\gg ⟨114001002,x1⟩=some ⟨true,1,[[.own o2 0 M.length]]⟩/\gg o2=some ⟨true,3,M.map aa⟩/\gg ⟨114000000,n0⟩=some ⟨true,1,[[.bP]]⟩/\(st_f.next<=nx/\∃u:Id,e 8=.own u 0 (fF a M k).length/\gg u=some ⟨true,3,(fF a M k).map aa⟩/\st_f.next<=u.bW/\u.bW<nx):=fun x1 x2 x3 x4 x5=>⟨_,by omega,k+1,rfl,by omega,(by rw[x1,ax (by omega)]),x2,x3,x4,x5⟩
   have eU:k<a.length:=by omega
   have ea:=fH eU
   have yu:=pK M (bc a k).aW hTA.1.zz (by omega)
   have pU:=Ff (m:=M) eU
   have hlen:=Ad a M k
   rw[aj]at yu
   rw[aa]at ea
   generalize bc a k=x at ea yu pU
   generalize fF a M k=G at h8 hu pU hlen
   have BC:(G.map aa).length=G.length:=by simp
   have PF:G.length<=16777215:=by omega
   (try((repeat(revert hN;revert N;apply Pn.out));refine wk (tw @h9 (tw @Fm (tw @qU (tw @Fo (tw @h1 (tw @h4 (tw @h6 (tw @hk (tw @ea @LI))))))))) ?_;(repeat(refine Pn.mk ?_;intro N hN))))
   refine .inl ⟨_,ak.x yu (by
    rw[ae,yX Fm qU]
    simp only[ae,ai,aM,ay,Option.map_some]),?_⟩
   refine hN _ _ ?_
   clear hN N
   by_cases hb:eG M x.aW<0
   ·rw[if_pos hb]at pU
    have BE:(fF a M (k+1)).map aa=G.map aa++[[.int .i64 x.aW.fE,.int .i64 x.aW.e8,.int .i64 x.aZ]]:=by rw[pU,List.map_append];rfl
    have sC:(fF a M (k+1)).length=G.length+1:=by rw[pU];simp
    (try((repeat(revert hN;revert N;apply Pn.out));refine wk (tw @h9 (tw @Fm (tw @qU (tw @Fo (tw @h1 (tw @h4 (tw @h6 (tw @hb (tw @ea (tw @LI (tw @h8 (tw @hu (tw @wu (tw @BC (tw @PF (tw @wX (tw @wo (tw @w4 (tw @Xu (tw @ou @eu)))))))))))))))))))) ?_;(repeat(refine Pn.mk ?_;intro N hN))))
    refine LX ?_ ?_ ?_ ?_ (by(try dsimp only);exact⟨by omega,⟨114010009,st_h.next+1+1⟩,by rw[sC];simp only[go_sem, ↓reduceIte,Nat.reduceEqDiff,Nat.reduceAdd,Nat.reduceSub,Nat.reduceLeDiff,reduceCtorEq]<;>rfl,by rw[BE];simp only[go_sem, ↓reduceIte,Nat.reduceEqDiff,Nat.reduceAdd,Nat.reduceSub,Nat.reduceLeDiff,reduceCtorEq]<;>rfl,by(try dsimp only);omega,by(try dsimp only);omega⟩)
    all_goals simp only[go_sem, ↓reduceIte,Nat.reduceEqDiff,Nat.reduceAdd,Nat.reduceSub,Nat.reduceLeDiff,reduceCtorEq,h9,Fm,qU,Fo,h1,h4,h6,wX,wo,w4,Xu,ou,eu,LI]
   ·rw[if_neg hb,List.append_nil]at pU
    (try((repeat(revert hN;revert N;apply Pn.out));refine wk (tw @h9 (tw @Fm (tw @qU (tw @Fo (tw @h1 (tw @h4 (tw @h6 (tw @hb @LI)))))))) ?_;(repeat(refine Pn.mk ?_;intro N hN))))
    refine LX ?_ ?_ ?_ ?_ (by(try dsimp only);exact⟨by omega,u,by rw[pU];simp only[go_sem, ↓reduceIte,Nat.reduceEqDiff,Nat.reduceAdd,Nat.reduceSub,Nat.reduceLeDiff,reduceCtorEq,h8],by rw[pU];simp only[go_sem, ↓reduceIte,Nat.reduceEqDiff,Nat.reduceAdd,Nat.reduceSub,Nat.reduceLeDiff,reduceCtorEq,hu],by omega,by(try dsimp only);omega⟩)
    all_goals simp only[go_sem, ↓reduceIte,Nat.reduceEqDiff,Nat.reduceAdd,Nat.reduceSub,Nat.reduceLeDiff,reduceCtorEq,h9,Fm,qU,Fo,h1,h4,h6,LI]
  ·have kJ:k=a.length:=by omega
   subst kJ
   (try((repeat(revert hN;revert N;apply Pn.out));refine wk (tw @h9 (tw @Fm (tw @qU (tw @Fo (tw @h1 (tw @h4 (tw @h6 (tw @hk (tw @LI (tw @h8 @eu)))))))))) ?_;(repeat(refine Pn.mk ?_;intro N hN))))
   have c4:(o2=(⟨114000000,n0⟩:Id))=False:=eq_false fun e=>by rw[e]at fo1;(try dsimp only at fo1);omega
   have c5:(u=(⟨114000000,n0⟩:Id))=False:=eq_false fun e=>by rw[e]at Jq;(try dsimp only at Jq);omega
   exact k7 (.inl rfl) (vs:=[.agg [.own o2 0 M.length],.own u 0 (fF a M a.length).length]) (sd (tw @h9 (tw @Fm (tw @qU (tw @Fo (tw @h1 (tw @h4 (tw @h6 @h8)))))))) (by
    simp only[eL,eR,yf,bC,cG]
    rw[eS (e:=aa) (l:=M) (sz:=3) (n:=3) (sd (tw @c4 @qU)) rfl (fun x=>Lr _ 2 x),eS (e:=aa) (l:=fF a M a.length) (sz:=3) (n:=4) (sd (tw @c5 @hu)) rfl (fun x=>Lr _ 3 x)];rfl)
 ·have yq:i<T.length:=h1
  obtain⟨m',rfl⟩:∃m',n=m'+1:=⟨n-1,by omega⟩
  rw[y5 h2,Int.toNat_natCast]at mb
  rw[h2]at iv
  have Al:((((i:Int)::r).map aT).length)=r.length+1:=by simp
  have gF:¬((r.length+1:Nat):Int)=0:=by omega
  have ND:=fun n=>yJ T i yq (by omega) n
  (try((repeat(revert hN;revert N;apply Pn.out));refine wk (tw @c0 @c6) ?_;(repeat(refine Pn.mk ?_;intro N hN))))
  refine .inl ⟨_,ak.x iv (tr _ fX fo),?_⟩
  refine hN _ _ ?_
  clear hN N
  (try((repeat(revert hN;revert N;apply Pn.out));refine wk (tw @Al (tw @gF @c6)) ?_;(repeat(refine Pn.mk ?_;intro N hN))))
  refine .inr (aE _ _ _ _ _ (fun r' σ2 l9=>?_) (Jw.val ND (by
   rw[ae,yX fX fo]
   simp only[ae,ai,ay,Option.map_some])))
  obtain⟨⟨o3,rfl,p1,p2,p3⟩,tp⟩:=l9
  obtain⟨g2,x2⟩:=σ2
  (try dsimp only at p1 p2 p3 tp)
  have HG:=tp.1
  (try dsimp only at HG)
  have kX:=(tp.2 ⟨114001002,x1⟩ (by(try dsimp only);omega)).trans fX
  have k5:=(tp.2 ⟨114000000,n0⟩ (by(try dsimp only);omega)).trans f4
  (try dsimp only at kX k5)
  refine hN _ _ ?_
  clear hN N
  have X4:(o3=⟨114001002,x1⟩)=False:=eq_false fun e=>by rw[e]at p2;(try dsimp only at p2);omega
  (try((repeat(revert hN;revert N;apply Pn.out));refine wk (tw @c6 @kX) ?_;(repeat(refine Pn.mk ?_;intro N hN))))
  exact⟨m',Nat.lt_succ_self _,T.eraseIdx i,m',rfl,by rw[List.length_eraseIdx,if_pos yq];omega,mb,ox hTA i,by(try dsimp only);omega,sd @k5,o3,sd @Nat.zero_add,sd (tw @X4 @p1),by omega,by(try dsimp only);omega,fun e=>by rw[<-e]at p2;(try dsimp only at p2);omega⟩
noncomputable def ni (s:aU) (a:List ad):List ad×List ad×Int:=if iM s a=0 then(nj s a,fF a (nj s a) a.length,0)else([],[],iM s a)
theorem JC (s:aU) (a:List ad) (hn:fm s.aV) (hg:s.aV.au.length<=1048576) (ht:s.aV.ah.length<=1048576):∃w v,iK aa (ni s a).1 w/\iK aa (ni s a).2.1 v/\kb Tryz.prog 56 [.agg (ao s),.agg [.sl (a.map aa)]] (.ij [.agg [w],v,.int .i64 (ni s a).2.2]):=by
 have h1:=FL s a hn hg ht
 by_cases h0:iM s a=0
 ·obtain⟨hP,hA,hW⟩:=xx.1 h0
  have h2:=CU s hP.set hP.s8 a hA
  have hr:ni s a=(nj s a,fF a (nj s a) a.length,0):=by rw[ni,if_pos h0]
  rw[hr]
  rw[h0]at h1
  refine⟨.sl ((nj s a).map aa),.sl ((fF a (nj s a) a.length).map aa),.inr rfl,.inr rfl,?_⟩
  refine kb.body eb rfl fun nP σ=>?_
  clear nP
  generalize nj s a=M at h2 ⊢
  generalize fF a M a.length=G at h2 ⊢
  rw[ao]at h1 h2 ⊢
  (repeat(first|((repeat(revert hN;revert N;apply Pn.out));refine wk @Nat.zero_add ?_;(repeat(refine Pn.mk ?_;intro N hN)))|((try apply Or.inl);refine⟨_,ak.x (h1) (sd @Nat.zero_add),?_⟩;refine hN _ _ ?_;clear hN N)|((try apply Or.inl);refine⟨_,ak.x (h2) (sd @Nat.zero_add),?_⟩;refine hN _ _ ?_;clear hN N)))
  exact y4 (.inl rfl) (vs:=[.agg [.sl (M.map aa)],.sl (G.map aa),.int .i64 0]) (sd @Nat.zero_add) (by simp only[eL,bm,aM,ae,ai,bD,ay,Option.map_some])
 ·have hd:decide (iM s a=0)=false:=decide_eq_false h0
  have hr:ni s a=([],[],iM s a):=by rw[ni,if_neg h0]
  rw[hr]
  refine⟨.bP,.sl (List.map aa []),.inl ⟨rfl,rfl⟩,.inr rfl,?_⟩
  refine kb.body eb rfl fun nP σ=>?_
  clear nP
  rw[ao]at h1 ⊢
  (repeat(first|((repeat(revert hN;revert N;apply Pn.out));refine wk @hd ?_;(repeat(refine Pn.mk ?_;intro N hN)))|((try apply Or.inl);refine⟨_,ak.x (h1) (sd @hd),?_⟩;refine hN _ _ ?_;clear hN N)))
  exact y4 (.inl rfl) (vs:=[.agg [.bP],.own ⟨56003001,σ.next+1+1+1⟩ 0 0,.int .i64 (iM s a)]) (sd @Nat.zero_add) (by simp[eL,bm,aM,aG,ae,ai,ay,gi,dd,bH,dQ])
theorem Db {a:List ad} (h:ji a):a.Pairwise fun x y=>x.aW≠y.aW:=by
 rw[jQ]at h
 exact h.imp fun {a b} h e=>by rw[e,iz]at h;cases h
theorem Fe {a G T:List ad} (hR:ji a) (hp:(G++T).Perm a):G.Perm (fF a T a.length):=by
 unfold fF
 rw[List.take_length]
 have hd:(G++T).Pairwise fun x y=>x.aW≠y.aW:=hp.symm.pairwise (Db hR) fun {a b} h e=>h e.symm
 have h0:=(List.pairwise_append.1 hd).2.2
 have h1:=hp.filter (fun x=>decide (eG T x.aW<0))
 rw[List.filter_append]at h1
 have h2:G.filter (fun x=>decide (eG T x.aW<0))=G:=List.filter_eq_self.2 fun x hx=>decide_eq_true (yC.2 fun t ht e=>h0 x hx t ht e.symm)
 have h3:T.filter (fun x=>decide (eG T x.aW<0))=[]:=List.filter_eq_nil_iff.2 fun x hx h=>yC.1 (of_decide_eq_true h) x hx rfl
 rw[h2,h3,List.append_nil]at h1
 exact h1
theorem Hq {a T:List ad} (hR:ji a):ji (fF a T a.length):=by
 unfold fF
 rw[List.take_length]
 exact Ev hR List.filter_sublist
theorem HY {T:List ad} (hR:ji T) {i:Nat} (hi:i<T.length):eA (pI [T[i].aW]) T=T.eraseIdx i:=by
 rw[erase_filter (jQ.1 hR) hi]
 unfold eA
 congr 1
 funext x
 simp[pI]
theorem sk:∀{T:List ad} {i:Nat} (hi:i<T.length),(T[i]::T.eraseIdx i).Perm T
 |x::r,0,_=>List.Perm.refl _
 |x::r,i+1,h=>(List.Perm.swap x _ _).trans ((sk (T:=r) (i:=i) (by simpa using h)).cons x)
theorem ud {G T:List ad} {i:Nat} (hi:i<T.length) {a:List ad} (h:(G++T).Perm a):((G++[T[i]])++T.eraseIdx i).Perm a:=by
 refine List.Perm.trans ?_ h
 rw[List.append_assoc]
 refine List.Perm.append_left G ?_
 exact sk hi
theorem Ca (l:List ad) (h0:l≠[]) (hl:l.length<=1048576) (n0:Nat):Call Tryz.prog 116 [.agg [.sl (l.map aa)]] ⟨fun _=>none,n0⟩ (Jw n0 l):=by
 refine eO eb rfl fun nP=>?_
 clear nP
 (try((repeat(revert hN;revert N;apply Pn.out));refine wk @Nat.zero_add ?_;(repeat(refine Pn.mk ?_;intro N hN))))
 refine .inr (aE _ _ _ _ _ (fun r σ1 hq=>?_) (wR l (List.length_pos_iff.2 h0) hl _))
 obtain⟨g1,x1⟩:=σ1
 obtain⟨o,rfl,q1,q2,q3,q4⟩:=hq
 (try dsimp only at q1 q2 q3 q4)
 have kC:=q4 ⟨116000001,n0⟩ (by(try dsimp only);omega)
 simp only[go_sem, ↓reduceIte,Nat.reduceEqDiff,Nat.reduceAdd,Nat.reduceSub,Nat.reduceLeDiff,reduceCtorEq]at kC
 refine hN _ _ ?_
 clear hN N
 (try((repeat(revert hN;revert N;apply Pn.out));refine wk @kC ?_;(repeat(refine Pn.mk ?_;intro N hN))))
 have oc:(o=(⟨116000001,n0⟩:Id))=False:=eq_false fun e=>by rw[e]at q2;(try dsimp only at q2);omega
 exact fI (.inl rfl) (vs:=[.agg [.own o 0 l.length]]) (sd @Nat.zero_add) ⟨o,rfl,sd (tw @oc @q1),by omega,by(try dsimp only);omega⟩
theorem uZ {s:aU} (h0:ji s.bf.ah) {T:List ad} (hR:ji T) (fJ:∀x∈s.bf.ah,x∈T) {i:Nat} (hi:i<T.length) (hl:qv s T (bc T i)=true):∀x∈s.bf.ah,x∈T.eraseIdx i:=by
 intro x hx
 rw[ee hi]at hl
 rw[erase_filter (jQ.1 hR) hi,List.mem_filter]
 refine⟨fJ x hx,?_⟩
 have gF:x.aW≠T[i].aW:=fun e=>by
  have h1:=BW h0 hx
  have h2:=BW hR (fJ x hx)
  have h3:=BW hR (List.getElem_mem hi)
  rw[e]at h1 h2
  rw[h2]at h3
  rw[qv,NV,h1,h3]at hl
  simp at hl
 simp[gF]
theorem xX:ak Tryz.prog 166 [.bP] .bP:=by
 refine ak.body eb rfl fun hl n0=>?_
 clear hl
 (try((repeat(revert hN;revert N;apply Pn.out));refine wk @Nat.zero_add ?_;(repeat(refine Pn.mk ?_;intro N hN))))
 exact k7 (.inl rfl) (vs:=[.bP]) (sd @Nat.zero_add) (by simp only[eL,iV])
theorem Dj (σ:ar):Call Tryz.prog 185 [.bP,.fn 186 []] σ fun r σ'=>r=.ij []/\σ'.next=σ.next/\σ'.get=σ.get:=by
 refine gr fun hs D ι w vs S U A=>?_
 obtain⟨u1,us1,rfl,h1,h2⟩:=oF A
 obtain⟨u2,us2,h3,h4,h5⟩:=oF h2
 simp at h3;subst h3
 have:=A9 h5
 simp at this;subst this
 obtain rfl:=jd h1
 refine(ID _ _ _ w).mono ?_
 rintro e w' ⟨rfl,rfl⟩
 exact⟨.ij [],σ.get,σ.next,D,ι,_,rfl,⟨rfl,rfl,rfl⟩,Step.refl _ _ _ _,S,U,Nat.le_refl _,.ij [] #[] (fun _=>Go.undef) rfl (fun j hj=>by simp at hj) (fun j a h=>by simp at h)⟩
theorem vL (σ:ar):Call Tryz.prog 118 [.bP] σ fun r σ'=>r=.agg [.bP]/\σ.next<=σ'.next/\∀x:Id,x.bW<σ.next->σ'.get x=σ.get x:=by
 refine eO eb rfl fun hl=>?_
 clear hl
 have h1:=xX
 (repeat(first|((repeat(revert hN;revert N;apply Pn.out));refine wk @Nat.zero_add ?_;(repeat(refine Pn.mk ?_;intro N hN)))|((try apply Or.inl);refine⟨_,ak.x (h1) (sd @Nat.zero_add),?_⟩;refine hN _ _ ?_;clear hN N)))
 refine .inr (aE _ _ _ _ _ (fun r σ2 hq=>?_) (Dj _))
 obtain⟨g2,x2⟩:=σ2
 obtain⟨rfl,u1,u2⟩:=hq
 (try dsimp only at u1 u2)
 subst u1 u2
 refine hN _ _ ?_
 clear hN N
 (try((repeat(revert hN;revert N;apply Pn.out));refine wk @Nat.zero_add ?_;(repeat(refine Pn.mk ?_;intro N hN))))
 exact fI (.inl rfl) (vs:=[.agg [.bP]]) (sd @Nat.zero_add) ⟨rfl,by(try dsimp only);omega,fun x hx=>by
  have h:=ef hx
  simp only[go_sem, ↓reduceIte,Nat.reduceEqDiff,Nat.reduceAdd,Nat.reduceSub,Nat.reduceLeDiff,reduceCtorEq,h]⟩
theorem Gs {s:aU} {a:List ad} (Gx:gN s.aV s.bf.ah) (hW:jI s.bf.ah a=true):∀x∈s.bf.ah,x∈a:=by
 intro x hx
 have h:=of_decide_eq_true (List.all_eq_true.1 hW x hx)
 have ht:0<=x.aZ:=by have h2:=Gx.2 x hx;unfold fP at h2;exact(ew h2).1
 unfold iE at h
 split at h
 ·rename_i h0
  obtain⟨h1,h2⟩:=me h0
  have e:bc a (eG a x.aW).toNat=x:=by
   cases x;simp only at *
   generalize bc a _=y at *
   cases y;simp only at *
   rw[h,h2]
  rw[<-e];exact iy h1
 ·omega
def R4 (G:List ad) (v:AV) (g:Rows) (m n:Nat):Prop:=(G=[]/\v=.bP)∨∃u:Id,v=.own u 0 G.length/\g u=some ⟨true,3,G.map aa⟩/\m<=u.bW/\u.bW<n/\0<G.length/\u.site=57010003
theorem JB (s:aU) (a:List ad) (hn:fm s.aV) (hm:oY s) (hl:a.length<=1048576) (n0:Nat):
  Call Tryz.prog 57 [.agg (ao s),.agg [.sl (a.map aa)]] ⟨fun _=>none,n0⟩ (fun r σ'=>∃ids,(∃v0 i0,∃v1 i1,r=.ij [.agg [v0],v1,.int .i64 (ni s a).2.2]/\jS aa 3 σ'.get v0 (ni s a).1 i0/\jS aa 3 σ'.get v1 (ni s a).2.1 i1/\ids=i0++i1)/\eE n0 σ'.next ids):=by
 have h1:=yD s a hn hm hl
 by_cases h0:iM s a=0
 ·obtain⟨hP,hA,hW⟩:=xx.1 h0
  have hr:ni s a=(nj s a,fF a (nj s a) a.length,0):=by rw[ni,if_pos h0]
  rw[h0]at h1
  rw[hr]
  (try dsimp only)
  have Fk:=hA.1.sU
  have P9:∀x∈s.bf.ah,x∈a:=Gs hP.s8 hW
  have gF:a≠[]:=by
   intro e
   obtain⟨x,hx⟩:=List.exists_mem_of_length_pos (show 0<s.bf.ah.length from hP.some)
   have:=P9 x hx
   rw[e]at this;cases this
  refine tK Lm rfl fun nP=>?_
  try simp only[q]
  clear nP
  (repeat(first|((repeat(revert hN;revert N;apply Pn.out));refine wk @ao.eq_1 ?_;(repeat(refine Pn.mk ?_;intro N hN)))|((try apply Or.inl);refine⟨_,ak.x (h1) (sd @ao.eq_1),?_⟩;refine hN _ _ ?_;clear hN N)))
  refine .inr (aE _ _ _ _ _ (fun r σ1 xc=>?_) (Jw.val (fun n=>Ca a gF hl n) (by simp only[ae,ai,aM,bD,Option.map_some])))
  obtain⟨⟨o,rfl,q1,q2,q3⟩,hK⟩:=xc
  obtain⟨g1,x1⟩:=σ1
  (try dsimp only at q1 q2 q3 hK)
  have rK:=hK.1
  (try dsimp only at rK)
  have kA:=hK.2 ⟨57000000,n0⟩ (by(try dsimp only);omega)
  have kC:=hK.2 ⟨57000002,n0⟩ (by(try dsimp only);omega)
  simp only[go_sem, ↓reduceIte,Nat.reduceEqDiff,Nat.reduceAdd,Nat.reduceSub,Nat.reduceLeDiff,reduceCtorEq,ao]at kA kC
  refine hN _ _ ?_
  clear hN N
  have tr:∀(g:Rows) (T J:List ad) (o:Id),g o=some ⟨true,3,(T++J).map aa⟩->cI (dd g) 6 [.agg (ao s),.agg [.own o 0 T.length]]=some [.agg (ao s),.agg [.sl (T.map aa)]]:=fun g T J o h=>JW (x8 _ _) (jF (nO h w6))
  rw[ao]at tr
  have vo:=ef (i:=o) (n:=x1) q3
  obtain⟨w0,BF,Qc⟩:=Eo s hP.set hP.s8 a hA
  rw[ao]at Qc
  (try((repeat(revert hN;revert N;apply Pn.out));refine wk (tw @kA @kC) ?_;(repeat(refine Pn.mk ?_;intro N hN))))
  refine .inl ⟨_,ak.x Qc (tr _ a [] o (by rw[List.append_nil];simp only[go_sem, ↓reduceIte,Nat.reduceEqDiff,Nat.reduceAdd,Nat.reduceSub,Nat.reduceLeDiff,reduceCtorEq,vo,q1])),?_⟩
  refine hN _ _ ?_
  clear hN N
  (try((repeat(revert hN;revert N;apply Pn.out));refine wk @Nat.zero_add ?_;(repeat(refine Pn.mk ?_;intro N hN))))
  refine aY (fun n env st=>∃(T G J:List ad) (m:Nat) (o:Id) (w:AV),n=m/\T.length=m/\Js s m T=nj s a/\gN s.aV T/\(G++T).Perm a/\(∀x∈s.bf.ah,x∈T)/\x1<st.next/\st.get ⟨57000000,n0⟩=some ⟨true,4,[ao s]⟩/\st.get ⟨57000002,n0⟩=some ⟨true,1,[[.bP]]⟩/\st.get ⟨57004002,x1⟩=some ⟨true,1,[[.own o 0 T.length]]⟩/\st.get o=some ⟨true,3,(T++J).map aa⟩/\n0<o.bW/\o.bW<st.next/\(o=⟨57004002,x1⟩->False)/\env 10=w/\(w=.bP/\fG s T T.length=[]∨w=.sl ((fG s T T.length).map aT))/\R4 G (env 9) st.get x1 o.bW) a.length
   ⟨a,[],[],a.length,o,w0,rfl,rfl,rfl,hA,List.Perm.refl _,P9,by(try dsimp only);omega,sd (tw @kA @ao.eq_1),sd @kC,sd @Nat.zero_add,by rw[List.append_nil];simp only[go_sem, ↓reduceIte,Nat.reduceEqDiff,Nat.reduceAdd,Nat.reduceSub,Nat.reduceLeDiff,reduceCtorEq,vo,q1],by omega,by(try dsimp only);omega,fun e=>by rw[e]at q3;(try dsimp only at q3);omega,sd @Nat.zero_add,BF,.inl ⟨rfl,sd @Nat.zero_add⟩⟩ ?_
  rintro n env_f st_f ⟨T,G,J,m,o2,w,rfl,hTl,mb,hTA,hpm,uw,fx,fA,fC,fX,fo,fo1,fo2,fXo,f10,hw,hG⟩ hk
  have c2:=hk 2 (by kernel_rfl)
  have c3:=hk 3 (by kernel_rfl)
  have c4:=hk 4 (by kernel_rfl)
  have c8:=hk 8 (by kernel_rfl)
  simp only[go_sem, ↓reduceIte,Nat.reduceEqDiff,Nat.reduceAdd,Nat.reduceSub,Nat.reduceLeDiff,reduceCtorEq]at c2 c3 c4 c8
  clear hk
  have hTf:=hTA.1.sU
  have vA:=ef (i:=⟨57000000,n0⟩) (n:=st_f.next) (by(try dsimp only);omega)
  have vC:=ef (i:=⟨57000002,n0⟩) (n:=st_f.next) (by(try dsimp only);omega)
  have vX:=ef (i:=⟨57004002,x1⟩) (n:=st_f.next) (by(try dsimp only);omega)
  have v2:=ef fo2
  rw[ao]at fA
  rcases rR (s:=s) (a:=T) T.length with⟨OP,_⟩|⟨i,r,OP,RG,hl3,_⟩
  ·rw[Dc OP]at mb
   subst mb
   have d0:decide ((0:Int)<((0:Nat):Int))=false:=rfl
   have hln:([]:List (List AV)).length=0:=rfl
   generalize hMM:nj s a=M at *
   have jZ:0<M.length:=by
    obtain⟨x,hx⟩:=List.exists_mem_of_length_pos (show 0<s.bf.ah.length from hP.some)
    exact List.length_pos_of_mem (uw x hx)
   have RA:=Fe hA.1.zz hpm
   have Ea:=Hq (T:=M) hA.1.zz
   rcases hG with⟨Ri,g9⟩|⟨u,g9,hu,Jq,NB,hu3,hu4⟩
   ·rw[Ri]at RA
    have Fm:fF a M a.length=[]:=List.nil_perm.1 RA
    rcases hw with⟨pG,_⟩|pG
    all_goals
     (try rw[OP,List.map_nil]at pG)
     (try((repeat(revert hN;revert N;apply Pn.out));refine wk (tw @f10 (tw @pG (tw @d0 @hln))) ?_;(repeat(refine Pn.mk ?_;intro N hN))))
     refine eK ?_ ?_
     all_goals
      (try((repeat(revert hN;revert N;apply Pn.out));refine wk (tw @c8 (tw @g9 @fX)) ?_;(repeat(refine Pn.mk ?_;intro N hN))))
      refine .inr (aE _ _ _ _ _ (fun r' σ3 Tu=>?_) (vL _))
      obtain⟨g3,x3⟩:=σ3
      obtain⟨rfl,u1,u2⟩:=Tu
      (try dsimp only at u1 u2)
      have jX:=(u2 ⟨57004002,x1⟩ (by(try dsimp only);omega)).trans fX
      have jC:=(u2 ⟨57000002,n0⟩ (by(try dsimp only);omega)).trans fC
      have jo:=(u2 o2 (by(try dsimp only);omega)).trans fo
      refine hN _ _ ?_
      clear hN N
      have oC:=du (a:=⟨57000002,n0⟩) (b:=o2) (by(try dsimp only);omega)
      (try((repeat(revert hN;revert N;apply Pn.out));refine wk (tw @c4 (tw @c8 (tw @g9 (tw @jX @jC)))) ?_;(repeat(refine Pn.mk ?_;intro N hN))))
      exact fI (.inl rfl) (vs:=[.agg [.own o2 0 M.length],.bP,.int .i64 0]) (sd @c4) ⟨[o2]++[],⟨.own o2 0 M.length,[o2],.bP,[],rfl,.inr ⟨o2,J,rfl,sd (tw @oC @jo),rfl,jZ⟩,.inl ⟨Fm,rfl,rfl⟩,rfl⟩,⟨by simp,fun i hi=>by rw[List.append_nil]at hi;rw[List.mem_singleton.1 hi];(try dsimp only);omega⟩⟩
   ·have SA:G≠[]:=List.length_pos_iff.1 hu3
    have qm:0<(fF a M a.length).length:=by rw[<-RA.length_eq];exact hu3
    have PF:G.length<=1000000:=by have:=hpm.length_eq;rw[List.length_append]at this;omega
    rcases hw with⟨pG,_⟩|pG
    all_goals
     (try rw[OP,List.map_nil]at pG)
     (try((repeat(revert hN;revert N;apply Pn.out));refine wk (tw @f10 (tw @pG (tw @d0 @hln))) ?_;(repeat(refine Pn.mk ?_;intro N hN))))
     refine eK ?_ ?_
     all_goals
      (try((repeat(revert hN;revert N;apply Pn.out));refine wk (tw @c8 (tw @g9 @fX)) ?_;(repeat(refine Pn.mk ?_;intro N hN))))
      refine .inr (aE _ _ _ _ _ (fun r' σ3 Tu=>?_) (xP G _ PF SA Ea RA _ u (by(try dsimp only);omega) hu))
      obtain⟨g3,x3⟩:=σ3
      obtain⟨o4,rfl,u1,u3,u4,u2⟩:=Tu
      (try dsimp only at u1 u2 u3 u4)
      have jX:=(u2 ⟨57004002,x1⟩ (by(try dsimp only);omega)).trans fX
      have jC:=(u2 ⟨57000002,n0⟩ (by(try dsimp only);omega)).trans fC
      have jo:=(u2 o2 (by(try dsimp only);omega)).trans fo
      refine hN _ _ ?_
      clear hN N
      have oC:=du (a:=⟨57000002,n0⟩) (b:=o2) (by(try dsimp only);omega)
      have o4C:=du (a:=⟨57000002,n0⟩) (b:=o4) (by(try dsimp only);omega)
      (try((repeat(revert hN;revert N;apply Pn.out));refine wk (tw @c4 (tw @c8 (tw @g9 (tw @jX @jC)))) ?_;(repeat(refine Pn.mk ?_;intro N hN))))
      exact fI (.inl rfl) (vs:=[.agg [.own o2 0 M.length],.own o4 0 (fF a M a.length).length,.int .i64 0]) (sd @c4) ⟨[o2]++[o4],⟨.own o2 0 M.length,[o2],.own o4 0 (fF a M a.length).length,[o4],rfl,.inr ⟨o2,J,rfl,sd (tw @oC @jo),rfl,jZ⟩,.inr ⟨o4,[],rfl,by rw[List.append_nil];simp only[go_sem, ↓reduceIte,Nat.reduceEqDiff,Nat.reduceAdd,Nat.reduceSub,Nat.reduceLeDiff,reduceCtorEq,o4C,u1],rfl,qm⟩,rfl⟩,⟨by simp;intro e;rw[e]at fo2;omega,fun i hi=>by
       rcases List.mem_append.1 hi with h|h<;>rw[List.mem_singleton.1 h]<;>(try dsimp only)<;>omega⟩⟩
  ·have yq:i<T.length:=OP
   have pG:w=.sl ((fG s T T.length).map aT):=by
    rcases hw with⟨_,h⟩|h
    ·rw[RG]at h;cases h
    ·exact h
   rw[RG]at pG
   obtain⟨m',rfl⟩:∃m',n=m'+1:=⟨n-1,by omega⟩
   rw[y5 RG,Int.toNat_natCast]at mb
   have Al:((((i:Int)::r).map aT).length)=r.length+1:=by simp
   have P4:((((i:Int)::r).map aT))[0]? =some [.int .i64 (i:Int)]:=rfl
   have Qg:(0:Int)<((r.length+1:Nat):Int):=by omega
   have SZ:((T++J).map aa)[i]? =some (aa (bc T i)):=by rw[List.map_append,List.getElem?_append_left (by simpa using yq)];exact fH yq
   rw[aa]at SZ
   have P7:(i:Int)<(T.length:Int):=by omega
   have hke:eA (pI [(bc T i).aW]) T=T.eraseIdx i:=by rw[ee yq];exact HY hTA.1.zz yq
   have PZ:∀(g:Rows) (b:Id),g o2=some ⟨true,3,(T++J).map aa⟩->g b=some ⟨true,2,[aj (bc T i).aW]⟩->cI (dd g) 6 [.agg [.own o2 0 T.length],.own b 0 1]=some [.agg [.sl (T.map aa)],.sl ([(bc T i).aW].map aj)]:=fun g b h2 h3=>JW (jF (nO h2 w6)) (gx (e:=aj) (l:=[(bc T i).aW]) (sz:=2) (by simp[dd,h3]) rfl fun x=>by simp[aj,ae,ai,ay])
   obtain⟨w2,Qv,Ni⟩:=Eo s hP.set hP.s8 (T.eraseIdx i) (ox hTA i)
   rw[ao]at Ni
   rcases hG with⟨Ri,g9⟩|⟨u,g9,hu,Jq,NB,hu3,hu4⟩
   ·(try((repeat(revert hN;revert N;apply Pn.out));refine wk (tw @c2 (tw @c3 (tw @c8 (tw @f10 (tw @pG (tw @Al (tw @P4 (tw @Qg (tw @fX (tw @fo (tw @yq (tw @P7 (tw @SZ (tw @v2 (tw @vX @g9))))))))))))))) ?_;(repeat(refine Pn.mk ?_;intro N hN))))
    have ND:=fun n=>xJ T [(bc T i).aW] (by omega) (by omega) (by simp) n
    rw[hke]at ND
    refine .inr (aE _ _ _ _ _ (fun r' σ2 l9=>?_) (OA.val ND (PZ _ _ (sd (tw @fo @v2)) (sd @aj.eq_1))))
    obtain⟨⟨o3,J3,rfl,p1,p2,p3⟩,tp⟩:=l9
    obtain⟨g2,x2⟩:=σ2
    (try dsimp only at p1 p2 p3 tp)
    have HG:=tp.1
    (try dsimp only at HG)
    have jA:=tp.2 ⟨57000000,n0⟩ (by(try dsimp only);omega)
    have jC:=tp.2 ⟨57000002,n0⟩ (by(try dsimp only);omega)
    have jX:=tp.2 ⟨57004002,x1⟩ (by(try dsimp only);omega)
    have jU:=tp.2 ⟨57010003,st_f.next+1+1⟩ (by(try dsimp only);omega)
    simp only[go_sem, ↓reduceIte,Nat.reduceEqDiff,Nat.reduceAdd,Nat.reduceSub,Nat.reduceLeDiff,reduceCtorEq,fA,fC,fX,vA,vC,vX]at jA jC jX jU
    refine hN _ _ ?_
    clear hN N
    have X3:(o3=(⟨57004002,x1⟩:Id))=False:=eq_false fun e=>by rw[e]at p2;(try dsimp only at p2);omega
    have v3:=ef p3
    have QT:=ef (i:=⟨57004002,x1⟩) (n:=x2) (by(try dsimp only);omega)
    (try((repeat(revert hN;revert N;apply Pn.out));refine wk (tw @c2 (tw @c8 (tw @jA (tw @jX @QT)))) ?_;(repeat(refine Pn.mk ?_;intro N hN))))
    refine .inl ⟨_,ak.x Ni (tr _ (T.eraseIdx i) J3 o3 (sd (tw @X3 (tw @v3 @p1)))),?_⟩
    refine hN _ _ ?_
    clear hN N
    (try((repeat(revert hN;revert N;apply Pn.out));refine wk (tw @c2 (tw @c8 (tw @jA (tw @jX @QT)))) ?_;(repeat(refine Pn.mk ?_;intro N hN))))
    exact⟨m',Nat.lt_succ_self _,T.eraseIdx i,G++[bc T i],J3,m',o3,w2,rfl,by rw[List.length_eraseIdx,if_pos yq];omega,mb,ox hTA i,by rw[ee yq];exact ud yq hpm,uZ hP.s8.1.zz hTA.1.zz uw yq hl3,by(try dsimp only);omega,sd (tw @jA @ao.eq_1),sd @jC,sd @Nat.zero_add,sd (tw @X3 @p1),by(try dsimp only at p2);omega,by(try dsimp only);omega,fun e=>by rw[e]at p2;(try dsimp only at p2);omega,sd @Nat.zero_add,Qv,.inr ⟨⟨57010003,st_f.next+1+1⟩,by rw[Ri];simp only[go_sem, ↓reduceIte,Nat.reduceEqDiff,Nat.reduceAdd,Nat.reduceSub,Nat.reduceLeDiff,reduceCtorEq,List.nil_append,List.length_singleton],by rw[Ri];simp only[go_sem, ↓reduceIte,Nat.reduceEqDiff,Nat.reduceAdd,Nat.reduceSub,Nat.reduceLeDiff,reduceCtorEq,jU,aa,List.nil_append,List.map_cons,List.map_nil],by(try dsimp only);omega,by(try dsimp only at p2);(try dsimp only);omega,by simp,rfl⟩⟩
   ·have vu:=ef (i:=u) (n:=st_f.next) (by omega)
    have ou:=du NB
    have hGm:(G.map aa).length=G.length:=by simp
    have PF:G.length<=16777215:=by have:=hpm.length_eq;rw[List.length_append]at this;omega
    have uX:=eV hu4 (b:=57004002) (v:=x1) (by decide)
    have uA:=eV hu4 (b:=57000000) (v:=n0) (by decide)
    have uC:=eV hu4 (b:=57000002) (v:=n0) (by decide)
    (try((repeat(revert hN;revert N;apply Pn.out));refine wk (tw @c2 (tw @c3 (tw @c8 (tw @f10 (tw @pG (tw @Al (tw @P4 (tw @Qg (tw @fX (tw @fo (tw @yq (tw @P7 (tw @SZ (tw @v2 (tw @vX (tw @g9 (tw @hu (tw @vu (tw @ou (tw @hGm (tw @PF @uX))))))))))))))))))))) ?_;(repeat(refine Pn.mk ?_;intro N hN))))
    have ND:=fun n=>xJ T [(bc T i).aW] (by omega) (by omega) (by simp) n
    rw[hke]at ND
    refine .inr (aE _ _ _ _ _ (fun r' σ2 l9=>?_) (OA.val ND (PZ _ _ (sd (tw @fo (tw @v2 @ou))) (sd (tw @aj.eq_1 @vu)))))
    obtain⟨⟨o3,J3,rfl,p1,p2,p3⟩,tp⟩:=l9
    obtain⟨g2,x2⟩:=σ2
    (try dsimp only at p1 p2 p3 tp)
    have HG:=tp.1
    (try dsimp only at HG)
    have jA:=tp.2 ⟨57000000,n0⟩ (by(try dsimp only);omega)
    have jC:=tp.2 ⟨57000002,n0⟩ (by(try dsimp only);omega)
    have jX:=tp.2 ⟨57004002,x1⟩ (by(try dsimp only);omega)
    have jU:=tp.2 ⟨57010003,st_f.next+1+1⟩ (by(try dsimp only);omega)
    simp only[go_sem, ↓reduceIte,Nat.reduceEqDiff,Nat.reduceAdd,Nat.reduceSub,Nat.reduceLeDiff,reduceCtorEq,fA,fC,fX,vA,vC,vX,uX,uA,uC,vu]at jA jC jX jU
    refine hN _ _ ?_
    clear hN N
    have X3:(o3=(⟨57004002,x1⟩:Id))=False:=eq_false fun e=>by rw[e]at p2;(try dsimp only at p2);omega
    have v3:=ef p3
    have QT:=ef (i:=⟨57004002,x1⟩) (n:=x2) (by(try dsimp only);omega)
    (try((repeat(revert hN;revert N;apply Pn.out));refine wk (tw @c2 (tw @c8 (tw @jA (tw @jX @QT)))) ?_;(repeat(refine Pn.mk ?_;intro N hN))))
    refine .inl ⟨_,ak.x Ni (tr _ (T.eraseIdx i) J3 o3 (sd (tw @X3 (tw @v3 @p1)))),?_⟩
    refine hN _ _ ?_
    clear hN N
    (try((repeat(revert hN;revert N;apply Pn.out));refine wk (tw @c2 (tw @c8 (tw @jA (tw @jX @QT)))) ?_;(repeat(refine Pn.mk ?_;intro N hN))))
    exact⟨m',Nat.lt_succ_self _,T.eraseIdx i,G++[bc T i],J3,m',o3,w2,rfl,by rw[List.length_eraseIdx,if_pos yq];omega,mb,ox hTA i,by rw[ee yq];exact ud yq hpm,uZ hP.s8.1.zz hTA.1.zz uw yq hl3,by(try dsimp only);omega,sd (tw @jA @ao.eq_1),sd @jC,sd @Nat.zero_add,sd (tw @X3 @p1),by(try dsimp only at p2);omega,by(try dsimp only);omega,fun e=>by rw[e]at p2;(try dsimp only at p2);omega,sd @Nat.zero_add,Qv,.inr ⟨⟨57010003,st_f.next+1+1⟩,by rw[List.length_append];simp only[go_sem, ↓reduceIte,Nat.reduceEqDiff,Nat.reduceAdd,Nat.reduceSub,Nat.reduceLeDiff,reduceCtorEq,List.length_singleton],by rw[List.map_append];simp only[go_sem, ↓reduceIte,Nat.reduceEqDiff,Nat.reduceAdd,Nat.reduceSub,Nat.reduceLeDiff,reduceCtorEq,jU,aa,List.map_cons,List.map_nil],by(try dsimp only);omega,by(try dsimp only at p2);(try dsimp only);omega,by simp,rfl⟩⟩
 ·have hd:decide (iM s a=0)=false:=decide_eq_false h0
  have hr:ni s a=([],[],iM s a):=by rw[ni,if_neg h0]
  rw[hr]
  refine tK Lm rfl fun nP=>?_
  try simp only[q]
  clear nP
  rw[ao]at h1 ⊢
  (repeat(first|((repeat(revert hN;revert N;apply Pn.out));refine wk @hd ?_;(repeat(refine Pn.mk ?_;intro N hN)))|((try apply Or.inl);refine⟨_,ak.x (h1) (sd @hd),?_⟩;refine hN _ _ ?_;clear hN N)))
  exact fI (.inl rfl) (vs:=[.agg [.bP],.bP,.int .i64 (iM s a)]) (sd @Nat.zero_add) ⟨[],⟨.bP,[],.bP,[],rfl,.inl ⟨rfl,rfl,rfl⟩,.inl ⟨rfl,rfl,rfl⟩,rfl⟩,⟨List.nodup_nil,fun i hi=>by cases hi⟩⟩
end Go.Proofs.YtgoljkjaameagaaGreat.V

namespace Go.Proofs.YtgoljkjaameagaaGreat
open Go.ChangeShapes Go.WideShapes Go.ChangeAt Go.RowKit Go.Deep
section
variable {H:Type} {enc:TypeId×Value->H} {P:Program} {w:World}
theorem l5.QH {α:Type} {rep:World->List Nat->List Value->α->Prop} {sz:Nat} {w:World} {b o len cap:Nat} (nF:Nat->List Value) (fs:Nat->List Nat) (ds:Nat->α) (hc:len<=cap) (hm:cap<=maxLen)
  (hl:∀i,i<len->(nF i).length=sz) (hr:∀i,i<len->rep w (fs i) (nF i) (ds i)) (zu:∀i,i<len->∀j u,(nF i)[j]? =some u->w.cell? ⟨b,o+(i*sz+j),none⟩=some u):
  l5 rep sz w ([b]++((List.range len).map fs).flatten) (.slice (some ⟨b,o,none⟩) len cap) ((List.range len).map ds):=by
 refine⟨(List.range len).map nF,(List.range len).map fs,[b],rfl,⟨some ⟨b,o,none⟩,cap,by simp,by simpa using hc,hm,.inr ⟨b,o,rfl,rfl,fun j u hj=>?_⟩⟩,by simp,by simp,fun i cs f d h1 h2 h3=>?_⟩
 ·have hlen:∀cs∈(List.range len).map nF,cs.length=sz:=fun cs di=>by
   obtain⟨i,hi,rfl⟩:=List.mem_map.1 di
   exact hl i (List.mem_range.1 hi)
  have gC:=(List.getElem?_eq_some_iff.1 hj).1
  have J2:((List.range len).map nF).flatten.length=len*sz:=by
   rw[List.length_flatten,List.map_map]
   have:∀(l:List Nat),(∀i∈l,i<len)->(l.map (List.length∘nF)).sum=l.length*sz:=by
    intro l
    induction l with
    |nil=>intro _;simp
    |cons a l ih=>intro h;rw[List.map_cons,List.sum_cons,ih fun i hi=>h i (List.mem_cons_of_mem _ hi)];simp only[Function.comp,hl a (h a (by simp)),List.length_cons,Nat.add_mul];omega
   rw[this _ fun i hi=>List.mem_range.1 hi,List.length_range]
  rw[J2]at gC
  have LM:0<sz:=by
   rcases Nat.eq_zero_or_pos sz with h|h
   ·subst h;simp at gC
   ·exact h
  have hi:j / sz<len:=(Nat.div_lt_iff_lt_mul LM).2 gC
  have LH:j % sz<sz:=Nat.mod_lt _ LM
  have J7:j=(j / sz)*sz+j % sz:=by rw[Nat.mul_comm];exact(Nat.div_add_mod j sz).symm
  rw[J7,so hlen (i:=j / sz) (cs:=nF (j / sz)) (by simp[hi]) LH]at hj
  rw[J7]
  have:=zu (j / sz) hi (j % sz) u hj
  rw[<-J7]at this ⊢
  exact this
 ·have hi:i<len:=by
   have:=(List.getElem?_eq_some_iff.1 h1).1
   simpa using this
  simp[hi]at h1 h2 h3
  subst h1 h2 h3
  exact⟨hr i hi,hl i hi⟩
theorem jT (b o k:Nat):(⟨b,o,none⟩:Addr).add k=⟨b,o+k,none⟩:=by
 unfold Addr.add;split
 ·rename_i h;subst h;rfl
 ·rfl
theorem oN {α:Type} {rep:World->List Nat->List Value->α->Prop} {Q:α->Prop} {t e:TypeId} {sz fuel:Nat} {cs:List Value} {x:DataW H×List MemPlace} (ht:P.underlying t=some (.slice e)) (hC:P.cellsOf e=sz) (LM:0<sz)
  (h:DataW.trod enc P w 0 (fun _=>true) true fuel t cs=some x) (hel:∀n o5 y,o5.length=sz->DataW.trod enc P w 0 (fun _=>true) true n e o5=some y->∃f d,fB f 0 w.heap.size/\rep w f o5 d/\Q d):
  ∃A n c f xs,cs=[.slice A n c]/\fB f 0 w.heap.size/\l5 rep sz w f (.slice A n c) xs/\∀d∈xs,Q d:=by
 rcases open_slice ht h with⟨rfl,_⟩|⟨a,len,cap,m,n,D,Pl,rfl,_,hl,hm,BC,_,hi⟩
 ·exact⟨none,0,0,[],[],rfl,fB.nil _ _,l5.nil _ _ _,fun d h=>by cases h⟩
 rw[hC]at hi
 simp only[if_true]at BC
 by_cases h0:len=0
 ·subst h0
  exact⟨some a,0,cap,[],[],rfl,fB.nil _ _,⟨[],[],[],rfl,⟨some a,cap,rfl,Nat.zero_le _,hm,.inl ⟨rfl,rfl⟩⟩,rfl,rfl,fun i cs f d hc=>by simp at hc⟩,fun d h=>by cases h⟩
 obtain⟨b,o,sp⟩:=a
 have cell0:∃v,w.cell? ⟨b,o,sp⟩=some v:=by
  obtain⟨o5,hc,_⟩:=hi 0 (by omega)
  obtain⟨_,lI,zu⟩:=World.cells?_some hc
  refine⟨o5[0]'(by omega),?_⟩
  have:=zu 0 LM
  rw[List.getElem?_eq_getElem (by omega)]at this
  simpa[Addr.add]using this
 obtain⟨v0,qW⟩:=cell0
 have hb:b<w.heap.size:=World.block_lt_of_cell? w _ qW
 have Nw:sp=none:=by
  unfold World.cell? at qW
  split at qW
  ·split at qW
   ·cases qW
   ·rename_i h;simpa using h
  ·cases qW
 subst Nw
 have key:∀i,i<len->∃o5 f d,o5.length=sz/\fB f 0 w.heap.size/\rep w f o5 d/\Q d/\∀j u,o5[j]? =some u->w.cell? ⟨b,o+(i*sz+j),none⟩=some u:=fun i o7=>by
  obtain⟨o5,hc,htr⟩:=hi i (by omega)
  obtain⟨_,lI,zu⟩:=World.cells?_some hc
  obtain⟨f,d,h1,h2,h3⟩:=hel n o5 _ lI htr
  refine⟨o5,f,d,lI,h1,h2,h3,fun j u hj=>?_⟩
  have gC:=(List.getElem?_eq_some_iff.1 hj).1
  have:=zu j (by omega)
  rw[hj]at this
  rw[<-this,Go.Deep.add_add,jT]
 have:Nonempty α:=by
  obtain⟨_,_,d,_⟩:=key 0 (by omega)
  exact⟨d⟩
 let cf:Nat->List Value:=fun i=>if hi:i<len then(key i hi).choose else[]
 let ff:Nat->List Nat:=fun i=>if hi:i<len then(key i hi).choose_spec.choose else[]
 let df:Nat->α:=fun i=>if hi:i<len then(key i hi).choose_spec.choose_spec.choose else Classical.choice this
 have dH:∀i,i<len->(cf i).length=sz/\fB (ff i) 0 w.heap.size/\rep w (ff i) (cf i) (df i)/\Q (df i)/\∀j u,(cf i)[j]? =some u->w.cell? ⟨b,o+(i*sz+j),none⟩=some u:=fun i hi=>by
  have:=(key i hi).choose_spec.choose_spec.choose_spec
  simp only[cf,ff,df,dif_pos hi]
  exact this
 refine⟨some ⟨b,o,none⟩,len,cap,_,(List.range len).map df,rfl,?_,l5.QH cf ff df hl hm (fun i hi=>(dH i hi).1) (fun i hi=>(dH i hi).2.2.1) (fun i hi=>(dH i hi).2.2.2.2),fun d hd=>?_⟩
 ·intro x hx
  rcases List.mem_append.1 hx with hx|hx
  ·simp at hx;subst hx;exact⟨Nat.zero_le _,hb⟩
  ·obtain⟨l,Kb,O0⟩:=List.mem_flatten.1 hx
   obtain⟨i,hi,rfl⟩:=List.mem_map.1 Kb
   exact(dH i (List.mem_range.1 hi)).2.1 x O0
 ·obtain⟨i,hi,rfl⟩:=List.mem_map.1 hd
  exact(dH i (List.mem_range.1 hi)).2.2.2.1
end
section
variable {H:Type} {enc:TypeId×Value->H} {w:World} {fuel:Nat} {cs:List Value} {x:DataW H×List MemPlace}
abbrev TT (enc:TypeId×Value->H) (w:World) (fuel t:Nat) (cs:List Value) (x:DataW H×List MemPlace):Prop:=DataW.trod enc Tryz.prog w 0 (fun _=>true) true fuel t cs=some x
theorem NQ (h:TT enc w fuel 31 cs x):∃A n c f xs,cs=[.slice A n c]/\fB f 0 w.heap.size/\tQ w f (.slice A n c) xs:=by
 obtain⟨A,n,c,f,xs,h1,h2,h3,_⟩:=oN (rep:=DJ) (Q:=fun _=>True) Tryz.underlying31 (sz:=1) (by kernel_rfl) (by omega) h fun n o5 y hl hy=>by
  obtain⟨b,rfl,_⟩:=DataW.trod_int Tryz.underlying2 hy
  exact⟨[],b,fB.nil _ _,⟨rfl,rfl⟩,trivial⟩
 exact⟨A,n,c,f,xs,h1,h2,h3⟩
theorem ml {t:TypeId} {fs:Array Field} (ht:Tryz.prog.underlying t=some (.struct fs)) (h:TT enc w fuel t cs x):cs.length=Tryz.prog.cellsOf t/\∃n,∀(i:Nat) (f:Field),fs[i]? =some f->∃y,TT enc w n f.type ((cs.drop f.offset).take (Tryz.prog.cellsOf f.type)) y:=by
 obtain⟨xs,n,_,_,hl,O0,hf⟩:=DataW.trod_struct ht h
 refine⟨hl,n,fun i f hi=>?_⟩
 have o7:i<xs.length:=by rw[O0];exact(Array.getElem?_eq_some_iff.1 hi).1
 exact⟨xs[i],(hf i f hi).trans (List.getElem?_eq_getElem o7)⟩
theorem QD {l:List Value} (h:l.length=2):∃a b,l=[a,b]:=by
 match l,h with
 |[a,b],_=>exact⟨a,b,rfl⟩
theorem TK {l:List Value} (h:l.length=3):∃a b c,l=[a,b,c]:=by
 match l,h with
 |[a,b,c],_=>exact⟨a,b,c,rfl⟩
theorem TJ {l:List Value} (h:l.length=1):∃a,l=[a]:=by
 match l,h with
 |[a],_=>exact⟨a,rfl⟩
theorem TL {l:List Value} (h:l.length=4):∃a b c d,l=[a,b,c,d]:=by
 match l,h with
 |[a,b,c,d],_=>exact⟨a,b,c,d,rfl⟩
theorem KI (h:TT enc w fuel 22 cs x):∃A n c f xs,cs=[.slice A n c]/\fB f 0 w.heap.size/\pY w f (.slice A n c) xs/\∀d∈xs,d.aC.size<=9223372036854775807:=by
 exact oN (rep:=GN) (Q:=fun d=>d.aC.size<=9223372036854775807) Tryz.underlying22 (sz:=2) (by kernel_rfl) (by omega) h fun n o5 y hl hy=>by
  obtain⟨_,m,hf⟩:=ml Tryz.underlying247 hy
  obtain⟨a,b,rfl⟩:=QD hl
  ·skip
   obtain⟨y0,h0⟩:=hf 0 _ rfl
   obtain⟨y1,h1⟩:=hf 1 _ rfl
   rw[show Tryz.prog.cellsOf _=1 from by kernel_rfl]at h0 h1
   obtain⟨p,e0,_,ws⟩:=DataW.trod_string Tryz.underlying9 h0
   obtain⟨q,e1,_⟩:=DataW.trod_int Tryz.underlying2 h1
   simp at e0 e1
   subst e0 e1
   exact⟨[],⟨p,q⟩,fB.nil _ _,⟨rfl,rfl⟩,by simpa[maxLen]using ws⟩
theorem KJ (h:TT enc w fuel 23 cs x):∃A n c f xs,cs=[.slice A n c]/\fB f 0 w.heap.size/\pZ w f (.slice A n c) xs/\∀d∈xs,d.aC.size<=9223372036854775807:=by
 exact oN (rep:=GO) (Q:=fun d=>d.aC.size<=9223372036854775807) Tryz.underlying23 (sz:=2) (by kernel_rfl) (by omega) h fun n o5 y hl hy=>by
  obtain⟨_,m,hf⟩:=ml Tryz.underlying250 hy
  obtain⟨a,b,rfl⟩:=QD hl
  ·skip
   obtain⟨y0,h0⟩:=hf 0 _ rfl
   obtain⟨y1,h1⟩:=hf 1 _ rfl
   rw[show Tryz.prog.cellsOf _=1 from by kernel_rfl]at h0 h1
   obtain⟨p,e0,_,ws⟩:=DataW.trod_string Tryz.underlying9 h0
   obtain⟨A1,n1,c1,f1,QX,e1,k1,s1⟩:=NQ h1
   simp at e0 e1
   subst e0 e1
   exact⟨_,⟨p,QX⟩,k1,⟨_,f1,rfl,rfl,s1⟩,by simpa[maxLen]using ws⟩
theorem FY (h:TT enc w fuel 26 cs x):∃A n c f xs,cs=[.slice A n c]/\fB f 0 w.heap.size/\iL w f (.slice A n c) xs:=by
 obtain⟨A,n,c,f,xs,h1,h2,h3,_⟩:=oN (rep:=zB) (Q:=fun _=>True) Tryz.underlying26 (sz:=3) (by kernel_rfl) (by omega) h fun n o5 y hl hy=>by
  obtain⟨_,m,hf⟩:=ml Tryz.underlying208 hy
  obtain⟨a,b,c,rfl⟩:=TK hl
  ·skip
   obtain⟨y0,h0⟩:=hf 0 _ rfl
   obtain⟨y1,h1⟩:=hf 1 _ rfl
   rw[show Tryz.prog.cellsOf _=2 from by kernel_rfl]at h0
   rw[show Tryz.prog.cellsOf _=1 from by kernel_rfl]at h1
   obtain⟨_,m2,Lw⟩:=ml Tryz.underlying163 h0
   obtain⟨z0,g0⟩:=Lw 0 _ rfl
   obtain⟨z1,g1⟩:=Lw 1 _ rfl
   rw[show Tryz.prog.cellsOf _=1 from by kernel_rfl]at g0 g1
   obtain⟨px,e0,_⟩:=DataW.trod_int Tryz.underlying2 g0
   obtain⟨py,e1,_⟩:=DataW.trod_int Tryz.underlying2 g1
   obtain⟨ti,e2,_⟩:=DataW.trod_int Tryz.underlying2 h1
   simp at e0 e1 e2
   subst e0 e1 e2
   exact⟨[],⟨⟨px,py⟩,ti⟩,fB.nil _ _,⟨rfl,rfl⟩,trivial⟩
 exact⟨A,n,c,f,xs,h1,h2,h3⟩
theorem uM (h:TT enc w fuel 28 cs x):∃A n c f,∃d:dY,cs=[.slice A n c]/\fB f 0 w.heap.size/\iL w f (.slice A n c) d.ah:=by
 obtain⟨hl,m,hf⟩:=ml Tryz.underlying28 h
 rw[show Tryz.prog.cellsOf _=1 from by kernel_rfl]at hl
 obtain⟨a,rfl⟩:=TJ hl
 ·skip
  obtain⟨y0,h0⟩:=hf 0 _ rfl
  rw[show Tryz.prog.cellsOf _=1 from by kernel_rfl]at h0
  obtain⟨A1,n1,c1,f1,QX,e1,k1,s1⟩:=FY h0
  simp at e1
  subst e1
  exact⟨A1,n1,c1,f1,⟨QX⟩,rfl,k1,s1⟩
theorem Im (h:TT enc w fuel 30 cs x):∃A0 n0 c0 f0 A1 n1 c1 f1 A2 n2 c2 f2,∃d:aU,cs=[.slice A0 n0 c0,.slice A1 n1 c1,.slice A2 n2 c2,.int .i64 d.aB]/\fB f0 0 w.heap.size/\pY w f0 (.slice A0 n0 c0) d.aV.au/\fB f1 0 w.heap.size/\pZ w f1 (.slice A1 n1 c1) d.aV.ah/\fB f2 0 w.heap.size/\iL w f2 (.slice A2 n2 c2) d.bf.ah/\(∀g∈d.aV.au,g.aC.size<=9223372036854775807)/\∀t∈d.aV.ah,t.aC.size<=9223372036854775807:=by
 obtain⟨hl,m,hf⟩:=ml Tryz.underlying30 h
 rw[show Tryz.prog.cellsOf _=4 from by kernel_rfl]at hl
 obtain⟨a,b,c,d,rfl⟩:=TL hl
 ·skip
  obtain⟨y0,h0⟩:=hf 0 _ rfl
  obtain⟨y1,h1⟩:=hf 1 _ rfl
  obtain⟨y2,h2⟩:=hf 2 _ rfl
  rw[show Tryz.prog.cellsOf _=2 from by kernel_rfl]at h0
  rw[show Tryz.prog.cellsOf _=1 from by kernel_rfl]at h1 h2
  obtain⟨_,m2,Lw⟩:=ml Tryz.underlying25 h0
  obtain⟨z0,g0⟩:=Lw 0 _ rfl
  obtain⟨z1,g1⟩:=Lw 1 _ rfl
  rw[show Tryz.prog.cellsOf _=1 from by kernel_rfl]at g0 g1
  obtain⟨A0,n0,c0,f0,xs0,e0,k0,s0,o0⟩:=KI g0
  obtain⟨A1,n1,c1,f1,QX,e1,k1,s1,o1⟩:=KJ g1
  obtain⟨A2,n2,c2,f2,d2,e2,k2,s2⟩:=uM h1
  obtain⟨t,e3,_⟩:=DataW.trod_int Tryz.underlying2 h2
  simp at e0 e1 e2 e3
  subst e0 e1 e2 e3
  exact⟨A0,n0,c0,f0,A1,n1,c1,f1,A2,n2,c2,f2,⟨⟨xs0,QX⟩,d2,t⟩,rfl,k0,s0,k1,s1,k2,s2,o0,o1⟩
end
end Go.Proofs.YtgoljkjaameagaaGreat

namespace Go.Proofs.YtgoljkjaameagaaGreat
open Go.ChangeShapes Go.WideShapes Go.ChangeAt Go.RowKit V
theorem QL:ownKnob Tryz.prog.godebug=none:=by kernel_rfl
theorem H4:laidOutB Tryz.prog=true:=by kernel_rfl
theorem A8 (s:aU) (l:List ad) (hl:l.length<=1048576):(ni s l).1.length<=1099511627776/\(ni s l).2.1.length<=1099511627776:=by
 unfold ni
 split
 ·have h1:=(Ew (s:=s) l.length l).length_le
  have h2:=Ad l (nj s l) l.length
  (try dsimp only)
  unfold nj at *
  omega
 ·simp
theorem KS (s:aU) (a:dY) (hn:fm s.aV):ak Tryz.prog 10 [.agg (ao s),.agg (aO a)] (.bool true):=
 Kw (fun s a=>ni s a.ah) (fun s a hn hm _=>JC s a.ah hn hm.s.g hm.s.t) (fun s a hn hm hl n=>JB s a.ah hn hm hl n) (fun s a _ _ hl=>(A8 s a.ah hl).1) (fun s a _ _ hl=>(A8 s a.ah hl).2) s a hn
theorem C6 (os:Os) (started:os.Started) (H:Type) (enc:TypeId×Value->H):
  ReturnsInHanded {} Tryz.checked os 10 .any (Rows.fnExactRelaxSpec.pre6 enc Tryz.prog Tryz.f10 Rows.fnExactRelaxRow.domain false) (Rows.fnExactRelaxSpec.post enc Tryz.prog Tryz.f10 false true false false):=by
 refine returnsInHanded_of_change (C:=Tryz.checked) QL started (by kernel_rfl) Tryz.func10
  (ChangeSpec.witness6 (enc:=enc) (C:=Tryz.checked) false ⟨#[], #[.agg #[.slice none 0 0,.slice none 0 0,.slice none 0 0,.int .i64 0],.agg #[.slice none 0 0]],[]⟩ 8 (by kernel_rfl) (by kernel_rfl) (by kernel_rfl) (by kernel_rfl)) ?_
 intro W base args ds gs before LP hW hcnd _
 have rM:∀(j:Nat) t v,Tryz.f10.params[j]? =some t->args[j]? =some v->Value.okWide Tryz.prog W .any base t v:=LP
 have hW':=hW
 obtain⟨p,q,Gx,hV,rfl,tr,lY⟩:=hW
 have hA:DataW.TrodAll enc Tryz.prog W 0 (fun _=>true) true Tryz.f10.params.toList args.toList ds p:=Gx
 rw[Tryz.params10]at hA rM
 obtain⟨v0,vs0,d0,ds0,p0,q0,mM,rfl,rfl,h0,r0⟩:=trodAll_cons hA
 obtain⟨v1,vs1,d1,ds1,p1,q1,rfl,rfl,rfl,h1,r1⟩:=trodAll_cons r0
 obtain⟨rfl,rfl,rfl⟩:=trodAll_nil r1
 obtain rfl:args= #[v0,v1]:=by cases args;simp_all
 obtain⟨rfl,rfl⟩:=trodVars_none hV
 obtain⟨OE,rfl,_⟩:=okWide_struct Tryz.underlying30 (rM 0 30 v0 rfl rfl)
 obtain⟨Sf,rfl,_⟩:=okWide_struct Tryz.underlying28 (rM 1 28 v1 rfl rfl)
 have k0:=h0
 have k1:=h1
 have lt0:∀x∈p0,x.block<W.heap.size:=by obtain⟨m,hm⟩:=k0;exact DataW.trod_lt m _ _ _ hm
 have lt1:∀x∈p1,x.block<W.heap.size:=by obtain⟨m,hm⟩:=k1;exact DataW.trod_lt m _ _ _ hm
 obtain⟨A0,n0,c0,f0,A1,n1,c1,f1,A2,n2,c2,f2,s,di,w0,s0,w1,s1,w2,s2,o0,o1⟩:∃A0 n0 c0 f0 A1 n1 c1 f1 A2 n2 c2 f2,∃d:aU,(Value.agg OE).cells.toList=[.slice A0 n0 c0,.slice A1 n1 c1,.slice A2 n2 c2,.int .i64 d.aB]/\fB f0 0 W.heap.size/\pY W f0 (.slice A0 n0 c0) d.aV.au/\fB f1 0 W.heap.size/\pZ W f1 (.slice A1 n1 c1) d.aV.ah/\fB f2 0 W.heap.size/\iL W f2 (.slice A2 n2 c2) d.bf.ah/\(∀g∈d.aV.au,g.aC.size<=9223372036854775807)/\∀t∈d.aV.ah,t.aC.size<=9223372036854775807:=by
  obtain⟨fuel,hf⟩:=h0
  exact Im hf
 obtain⟨A3,n3,c3,f3,a,PS,w3,s3⟩:∃A n c f,∃d:dY,(Value.agg Sf).cells.toList=[.slice A n c]/\fB f 0 W.heap.size/\iL W f (.slice A n c) d.ah:=by
  obtain⟨fuel,hf⟩:=h1
  exact uM hf
 obtain rfl:OE= #[.slice A0 n0 c0,.slice A1 n1 c1,.slice A2 n2 c2,.int .i64 s.aB]:=by
  cases OE;simp[Value.cells]at di;subst di;rfl
 obtain rfl:Sf= #[.slice A3 n3 c3]:=by
  cases Sf;simp[Value.cells]at PS;subst PS;rfl
 clear Gx LP
 have gH:eZ Tryz.prog W (fun b=>b<W.heap.size) (fun _=>none) [.agg (ao s),.agg (aO a)] #[.agg #[.slice A0 n0 c0,.slice A1 n1 c1,.slice A2 n2 c2,.int .i64 s.aB],.agg #[.slice A3 n3 c3]]:=by
  have h:=lP (BU s0 (fun b hb=>(w0 b hb).2) s1 (fun b hb=>(w1 b hb).2) s2 (fun b hb=>(w2 b hb).2)) (lP (xL s3 (fun b hb=>(w3 b hb).2)) (⟨rfl,fun j b hj=>by cases j<;>cases hj⟩:eZ Tryz.prog W (fun b=>b<W.heap.size) (fun _=>none) [] #[]))
  simpa using h
 have gQ:=NK mixed (KS s a ⟨o0,o1⟩) gH
 clear s0 s1 s2 s3 w0 w1 w2 w3 gH
 refine(gQ.mono fun e W' ⟨he,bel⟩=>?_)
 subst he
 exact⟨_,rfl,_,_,_,[],_,[],hW',trodAll_mk1 (shut_bool Tryz.underlying4 _),(trodAll_cons_mk (Below.trod H4 (by kernel_rfl) (of_decide_eq_true (by kernel_rfl)) k0 bel lt0) (trodAll_cons_mk (Below.trod H4 (by kernel_rfl) (of_decide_eq_true (by kernel_rfl)) k1 bel lt1) trodAll_mk0)),rfl,bel.frame _,fun h=>by cases h⟩
end Go.Proofs.YtgoljkjaameagaaGreat

namespace Go.Proofs.YtgoljkjaameagaaGreat
open Go.ChangeShapes Go.WideShapes Go.ChangeAt Go.RowKit
theorem rxN:Tryz.pinned.checked.prog.funcNamed Rows.fnExactRelaxRow.func=some 10:=by kernel_rfl
theorem rxJ:joinedFacts Tryz.pinned.checked.prog 10 Tryz.f10 Rows.fnExactRelaxSpec Rows.fnExactRelaxRow=true:=by
 unfold joinedFacts
 repeat(with_reducible refine Bool.and_eq_true_iff.2 ⟨?_,by as_aux_lemma=>kernel_rfl⟩)
 as_aux_lemma=>kernel_rfl
theorem rxI:Tryz.f10.isInstance Tryz.pinned.checked.prog Rows.fnExactRelaxRow.origin Rows.fnExactRelaxRow.targs:=of_decide_eq_true (by kernel_rfl)
theorem rxW:Tryz.f10.isWrapper Tryz.pinned.checked.prog Rows.fnExactRelaxRow.wrapper Rows.fnExactRelaxRow.mainSum:=by
 unfold Func.isWrapper;first|(rw[if_pos (by decide+kernel)];kernel_rfl)|(rw[if_neg (by decide+kernel)];exact⟨rfl,rfl⟩)
theorem Iv:Rows.fnExactRelaxRow.holds Tryz.pinned (OpenSpec.ofChange Rows.fnExactRelaxSpec):=
 OpenClaim.holds_of_wide 10 Tryz.f10 rfl rfl rfl rfl rfl rfl rfl ⟨rfl,rfl,rfl,rfl,rfl⟩ rfl rfl rfl rfl rfl rxN Tryz.func10 rxJ rxI rxW
  (fun os started H enc _=>C6 os started H enc)
theorem fnExactRelax_proved:Rows.FnExactRelaxSaid:=Iv
end Go.Proofs.YtgoljkjaameagaaGreat
