/- TileSet.bonds, walked. -/
import Derived.Test.YtihgaadadaekmaaGreatMcE
import Derived.Test.YtihgaadadaekmaaGreatMcC
import Derived.Test.YtihgaadadaekmaaGreatMcD
import Derived.Test.YtihgaadadaekmaaGreatMcB
import Derived.Test.YtihgaadadaekmaaGreatChecked
import Derived.ProofKit
import Derived.Deep.Slices
import Derived.ChangeSame
import Derived.Test.YtihgaadadaekmaaGreatRows
import Derived.OpenShut
import Derived.ShutString
import Derived.ChangeOld
import Derived.Below
set_option linter.unusedVariables false
set_option linter.unusedSimpArgs false
set_option maxRecDepth 100000
set_option maxHeartbeats 16000000
namespace Go.Proofs.YtihgaadadaekmaaGreat.V
open Go.RowKit Go.Shelf
attribute [local go_sem] Oper.semAt_some
attribute [local irreducible] eb wpOps gH Call
attribute [local go_sem] aM fI eM fX fV cE upd cm K.av cK AV.cells AV.cell rowOf rowsOf part ld rowAt bS bZ dH ei ij bK dc eA fZ e8 du ep cY cX dU dW bQ bf cQ bP cT cR ek er eo cP bU cZ ej bL aQ cV cw ig bt cH bR bc dF bq dI AV.undef bD bF dX eh dQ dZ cF ez eE cr ev eu cU cW List.getD_cons_zero List.getD_cons_succ List.getD_nil List.all_cons List.all_nil Bool.and_true Bool.true_and Bool.and_self Bool.not_true Bool.not_false Option.map_some Option.map_none Option.bind_some Option.bind_none List.length_cons List.length_nil List.take_succ_cons List.take_zero List.take_nil List.drop_succ_cons List.drop_zero List.drop_nil List.head?_cons List.map_cons List.map_nil List.getElem?_cons_zero List.getElem?_cons_succ List.cons_append List.nil_append List.append_nil List.length_map List.set_cons_zero List.set_cons_succ Nat.reduceMul eq_self Int.toNat_natCast Int.natCast_nonneg and_self true_and and_true decide_true decide_false Bool.false_eq_true Nat.zero_add Nat.add_zero List.contains_cons List.contains_nil Bool.or_false Bool.false_or beq_self_eq_true Nat.reduceBEq ne_eq not_true_eq_false not_false_eq_true Id.mk.injEq false_and and_false Nat.reduceLT Int.reduceLE Int.reduceLT Int.reduceToNat Int.reduceNeg Int.reduceAdd Nat.le_refl List.length_append beq_true beq_false Bool.not_eq_eq_eq_not or_false false_or dD ad aj aH bC b4 aX bo aY bl cL bE
theorem Gh (s:aq) (l:List ak) (hF:fQ s) (hA:lT s l) (w:World) (Ag At:Option Addr) (ng cg nt ct:Nat) (vS:Value) (hT:jE Tryz.prog w (fun b=>b<w.heap.size) (.agg (aa s)) (.agg #[.slice Ag ng cg,.slice At nt ct])) (hP:oA w vS l):
  CallsIn Fence.wide 5 Tryz.prog 157 #[.agg #[.slice Ag ng cg,.slice At nt ct],.agg #[vS]] w fun e W'=>∃v,e=.returned v/\W'.ownsRow w.heap.size 88 3 v (cu s l).length (IS (cu s l))/\(v=.slice none 0 0↔cu s l=[])/\Below w.heap.size w W':=by
 obtain⟨A,cp,rfl,_,_⟩:=hP.sl
 obtain⟨i0,hi,FW,yK,lp⟩:=info_parts G6
 refine callsIn_of_wp_marks Tryz.func157 rfl trivial ?_ rfl
 simp only[Tryz.ntmps157,List.size_toArray,List.length_cons,List.length_nil,Nat.reduceAdd,Nat.reduceSub,Array.replicate_succ,Array.replicate_zero,List.push_toArray,List.append_toArray,List.nil_append,List.cons_append]
 gi_wp2_with (refine⟨trivial,?_⟩;gi_at_call 45;refine(x9 _ _ _).mono ?_;rintro e w' ⟨rfl,rfl⟩)
 have bT:((w.alloc (.cells #[.slice Ag ng cg,.slice At nt ct] 39)).heap[w.heap.size]?)=some (.cells #[.slice Ag ng cg,.slice At nt ct] 39 (0,0)):=World.alloc_heap_new _ _
 obtain⟨w1,oM⟩:∃w1,w.alloc (.cells #[.slice Ag ng cg,.slice At nt ct] 39)=w1:=⟨_,rfl⟩
 have NW:w1.heap.size=w.heap.size+1:=by rw[<-oM];simp
 have yG:Below w.heap.size w w1:=by rw[<-oM];exact(Below.refl _ w).alloc (Nat.le_refl _) _
 rw[oM]at bT ⊢
 clear oM
 have bA:=Boxed.new w1 42 (.slice A l.length cp)
 have bO:=Boxed.new (w1.alloc (.cells #[.slice A l.length cp] 42)) 54 (.slice none 0 0)
 have bN:=Boxed.new ((w1.alloc (.cells #[.slice A l.length cp] 42)).alloc (.cells #[.slice none 0 0] 54)) 42 (.slice A l.length cp)
 replace bA:=(bA.alloc (.cells #[.slice none 0 0] 54)).alloc (.cells #[.slice A l.length cp] 42)
 replace bO:=bO.alloc (.cells #[.slice A l.length cp] 42)
 simp only[World.size_alloc,NW]at bA bO bN
 have oD:Below w1.heap.size w1 (((w1.alloc (.cells #[.slice A l.length cp] 42)).alloc (.cells #[.slice none 0 0] 54)).alloc (.cells #[.slice A l.length cp] 42)):=(((Below.refl _ w1).alloc (Nat.le_refl _) _).alloc (by simp) _).alloc (by simp;omega) _
 have eY:(((w1.alloc (.cells #[.slice A l.length cp] 42)).alloc (.cells #[.slice none 0 0] 54)).alloc (.cells #[.slice A l.length cp] 42)).heap.size=w.heap.size+4:=by simp;omega
 obtain⟨W0,hW0⟩:∃W0,((w1.alloc (.cells #[.slice A l.length cp] 42)).alloc (.cells #[.slice none 0 0] 54)).alloc (.cells #[.slice A l.length cp] 42)=W0:=⟨_,rfl⟩
 rw[hW0]at bA bO bN oD eY ⊢
 clear hW0
 have zz:Below w.heap.size w W0:=yG.trans (oD.mono ab)
 replace bT:=(oD.block w.heap.size ab).trans bT
 have hP0:oA W0 (.slice A l.length cp) l:=hP.below zz
 have kl:=Pm hP
 have pD:=oX (s:=s) hA.1
 refine wpIn_rangeFunc_ownH (n:=5) rfl ab (gf:=78) (lb:= #[.pointer (some ⟨w.heap.size+1+1+1,0,none⟩)]) rfl trivial (enters_of Tryz.func78 (by kernel_rfl) rfl)
  (Hp l hA.1 (w.heap.size+1+1+1) (5-1) ab (.slice A l.length cp) (gI w.heap.size) kl W0 bN hP0) gI.trans (gI.b ab) (Below.refl _ _) (fun _=>rfl)
  (fun pre W=>((∃v,Boxed W (w.heap.size+1+1) 54 v/\W.ownsRow w.heap.size 88 3 v (mQ s l pre).length (IS (mQ s l pre))/\(v=.slice none 0 0↔mQ s l pre=[]))/\(Boxed W (w.heap.size+1) 42 (.slice A l.length cp)/\W.heap[w.heap.size]? =some (.cells #[.slice Ag ng cg,.slice At nt ct] 39 (0,0))))/\Below w.heap.size w W)
  (fun _ _ _=>False)
  (OwnFrom.and (OwnFrom.and (Own.from (holdsRow_own w.heap.size (w.heap.size+1+1) 54 88 3 (fun pre=>(mQ s l pre).length) (fun pre=>IS (mQ s l pre)) (fun pre v=>v=.slice none 0 0↔mQ s l pre=[])) _) (OwnFrom.and (Own.from (boxed_own _ _ _) _) (Own.from (zC _ _ _ _) _))) (ownFrom_below (Nat.le_refl _) ab))
  (fun _ _ _ _ _ hs _ _=>hs)
  ⟨⟨⟨_,bO,World.ownsRow_nil _ _ _ _,by simp[mQ]⟩,bA,bT⟩,zz⟩
  (fun x a' W=>∃Bx,w.heap.size+1+1<Bx/\W.heap[Bx]? =some (.cells #[.int .i64 (x.1.1:Int),.int .i64 (x.1.2.1:Int)] 94 (0,0))/\a'={tmps:= #[.agg #[.slice Ag ng cg,.slice At nt ct],.agg #[.slice A l.length cp],.pointer (some ⟨w.heap.size,0,none⟩),.pointer (some ⟨w.heap.size+1,0,none⟩),.slice none 0 0,.pointer (some ⟨w.heap.size+1+1,0,none⟩),.pointer (some ⟨Bx,0,none⟩),.int .i64 x.1.2.2,undef,.agg #[.slice A l.length cp],.func (.func 78) #[] #[.pointer (some ⟨w.heap.size+1+1+1,0,none⟩)],.agg #[.int .i64 (x.1.1:Int),.int .i64 (x.1.2.1:Int)],.int .i64 x.1.2.2,undef,undef,undef,undef,undef,undef,undef,undef,undef,undef,undef,undef,undef,undef,undef,undef,undef,undef,undef,undef,undef,undef,undef,undef,undef,undef,undef,undef,undef],defers:=[]})
  (fun x a' _ X Y row hs hg hr=>by obtain⟨Bx,h1,h2,h3⟩:=hs;exact⟨Bx,h1,zC Bx _ _ _ () X Y row h2 hg (fun r e=>(hr r e).2),h3⟩)
  ?assign ?body ?done ?stop
 case assign=>
  rintro q pre ⟨⟨x0,x1,x2⟩,hx⟩ W K ⟨⟨⟨v,hv,fa,hnil⟩,bA1,bT1⟩,hB⟩ hK
  simp only[CY]
  gi_wp2
  exact hK _ _ ((KeepsOthers.alloc _ _).from _) (gI.of ((Below.refl _ W).alloc (Nat.le_refl _) _)) ⟨⟨⟨v,hv.alloc _,fa.alloc _,hnil⟩,bA1.alloc _,(Below.heap_alloc _ _ _ (Array.getElem?_eq_some_iff.1 bT1).1).trans bT1⟩,hB.alloc hB.size _⟩ ⟨W.heap.size,hv.lt,World.alloc_heap_new _ _,rfl⟩
 case body=>
  rintro q pre ⟨⟨x0,x1,x2⟩,hx⟩ a' W hq hqr ⟨⟨⟨v,hv,fa,hnil⟩,bA1,bT1⟩,hB⟩ ⟨Bx,hBx,bX,rfl⟩ dR
  obtain⟨AD,K1,yJ⟩:=hx
  simp only at AD K1 yJ bX
  obtain⟨A',c',e',_,hc⟩:=(hP.below hB).sl
  cases e'
  have dn:∃b o,A=some ⟨b,o,none⟩/\W.cell? ⟨b,o+x0*3+2,none⟩=some (.int .i64 (bB l x0).bJ)/\W.cell? ⟨b,o+x1*3+2,none⟩=some (.int .i64 (bB l x1).bJ):=by
   rcases hc with rfl|⟨b,o,rfl,jW⟩
   ·simp at AD
   ·exact⟨b,o,rfl,by rw[Nat.add_assoc];exact(jW x0 AD).2.2,by rw[Nat.add_assoc];exact(jW x1 K1).2.2⟩
  obtain⟨b,o,rfl,cP0,cP1⟩:=dn
  have cT0:W.cell? ⟨w.heap.size,0,none⟩=some (.slice Ag ng cg):=by simp[World.cell?,bT1]
  have cT1:W.cell? ⟨w.heap.size,1,none⟩=some (.slice At nt ct):=by simp[World.cell?,bT1]
  have cX0:W.cell? ⟨Bx,0,none⟩=some (.int .i64 (x0:Int)):=by simp[World.cell?,bX]
  have cX1:W.cell? ⟨Bx,1,none⟩=some (.int .i64 (x1:Int)):=by simp[World.cell?,bX]
  have cA:=bA1.cell
  have dP0:W.drew.cell? ⟨b,o+x0*3+2,none⟩=some (.int .i64 (bB l x0).bJ):=cP0
  have dP1:W.drew.cell? ⟨b,o+x1*3+2,none⟩=some (.int .i64 (bB l x1).bJ):=cP1
  have dT0:W.drew.cell? ⟨w.heap.size,0,none⟩=some (.slice Ag ng cg):=cT0
  have dT1:W.drew.cell? ⟨w.heap.size,1,none⟩=some (.slice At nt ct):=cT1
  have dX0:W.drew.cell? ⟨Bx,0,none⟩=some (.int .i64 (x0:Int)):=cX0
  have dX1:W.drew.cell? ⟨Bx,1,none⟩=some (.int .i64 (x1:Int)):=cX1
  have dA:W.drew.cell? ⟨w.heap.size+1,0,none⟩=some (.slice (some ⟨b,o,none⟩) l.length cp):=cA
  have vz:∀i,i<l.length->bB l i∈l:=fun i hi=>by
   unfold bB
   rw[List.getD_eq_getElem?_getD,List.getElem?_eq_getElem hi]
   exact List.getElem_mem hi
  have RL:=mixed
  have hfw:=hA.1.FN
  have Qf:=Lv s hF (bB l x0).bJ x2 (bB l x1).bJ (hA.2 _ (vz x0 AD)) (hA.2 _ (vz x1 K1)) (nI ab)
  have hTW:jE Tryz.prog W (fun b=>b<w.heap.size) (.agg (aa s)) (.agg #[.slice Ag ng cg,.slice At nt ct]):=hT.frame (fun b hb=>hB.block b hb) (fun _ h=>h)
  have hAW:jE Tryz.prog W (fun b=>b<w.heap.size) (.sl (l.map ai)) (.slice (some ⟨b,o,none⟩) l.length cp):=hP.eK.frame (fun b hb=>hB.block b hb) (fun _ h=>h)
  obtain⟨fT,hT0,hT1⟩:∃f:Nat->Value,(∀j,j<(aa s).length->(#[Value.slice Ag ng cg,.slice At nt ct])[j]? =some (f j))/\∀j a,(aa s)[j]? =some a->jE Tryz.prog W (fun b=>b<w.heap.size) a (f j):=by
   cases hTW with
   |agg _ _ f _ _ h3 h4=>exact⟨f,h3,h4⟩
  have eB:St Tryz.prog W.heap.size 42 (fun b=>b<w.heap.size) (Gj w.heap.size Bx) (Lx s l x0 x1 x2) ⟨KB s l x0 x1,1⟩ {tmps:= #[.agg #[.slice Ag ng cg,.slice At nt ct],.agg #[.slice (some ⟨b,o,none⟩) l.length cp],.pointer (some ⟨w.heap.size,0,none⟩),.pointer (some ⟨w.heap.size+1,0,none⟩),.slice none 0 0,.pointer (some ⟨w.heap.size+1+1,0,none⟩),.pointer (some ⟨Bx,0,none⟩),.int .i64 x2,undef,.agg #[.slice (some ⟨b,o,none⟩) l.length cp],.func (.func 78) #[] #[.pointer (some ⟨w.heap.size+1+1+1,0,none⟩)],.agg #[.int .i64 (x0:Int),.int .i64 (x1:Int)],.int .i64 x2,undef,undef,undef,undef,undef,undef,undef,undef,undef,undef,undef,undef,undef,undef,undef,undef,undef,undef,undef,undef,undef,undef,undef,undef,undef,undef,undef,undef,undef],defers:=[]} W:=by
   have n1:(Gj w.heap.size Bx) ⟨1,0⟩=some ⟨w.heap.size,2,2,none⟩:=rfl
   have n2:(Gj w.heap.size Bx) ⟨2,0⟩=some ⟨w.heap.size+1,1,1,none⟩:=rfl
   have n3:(Gj w.heap.size Bx) ⟨3,0⟩=some ⟨w.heap.size+1+1,1,1,none⟩:=rfl
   have n4:(Gj w.heap.size Bx) ⟨4,0⟩=some ⟨Bx,2,2,none⟩:=rfl
   have n5:(Gj w.heap.size Bx) ⟨5,0⟩=some ⟨w.heap.size+1+1+1,1,1,none⟩:=rfl
   have rp:∀(id:Id) (B:rQ),(Gj w.heap.size Bx) id=some B->B.k=none->cG Tryz.prog W (fun b=>b<w.heap.size) (Gj w.heap.size Bx) (.ptr id 0 0) (.pointer (some ⟨B.b,0,none⟩)):=fun id B h hk=>by
    have:=cG.ptr (P:=Tryz.prog) (w:=W) (D:=fun b=>b<w.heap.size) id 0 0 B h hk
    simpa using this
   have ri:∀n:Int,cG Tryz.prog W (fun b=>b<w.heap.size) (Gj w.heap.size Bx) (.int .i64 n) (.int .i64 n):=fun n=>.eK _ _ (.int _ _)
   have hA1:jE Tryz.prog W (fun b=>b<w.heap.size) (.agg [.sl (l.map ai)]) (.agg #[.slice (some ⟨b,o,none⟩) l.length cp]):=.agg _ _ (fun _=>.slice (some ⟨b,o,none⟩) l.length cp) rfl (fun a ha=>by simp at ha;rw[ha];rfl) (fun j hj=>by match j,hj with|0,_=>rfl|j+1,hj=>simp at hj) (fun j a ha=>by match j,ha with|0,ha=>simp at ha;subst ha;exact hAW|j+1,ha=>simp at ha)
   refine⟨⟨Nat.le_refl _,fun b hb=>Nat.lt_of_lt_of_le hb hB.size,fun id r hg=>?_,fun id ki r r' B B' h _ hw=>?_⟩,fun id hid=>?_,fun t=>?_,rfl⟩
   ·replace hg:KB s l x0 x1 id=some r:=hg
    unfold KB at hg
    split at hg
    ·rename_i e;subst e;injection hg with hg;subst hg
     exact⟨_,n1,Cn (cs:=aa s) rfl bT1 rfl rfl rfl (fun a ha=>by simp[aa]at ha;rcases ha with rfl|rfl<;>rfl) (fun j a ha=>⟨_,hT0 j (List.getElem?_eq_some_iff.1 ha).1,.eK _ _ (hT1 j a ha)⟩),fun h=>(by cases h),fun h=>(by cases h)⟩
    ·split at hg
     ·rename_i e;subst e;injection hg with hg;subst hg
      exact⟨_,n2,Cn (cs:=[.sl (l.map ai)]) rfl bA1 rfl rfl rfl (fun a ha=>by simp at ha;rw[ha];rfl) (fun j a ha=>by match j,ha with|0,ha=>simp at ha;subst ha;exact⟨_,rfl,.eK _ _ hAW⟩|j+1,ha=>simp at ha),fun h=>(by cases h),fun h=>(by cases h)⟩
     ·split at hg
      ·rename_i e;subst e;injection hg with hg;subst hg
       exact⟨_,n4,Cn (cs:=[.int .i64 (x0:Int),.int .i64 (x1:Int)]) rfl bX rfl rfl rfl (fun a ha=>by simp at ha;rcases ha with rfl|rfl<;>rfl) (fun j a ha=>by match j,ha with|0,ha=>simp at ha;subst ha;exact⟨_,rfl,ri _⟩|1,ha=>simp at ha;subst ha;exact⟨_,rfl,ri _⟩|j+2,ha=>simp at ha),fun h=>(by cases h),fun h=>(by cases h)⟩
      ·cases hg
   ·exfalso
    replace h:KB s l x0 x1 id=some r:=h
    unfold KB at h
    split at h
    ·injection h with h;subst h;cases hw
    ·split at h
     ·injection h with h;subst h;cases hw
     ·split at h
      ·injection h with h;subst h;cases hw
      ·cases h
   ·left
    unfold Gj at hid
    repeat' (split at hid)
    all_goals first|(rename_i e;subst e;exact Nat.zero_lt_one)|exact absurd rfl hid
   ·match t with
    |0=>exact .eK _ _ hTW
    |1=>exact .eK _ _ hA1
    |2=>exact rp _ _ n1 rfl
    |3=>exact rp _ _ n2 rfl
    |4=>exact .eK _ _ .br
    |5=>exact rp _ _ n3 rfl
    |6=>exact rp _ _ n4 rfl
    |7=>exact ri _
    |8=>exact cG.undef
    |9=>exact .eK _ _ hA1
    |10=>exact .fn _ _ _ (fun _=>.pointer (some ⟨w.heap.size+1+1+1,0,none⟩)) (by kernel_rfl) rfl (fun j hj=>by match j,hj with|0,_=>rfl|j+1,hj=>simp at hj) (fun j a ha=>by match j,ha with|0,ha=>simp at ha;subst ha;exact rp _ _ n5 rfl|j+1,ha=>simp at ha)
    |11=>exact .agg _ _ (fun j=>if j=0 then .int .i64 (x0:Int)else .int .i64 (x1:Int)) rfl (fun a ha=>by simp at ha;rcases ha with rfl|rfl<;>rfl) (fun j hj=>by match j,hj with|0,_=>rfl|1,_=>rfl|j+2,hj=>simp at hj;omega) (fun j a ha=>by match j,ha with|0,ha=>simp at ha;subst ha;exact ri _|1,ha=>simp at ha;subst ha;exact ri _|j+2,ha=>simp at ha)
    |12=>exact ri _
    |13=>exact cG.undef
    |14=>exact cG.undef
    |15=>exact cG.undef
    |16=>exact cG.undef
    |17=>exact cG.undef
    |18=>exact cG.undef
    |19=>exact cG.undef
    |20=>exact cG.undef
    |21=>exact cG.undef
    |22=>exact cG.undef
    |23=>exact cG.undef
    |24=>exact cG.undef
    |25=>exact cG.undef
    |26=>exact cG.undef
    |27=>exact cG.undef
    |28=>exact cG.undef
    |29=>exact cG.undef
    |30=>exact cG.undef
    |31=>exact cG.undef
    |32=>exact cG.undef
    |33=>exact cG.undef
    |34=>exact cG.undef
    |35=>exact cG.undef
    |36=>exact cG.undef
    |37=>exact cG.undef
    |38=>exact cG.undef
    |39=>exact cG.undef
    |40=>exact cG.undef
    |41=>exact cG.undef
    |t+42=>exact cG.undef
  have hV:wpOps (Call Tryz.prog) true ?vl (fun e _=>e 5=.ptr ⟨3,0⟩ 0 0/\e 6=.ptr ⟨4,0⟩ 0 0/\e 8=.int .i64 (iP s (bB l x0).bJ x2 (bB l x1).bJ)) (Lx s l x0 x1 x2) ⟨KB s l x0 x1,1⟩:= ?hv
  gi_wp2
  refine ye mixed (rrE (nt:=42) (site0:=157005000)) (Ht (by kernel_rfl)) (mA (fun _ _ _ _ h=>gJ mixed h) oU (fun _ _ h=>h) _ _ _ hV) eB ?_
  rintro e1 σ1 ⟨tm,df⟩ w3 D1 ι1 ⟨h5,h6,h8⟩ T1 St1 Bw
  case hv=>
   refine Cd ?_
   have e0:=gz AD
   have e1:=gz K1
   (repeat(first|((repeat(revert hN;revert N;apply Pn.out));refine wk (tw @e0 (tw @e1 (tw @Lx.eq_1 (tw @KB.eq_1 (tw @ai.eq_1 @aa.eq_1))))) ?_;(repeat(refine Pn.mk ?_;intro N hN)))|((try apply Or.inl);refine⟨_,ah.x (Qf) (sd (tw @e0 (tw @e1 (tw @Lx.eq_1 (tw @KB.eq_1 (tw @ai.eq_1 @aa.eq_1)))))),?_⟩;refine hN _ _ ?_;clear hN N)))
   exact⟨sd @Lx.eq_1,sd @Lx.eq_1,sd @Lx.eq_1⟩
  ·have zA:Below W.heap.size W w3:=T1.below
   have EA:∀id B,Gj w.heap.size Bx id=some B->ι1 id=some B:=T1.names
   have p5:tm.getD 5 undef=.pointer (some ⟨w.heap.size+1+1,0,none⟩):=by
    have g:=St1.env 5
    rw[h5]at g
    obtain⟨B,e,hB,_⟩:=jb g
    have h:=EA ⟨3,0⟩ ⟨w.heap.size+1+1,1,1,none⟩ rfl
    rw[h]at hB;injection hB with hB;subst hB
    simpa using e
   have p6:tm.getD 6 undef=.pointer (some ⟨Bx,0,none⟩):=by
    have g:=St1.env 6
    rw[h6]at g
    obtain⟨B,e,hB,_⟩:=jb g
    have h:=EA ⟨4,0⟩ ⟨Bx,2,2,none⟩ rfl
    rw[h]at hB;injection hB with hB;subst hB
    simpa using e
   have p8:tm.getD 8 undef=.int .i64 (iP s (bB l x0).bJ x2 (bB l x1).bJ):=by
    have g:=St1.env 8
    rw[h8]at g
    exact dj g
   have eY:=St1.size
   obtain⟨tl⟩:=tm
   obtain⟨f,htl,hf⟩:∃f:Nat->Value,tl=[f 0,f 1,f 2,f 3,f 4,f 5,f 6,f 7,f 8,f 9,f 10,f 11,f 12,f 13,f 14,f 15,f 16,f 17,f 18,f 19,f 20,f 21,f 22,f 23,f 24,f 25,f 26,f 27,f 28,f 29,f 30,f 31,f 32,f 33,f 34,f 35,f 36,f 37,f 38,f 39,f 40,f 41]/\∀i,f i=(⟨tl⟩:Array Value).getD i undef:=by
    refine⟨fun i=>(⟨tl⟩:Array Value).getD i undef,?_,fun _=>rfl⟩
    have h:=Hf tl undef
    rw[show tl.length=42 from eY]at h
    exact h
   rw[<-hf]at p5 p6 p8
   have Rw:df=[]:=Bw
   subst Rw
   clear hf St1 eB hV
   subst htl
   rw[p5,p6,p8]
   have QB:=hv.kept (pZ zA) (by simp)
   have Df:=fa.kept (pZ zA) (by rcases fa.2 with⟨e,_⟩|⟨_,_,_,e,_⟩<;>rw[e]<;>simp[Value.ownBlock])
   have hc3:=QB.cell
   have hn3:w.heap.size<=w3.heap.size:=Nat.le_trans hB.size zA.size
   have eX0:w3.cell? ⟨Bx,0,none⟩=some (.int .i64 (x0:Int)):=(zA.cell (p:=⟨Bx,0,none⟩) (Array.getElem?_eq_some_iff.1 bX).1).trans cX0
   have eX1:w3.cell? ⟨Bx,1,none⟩=some (.int .i64 (x1:Int)):=(zA.cell (p:=⟨Bx,1,none⟩) (Array.getElem?_eq_some_iff.1 bX).1).trans cX1
   have lk:(mQ s l pre).length<=2097152:=by
    have h1:=Ge s l pre
    have h2:=z7 l l.length
    omega
   have hKF:KeepsFrom (w.heap.size+4) W w3:=⟨zA.size,fun k o _ hk _=>(zA.block k (Array.getElem?_eq_some_iff.1 hk).1).trans hk⟩
   have hKT:gI w.heap.size W w3:=gI.of zA
   have QT:w3.heap[w.heap.size+1]? = _:=(zA.block _ bA1.lt).trans bA1
   have QU:=(zA.block _ (Array.getElem?_eq_some_iff.1 bT1).1).trans bT1
   by_cases jq:0<iP s (bB l x0).bJ x2 (bB l x1).bJ
   ·have zB:mQ s l (pre++[⟨(x0,x1,x2),AD,K1,yJ⟩])=mQ s l pre++[⟨x0,x1,iP s (bB l x0).bJ x2 (bB l x1).bJ⟩]:=by
     rw[v3];simp only[xj,if_pos jq]
    gi_wp2_with (gi_at_builtin;refine wpListIn_append_own _ rfl _ _ 54 rfl w.heap.size 88 i0 (.agg #[.int .i64 0,.int .i64 0,.int .i64 0]) 3 24 (by kernel_rfl) hi FW yK lp rfl (by decide) _ _ _ rfl (Df.alloc _) ⟨w3.heap.size,0,none⟩ 1 1 [.int .i64 (x0:Int),.int .i64 (x1:Int),.int .i64 (iP s (bB l x0).bJ x2 (bB l x1).bJ)] rfl rfl (tC _ _ _ _ _) (by simp[Value.oneCell']) (by unfold maxLen;omega) ab (by simp;omega) ?_;intro v' w4 KT Dc _;obtain⟨g',cap',rfl⟩:=ownsRow_succ KT;obtain⟨wH,Mw,BI,tR,uY⟩:=QB.appended (by decide) Df hn3 ab KT Dc;have Iy:=gI.app QB Df Dc uY;have oK:=wH.cell;have OK:=wH.frozen)
    exact⟨hKF.trans (tR.from _),hKT.trans Iy,⟨⟨_,Mw,by rw[zB,Gd,List.length_append];exact BI,by rw[zB];simp⟩,(Iy.2.1 _ _ _ _ QT (by decide) (by decide)).trans QT,(Iy.2.1 _ _ _ _ QU (by decide) (by decide)).trans QU⟩,hB.trans ((zA.mono hB.size).trans uY)⟩
   ·have zB:mQ s l (pre++[⟨(x0,x1,x2),AD,K1,yJ⟩])=mQ s l pre:=by
     rw[v3];simp only[xj,if_neg jq,List.append_nil]
    gi_wp2
    exact⟨hKF,hKT,⟨⟨v,QB,by rw[zB];exact Df,by rw[zB];exact hnil⟩,QT,QU⟩,hB.trans (zA.mono hB.size)⟩
 case done=>
  rintro D ys W hD Dm ⟨⟨⟨v,hv,fa,hnil⟩,_⟩,hB⟩ hK
  have hc:=hv.cell
  have Im:mQ s l ys=cu s l:=by rw[Gi,<-Dm];rfl
  rw[Im]at fa hnil
  gi_wp2
  refine⟨by simp,.inl ⟨_,_,rfl,run_takeDeferred hK,?_⟩⟩
  exact⟨_,results_tmp rfl _ _ _,v,rfl,ownsRow_putObj fa _ hK rfl,hnil,hB.trans (belowK_b (w:=w) (Nat.le_refl _) W D _ _ ab hK rfl rfl)⟩
 case stop=>
  rintro D c pre W _ _ h _
  exact h.elim
end Go.Proofs.YtihgaadadaekmaaGreat.V

namespace Go.Proofs.YtihgaadadaekmaaGreat.V
open Go.RowKit Go.Shelf
theorem CR:∀{bs:List PB} {i j:Nat} {b:PB},bs[i]? =some b->j<3->(IS bs)[i*3+j]? =([.int .i64 b.a,.int .i64 b.b,.int .i64 b.s]:List Value)[j]?
 |c::bs,0,j,b,h,hj=>by
  simp at h;subst h
  simp only[IS,List.flatMap_cons,Nat.zero_mul,Nat.zero_add]
  rw[List.getElem?_append_left (by simpa using hj)]
 |c::bs,i+1,j,b,h,hj=>by
  simp only[List.getElem?_cons_succ]at h
  have:=CR (bs:=bs) (i:=i) (j:=j) h hj
  simp only[IS,List.flatMap_cons]at this ⊢
  rw[List.getElem?_append_right (by simp;omega),<-this]
  congr 1
  simp;omega
theorem qf {P:Program} {w:World} {D:Nat->Prop} {rows:List (List AV)} {v:Value} (h:jE P w D (.sl rows) v):∃A n c,v=.slice A n c:=by
 cases h with
 |AF a c _=>exact⟨_,_,_,rfl⟩
 |sl=>exact⟨_,_,_,rfl⟩
theorem pz {P:Program} {w:World} {D:Nat->Prop} {ι:Names} {rows:List (List AV)} {v:Value} (h:cG P w D ι (.sl rows) v):jE P w D (.sl rows) v:=by
 cases h with
 |eK _ _ h=>exact h
theorem J4 {P:Program} {w:World} {D:Nat->Prop} {l:List ak} {v:Value} (h:jE P w D (.sl (l.map ai)) v):oA w v l:=by
 generalize hr:l.map ai=rows at h
 cases h with
 |AF a c hc=>
  have:l=[]:=by simpa using hr
  subst this
  exact⟨a,c,rfl,⟨Nat.zero_le _,hc⟩,.inl rfl⟩
 |sl _ b o n c sz vs h1 h2 h3 h4 h5 h5' h6 h7=>
  have hn:n=l.length:=by rw[<-h1,<-hr];simp
  subst hn
  refine⟨some ⟨b,o,none⟩,c,rfl,⟨h2,h3⟩,?_⟩
  by_cases hl:l=[]
  ·exact .inl hl
  refine .inr ⟨b,o,rfl,fun i hi=>?_⟩
  have hg:rows[i]? =some (ai (bB l i)):=by rw[<-hr];exact gz hi
  have eY:sz=3:=by rw[<-h5 _ (List.mem_of_getElem? hg)];rfl
  subst eY
  have k:∀(j:Nat) (x:Int),(ai (bB l i))[j]? =some (.int .i64 x)->j<3->w.cell? ⟨b,o+(i*3+j),none⟩=some (.int .i64 x):=fun j x hj h3=>by
   have:=h7 i j _ _ hg hj
   rw[h6 i j hi h3,dj (.eK (ι:=fun _=>none) _ _ this)]
  exact⟨k 0 _ rfl ab,k 1 _ rfl ab,k 2 _ rfl ab⟩
theorem Lw:AG:=by
 intro s l hS hA n
 refine iw ?_
 intro hs D ι w vs S U A
 obtain⟨u0,QA,r0⟩:=A.2 0 _ rfl
 obtain⟨u1,KY,r1⟩:=A.2 1 _ rfl
 have dR:∀b,D b->b<w.heap.size:=S.dead
 obtain⟨v0,f0,rfl,FW,_,Qk,R4⟩:=iv r0
 obtain⟨v1,f1,rfl,yK,_,OK,O4⟩:=iv r1
 have g0:=pz (R4 0 _ rfl)
 have g1:=pz (R4 1 _ rfl)
 have a0:=pz (O4 0 _ rfl)
 obtain⟨Ag,ng,cg,eg⟩:=qf g0
 obtain⟨At,nt,ct,et⟩:=qf g1
 have e0:v0= #[.slice Ag ng cg,.slice At nt ct]:=by
  obtain⟨vl⟩:=v0
  have q0:=Qk 0 (by simp[aa])
  have q1:=Qk 1 (by simp[aa])
  rw[eg]at q0;rw[et]at q1
  match vl,FW with
  |[a,b],_=>simp at q0 q1;rw[q0,q1]
 have e1:v1= #[f1 0]:=by
  obtain⟨vl⟩:=v1
  have q0:=OK 0 (by simp)
  match vl,yK with
  |[a],_=>simp at q0;rw[q0]
 subst e0 e1
 have evs:vs= #[.agg #[.slice Ag ng cg,.slice At nt ct],.agg #[f1 0]]:=by
  obtain⟨vl⟩:=vs
  have hz:=A.1
  match vl,hz with
  |[a,b],_=>simp at QA KY;rw[QA,KY]
 subst evs
 have up:∀{a v},jE Tryz.prog w D a v->jE Tryz.prog w (fun b=>b<w.heap.size) a v:=fun h=>h.frame (fun _ _=>rfl) dR
 have hT:jE Tryz.prog w (fun b=>b<w.heap.size) (.agg (aa s)) (.agg #[.slice Ag ng cg,.slice At nt ct]):=
  .agg _ _ f0 FW (fun a ha=>by simp[aa]at ha;rcases ha with rfl|rfl<;>rfl) Qk (fun j a ha=>by
   match j,ha with
   |0,ha=>simp[aa]at ha;subst ha;exact up g0
   |1,ha=>simp[aa]at ha;subst ha;exact up g1
   |j+2,ha=>simp[aa]at ha)
 refine(callsIn_wide.1 (Gh s l hS.form hA w Ag At ng cg nt ct (f1 0) hT (J4 a0))).mono ?_
 rintro e W' ⟨v,rfl,⟨hl,hown⟩,hnil,hB⟩
 have S':fW Tryz.prog hs D ι (fun _=>none) W':=S.stay (fun b hb=>hB.block b hb) hB.size (fun _ h=>h) (fun b hb=>Nat.lt_of_lt_of_le (dR b hb) hB.size) (fun _ h=>.inl h) (fun _ _ h=>h)
 have T:Step hs D ι w D ι W':=Step.stay S (fun b hb=>hB.block b hb) hB.size hB.os hB.tape hB.output (fun _ h=>h) (fun _ h=>.inl h) (fun _ _ h=>h)
 rcases hown with⟨rfl,h0⟩|⟨gb,cap,cur,rfl,OQ,l8,hle,Jh,dn,pg⟩
 ·have OE:cu s l=[]:=hnil.1 rfl
  exact⟨.br,_,n,D,ι,_,rfl,⟨.br,il _ _,by rw[OE];rfl⟩,T,S',U,Nat.le_refl _,.eK _ _ .br⟩
 ·have OE:cu s l≠[]:=fun h=>by have:=hnil.2 h;cases this
  have mN:ι ⟨0,n⟩=none:=fresh U (fun h=>h)
  have gx:∀{a v},cG Tryz.prog W' D ι a v->cG Tryz.prog W' D (kI ι ⟨0,n⟩ ⟨gb,3,cap*3,none⟩) a v:=fun h=>h.frame (fun _ _=>rfl) (fun _ h=>h) (fH mN)
  have hR:ik Tryz.prog W' D (kI ι ⟨0,n⟩ ⟨gb,3,cap*3,none⟩) ⟨gb,3,cap*3,none⟩ ⟨true,3,(cu s l).map ax⟩:=by
   refine kS.obj ⟨rfl,⟨cur,_,l8,dn⟩,?_,fun cs hc=>?_,fun cs hc a ha=>?_,fun i j cs a hi hj=>?_⟩ rfl
   ·simp only[List.length_map];exact Nat.mul_le_mul_right 3 hle
   ·obtain⟨b,_,rfl⟩:=List.mem_map.1 hc;rfl
   ·obtain⟨b,_,rfl⟩:=List.mem_map.1 hc
    simp[ax]at ha
    rcases ha with rfl|rfl|rfl<;>rfl
   ·rw[List.getElem?_map]at hi
    simp only[Option.map_eq_some_iff]at hi
    obtain⟨b,hb,rfl⟩:=hi
    have hj3:j<3:=by have:=(List.getElem?_eq_some_iff.1 hj).1;simpa[ax]using this
    have oL:=(List.getElem?_eq_some_iff.1 hb).1
    have hg:=CR hb hj3
    rw[<-pg,List.getElem?_take,if_pos ab]at hg
    have key:∀x:Value,([.int .i64 b.a,.int .i64 b.b,.int .i64 b.s]:List Value)[j]? =some x->W'.cell? ⟨gb,i*3+j,none⟩=some x:=fun x hx=>by
     rw[hx]at hg
     have e:W'.cell? ⟨gb,i*3+j,none⟩=cur[i*3+j]? :=by
      unfold World.cell?
      rw[show W'.heap[(⟨gb,i*3+j,none⟩:Addr).block]? = _ from l8]
      rfl
     rw[e,<-Array.getElem?_toList];exact hg
    match j,hj with
    |0,hj=>simp[ax]at hj;subst hj;exact⟨_,key _ rfl,.eK _ _ (.int _ _)⟩
    |1,hj=>simp[ax]at hj;subst hj;exact⟨_,key _ rfl,.eK _ _ (.int _ _)⟩
    |2,hj=>simp[ax]at hj;subst hj;exact⟨_,key _ rfl,.eK _ _ (.int _ _)⟩
    |j+3,hj=>simp[ax]at hj
  have S2:=fW.add (r:=⟨true,3,(cu s l).map ax⟩) S S' mN OQ hR
  refine⟨.own ⟨0,n⟩ 0 (cu s l).length,bS (fun _=>none) ⟨0,n⟩ ⟨true,3,(cu s l).map ax⟩,n+1,D,kI ι ⟨0,n⟩ ⟨gb,3,cap*3,none⟩,_,rfl,⟨yj (cu s l),?_,rfl⟩,T.trans (Step.stay S' (fun _ _=>rfl) (Nat.le_refl _) rfl rfl rfl (fun _ h=>h) (fun _ h=>.inl h) (fH mN)),S2,U.upd.next,Nat.le_succ _,.own _ _ _ _ _ _ (ea _ _ _) rfl hle (.inr (by simp)) (by simp) Jh⟩
  unfold yj
  rw[if_neg OE]
  have hg:(bS (fun _=>none) (⟨0,n⟩:Id) ⟨true,3,(cu s l).map ax⟩:Rows) ⟨0,n⟩=some ⟨true,3,(cu s l).map ax⟩:=by simp[bS]
  have:=eW (n:=5) hg rfl fun b=>sZ _ 4 b
  simpa using this
end Go.Proofs.YtihgaadadaekmaaGreat.V

namespace Go.Proofs.YtihgaadadaekmaaGreat.V
open Go.RowKit
attribute [local irreducible] eb wpOps gH Call
attribute [local go_sem] aM fI eM fX fV cE upd cm K.av cK AV.cells AV.cell rowOf rowsOf part ld rowAt bS bZ dH ei ij bK dc eA fZ e8 du ep cY cX dU dW bQ bf cQ bP cT cR ek er eo cP bU cZ ej bL aQ cV cw ig bt cH bR bc dF bq dI AV.undef bD bF dX eh dQ dZ cF ez eE cr ev eu cU cW List.getD_cons_zero List.getD_cons_succ List.getD_nil List.all_cons List.all_nil Bool.and_true Bool.true_and Bool.and_self Bool.not_true Bool.not_false Option.map_some Option.map_none Option.bind_some Option.bind_none List.length_cons List.length_nil List.take_succ_cons List.take_zero List.take_nil List.drop_succ_cons List.drop_zero List.drop_nil List.head?_cons List.map_cons List.map_nil List.getElem?_cons_zero List.getElem?_cons_succ List.cons_append List.nil_append List.append_nil List.length_map List.set_cons_zero List.set_cons_succ Nat.reduceMul eq_self Int.toNat_natCast Int.natCast_nonneg and_self true_and and_true decide_true decide_false Bool.false_eq_true Nat.zero_add Nat.add_zero List.contains_cons List.contains_nil Bool.or_false Bool.false_or beq_self_eq_true Nat.reduceBEq ne_eq not_true_eq_false not_false_eq_true Id.mk.injEq false_and and_false Nat.reduceLT Int.reduceLE Int.reduceLT Int.reduceToNat Int.reduceNeg Int.reduceAdd Nat.le_refl List.length_append beq_true beq_false Bool.not_eq_eq_eq_not or_false false_or dD ad aj aH bC b4 aX bo aY bl cL bE
theorem xI (s:cl) (l:List ak) (hn:eX s.aI) (hm:rU s) (hl:l.length<=1048576):ah Tryz.prog 30 [.agg (az s),.agg [.sl (l.map ai)]] (.int .i64 (if qV s l then 0 else 1)):=by
 refine ah.body dY rfl fun sL n0=>?_
 clear sL
 have h1:=u6 Lw s hn hm.s.g hm.s.t hm.s.s hm.a
 have h2:=mJ s.aI l hn hm.s.g hm.s.t hm.s.s hl
 cases b1:mu s
 ·rw[b1]at h1
  rw[az]at h1 ⊢
  (repeat(first|((repeat(revert hN;revert N;apply Pn.out));refine wk @Nat.zero_add ?_;(repeat(refine Pn.mk ?_;intro N hN)))|((try apply Or.inl);refine⟨_,ah.x (h1) (sd @Nat.zero_add),?_⟩;refine hN _ _ ?_;clear hN N)))
  exact bG (b:=1) (.inl rfl) (sd @Nat.zero_add) (by simp[qV,b1])
 have ew:pA s.aI=true:=lN.2 (uJ.1 b1).set
 rw[b1]at h1
 rw[ew,Bool.true_and]at h2
 rw[az]at h1 ⊢
 rw[aa]at h2
 cases b2:oC s.aI l
 ·rw[b2]at h2
  (repeat(first|((repeat(revert hN;revert N;apply Pn.out));refine wk @Nat.zero_add ?_;(repeat(refine Pn.mk ?_;intro N hN)))|((try apply Or.inl);refine⟨_,ah.x (h1) (sd @Nat.zero_add),?_⟩;refine hN _ _ ?_;clear hN N)|((try apply Or.inl);refine⟨_,ah.x (h2) (sd @Nat.zero_add),?_⟩;refine hN _ _ ?_;clear hN N)))
  exact bG (b:=1) (.inl rfl) (sd @Nat.zero_add) (by simp[qV,b1,b2])
 ·rw[b2]at h2
  (repeat(first|((repeat(revert hN;revert N;apply Pn.out));refine wk @Nat.zero_add ?_;(repeat(refine Pn.mk ?_;intro N hN)))|((try apply Or.inl);refine⟨_,ah.x (h1) (sd @Nat.zero_add),?_⟩;refine hN _ _ ?_;clear hN N)|((try apply Or.inl);refine⟨_,ah.x (h2) (sd @Nat.zero_add),?_⟩;refine hN _ _ ?_;clear hN N)))
  exact bG (b:=0) (.inl rfl) (sd @Nat.zero_add) (by simp[qV,b1,b2])
def qAt (ps:List bH) (i:Nat):bH:=ps.getD i ⟨0,0⟩
theorem Sk {ps:List bH} {i:Nat} (h:i<ps.length):qAt ps i=ps[i]:=by simp[qAt,List.getD_eq_getElem?_getD,h]
def RisQ (ps:List bH):Prop:=ps.Pairwise fun a b=>qi a b=true
def Lh (z lo:Nat) (L:List fY) (v:AV) (g:Rows) (n:Nat):Prop:=(L=[]/\v=.br)∨∃(oo:Id) (rows:List (List AV)) (is:List Id),v=.own oo 0 L.length/\g oo=some ⟨true,3,rows⟩/\dd jU g rows L is/\eP lo n (oo::is)/\0<L.length/\oo.site=z
theorem Lh.one {z lo n:Nat} {c:fY} {v:AV} {g:Rows} {oo r:Id} (hv:v=.own oo 0 1) (hg:g oo=some ⟨true,3,[[.own r 0 c.t.length,.int .i64 c.n,.int .i64 c.d]]⟩) (hr:g r=some ⟨true,1,c.t.map ay⟩) (h1:lo<=r.bY) (h2:r.bY<oo.bY) (h3:oo.bY<n) (hs:oo.site=z):Lh z lo [c] v g n:=
 .inr ⟨oo,_,[r],hv,hg,dd.one ⟨r,rfl,hr,rfl⟩,⟨List.nodup_cons.2 ⟨fun h=>by rw[List.mem_singleton.1 h]at h2;omega,List.nodup_cons.2 ⟨by simp,List.nodup_nil⟩⟩,fun i hi=>by
  rcases List.mem_cons.1 hi with rfl|hi
  ·omega
  ·rw[List.mem_singleton.1 hi];omega⟩,by simp,hs⟩
theorem Lh.more {z lo m n:Nat} {L:List fY} {c:fY} {v:AV} {g g':Rows} {oo o' r:Id} {rows:List (List AV)} {is:List Id} (h3:dd jU g rows L is) (h4:eP lo m (oo::is)) (jS:lo<=m)
  (hv:v=.own o' 0 (L.length+1)) (hg:g' o'=some ⟨true,3,rows++[[.own r 0 c.t.length,.int .i64 c.n,.int .i64 c.d]]⟩) (hr:g' r=some ⟨true,1,c.t.map ay⟩) (hf:∀y:Id,y.bY<m->y≠oo->g' y=g y) (h1:m<=r.bY) (h2:r.bY<o'.bY) (h5:o'.bY<n) (hs:o'.site=z):Lh z lo (L++[c]) v g' n:=by
 obtain⟨ids,⟨o2,HJ,Sf,q1,q2,q3,rfl⟩,q5⟩:=fM.push (z:=3) (lo:=lo) (m:=m) (n':=n) (x:=c) (cs:=[.own r 0 c.t.length,.int .i64 c.n,.int .i64 c.d]) (ic:=[r]) (o':=o') (g':=g') o7 h3 h4 (fun y _ y2 y3=>hf y y2 y3) ⟨r,rfl,hr,rfl⟩ ⟨List.nodup_cons.2 ⟨by simp,List.nodup_nil⟩,fun i hi=>by rw[List.mem_singleton.1 hi];omega⟩ ab h5 jS hg
 have e:o2=o':=by
  injection q1 with e1;exact e1.symm
 subst e
 exact .inr ⟨o2,HJ,Sf,by rw[hv,List.length_append];rfl,q2,q3,q5,by simp,hs⟩
theorem Ch (s:aq) (l:List ak) (hn:eX s) (hF:fQ s) (hA:lT s l) (w:Nat) (hw:1<=w) (qS:w<=1000) (σ:aw):
  Call Tryz.prog 32 [.agg (aa s),.agg [.sl (l.map ai)],.int .i64 (w:Int)] σ (fun r σ'=>∃ids,iK σ'.get r (iU s l w) ids/\eP σ.next σ'.next ids):=by
 obtain⟨R,hR⟩:∃R,iU s l w=R:=⟨_,rfl⟩
 rw[hR]
 have fa:=fun(y:Nat) (σ1:aw)=>Fm s l hn hF hA y w hw qS σ1
 refine fh dY rfl fun hl=>?_
 clear hl
 rw[aa]at fa ⊢
 (try((repeat(revert hN;revert N;apply Pn.out));refine wk @Nat.zero_add ?_;(repeat(refine Pn.mk ?_;intro N hN))))
 refine aT (fun m env st=>∃k:Nat,m=61-k/\k<=61/\(∀j,j<k->BZ s l w j=true)/\Lh 32005003 σ.next (jl s l w k) (env 7) st.get st.next/\σ.next<st.next/\st.get ⟨32000000,σ.next⟩=some ⟨true,2,[[.sl (s.au.map bh),.sl (s.ae.map aW)]]⟩/\st.get ⟨32000001,σ.next⟩=some ⟨true,1,[[.sl (l.map ai)]]⟩) 61 ⟨0,rfl,ab,fun j hj=>absurd hj (Nat.not_lt_zero j),.inl ⟨rfl,sd @Nat.zero_add⟩,bw,sd @Nat.zero_add,sd @Nat.zero_add⟩ ?_
 rintro m env_a st_a ⟨k,rfl,hk,dt,aG,an,ag3,qU⟩ hkp
 have a2:=hkp 2 (by kernel_rfl)
 have a3:=hkp 3 (by kernel_rfl)
 have a4:=hkp 4 (by kernel_rfl)
 simp only[go_sem, ↓reduceIte,Nat.reduceEqDiff,Nat.reduceAdd,Nat.reduceSub,Nat.reduceLeDiff,reduceCtorEq]at a2 a3 a4
 clear hkp
 have hlen:=lI (s:=s) (l:=l) (w:=w) (k:=k)
 have NP:=fa k
 rcases aG with⟨hL,a7⟩|⟨oo,rows,is,a7,KS,hRR,hNI,hLp,Az⟩
 ·have s8:k=0:=by rw[hL]at hlen;exact hlen.symm
  have Rj:=hL
  have hkc:(.int .i64 ((0:Nat):Int):AV)=.int .i64 (k:Int):=by rw[s8]
  (try((repeat(revert hN;revert N;apply Pn.out));refine wk (tw @a2 (tw @a3 (tw @a4 (tw @ag3 (tw @qU (tw @a7 @hkc)))))) ?_;(repeat(refine Pn.mk ?_;intro N hN))))
  refine .inr (aV _ _ _ _ _ (fun r σ1 hq=>?_) (NP _))
  obtain⟨g1,n1⟩:=σ1
  obtain⟨AA,mb,De⟩:=hq
  (try dsimp only at AA mb De)
  have g3:=(mb ⟨32000000,σ.next⟩ bw).trans ag3
  have g4:=(mb ⟨32000001,σ.next⟩ bw).trans qU
  rcases hm:lF s l w k with _|c
  ·rw[hm]at De
   obtain⟨v,a,b,rfl,hv⟩:=De
   have gR:=qj hk dt (.inr (B3 hm))
   rw[hR]at gR
   rcases hv with rfl|⟨u,kk,rfl⟩
   ·refine hN _ _ ?_
    clear hN N
    (try((repeat(revert hN;revert N;apply Pn.out));refine wk (tw @a2 (tw @a3 (tw @a4 @a7))) ?_;(repeat(refine Pn.mk ?_;intro N hN))))
    subst gR
    exact fy (.inl rfl) (vs:=[.br]) (sd @a7) (⟨[],.inl ⟨Rj,rfl,rfl⟩,⟨List.nodup_nil,fun i hi=>by cases hi⟩⟩)
   ·refine hN _ _ ?_
    clear hN N
    (try((repeat(revert hN;revert N;apply Pn.out));refine wk (tw @a2 (tw @a3 (tw @a4 @a7))) ?_;(repeat(refine Pn.mk ?_;intro N hN))))
    subst gR
    exact fy (.inl rfl) (vs:=[.br]) (sd @a7) (⟨[],.inl ⟨Rj,rfl,rfl⟩,⟨List.nodup_nil,fun i hi=>by cases hi⟩⟩)
  ·have p9:k<61:=by
    refine Nat.lt_of_le_of_ne hk fun e=>?_
    rw[zW hA hw ab]at hm
    cases hm
   have Di:=pk hm
   have qa:=xW hm
   have GG:∀j,j<k+1->BZ s l w j=true:=all_succ dt qa
   rw[hm]at De
   obtain⟨u,rfl,hu,KY,Dk⟩:=De
   refine hN _ _ ?_
   clear hN N
   have vu:=eC Dk
   (try((repeat(revert hN;revert N;apply Pn.out));refine wk (tw @a2 (tw @a3 (tw @a4 (tw @a7 (tw @g3 @g4))))) ?_;(repeat(refine Pn.mk ?_;intro N hN))))
   refine⟨61-(k+1),ab,k+1,rfl,ab,GG,?_,bw,sd @g3,sd @g4⟩
   rw[Di,hL,List.nil_append]
   exact Lh.one (oo:=⟨32005003,n1+1+1⟩) (r:=u) (sl @Nat.zero_add) (sl @Nat.zero_add) (sd (tw @vu @hu)) ab bw bw rfl
 ·rw[hlen]at a7
  (try((repeat(revert hN;revert N;apply Pn.out));refine wk (tw @a2 (tw @a3 (tw @a4 (tw @ag3 (tw @qU @a7))))) ?_;(repeat(refine Pn.mk ?_;intro N hN))))
  refine .inr (aV _ _ _ _ _ (fun r σ1 hq=>?_) (NP _))
  obtain⟨g1,n1⟩:=σ1
  obtain⟨AA,mb,De⟩:=hq
  (try dsimp only at AA mb De)
  have g3:=(mb ⟨32000000,σ.next⟩ bw).trans ag3
  have g4:=(mb ⟨32000001,σ.next⟩ bw).trans qU
  have Rj:jl s l w k=jl s l w k:=rfl
  have se:=(hNI.2 oo (by simp)).2
  have So:=eC (i:=oo) (n:=n1) ab
  have Mj:=(mb oo ab).trans KS
  have Rm:dd jU g1 rows (jl s l w k) is:=hRR.frame o7 fun i hi=>mb i (by have:=(hNI.2 i (by simp[hi])).2;omega)
  have Dg:=hRR.len
  rw[hlen]at Dg
  have o3:((⟨32000000,σ.next⟩:Id)=oo)=False:=eq_false fun e=>absurd (show(32000000:Nat)=32005003 from(congrArg Id.site e).trans Az) (by decide)
  have o4:((⟨32000001,σ.next⟩:Id)=oo)=False:=eq_false fun e=>absurd (show(32000001:Nat)=32005003 from(congrArg Id.site e).trans Az) (by decide)
  rcases hm:lF s l w k with _|c
  ·rw[hm]at De
   obtain⟨v,a,b,rfl,hv⟩:=De
   have gR:=qj hk dt (.inr (B3 hm))
   rw[hR]at gR
   rcases hv with rfl|⟨u,kk,rfl⟩
   ·refine hN _ _ ?_
    clear hN N
    (try((repeat(revert hN;revert N;apply Pn.out));refine wk (tw @a2 (tw @a3 (tw @a4 @a7))) ?_;(repeat(refine Pn.mk ?_;intro N hN))))
    subst gR
    exact fy (.inl rfl) (vs:=[.own oo 0 k]) (sd @a7) (⟨oo::is,.inr ⟨⟨oo,rows,is,by rw[lI];rfl,by simp only[go_sem, ↓reduceIte,Nat.reduceEqDiff,Nat.reduceAdd,Nat.reduceSub,Nat.reduceLeDiff,reduceCtorEq,So];exact Mj,Rm.frame o7 fun i hi=>(by have h9:=eC (i:=i) (n:=n1) (by have:=(hNI.2 i (by simp[hi])).2;omega);simp only[go_sem, ↓reduceIte,Nat.reduceEqDiff,Nat.reduceAdd,Nat.reduceSub,Nat.reduceLeDiff,reduceCtorEq,h9]),rfl⟩,hLp⟩,hNI.1,fun i hi=>(by have:=hNI.2 i hi;(try dsimp only);omega)⟩)
   ·refine hN _ _ ?_
    clear hN N
    (try((repeat(revert hN;revert N;apply Pn.out));refine wk (tw @a2 (tw @a3 (tw @a4 @a7))) ?_;(repeat(refine Pn.mk ?_;intro N hN))))
    subst gR
    exact fy (.inl rfl) (vs:=[.own oo 0 k]) (sd @a7) (⟨oo::is,.inr ⟨⟨oo,rows,is,by rw[lI];rfl,by simp only[go_sem, ↓reduceIte,Nat.reduceEqDiff,Nat.reduceAdd,Nat.reduceSub,Nat.reduceLeDiff,reduceCtorEq,So];exact Mj,Rm.frame o7 fun i hi=>(by have h9:=eC (i:=i) (n:=n1) (by have:=(hNI.2 i (by simp[hi])).2;omega);simp only[go_sem, ↓reduceIte,Nat.reduceEqDiff,Nat.reduceAdd,Nat.reduceSub,Nat.reduceLeDiff,reduceCtorEq,h9]),rfl⟩,hLp⟩,hNI.1,fun i hi=>(by have:=hNI.2 i hi;(try dsimp only);omega)⟩)
  ·have p9:k<61:=by
    refine Nat.lt_of_le_of_ne hk fun e=>?_
    rw[zW hA hw ab]at hm
    cases hm
   have Di:=pk hm
   have qa:=xW hm
   have GG:∀j,j<k+1->BZ s l w j=true:=all_succ dt qa
   rw[hm]at De
   obtain⟨u,rfl,hu,KY,Dk⟩:=De
   refine hN _ _ ?_
   clear hN N
   have vu:=eC Dk
   have RI:k<=16777215:=ab
   have uo:(u=oo)=False:=eq_false fun e=>by rw[e]at KY;omega
   (try((repeat(revert hN;revert N;apply Pn.out));refine wk (tw @a2 (tw @a3 (tw @a4 (tw @a7 (tw @g3 (tw @g4 (tw @Mj (tw @So (tw @Dg @RI))))))))) ?_;(repeat(refine Pn.mk ?_;intro N hN))))
   refine⟨61-(k+1),ab,k+1,rfl,ab,GG,?_,bw,sd (tw @g3 @o3),sd (tw @g4 @o4)⟩
   rw[Di]
   exact Lh.more (oo:=oo) (o':=⟨32005003,n1+1+1⟩) (r:=u) (m:=st_a.next) Rm hNI ab (by rw[lI];simp only[go_sem, ↓reduceIte,Nat.reduceEqDiff,Nat.reduceAdd,Nat.reduceSub,Nat.reduceLeDiff,reduceCtorEq]<;>rfl) (sl @Nat.zero_add) (sd (tw @vu (tw @uo @hu))) (fun y y1 y2=>by
    have h9:=eC (i:=y) (n:=n1) ab
    have h8:=eq_false y2
    simp only[go_sem, ↓reduceIte,Nat.reduceEqDiff,Nat.reduceAdd,Nat.reduceSub,Nat.reduceLeDiff,reduceCtorEq,h9,h8]) ab bw bw rfl
theorem su (s:cl) (a:dm) (w:Int) (hn:eX s.aI) (hm:rU s) (hl:a.ae.length<=1048576):
  ∀n0:Nat,Call Tryz.prog 10 [.agg (az s),.agg (aD a),.int .i64 w] ⟨fun _=>none,n0⟩ (fun r σ'=>∃ids,(∃v0 i0,r=.gE [v0,.int .i64 (xY s a w).2]/\iK σ'.get v0 (xY s a w).1 i0/\ids=i0)/\eP n0 σ'.next ids):=by
 obtain⟨l⟩:=a
 intro n0
 have h1:=xI s l hn hm hl
 have i1:=jN w 1 12
 rw[aD]
 (try dsimp only)
 cases hask:qV s l
 ·rw[hask]at h1
  have hr:xY s ⟨l⟩ w=([],1):=by rw[xY,hask];rfl
  rw[hr]
  refine fh dY rfl fun sL=>?_
  clear sL
  rw[az]at h1 ⊢
  (repeat(first|((repeat(revert hN;revert N;apply Pn.out));refine wk @Nat.zero_add ?_;(repeat(refine Pn.mk ?_;intro N hN)))|((try apply Or.inl);refine⟨_,ah.x (h1) (sd @Nat.zero_add),?_⟩;refine hN _ _ ?_;clear hN N)))
  exact fy (.inl rfl) (vs:=[.br,.int .i64 1]) (sd @Nat.zero_add) ⟨[],⟨.br,[],rfl,.inl ⟨rfl,rfl,rfl⟩,rfl⟩,⟨List.nodup_nil,fun i hi=>by cases hi⟩⟩
 rw[hask]at h1
 obtain⟨hP,hA⟩:=yW.1 hask
 cases uY:g9 w 1 12
 ·have hr:xY s ⟨l⟩ w=([],2):=by rw[xY,hask,if_pos rfl,uY];rfl
  rw[hr]
  refine fh dY rfl fun sL=>?_
  clear sL
  rw[uY]at i1
  rw[az]at h1 ⊢
  (repeat(first|((repeat(revert hN;revert N;apply Pn.out));refine wk @Nat.zero_add ?_;(repeat(refine Pn.mk ?_;intro N hN)))|((try apply Or.inl);refine⟨_,ah.x (h1) (sd @Nat.zero_add),?_⟩;refine hN _ _ ?_;clear hN N)|((try apply Or.inl);refine⟨_,ah.x (i1) (sd @Nat.zero_add),?_⟩;refine hN _ _ ?_;clear hN N)))
  exact fy (.inl rfl) (vs:=[.br,.int .i64 2]) (sd @Nat.zero_add) ⟨[],⟨.br,[],rfl,.inl ⟨rfl,rfl,rfl⟩,rfl⟩,⟨List.nodup_nil,fun i hi=>by cases hi⟩⟩
 rw[uY]at i1
 have kb:=dO uY
 obtain⟨wn,rfl⟩:∃n:Nat,w=(n:Int):=⟨w.toNat,ab⟩
 have hr:xY s ⟨l⟩ wn=if (iU s.aI l wn).length=0 then([],9)else(iU s.aI l wn,0):=by rw[xY,hask,if_pos rfl,uY];rfl
 rw[hr]
 have NP:=fun σ:aw=>Ch s.aI l hn hP.set.form hA wn ab ab σ
 generalize iU s.aI l wn=L at NP ⊢
 obtain⟨R,hR⟩:∃R:List fY×Int,(if L.length=0 then([],9)else(L,0))=R:=⟨_,rfl⟩
 rw[hR]
 rw[aa]at NP
 refine fh dY rfl fun sL=>?_
 clear sL
 rw[az]at h1 ⊢
 (repeat(first|((repeat(revert hN;revert N;apply Pn.out));refine wk @Nat.zero_add ?_;(repeat(refine Pn.mk ?_;intro N hN)))|((try apply Or.inl);refine⟨_,ah.x (h1) (sd @Nat.zero_add),?_⟩;refine hN _ _ ?_;clear hN N)|((try apply Or.inl);refine⟨_,ah.x (i1) (sd @Nat.zero_add),?_⟩;refine hN _ _ ?_;clear hN N)))
 refine .inr (aV _ _ _ _ _ (fun r σ1 hq=>?_) (NP _))
 obtain⟨g1,n1⟩:=σ1
 obtain⟨ids,ho,hi⟩:=hq
 (try dsimp only at ho hi)
 rcases ho with⟨hL,rfl,rfl⟩|⟨⟨oo,rows,is,rfl,KS,hRR,rfl⟩,hLp⟩
 ·have L4:L.length=0:=by rw[hL];rfl
  have d0:decide (((0:Nat):Int)=0)=true:=rfl
  rw[if_pos L4]at hR
  refine hN _ _ ?_
  clear hN N
  (try((repeat(revert hN;revert N;apply Pn.out));refine wk @d0 ?_;(repeat(refine Pn.mk ?_;intro N hN))))
  subst hR
  exact fy (.inl rfl) (vs:=[.br,.int .i64 9]) (sd @Nat.zero_add) ⟨[],⟨.br,[],rfl,.inl ⟨rfl,rfl,rfl⟩,rfl⟩,⟨List.nodup_nil,fun i hi=>by cases hi⟩⟩
 ·have d0:decide ((L.length:Int)=0)=false:=decide_eq_false ab
  rw[if_neg ab]at hR
  refine hN _ _ ?_
  clear hN N
  (try((repeat(revert hN;revert N;apply Pn.out));refine wk @d0 ?_;(repeat(refine Pn.mk ?_;intro N hN))))
  subst hR
  exact fy (.inl rfl) (vs:=[.own oo 0 L.length,.int .i64 0]) (sd @Nat.zero_add) ⟨oo::is,⟨_,_,rfl,.inr ⟨⟨oo,rows,is,rfl,KS,hRR,rfl⟩,hLp⟩,rfl⟩,hi.wide bw bw⟩
end Go.Proofs.YtihgaadadaekmaaGreat.V

namespace Go.Proofs.YtihgaadadaekmaaGreat
open Go.ChangeShapes Go.WideShapes Go.ChangeAt Go.RowKit Go.Deep
section
variable {H:Type} {enc:TypeId×Value->H} {P:Program} {w:World}
theorem lW.Pt {α:Type} {rep:World->List Nat->List Value->α->Prop} {sz:Nat} {w:World} {b o len cap:Nat} (nz:Nat->List Value) (fs:Nat->List Nat) (ds:Nat->α) (hc:len<=cap) (hm:cap<=maxLen)
  (hl:∀i,i<len->(nz i).length=sz) (hr:∀i,i<len->rep w (fs i) (nz i) (ds i)) (uX:∀i,i<len->∀j u,(nz i)[j]? =some u->w.cell? ⟨b,o+(i*sz+j),none⟩=some u):
  lW rep sz w ([b]++((List.range len).map fs).flatten) (.slice (some ⟨b,o,none⟩) len cap) ((List.range len).map ds):=by
 refine⟨(List.range len).map nz,(List.range len).map fs,[b],rfl,⟨some ⟨b,o,none⟩,cap,by simp,by simpa using hc,hm,.inr ⟨b,o,rfl,rfl,fun j u hj=>?_⟩⟩,by simp,by simp,fun i cs f d h1 h2 h3=>?_⟩
 ·have hlen:∀cs∈(List.range len).map nz,cs.length=sz:=fun cs dn=>by
   obtain⟨i,hi,rfl⟩:=List.mem_map.1 dn
   exact hl i (List.mem_range.1 hi)
  have gG:=(List.getElem?_eq_some_iff.1 hj).1
  have Jl:((List.range len).map nz).flatten.length=len*sz:=by
   rw[List.length_flatten,List.map_map]
   have:∀(l:List Nat),(∀i∈l,i<len)->(l.map (List.length∘nz)).sum=l.length*sz:=by
    intro l
    induction l with
    |nil=>intro _;simp
    |cons a l ih=>intro h;rw[List.map_cons,List.sum_cons,ih fun i hi=>h i (List.mem_cons_of_mem _ hi)];simp only[Function.comp,hl a (h a (by simp)),List.length_cons,Nat.add_mul];omega
   rw[this _ fun i hi=>List.mem_range.1 hi,List.length_range]
  rw[Jl]at gG
  have AB:0<sz:=by
   rcases Nat.eq_zero_or_pos sz with h|h
   ·subst h;simp at gG
   ·exact h
  have hi:j / sz<len:=(Nat.div_lt_iff_lt_mul AB).2 gG
  have KR:j % sz<sz:=Nat.mod_lt _ AB
  have Jn:j=(j / sz)*sz+j % sz:=by rw[Nat.mul_comm];exact(Nat.div_add_mod j sz).symm
  rw[Jn,r4 hlen (i:=j / sz) (cs:=nz (j / sz)) (by simp[hi]) KR]at hj
  rw[Jn]
  have:=uX (j / sz) hi (j % sz) u hj
  rw[<-Jn]at this ⊢
  exact this
 ·have hi:i<len:=by
   have:=(List.getElem?_eq_some_iff.1 h1).1
   simpa using this
  simp[hi]at h1 h2 h3
  subst h1 h2 h3
  exact⟨hr i hi,hl i hi⟩
theorem jP (b o k:Nat):(⟨b,o,none⟩:Addr).add k=⟨b,o+k,none⟩:=by
 unfold Addr.add;split
 ·rename_i h;subst h;rfl
 ·rfl
theorem oz {α:Type} {rep:World->List Nat->List Value->α->Prop} {Q:α->Prop} {t e:TypeId} {sz fuel:Nat} {cs:List Value} {x:DataW H×List MemPlace} (ht:P.underlying t=some (.slice e)) (hC:P.cellsOf e=sz) (AB:0<sz)
  (h:DataW.trod enc P w 0 (fun _=>true) true fuel t cs=some x) (hel:∀n oI y,oI.length=sz->DataW.trod enc P w 0 (fun _=>true) true n e oI=some y->∃f d,fq f 0 w.heap.size/\rep w f oI d/\Q d):
  ∃A n c f xs,cs=[.slice A n c]/\fq f 0 w.heap.size/\lW rep sz w f (.slice A n c) xs/\∀d∈xs,Q d:=by
 rcases open_slice ht h with⟨rfl,_⟩|⟨a,len,cap,m,n,D,Pl,rfl,_,hl,hm,vB,_,hi⟩
 ·exact⟨none,0,0,[],[],rfl,fq.nil _ _,lW.nil _ _ _,fun d h=>by cases h⟩
 rw[hC]at hi
 simp only[if_true]at vB
 by_cases h0:len=0
 ·subst h0
  exact⟨some a,0,cap,[],[],rfl,fq.nil _ _,⟨[],[],[],rfl,⟨some a,cap,rfl,Nat.zero_le _,hm,.inl ⟨rfl,rfl⟩⟩,rfl,rfl,fun i cs f d hc=>by simp at hc⟩,fun d h=>by cases h⟩
 obtain⟨b,o,sp⟩:=a
 have cell0:∃v,w.cell? ⟨b,o,sp⟩=some v:=by
  obtain⟨oI,hc,_⟩:=hi 0 (by omega)
  obtain⟨_,mW,uX⟩:=World.cells?_some hc
  refine⟨oI[0]'(by omega),?_⟩
  have:=uX 0 AB
  rw[List.getElem?_eq_getElem (by omega)]at this
  simpa[Addr.add]using this
 obtain⟨v0,qQ⟩:=cell0
 have hb:b<w.heap.size:=World.block_lt_of_cell? w _ qQ
 have Ms:sp=none:=by
  unfold World.cell? at qQ
  split at qQ
  ·split at qQ
   ·cases qQ
   ·rename_i h;simpa using h
  ·cases qQ
 subst Ms
 have key:∀i,i<len->∃oI f d,oI.length=sz/\fq f 0 w.heap.size/\rep w f oI d/\Q d/\∀j u,oI[j]? =some u->w.cell? ⟨b,o+(i*sz+j),none⟩=some u:=fun i oL=>by
  obtain⟨oI,hc,htr⟩:=hi i (by omega)
  obtain⟨_,mW,uX⟩:=World.cells?_some hc
  obtain⟨f,d,h1,h2,h3⟩:=hel n oI _ mW htr
  refine⟨oI,f,d,mW,h1,h2,h3,fun j u hj=>?_⟩
  have gG:=(List.getElem?_eq_some_iff.1 hj).1
  have:=uX j (by omega)
  rw[hj]at this
  rw[<-this,Go.Deep.add_add,jP]
 have:Nonempty α:=by
  obtain⟨_,_,d,_⟩:=key 0 (by omega)
  exact⟨d⟩
 let cf:Nat->List Value:=fun i=>if hi:i<len then(key i hi).choose else[]
 let ff:Nat->List Nat:=fun i=>if hi:i<len then(key i hi).choose_spec.choose else[]
 let df:Nat->α:=fun i=>if hi:i<len then(key i hi).choose_spec.choose_spec.choose else Classical.choice this
 have dt:∀i,i<len->(cf i).length=sz/\fq (ff i) 0 w.heap.size/\rep w (ff i) (cf i) (df i)/\Q (df i)/\∀j u,(cf i)[j]? =some u->w.cell? ⟨b,o+(i*sz+j),none⟩=some u:=fun i hi=>by
  have:=(key i hi).choose_spec.choose_spec.choose_spec
  simp only[cf,ff,df,dif_pos hi]
  exact this
 refine⟨some ⟨b,o,none⟩,len,cap,_,(List.range len).map df,rfl,?_,lW.Pt cf ff df hl hm (fun i hi=>(dt i hi).1) (fun i hi=>(dt i hi).2.2.1) (fun i hi=>(dt i hi).2.2.2.2),fun d hd=>?_⟩
 ·intro x hx
  rcases List.mem_append.1 hx with hx|hx
  ·simp at hx;subst hx;exact⟨Nat.zero_le _,hb⟩
  ·obtain⟨l,NJ,NU⟩:=List.mem_flatten.1 hx
   obtain⟨i,hi,rfl⟩:=List.mem_map.1 NJ
   exact(dt i (List.mem_range.1 hi)).2.1 x NU
 ·obtain⟨i,hi,rfl⟩:=List.mem_map.1 hd
  exact(dt i (List.mem_range.1 hi)).2.2.2.1
end
section
variable {H:Type} {enc:TypeId×Value->H} {w:World} {fuel:Nat} {cs:List Value} {x:DataW H×List MemPlace}
abbrev TT (enc:TypeId×Value->H) (w:World) (fuel t:Nat) (cs:List Value) (x:DataW H×List MemPlace):Prop:=DataW.trod enc Tryz.prog w 0 (fun _=>true) true fuel t cs=some x
theorem ML (h:TT enc w fuel 71 cs x):∃A n c f xs,cs=[.slice A n c]/\fq f 0 w.heap.size/\tp w f (.slice A n c) xs:=by
 obtain⟨A,n,c,f,xs,h1,h2,h3,_⟩:=oz (rep:=CO) (Q:=fun _=>True) Tryz.underlying71 (sz:=1) (by kernel_rfl) (by omega) h fun n oI y hl hy=>by
  obtain⟨b,rfl,_⟩:=DataW.trod_int Tryz.underlying2 hy
  exact⟨[],b,fq.nil _ _,⟨rfl,rfl⟩,trivial⟩
 exact⟨A,n,c,f,xs,h1,h2,h3⟩
theorem mi {t:TypeId} {fs:Array Field} (ht:Tryz.prog.underlying t=some (.struct fs)) (h:TT enc w fuel t cs x):cs.length=Tryz.prog.cellsOf t/\∃n,∀(i:Nat) (f:Field),fs[i]? =some f->∃y,TT enc w n f.type ((cs.drop f.offset).take (Tryz.prog.cellsOf f.type)) y:=by
 obtain⟨xs,n,_,_,hl,NU,hf⟩:=DataW.trod_struct ht h
 refine⟨hl,n,fun i f hi=>?_⟩
 have oL:i<xs.length:=by rw[NU];exact(Array.getElem?_eq_some_iff.1 hi).1
 exact⟨xs[i],(hf i f hi).trans (List.getElem?_eq_getElem oL)⟩
theorem Po {l:List Value} (h:l.length=2):∃a b,l=[a,b]:=by
 match l,h with
 |[a,b],_=>exact⟨a,b,rfl⟩
theorem Si {l:List Value} (h:l.length=3):∃a b c,l=[a,b,c]:=by
 match l,h with
 |[a,b,c],_=>exact⟨a,b,c,rfl⟩
theorem Sh {l:List Value} (h:l.length=1):∃a,l=[a]:=by
 match l,h with
 |[a],_=>exact⟨a,rfl⟩
theorem Sj {l:List Value} (h:l.length=4):∃a b c d,l=[a,b,c,d]:=by
 match l,h with
 |[a,b,c,d],_=>exact⟨a,b,c,d,rfl⟩
theorem JZ (h:TT enc w fuel 22 cs x):∃A n c f xs,cs=[.slice A n c]/\fq f 0 w.heap.size/\pK w f (.slice A n c) xs/\∀d∈xs,d.aB.size<=9223372036854775807:=by
 exact oz (rep:=F4) (Q:=fun d=>d.aB.size<=9223372036854775807) Tryz.underlying22 (sz:=2) (by kernel_rfl) (by omega) h fun n oI y hl hy=>by
  obtain⟨_,m,hf⟩:=mi Tryz.underlying144 hy
  obtain⟨a,b,rfl⟩:=Po hl
  ·skip
   obtain⟨y0,h0⟩:=hf 0 _ rfl
   obtain⟨y1,h1⟩:=hf 1 _ rfl
   rw[show Tryz.prog.cellsOf _=1 from by kernel_rfl]at h0 h1
   obtain⟨p,e0,_,ws⟩:=DataW.trod_string Tryz.underlying9 h0
   obtain⟨q,e1,_⟩:=DataW.trod_int Tryz.underlying2 h1
   simp at e0 e1
   subst e0 e1
   exact⟨[],⟨p,q⟩,fq.nil _ _,⟨rfl,rfl⟩,by simpa[maxLen]using ws⟩
theorem J0 (h:TT enc w fuel 23 cs x):∃A n c f xs,cs=[.slice A n c]/\fq f 0 w.heap.size/\pM w f (.slice A n c) xs/\∀d∈xs,d.aB.size<=9223372036854775807:=by
 exact oz (rep:=F5) (Q:=fun d=>d.aB.size<=9223372036854775807) Tryz.underlying23 (sz:=2) (by kernel_rfl) (by omega) h fun n oI y hl hy=>by
  obtain⟨_,m,hf⟩:=mi Tryz.underlying146 hy
  obtain⟨a,b,rfl⟩:=Po hl
  ·skip
   obtain⟨y0,h0⟩:=hf 0 _ rfl
   obtain⟨y1,h1⟩:=hf 1 _ rfl
   rw[show Tryz.prog.cellsOf _=1 from by kernel_rfl]at h0 h1
   obtain⟨p,e0,_,ws⟩:=DataW.trod_string Tryz.underlying9 h0
   obtain⟨A1,n1,c1,f1,PL,e1,k1,s1⟩:=ML h1
   simp at e0 e1
   subst e0 e1
   exact⟨_,⟨p,PL⟩,k1,⟨_,f1,rfl,rfl,s1⟩,by simpa[maxLen]using ws⟩
theorem Fg (h:TT enc w fuel 26 cs x):∃A n c f xs,cs=[.slice A n c]/\fq f 0 w.heap.size/\iC w f (.slice A n c) xs:=by
 obtain⟨A,n,c,f,xs,h1,h2,h3,_⟩:=oz (rep:=yP) (Q:=fun _=>True) Tryz.underlying26 (sz:=3) (by kernel_rfl) (by omega) h fun n oI y hl hy=>by
  obtain⟨_,m,hf⟩:=mi Tryz.underlying115 hy
  obtain⟨a,b,c,rfl⟩:=Si hl
  ·skip
   obtain⟨y0,h0⟩:=hf 0 _ rfl
   obtain⟨y1,h1⟩:=hf 1 _ rfl
   rw[show Tryz.prog.cellsOf _=2 from by kernel_rfl]at h0
   rw[show Tryz.prog.cellsOf _=1 from by kernel_rfl]at h1
   obtain⟨_,m2,KI⟩:=mi Tryz.underlying113 h0
   obtain⟨z0,g0⟩:=KI 0 _ rfl
   obtain⟨z1,g1⟩:=KI 1 _ rfl
   rw[show Tryz.prog.cellsOf _=1 from by kernel_rfl]at g0 g1
   obtain⟨px,e0,_⟩:=DataW.trod_int Tryz.underlying2 g0
   obtain⟨py,e1,_⟩:=DataW.trod_int Tryz.underlying2 g1
   obtain⟨ti,e2,_⟩:=DataW.trod_int Tryz.underlying2 h1
   simp at e0 e1 e2
   subst e0 e1 e2
   exact⟨[],⟨⟨px,py⟩,ti⟩,fq.nil _ _,⟨rfl,rfl⟩,trivial⟩
 exact⟨A,n,c,f,xs,h1,h2,h3⟩
theorem um (h:TT enc w fuel 28 cs x):∃A n c f,∃d:dm,cs=[.slice A n c]/\fq f 0 w.heap.size/\iC w f (.slice A n c) d.ae:=by
 obtain⟨hl,m,hf⟩:=mi Tryz.underlying28 h
 rw[show Tryz.prog.cellsOf _=1 from by kernel_rfl]at hl
 obtain⟨a,rfl⟩:=Sh hl
 ·skip
  obtain⟨y0,h0⟩:=hf 0 _ rfl
  rw[show Tryz.prog.cellsOf _=1 from by kernel_rfl]at h0
  obtain⟨A1,n1,c1,f1,PL,e1,k1,s1⟩:=Fg h0
  simp at e1
  subst e1
  exact⟨A1,n1,c1,f1,⟨PL⟩,rfl,k1,s1⟩
theorem Hw (h:TT enc w fuel 30 cs x):∃A0 n0 c0 f0 A1 n1 c1 f1 A2 n2 c2 f2,∃d:cl,cs=[.slice A0 n0 c0,.slice A1 n1 c1,.slice A2 n2 c2,.int .i64 d.aJ]/\fq f0 0 w.heap.size/\pK w f0 (.slice A0 n0 c0) d.aI.au/\fq f1 0 w.heap.size/\pM w f1 (.slice A1 n1 c1) d.aI.ae/\fq f2 0 w.heap.size/\iC w f2 (.slice A2 n2 c2) d.ck.ae/\(∀g∈d.aI.au,g.aB.size<=9223372036854775807)/\∀t∈d.aI.ae,t.aB.size<=9223372036854775807:=by
 obtain⟨hl,m,hf⟩:=mi Tryz.underlying30 h
 rw[show Tryz.prog.cellsOf _=4 from by kernel_rfl]at hl
 obtain⟨a,b,c,d,rfl⟩:=Sj hl
 ·skip
  obtain⟨y0,h0⟩:=hf 0 _ rfl
  obtain⟨y1,h1⟩:=hf 1 _ rfl
  obtain⟨y2,h2⟩:=hf 2 _ rfl
  rw[show Tryz.prog.cellsOf _=2 from by kernel_rfl]at h0
  rw[show Tryz.prog.cellsOf _=1 from by kernel_rfl]at h1 h2
  obtain⟨_,m2,KI⟩:=mi Tryz.underlying25 h0
  obtain⟨z0,g0⟩:=KI 0 _ rfl
  obtain⟨z1,g1⟩:=KI 1 _ rfl
  rw[show Tryz.prog.cellsOf _=1 from by kernel_rfl]at g0 g1
  obtain⟨A0,n0,c0,f0,xs0,e0,k0,s0,o0⟩:=JZ g0
  obtain⟨A1,n1,c1,f1,PL,e1,k1,s1,o1⟩:=J0 g1
  obtain⟨A2,n2,c2,f2,d2,e2,k2,s2⟩:=um h1
  obtain⟨t,e3,_⟩:=DataW.trod_int Tryz.underlying2 h2
  simp at e0 e1 e2 e3
  subst e0 e1 e2 e3
  exact⟨A0,n0,c0,f0,A1,n1,c1,f1,A2,n2,c2,f2,⟨⟨xs0,PL⟩,d2,t⟩,rfl,k0,s0,k1,s1,k2,s2,o0,o1⟩
end
end Go.Proofs.YtihgaadadaekmaaGreat

namespace Go.Proofs.YtihgaadadaekmaaGreat
open Go.ChangeShapes Go.WideShapes Go.ChangeAt Go.RowKit V
theorem Py:ownKnob Tryz.prog.godebug=none:=by kernel_rfl
theorem BW:laidOutB Tryz.prog=true:=by kernel_rfl
theorem Ai {α:Type} (f:α->Nat) (b:Nat):∀L:List α,(∀x∈L,f x<=b)->(L.map f).sum<=L.length*b
 |[],_=>Nat.zero_le _
 |x::L,h=>by
  have h1:=Ai f b L fun y hy=>h y (by simp[hy])
  have h2:=h x (by simp)
  simp only[List.map_cons,List.sum_cons,List.length_cons,Nat.succ_mul]
  omega
theorem JO (s:cl) (a:dm) (w:Int):((xY s a w).1.map iG).sum<=1099511627776:=by
 unfold xY
 split
 ·split
  ·rename_i hb
   have h1:=dO hb
   split
   ·simp
   ·have h3:=Ai iG 14 (iU s.aI a.ae w.toNat) fun x hx=>by
     have:=B4 hx
     unfold iG
     omega
    have h4:=wQ s.aI a.ae w.toNat
    have h5:(iU s.aI a.ae w.toNat).length*14<=61*14:=Nat.mul_le_mul h4 (Nat.le_refl _)
    (try dsimp only)
    omega
  ·simp
 ·simp
theorem I1 (s:cl) (a:dm) (w:Int) (hn:eX s.aI):ah Tryz.prog 3 [.agg (az s),.agg (aD a),.int .i64 w] (.bool true):=
 JJ xY (fun s a w hn hm _=>sv s a w hn hm.s.g hm.s.t) (fun s a w hn hm hl=>su s a w hn hm hl) (fun s a w _ _ _=>JO s a w) s a w hn
theorem E4 (os:Os) (started:os.Started) (H:Type) (enc:TypeId×Value->H):
  ReturnsInHanded {} Tryz.checked os 3 .any (Rows.fnExactDecodeMachineSpec.pre6 enc Tryz.prog Tryz.f3 Rows.fnExactDecodeMachineRow.domain false) (Rows.fnExactDecodeMachineSpec.post enc Tryz.prog Tryz.f3 false true false false):=by
 refine returnsInHanded_of_change (C:=Tryz.checked) Py started (by kernel_rfl) Tryz.func3
  (ChangeSpec.witness6 (enc:=enc) (C:=Tryz.checked) false ⟨#[], #[.agg #[.slice none 0 0,.slice none 0 0,.slice none 0 0,.int .i64 0],.agg #[.slice none 0 0],.int .i64 0],[]⟩ 8 (by kernel_rfl) (by kernel_rfl) (by kernel_rfl) (by kernel_rfl)) ?_
 intro W base args ds gs before K0 hW hcnd _
 have qe:∀(j:Nat) t v,Tryz.f3.params[j]? =some t->args[j]? =some v->Value.okWide Tryz.prog W .any base t v:=K0
 have hW':=hW
 obtain⟨p,q,hA0,hV,rfl,Db,k7⟩:=hW
 have hA:DataW.TrodAll enc Tryz.prog W 0 (fun _=>true) true Tryz.f3.params.toList args.toList ds p:=hA0
 rw[Tryz.params3]at hA qe
 obtain⟨v0,vs0,d0,ds0,p0,q0,mM,rfl,rfl,h0,r0⟩:=trodAll_cons hA
 obtain⟨v1,vs1,d1,ds1,p1,q1,rfl,rfl,rfl,h1,r1⟩:=trodAll_cons r0
 obtain⟨v2,vs2,d2,ds2,p2,q2,rfl,rfl,rfl,h2,r2⟩:=trodAll_cons r1
 obtain⟨rfl,rfl,rfl⟩:=trodAll_nil r2
 obtain rfl:args= #[v0,v1,v2]:=by cases args;simp_all
 obtain⟨rfl,rfl⟩:=trodVars_none hV
 obtain⟨Nz,rfl,_⟩:=okWide_struct Tryz.underlying30 (qe 0 30 v0 rfl rfl)
 obtain⟨QX,rfl,_⟩:=okWide_struct Tryz.underlying28 (qe 1 28 v1 rfl rfl)
 have k0:=h0
 have k1:=h1
 have k2:=h2
 have lt0:∀x∈p0,x.block<W.heap.size:=by obtain⟨m,hm⟩:=k0;exact DataW.trod_lt m _ _ _ hm
 have lt1:∀x∈p1,x.block<W.heap.size:=by obtain⟨m,hm⟩:=k1;exact DataW.trod_lt m _ _ _ hm
 have lt2:∀x∈p2,x.block<W.heap.size:=by obtain⟨m,hm⟩:=k2;exact DataW.trod_lt m _ _ _ hm
 obtain⟨A0,n0,c0,f0,A1,n1,c1,f1,A2,n2,c2,f2,s,Bv,w0,s0,w1,s1,w2,s2,o0,o1⟩:∃A0 n0 c0 f0 A1 n1 c1 f1 A2 n2 c2 f2,∃d:cl,(Value.agg Nz).cells.toList=[.slice A0 n0 c0,.slice A1 n1 c1,.slice A2 n2 c2,.int .i64 d.aJ]/\fq f0 0 W.heap.size/\pK W f0 (.slice A0 n0 c0) d.aI.au/\fq f1 0 W.heap.size/\pM W f1 (.slice A1 n1 c1) d.aI.ae/\fq f2 0 W.heap.size/\iC W f2 (.slice A2 n2 c2) d.ck.ae/\(∀g∈d.aI.au,g.aB.size<=9223372036854775807)/\∀t∈d.aI.ae,t.aB.size<=9223372036854775807:=by
  obtain⟨fuel,hf⟩:=h0
  exact Hw hf
 obtain rfl:Nz= #[.slice A0 n0 c0,.slice A1 n1 c1,.slice A2 n2 c2,.int .i64 s.aJ]:=by
  cases Nz;simp[Value.cells]at Bv;subst Bv;rfl
 obtain⟨A3,n3,c3,f3,a,OH,w3,s3⟩:∃A n c f,∃d:dm,(Value.agg QX).cells.toList=[.slice A n c]/\fq f 0 W.heap.size/\iC W f (.slice A n c) d.ae:=by
  obtain⟨fuel,hf⟩:=h1
  exact um hf
 obtain rfl:QX= #[.slice A3 n3 c3]:=by
  cases QX;simp[Value.cells]at OH;subst OH;rfl
 obtain⟨w,e2,-,-,-⟩:=open_int Tryz.underlying2 (qe 2 2 v2 rfl rfl) h2
 subst e2
 clear hA0 K0
 have gx:e7 Tryz.prog W (fun b=>b<W.heap.size) (fun _=>none) [.agg (az s),.agg (aD a),.int .i64 w] #[.agg #[.slice A0 n0 c0,.slice A1 n1 c1,.slice A2 n2 c2,.int .i64 s.aJ],.agg #[.slice A3 n3 c3],.int .i64 w]:=by
  have h:=kz (AM s0 (fun b hb=>(w0 b hb).2) s1 (fun b hb=>(w1 b hb).2) s2 (fun b hb=>(w2 b hb).2)) (kz (xd s3 (fun b hb=>(w3 b hb).2)) (kz (.int .i64 w) (⟨rfl,fun j b hj=>by cases j<;>cases hj⟩:e7 Tryz.prog W (fun b=>b<W.heap.size) (fun _=>none) [] #[])))
  simpa using h
 have gL:=MC mixed (I1 s a w ⟨o0,o1⟩) gx
 clear s0 s1 s2 w0 w1 w2 s3 w3 gx
 refine(gL.mono fun e W' ⟨he,bel⟩=>?_)
 subst he
 exact⟨_,rfl,_,_,_,[],_,[],hW',trodAll_mk1 (shut_bool Tryz.underlying4 _),(trodAll_cons_mk (Below.trod BW (by kernel_rfl) (of_decide_eq_true (by kernel_rfl)) k0 bel lt0) (trodAll_cons_mk (Below.trod BW (by kernel_rfl) (of_decide_eq_true (by kernel_rfl)) k1 bel lt1) (trodAll_cons_mk (Below.trod BW (by kernel_rfl) (of_decide_eq_true (by kernel_rfl)) k2 bel lt2) trodAll_mk0))),rfl,bel.frame _,fun h=>by cases h⟩
end Go.Proofs.YtihgaadadaekmaaGreat

namespace Go.Proofs.YtihgaadadaekmaaGreat
open Go.ChangeShapes Go.WideShapes Go.ChangeAt Go.RowKit
theorem maN:Tryz.pinned.checked.prog.funcNamed Rows.fnExactDecodeMachineRow.func=some 3:=by kernel_rfl
theorem maJ:joinedFacts Tryz.pinned.checked.prog 3 Tryz.f3 Rows.fnExactDecodeMachineSpec Rows.fnExactDecodeMachineRow=true:=by
 unfold joinedFacts
 repeat(with_reducible refine Bool.and_eq_true_iff.2 ⟨?_,by as_aux_lemma=>kernel_rfl⟩)
 as_aux_lemma=>kernel_rfl
theorem maI:Tryz.f3.isInstance Tryz.pinned.checked.prog Rows.fnExactDecodeMachineRow.origin Rows.fnExactDecodeMachineRow.targs:=of_decide_eq_true (by kernel_rfl)
theorem maW:Tryz.f3.isWrapper Tryz.pinned.checked.prog Rows.fnExactDecodeMachineRow.wrapper Rows.fnExactDecodeMachineRow.mainSum:=by
 unfold Func.isWrapper;first|(rw[if_pos (by decide+kernel)];kernel_rfl)|(rw[if_neg (by decide+kernel)];exact⟨rfl,rfl⟩)
theorem JP:Rows.fnExactDecodeMachineRow.holds Tryz.pinned (OpenSpec.ofChange Rows.fnExactDecodeMachineSpec):=
 OpenClaim.holds_of_wide 3 Tryz.f3 rfl rfl rfl rfl rfl rfl rfl ⟨rfl,rfl,rfl,rfl,rfl⟩ rfl rfl rfl rfl rfl maN Tryz.func3 maJ maI maW
  (fun os started H enc _=>E4 os started H enc)
theorem fnExactDecodeMachine_proved:Rows.FnExactDecodeMachineSaid:=JP
end Go.Proofs.YtihgaadadaekmaaGreat
