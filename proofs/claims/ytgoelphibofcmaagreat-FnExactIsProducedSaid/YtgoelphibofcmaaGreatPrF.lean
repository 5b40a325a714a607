/- TileSet.bonds, walked. -/
import Derived.Test.YtgoelphibofcmaaGreatPrE
import Derived.Test.YtgoelphibofcmaaGreatPrB
import Derived.Test.YtgoelphibofcmaaGreatChecked
import Derived.ProofKit
import Derived.Deep.Slices
import Derived.ChangeSame
import Derived.Test.YtgoelphibofcmaaGreatRows
import Derived.Test.YtgoelphibofcmaaGreatPrC
import Derived.OpenShut
import Derived.ShutString
import Derived.ChangeOld
import Derived.Below
set_option linter.unusedVariables false
set_option linter.unusedSimpArgs false
set_option maxRecDepth 100000
set_option maxHeartbeats 16000000
namespace Go.Proofs.YtgoelphibofcmaaGreat.V
open Go.RowKit Go.Shelf
attribute [local go_sem] Oper.semAt_some
attribute [local irreducible] dx wpOps gp Call
attribute [local go_sem] aH fC eG fW fV cF upd cj K.av cJ AV.cells AV.cell rowOf rowsOf part ld rowAt bj bY dz eb gT bE cZ er fS eU dp eh cX cW dR dS bH aW cN bG cQ cP ee ei ef cL bP cY ec bF aL cU cw gS bl cG bI aP dd aU dB AV.undef bw bB dV ea dI dG cE ep ev cq ek ej cR cV List.getD_cons_zero List.getD_cons_succ List.getD_nil List.all_cons List.all_nil Bool.and_true Bool.true_and Bool.and_self Bool.not_true Bool.not_false Option.map_some Option.map_none Option.bind_some Option.bind_none List.length_cons List.length_nil List.take_succ_cons List.take_zero List.take_nil List.drop_succ_cons List.drop_zero List.drop_nil List.head?_cons List.map_cons List.map_nil List.getElem?_cons_zero List.getElem?_cons_succ List.cons_append List.nil_append List.append_nil List.length_map List.set_cons_zero List.set_cons_succ Nat.reduceMul eq_self Int.toNat_natCast Int.natCast_nonneg and_self true_and and_true decide_true decide_false Bool.false_eq_true Nat.zero_add Nat.add_zero List.contains_cons List.contains_nil Bool.or_false Bool.false_or beq_self_eq_true Nat.reduceBEq ne_eq not_true_eq_false not_false_eq_true Id.mk.injEq false_and and_false Nat.reduceLT Int.reduceLE Int.reduceLT Int.reduceToNat Int.reduceNeg Int.reduceAdd Nat.le_refl List.length_append beq_true beq_false Bool.not_eq_eq_eq_not or_false false_or dO ah aq aI aZ bt ck aS bf aO aY cK bK
theorem Gk (s:au) (l:List ad) (hF:j6 s) (hA:jn s l) (w:World) (Ag At:Option Addr) (ng cg nt ct:Nat) (vS:Value) (hT:jh Tryz.prog w (fun b=>b<w.heap.size) (.agg (aa s)) (.agg #[.slice Ag ng cg,.slice At nt ct])) (hP:oG w vS l):
  CallsIn Fence.wide 5 Tryz.prog 222 #[.agg #[.slice Ag ng cg,.slice At nt ct],.agg #[vS]] w fun e W'=>∃v,e=.returned v/\W'.ownsRow w.heap.size 246 3 v (cz s l).length (I0 (cz s l))/\(v=.slice none 0 0↔cz s l=[])/\Below w.heap.size w W':=by
 obtain⟨A,cp,rfl,_,_⟩:=hP.sl
 obtain⟨i0,hi,KT,zl,lu⟩:=info_parts Hd
 refine callsIn_of_wp_marks Tryz.func222 rfl trivial ?_ rfl
 simp only[Tryz.ntmps222,List.size_toArray,List.length_cons,List.length_nil,Nat.reduceAdd,Nat.reduceSub,Array.replicate_succ,Array.replicate_zero,List.push_toArray,List.append_toArray,List.nil_append,List.cons_append]
 gi_wp2_with (refine⟨trivial,?_⟩;gi_at_call 244;refine(yC _ _ _).mono ?_;rintro e w' ⟨rfl,rfl⟩)
 have bT:((w.alloc (.cells #[.slice Ag ng cg,.slice At nt ct] 38)).heap[w.heap.size]?)=some (.cells #[.slice Ag ng cg,.slice At nt ct] 38 (0,0)):=World.alloc_heap_new _ _
 obtain⟨w1,tg⟩:∃w1,w.alloc (.cells #[.slice Ag ng cg,.slice At nt ct] 38)=w1:=⟨_,rfl⟩
 have NK:w1.heap.size=w.heap.size+1:=by rw[<-tg];simp
 have zh:Below w.heap.size w w1:=by rw[<-tg];exact(Below.refl _ w).alloc (Nat.le_refl _) _
 rw[tg]at bT ⊢
 clear tg
 have bA:=Boxed.new w1 41 (.slice A l.length cp)
 have bO:=Boxed.new (w1.alloc (.cells #[.slice A l.length cp] 41)) 226 (.slice none 0 0)
 have bN:=Boxed.new ((w1.alloc (.cells #[.slice A l.length cp] 41)).alloc (.cells #[.slice none 0 0] 226)) 41 (.slice A l.length cp)
 replace bA:=(bA.alloc (.cells #[.slice none 0 0] 226)).alloc (.cells #[.slice A l.length cp] 41)
 replace bO:=bO.alloc (.cells #[.slice A l.length cp] 41)
 simp only[World.size_alloc,NK]at bA bO bN
 have oJ:Below w1.heap.size w1 (((w1.alloc (.cells #[.slice A l.length cp] 41)).alloc (.cells #[.slice none 0 0] 226)).alloc (.cells #[.slice A l.length cp] 41)):=(((Below.refl _ w1).alloc (Nat.le_refl _) _).alloc (by simp) _).alloc (by simp;omega) _
 have eW:(((w1.alloc (.cells #[.slice A l.length cp] 41)).alloc (.cells #[.slice none 0 0] 226)).alloc (.cells #[.slice A l.length cp] 41)).heap.size=w.heap.size+4:=by simp;omega
 obtain⟨W0,hW0⟩:∃W0,((w1.alloc (.cells #[.slice A l.length cp] 41)).alloc (.cells #[.slice none 0 0] 226)).alloc (.cells #[.slice A l.length cp] 41)=W0:=⟨_,rfl⟩
 rw[hW0]at bA bO bN oJ eW ⊢
 clear hW0
 have zU:Below w.heap.size w W0:=zh.trans (oJ.mono (by omega))
 replace bT:=(oJ.block w.heap.size (by omega)).trans bT
 have hP0:oG W0 (.slice A l.length cp) l:=hP.below zU
 have kl:=Pc hP
 have oQ:=oZ (s:=s) hA.1
 refine wpIn_rangeFunc_ownH (n:=5) rfl (by omega) (gf:=264) (lb:= #[.pointer (some ⟨w.heap.size+1+1+1,0,none⟩)]) rfl trivial (enters_of Tryz.func264 (by kernel_rfl) rfl)
  (Hw l hA.1 (w.heap.size+1+1+1) (5-1) (by omega) (.slice A l.length cp) (gQ w.heap.size) kl W0 bN hP0) gQ.trans (gQ.b (by omega)) (Below.refl _ _) (fun _=>rfl)
  (fun pre W=>((∃v,Boxed W (w.heap.size+1+1) 226 v/\W.ownsRow w.heap.size 246 3 v (mJ s l pre).length (I0 (mJ s l pre))/\(v=.slice none 0 0↔mJ s l pre=[]))/\(Boxed W (w.heap.size+1) 41 (.slice A l.length cp)/\W.heap[w.heap.size]? =some (.cells #[.slice Ag ng cg,.slice At nt ct] 38 (0,0))))/\Below w.heap.size w W)
  (fun _ _ _=>False)
  (OwnFrom.and (OwnFrom.and (Own.from (holdsRow_own w.heap.size (w.heap.size+1+1) 226 246 3 (fun pre=>(mJ s l pre).length) (fun pre=>I0 (mJ s l pre)) (fun pre v=>v=.slice none 0 0↔mJ s l pre=[])) _) (OwnFrom.and (Own.from (boxed_own _ _ _) _) (Own.from (zX _ _ _ _) _))) (ownFrom_below (Nat.le_refl _) (by omega)))
  (fun _ _ _ _ _ hs _ _=>hs)
  ⟨⟨⟨_,bO,World.ownsRow_nil _ _ _ _,by simp[mJ]⟩,bA,bT⟩,zU⟩
  (fun x a' W=>∃Bx,w.heap.size+1+1<Bx/\W.heap[Bx]? =some (.cells #[.int .i64 (x.1.1:Int),.int .i64 (x.1.2.1:Int)] 283 (0,0))/\a'={tmps:= #[.agg #[.slice Ag ng cg,.slice At nt ct],.agg #[.slice A l.length cp],.pointer (some ⟨w.heap.size,0,none⟩),.pointer (some ⟨w.heap.size+1,0,none⟩),.slice none 0 0,.pointer (some ⟨w.heap.size+1+1,0,none⟩),.pointer (some ⟨Bx,0,none⟩),.int .i64 x.1.2.2,undef,.agg #[.slice A l.length cp],.func (.func 264) #[] #[.pointer (some ⟨w.heap.size+1+1+1,0,none⟩)],.agg #[.int .i64 (x.1.1:Int),.int .i64 (x.1.2.1:Int)],.int .i64 x.1.2.2,undef,undef,undef,undef,undef,undef,undef,undef,undef,undef,undef,undef,undef,undef,undef,undef,undef,undef,undef,undef,undef,undef,undef,undef,undef,undef,undef,undef,undef],defers:=[]})
  (fun x a' _ X Y row hs hg hr=>by obtain⟨Bx,h1,h2,h3⟩:=hs;exact⟨Bx,h1,zX Bx _ _ _ () X Y row h2 hg (fun r e=>(hr r e).2),h3⟩)
  ?assign ?body ?done ?stop
 case assign=>
  rintro q pre ⟨⟨x0,x1,x2⟩,hx⟩ W K ⟨⟨⟨v,hv,fH,hnil⟩,bA1,bT1⟩,hB⟩ hK
  simp only[Db]
  gi_wp2
  exact hK _ _ ((KeepsOthers.alloc _ _).from _) (gQ.of ((Below.refl _ W).alloc (Nat.le_refl _) _)) ⟨⟨⟨v,hv.alloc _,fH.alloc _,hnil⟩,bA1.alloc _,(Below.heap_alloc _ _ _ (Array.getElem?_eq_some_iff.1 bT1).1).trans bT1⟩,hB.alloc hB.size _⟩ ⟨W.heap.size,hv.lt,World.alloc_heap_new _ _,rfl⟩
 case body=>
  rintro q pre ⟨⟨x0,x1,x2⟩,hx⟩ a' W hq hqr ⟨⟨⟨v,hv,fH,hnil⟩,bA1,bT1⟩,hB⟩ ⟨Bx,hBx,bX,rfl⟩ dE
  obtain⟨Bf,KR,wY⟩:=hx
  simp only at Bf KR wY bX
  obtain⟨A',c',e',_,hc⟩:=(hP.below hB).sl
  cases e'
  have dn:∃b o,A=some ⟨b,o,none⟩/\W.cell? ⟨b,o+x0*3+2,none⟩=some (.int .i64 (aE l x0).aN)/\W.cell? ⟨b,o+x1*3+2,none⟩=some (.int .i64 (aE l x1).aN):=by
   rcases hc with rfl|⟨b,o,rfl,jW⟩
   ·simp at Bf
   ·exact⟨b,o,rfl,by rw[Nat.add_assoc];exact(jW x0 Bf).2.2,by rw[Nat.add_assoc];exact(jW x1 KR).2.2⟩
  obtain⟨b,o,rfl,cP0,cP1⟩:=dn
  have cT0:W.cell? ⟨w.heap.size,0,none⟩=some (.slice Ag ng cg):=by simp[World.cell?,bT1]
  have cT1:W.cell? ⟨w.heap.size,1,none⟩=some (.slice At nt ct):=by simp[World.cell?,bT1]
  have cX0:W.cell? ⟨Bx,0,none⟩=some (.int .i64 (x0:Int)):=by simp[World.cell?,bX]
  have cX1:W.cell? ⟨Bx,1,none⟩=some (.int .i64 (x1:Int)):=by simp[World.cell?,bX]
  have cA:=bA1.cell
  have dP0:W.drew.cell? ⟨b,o+x0*3+2,none⟩=some (.int .i64 (aE l x0).aN):=cP0
  have dP1:W.drew.cell? ⟨b,o+x1*3+2,none⟩=some (.int .i64 (aE l x1).aN):=cP1
  have dT0:W.drew.cell? ⟨w.heap.size,0,none⟩=some (.slice Ag ng cg):=cT0
  have dT1:W.drew.cell? ⟨w.heap.size,1,none⟩=some (.slice At nt ct):=cT1
  have dX0:W.drew.cell? ⟨Bx,0,none⟩=some (.int .i64 (x0:Int)):=cX0
  have dX1:W.drew.cell? ⟨Bx,1,none⟩=some (.int .i64 (x1:Int)):=cX1
  have dA:W.drew.cell? ⟨w.heap.size+1,0,none⟩=some (.slice (some ⟨b,o,none⟩) l.length cp):=cA
  have rC:∀i,i<l.length->aE l i∈l:=fun i hi=>by
   unfold aE
   rw[List.getD_eq_getElem?_getD,List.getElem?_eq_getElem hi]
   exact List.getElem_mem hi
  have RV:=mixed
  have hfw:=hA.1.rf
  have Qd:=Gj s hF (aE l x0).aN x2 (aE l x1).aN (hA.2 _ (rC x0 Bf)) (hA.2 _ (rC x1 KR)) (kg (by omega))
  have hTW:jh Tryz.prog W (fun b=>b<w.heap.size) (.agg (aa s)) (.agg #[.slice Ag ng cg,.slice At nt ct]):=hT.frame (fun b hb=>hB.block b hb) (fun _ h=>h)
  have hAW:jh Tryz.prog W (fun b=>b<w.heap.size) (.sl (l.map ab)) (.slice (some ⟨b,o,none⟩) l.length cp):=hP.eD.frame (fun b hb=>hB.block b hb) (fun _ h=>h)
  obtain⟨fT,hT0,hT1⟩:∃f:Nat->Value,(∀j,j<(aa s).length->(#[Value.slice Ag ng cg,.slice At nt ct])[j]? =some (f j))/\∀j a,(aa s)[j]? =some a->jh Tryz.prog W (fun b=>b<w.heap.size) a (f j):=by
   cases hTW with
   |agg _ _ f _ _ h3 h4=>exact⟨f,h3,h4⟩
  have dv:St Tryz.prog W.heap.size 42 (fun b=>b<w.heap.size) (Gm w.heap.size Bx) (Lo s l x0 x1 x2) ⟨Ku s l x0 x1,1⟩ {tmps:= #[.agg #[.slice Ag ng cg,.slice At nt ct],.agg #[.slice (some ⟨b,o,none⟩) l.length cp],.pointer (some ⟨w.heap.size,0,none⟩),.pointer (some ⟨w.heap.size+1,0,none⟩),.slice none 0 0,.pointer (some ⟨w.heap.size+1+1,0,none⟩),.pointer (some ⟨Bx,0,none⟩),.int .i64 x2,undef,.agg #[.slice (some ⟨b,o,none⟩) l.length cp],.func (.func 264) #[] #[.pointer (some ⟨w.heap.size+1+1+1,0,none⟩)],.agg #[.int .i64 (x0:Int),.int .i64 (x1:Int)],.int .i64 x2,undef,undef,undef,undef,undef,undef,undef,undef,undef,undef,undef,undef,undef,undef,undef,undef,undef,undef,undef,undef,undef,undef,undef,undef,undef,undef,undef,undef,undef],defers:=[]} W:=by
   have n1:(Gm w.heap.size Bx) ⟨1,0⟩=some ⟨w.heap.size,2,2,none⟩:=rfl
   have n2:(Gm w.heap.size Bx) ⟨2,0⟩=some ⟨w.heap.size+1,1,1,none⟩:=rfl
   have n3:(Gm w.heap.size Bx) ⟨3,0⟩=some ⟨w.heap.size+1+1,1,1,none⟩:=rfl
   have n4:(Gm w.heap.size Bx) ⟨4,0⟩=some ⟨Bx,2,2,none⟩:=rfl
   have n5:(Gm w.heap.size Bx) ⟨5,0⟩=some ⟨w.heap.size+1+1+1,1,1,none⟩:=rfl
   have rp:∀(id:Id) (B:qO),(Gm w.heap.size Bx) id=some B->B.k=none->cu Tryz.prog W (fun b=>b<w.heap.size) (Gm w.heap.size Bx) (.ptr id 0 0) (.pointer (some ⟨B.b,0,none⟩)):=fun id B h hk=>by
    have:=cu.ptr (P:=Tryz.prog) (w:=W) (D:=fun b=>b<w.heap.size) id 0 0 B h hk
    simpa using this
   have ri:∀n:Int,cu Tryz.prog W (fun b=>b<w.heap.size) (Gm w.heap.size Bx) (.int .i64 n) (.int .i64 n):=fun n=>.eD _ _ (.int _ _)
   have hA1:jh Tryz.prog W (fun b=>b<w.heap.size) (.agg [.sl (l.map ab)]) (.agg #[.slice (some ⟨b,o,none⟩) l.length cp]):=.agg _ _ (fun _=>.slice (some ⟨b,o,none⟩) l.length cp) rfl (fun a ha=>by simp at ha;rw[ha];rfl) (fun j hj=>by match j,hj with|0,_=>rfl|j+1,hj=>simp at hj) (fun j a ha=>by match j,ha with|0,ha=>simp at ha;subst ha;exact hAW|j+1,ha=>simp at ha)
   refine⟨⟨Nat.le_refl _,fun b hb=>Nat.lt_of_lt_of_le hb hB.size,fun id r hg=>?_,fun id jB r r' B B' h _ hw=>?_⟩,fun id hid=>?_,fun t=>?_,rfl⟩
   ·replace hg:Ku s l x0 x1 id=some r:=hg
    unfold Ku at hg
    split at hg
    ·rename_i e;subst e;injection hg with hg;subst hg
     exact⟨_,n1,Cy (cs:=aa s) rfl bT1 rfl rfl rfl (fun a ha=>by simp[aa]at ha;rcases ha with rfl|rfl<;>rfl) (fun j a ha=>⟨_,hT0 j (List.getElem?_eq_some_iff.1 ha).1,.eD _ _ (hT1 j a ha)⟩),fun h=>(by cases h),fun h=>(by cases h)⟩
    ·split at hg
     ·rename_i e;subst e;injection hg with hg;subst hg
      exact⟨_,n2,Cy (cs:=[.sl (l.map ab)]) rfl bA1 rfl rfl rfl (fun a ha=>by simp at ha;rw[ha];rfl) (fun j a ha=>by match j,ha with|0,ha=>simp at ha;subst ha;exact⟨_,rfl,.eD _ _ hAW⟩|j+1,ha=>simp at ha),fun h=>(by cases h),fun h=>(by cases h)⟩
     ·split at hg
      ·rename_i e;subst e;injection hg with hg;subst hg
       exact⟨_,n4,Cy (cs:=[.int .i64 (x0:Int),.int .i64 (x1:Int)]) rfl bX rfl rfl rfl (fun a ha=>by simp at ha;rcases ha with rfl|rfl<;>rfl) (fun j a ha=>by match j,ha with|0,ha=>simp at ha;subst ha;exact⟨_,rfl,ri _⟩|1,ha=>simp at ha;subst ha;exact⟨_,rfl,ri _⟩|j+2,ha=>simp at ha),fun h=>(by cases h),fun h=>(by cases h)⟩
      ·cases hg
   ·exfalso
    replace h:Ku s l x0 x1 id=some r:=h
    unfold Ku at h
    split at h
    ·injection h with h;subst h;cases hw
    ·split at h
     ·injection h with h;subst h;cases hw
     ·split at h
      ·injection h with h;subst h;cases hw
      ·cases h
   ·left
    unfold Gm at hid
    repeat' (split at hid)
    all_goals first|(rename_i e;subst e;exact Nat.zero_lt_one)|exact absurd rfl hid
   ·match t with
    |0=>exact .eD _ _ hTW
    |1=>exact .eD _ _ hA1
    |2=>exact rp _ _ n1 rfl
    |3=>exact rp _ _ n2 rfl
    |4=>exact .eD _ _ .b4
    |5=>exact rp _ _ n3 rfl
    |6=>exact rp _ _ n4 rfl
    |7=>exact ri _
    |8=>exact cu.undef
    |9=>exact .eD _ _ hA1
    |10=>exact .fn _ _ _ (fun _=>.pointer (some ⟨w.heap.size+1+1+1,0,none⟩)) (by kernel_rfl) rfl (fun j hj=>by match j,hj with|0,_=>rfl|j+1,hj=>simp at hj) (fun j a ha=>by match j,ha with|0,ha=>simp at ha;subst ha;exact rp _ _ n5 rfl|j+1,ha=>simp at ha)
    |11=>exact .agg _ _ (fun j=>if j=0 then .int .i64 (x0:Int)else .int .i64 (x1:Int)) rfl (fun a ha=>by simp at ha;rcases ha with rfl|rfl<;>rfl) (fun j hj=>by match j,hj with|0,_=>rfl|1,_=>rfl|j+2,hj=>simp at hj;omega) (fun j a ha=>by match j,ha with|0,ha=>simp at ha;subst ha;exact ri _|1,ha=>simp at ha;subst ha;exact ri _|j+2,ha=>simp at ha)
    |12=>exact ri _
    |13=>exact cu.undef
    |14=>exact cu.undef
    |15=>exact cu.undef
    |16=>exact cu.undef
    |17=>exact cu.undef
    |18=>exact cu.undef
    |19=>exact cu.undef
    |20=>exact cu.undef
    |21=>exact cu.undef
    |22=>exact cu.undef
    |23=>exact cu.undef
    |24=>exact cu.undef
    |25=>exact cu.undef
    |26=>exact cu.undef
    |27=>exact cu.undef
    |28=>exact cu.undef
    |29=>exact cu.undef
    |30=>exact cu.undef
    |31=>exact cu.undef
    |32=>exact cu.undef
    |33=>exact cu.undef
    |34=>exact cu.undef
    |35=>exact cu.undef
    |36=>exact cu.undef
    |37=>exact cu.undef
    |38=>exact cu.undef
    |39=>exact cu.undef
    |40=>exact cu.undef
    |41=>exact cu.undef
    |t+42=>exact cu.undef
  have hV:wpOps (Call Tryz.prog) true ?vl (fun e _=>e 5=.ptr ⟨3,0⟩ 0 0/\e 6=.ptr ⟨4,0⟩ 0 0/\e 8=.int .i64 (gF s (aE l x0).aN x2 (aE l x1).aN)) (Lo s l x0 x1 x2) ⟨Ku s l x0 x1,1⟩:= ?hv
  gi_wp2
  refine yI mixed (rrE (nt:=42) (site0:=222005000)) (Hy (by kernel_rfl)) (kC (fun _ _ _ _ h=>fP mixed h) j8 (fun _ _ h=>h) _ _ _ hV) dv ?_
  rintro e1 σ1 ⟨tm,df⟩ w3 D1 ι1 ⟨h5,h6,h8⟩ T1 qT BT
  case hv=>
   refine Co ?_
   have e0:=fa Bf
   have e1:=fa KR
   (repeat(first|((repeat(revert hN;revert N;apply Pn.out));refine wk (tw @e0 (tw @e1 (tw @Lo.eq_1 (tw @Ku.eq_1 (tw @ab.eq_1 @aa.eq_1))))) ?_;(repeat(refine Pn.mk ?_;intro N hN)))|((try apply Or.inl);refine⟨_,aj.x (Qd) (sd (tw @e0 (tw @e1 (tw @Lo.eq_1 (tw @Ku.eq_1 (tw @ab.eq_1 @aa.eq_1)))))),?_⟩;refine hN _ _ ?_;clear hN N)))
   exact⟨sd @Lo.eq_1,sd @Lo.eq_1,sd @Lo.eq_1⟩
  ·have zV:Below W.heap.size W w3:=T1.below
   have qg:∀id B,Gm w.heap.size Bx id=some B->ι1 id=some B:=T1.names
   have p5:tm.getD 5 undef=.pointer (some ⟨w.heap.size+1+1,0,none⟩):=by
    have g:=qT.env 5
    rw[h5]at g
    obtain⟨B,e,hB,_⟩:=gZ g
    have h:=qg ⟨3,0⟩ ⟨w.heap.size+1+1,1,1,none⟩ rfl
    rw[h]at hB;injection hB with hB;subst hB
    simpa using e
   have p6:tm.getD 6 undef=.pointer (some ⟨Bx,0,none⟩):=by
    have g:=qT.env 6
    rw[h6]at g
    obtain⟨B,e,hB,_⟩:=gZ g
    have h:=qg ⟨4,0⟩ ⟨Bx,2,2,none⟩ rfl
    rw[h]at hB;injection hB with hB;subst hB
    simpa using e
   have p8:tm.getD 8 undef=.int .i64 (gF s (aE l x0).aN x2 (aE l x1).aN):=by
    have g:=qT.env 8
    rw[h8]at g
    exact de g
   have eW:=qT.size
   obtain⟨tl⟩:=tm
   obtain⟨f,Mj,hf⟩:∃f:Nat->Value,tl=[f 0,f 1,f 2,f 3,f 4,f 5,f 6,f 7,f 8,f 9,f 10,f 11,f 12,f 13,f 14,f 15,f 16,f 17,f 18,f 19,f 20,f 21,f 22,f 23,f 24,f 25,f 26,f 27,f 28,f 29,f 30,f 31,f 32,f 33,f 34,f 35,f 36,f 37,f 38,f 39,f 40,f 41]/\∀i,f i=(⟨tl⟩:Array Value).getD i undef:=by
    refine⟨fun i=>(⟨tl⟩:Array Value).getD i undef,?_,fun _=>rfl⟩
    have h:=Hq tl undef
    rw[show tl.length=42 from eW]at h
    exact h
   rw[<-hf]at p5 p6 p8
   have RB:df=[]:=BT
   subst RB
   clear hf qT dv hV
   subst Mj
   rw[p5,p6,p8]
   have QB:=hv.kept (grown_of zV) (by simp)
   have Ds:=fH.kept (grown_of zV) (by rcases fH.2 with⟨e,_⟩|⟨_,_,_,e,_⟩<;>rw[e]<;>simp[Value.ownBlock])
   have hc3:=QB.cell
   have hn3:w.heap.size<=w3.heap.size:=Nat.le_trans hB.size zV.size
   have eX0:w3.cell? ⟨Bx,0,none⟩=some (.int .i64 (x0:Int)):=(zV.cell (p:=⟨Bx,0,none⟩) (Array.getElem?_eq_some_iff.1 bX).1).trans cX0
   have eX1:w3.cell? ⟨Bx,1,none⟩=some (.int .i64 (x1:Int)):=(zV.cell (p:=⟨Bx,1,none⟩) (Array.getElem?_eq_some_iff.1 bX).1).trans cX1
   have lr:(mJ s l pre).length<=2097152:=by
    have h1:=Gg s l pre
    have h2:=AA l l.length
    omega
   have hKF:KeepsFrom (w.heap.size+4) W w3:=⟨zV.size,fun k o _ hk _=>(zV.block k (Array.getElem?_eq_some_iff.1 hk).1).trans hk⟩
   have hKT:gQ w.heap.size W w3:=gQ.of zV
   have QZ:w3.heap[w.heap.size+1]? = _:=(zV.block _ bA1.lt).trans bA1
   have Q0:=(zV.block _ (Array.getElem?_eq_some_iff.1 bT1).1).trans bT1
   by_cases jU:0<gF s (aE l x0).aN x2 (aE l x1).aN
   ·have vp:mJ s l (pre++[⟨(x0,x1,x2),Bf,KR,wY⟩])=mJ s l pre++[⟨x0,x1,gF s (aE l x0).aN x2 (aE l x1).aN⟩]:=by
     rw[wC];simp only[xR,if_pos jU]
    gi_wp2_with (gi_at_builtin;refine wpListIn_append_own _ rfl _ _ 226 rfl w.heap.size 246 i0 (.agg #[.int .i64 0,.int .i64 0,.int .i64 0]) 3 24 (by kernel_rfl) hi KT zl lu rfl (by decide) _ _ _ rfl (Ds.alloc _) ⟨w3.heap.size,0,none⟩ 1 1 [.int .i64 (x0:Int),.int .i64 (x1:Int),.int .i64 (gF s (aE l x0).aN x2 (aE l x1).aN)] rfl rfl (tM _ _ _ _ _) (by simp[Value.oneCell']) (by unfold maxLen;omega) (by omega) (by simp;omega) ?_;intro v' w4 KK Dp _;obtain⟨g',cap',rfl⟩:=ownsRow_succ KK;obtain⟨wW,Mm,JA,ug,GK⟩:=QB.appended (by decide) Ds hn3 (by omega) KK Dp;have Jq:=gQ.app QB Ds Dp GK;have oR:=wW.cell;have hf1:=wW.frozen)
    exact⟨hKF.trans (ug.from _),hKT.trans Jq,⟨⟨_,Mm,by rw[vp,Gf,List.length_append];exact JA,by rw[vp];simp⟩,(Jq.2.1 _ _ _ _ QZ (by decide) (by decide)).trans QZ,(Jq.2.1 _ _ _ _ Q0 (by decide) (by decide)).trans Q0⟩,hB.trans ((zV.mono hB.size).trans GK)⟩
   ·have vp:mJ s l (pre++[⟨(x0,x1,x2),Bf,KR,wY⟩])=mJ s l pre:=by
     rw[wC];simp only[xR,if_neg jU,List.append_nil]
    gi_wp2
    exact⟨hKF,hKT,⟨⟨v,QB,by rw[vp];exact Ds,by rw[vp];exact hnil⟩,QZ,Q0⟩,hB.trans (zV.mono hB.size)⟩
 case done=>
  rintro D ys W hD Dw ⟨⟨⟨v,hv,fH,hnil⟩,_⟩,hB⟩ hK
  have hc:=hv.cell
  have IF:mJ s l ys=cz s l:=by rw[Gl,<-Dw];rfl
  rw[IF]at fH hnil
  gi_wp2
  refine⟨by simp,.inl ⟨_,_,rfl,run_takeDeferred hK,?_⟩⟩
  exact⟨_,results_tmp rfl _ _ _,v,rfl,ownsRow_putObj fH _ hK rfl,hnil,hB.trans (belowK_b (w:=w) (Nat.le_refl _) W D _ _ (by omega) hK rfl rfl)⟩
 case stop=>
  rintro D c pre W _ _ h _
  exact h.elim
end Go.Proofs.YtgoelphibofcmaaGreat.V

namespace Go.Proofs.YtgoelphibofcmaaGreat.V
open Go.RowKit Go.Shelf
theorem C6:∀{bs:List PB} {i j:Nat} {b:PB},bs[i]? =some b->j<3->(I0 bs)[i*3+j]? =([.int .i64 b.a,.int .i64 b.b,.int .i64 b.s]:List Value)[j]?
 |c::bs,0,j,b,h,hj=>by
  simp at h;subst h
  simp only[I0,List.flatMap_cons,Nat.zero_mul,Nat.zero_add]
  rw[List.getElem?_append_left (by simpa using hj)]
 |c::bs,i+1,j,b,h,hj=>by
  simp only[List.getElem?_cons_succ]at h
  have:=C6 (bs:=bs) (i:=i) (j:=j) h hj
  simp only[I0,List.flatMap_cons]at this ⊢
  rw[List.getElem?_append_right (by simp;omega),<-this]
  congr 1
  simp;omega
theorem qi {P:Program} {w:World} {D:Nat->Prop} {rows:List (List AV)} {v:Value} (h:jh P w D (.sl rows) v):∃A n c,v=.slice A n c:=by
 cases h with
 |zm a c _=>exact⟨_,_,_,rfl⟩
 |sl=>exact⟨_,_,_,rfl⟩
theorem pJ {P:Program} {w:World} {D:Nat->Prop} {ι:Names} {rows:List (List AV)} {v:Value} (h:cu P w D ι (.sl rows) v):jh P w D (.sl rows) v:=by
 cases h with
 |eD _ _ h=>exact h
theorem J3 {P:Program} {w:World} {D:Nat->Prop} {l:List ad} {v:Value} (h:jh P w D (.sl (l.map ab)) v):oG w v l:=by
 generalize hr:l.map ab=rows at h
 cases h with
 |zm a c hc=>
  have:l=[]:=by simpa using hr
  subst this
  exact⟨a,c,rfl,⟨Nat.zero_le _,hc⟩,.inl rfl⟩
 |sl _ b o n c sz vs h1 h2 h3 h4 h5 h5' h6 h7=>
  have hn:n=l.length:=by rw[<-h1,<-hr];simp
  subst hn
  refine⟨some ⟨b,o,none⟩,c,rfl,⟨h2,h3⟩,?_⟩
  by_cases hl:l=[]
  ·exact .inl hl
  refine .inr ⟨b,o,rfl,fun i hi=>?_⟩
  have hg:rows[i]? =some (ab (aE l i)):=by rw[<-hr];exact fa hi
  have eW:sz=3:=by rw[<-h5 _ (List.mem_of_getElem? hg)];rfl
  subst eW
  have k:∀(j:Nat) (x:Int),(ab (aE l i))[j]? =some (.int .i64 x)->j<3->w.cell? ⟨b,o+(i*3+j),none⟩=some (.int .i64 x):=fun j x hj h3=>by
   have:=h7 i j _ _ hg hj
   rw[h6 i j hi h3,de (.eD (ι:=fun _=>none) _ _ this)]
  exact⟨k 0 _ rfl (by omega),k 1 _ rfl (by omega),k 2 _ rfl (by omega)⟩
theorem Ln:Bh:=by
 intro s l hS hA n
 refine gw ?_
 intro hs D ι w vs S U A
 obtain⟨u0,Qz,r0⟩:=A.2 0 _ rfl
 obtain⟨u1,OZ,r1⟩:=A.2 1 _ rfl
 have dE:∀b,D b->b<w.heap.size:=S.dead
 obtain⟨v0,f0,rfl,KT,_,Qi,Sg⟩:=iw r0
 obtain⟨v1,f1,rfl,zl,_,hf1,Sh⟩:=iw r1
 have g0:=pJ (Sg 0 _ rfl)
 have g1:=pJ (Sg 1 _ rfl)
 have a0:=pJ (Sh 0 _ rfl)
 obtain⟨Ag,ng,cg,eg⟩:=qi g0
 obtain⟨At,nt,ct,et⟩:=qi g1
 have e0:v0= #[.slice Ag ng cg,.slice At nt ct]:=by
  obtain⟨vl⟩:=v0
  have q0:=Qi 0 (by simp[aa])
  have q1:=Qi 1 (by simp[aa])
  rw[eg]at q0;rw[et]at q1
  match vl,KT with
  |[a,b],_=>simp at q0 q1;rw[q0,q1]
 have e1:v1= #[f1 0]:=by
  obtain⟨vl⟩:=v1
  have q0:=hf1 0 (by simp)
  match vl,zl with
  |[a],_=>simp at q0;rw[q0]
 subst e0 e1
 have evs:vs= #[.agg #[.slice Ag ng cg,.slice At nt ct],.agg #[f1 0]]:=by
  obtain⟨vl⟩:=vs
  have hz:=A.1
  match vl,hz with
  |[a,b],_=>simp at Qz OZ;rw[Qz,OZ]
 subst evs
 have up:∀{a v},jh Tryz.prog w D a v->jh Tryz.prog w (fun b=>b<w.heap.size) a v:=fun h=>h.frame (fun _ _=>rfl) dE
 have hT:jh Tryz.prog w (fun b=>b<w.heap.size) (.agg (aa s)) (.agg #[.slice Ag ng cg,.slice At nt ct]):=
  .agg _ _ f0 KT (fun a ha=>by simp[aa]at ha;rcases ha with rfl|rfl<;>rfl) Qi (fun j a ha=>by
   match j,ha with
   |0,ha=>simp[aa]at ha;subst ha;exact up g0
   |1,ha=>simp[aa]at ha;subst ha;exact up g1
   |j+2,ha=>simp[aa]at ha)
 refine(callsIn_wide.1 (Gk s l hS.form hA w Ag At ng cg nt ct (f1 0) hT (J3 a0))).mono ?_
 rintro e W' ⟨v,rfl,⟨hl,hown⟩,hnil,hB⟩
 have S':fR Tryz.prog hs D ι (fun _=>none) W':=S.stay (fun b hb=>hB.block b hb) hB.size (fun _ h=>h) (fun b hb=>Nat.lt_of_lt_of_le (dE b hb) hB.size) (fun _ h=>.inl h) (fun _ _ h=>h)
 have T:Step hs D ι w D ι W':=Step.stay S (fun b hb=>hB.block b hb) hB.size hB.os hB.tape hB.output (fun _ h=>h) (fun _ h=>.inl h) (fun _ _ h=>h)
 rcases hown with⟨rfl,h0⟩|⟨gb,cap,cur,rfl,OC,hblk,hle,GL,dn,mQ⟩
 ·have Og:cz s l=[]:=hnil.1 rfl
  exact⟨.b4,_,n,D,ι,_,rfl,⟨.b4,kc _ _,by rw[Og];rfl⟩,T,S',U,Nat.le_refl _,.eD _ _ .b4⟩
 ·have Og:cz s l≠[]:=fun h=>by have:=hnil.2 h;cases this
  have js:ι ⟨0,n⟩=none:=fresh U (fun h=>h)
  have gr:∀{a v},cu Tryz.prog W' D ι a v->cu Tryz.prog W' D (j4 ι ⟨0,n⟩ ⟨gb,3,cap*3,none⟩) a v:=fun h=>h.frame (fun _ _=>rfl) (fun _ h=>h) (eR js)
  have hR:gu Tryz.prog W' D (j4 ι ⟨0,n⟩ ⟨gb,3,cap*3,none⟩) ⟨gb,3,cap*3,none⟩ ⟨true,3,(cz s l).map aw⟩:=by
   refine kM.obj ⟨rfl,⟨cur,_,hblk,dn⟩,?_,fun cs hc=>?_,fun cs hc a ha=>?_,fun i j cs a hi hj=>?_⟩ rfl
   ·simp only[List.length_map];exact Nat.mul_le_mul_right 3 hle
   ·obtain⟨b,_,rfl⟩:=List.mem_map.1 hc;rfl
   ·obtain⟨b,_,rfl⟩:=List.mem_map.1 hc
    simp[aw]at ha
    rcases ha with rfl|rfl|rfl<;>rfl
   ·rw[List.getElem?_map]at hi
    simp only[Option.map_eq_some_iff]at hi
    obtain⟨b,hb,rfl⟩:=hi
    have hj3:j<3:=by have:=(List.getElem?_eq_some_iff.1 hj).1;simpa[aw]using this
    have kQ:=(List.getElem?_eq_some_iff.1 hb).1
    have hg:=C6 hb hj3
    rw[<-mQ,List.getElem?_take,if_pos (by omega)]at hg
    have key:∀x:Value,([.int .i64 b.a,.int .i64 b.b,.int .i64 b.s]:List Value)[j]? =some x->W'.cell? ⟨gb,i*3+j,none⟩=some x:=fun x hx=>by
     rw[hx]at hg
     have e:W'.cell? ⟨gb,i*3+j,none⟩=cur[i*3+j]? :=by
      unfold World.cell?
      rw[show W'.heap[(⟨gb,i*3+j,none⟩:Addr).block]? = _ from hblk]
      rfl
     rw[e,<-Array.getElem?_toList];exact hg
    match j,hj with
    |0,hj=>simp[aw]at hj;subst hj;exact⟨_,key _ rfl,.eD _ _ (.int _ _)⟩
    |1,hj=>simp[aw]at hj;subst hj;exact⟨_,key _ rfl,.eD _ _ (.int _ _)⟩
    |2,hj=>simp[aw]at hj;subst hj;exact⟨_,key _ rfl,.eD _ _ (.int _ _)⟩
    |j+3,hj=>simp[aw]at hj
  have S2:=fR.add (r:=⟨true,3,(cz s l).map aw⟩) S S' js OC hR
  refine⟨.own ⟨0,n⟩ 0 (cz s l).length,bj (fun _=>none) ⟨0,n⟩ ⟨true,3,(cz s l).map aw⟩,n+1,D,j4 ι ⟨0,n⟩ ⟨gb,3,cap*3,none⟩,_,rfl,⟨yP (cz s l),?_,rfl⟩,T.trans (Step.stay S' (fun _ _=>rfl) (Nat.le_refl _) rfl rfl rfl (fun _ h=>h) (fun _ h=>.inl h) (eR js)),S2,U.upd.next,Nat.le_succ _,.own _ _ _ _ _ _ (dJ _ _ _) rfl hle (.inr (by simp)) (by simp) GL⟩
  unfold yP
  rw[if_neg Og]
  have hg:(bj (fun _=>none) (⟨0,n⟩:Id) ⟨true,3,(cz s l).map aw⟩:Rows) ⟨0,n⟩=some ⟨true,3,(cz s l).map aw⟩:=by simp[bj]
  have:=fj (n:=5) hg rfl fun b=>s7 _ 4 b
  simpa using this
end Go.Proofs.YtgoelphibofcmaaGreat.V

namespace Go.Proofs.YtgoelphibofcmaaGreat.V
open Go.RowKit
attribute [local irreducible] dx wpOps gp Call
attribute [local go_sem] aH fC eG fW fV cF upd cj K.av cJ AV.cells AV.cell rowOf rowsOf part ld rowAt bj bY dz eb gT bE cZ er fS eU dp eh cX cW dR dS bH aW cN bG cQ cP ee ei ef cL bP cY ec bF aL cU cw gS bl cG bI aP dd aU dB AV.undef bw bB dV ea dI dG cE ep ev cq ek ej cR cV List.getD_cons_zero List.getD_cons_succ List.getD_nil List.all_cons List.all_nil Bool.and_true Bool.true_and Bool.and_self Bool.not_true Bool.not_false Option.map_some Option.map_none Option.bind_some Option.bind_none List.length_cons List.length_nil List.take_succ_cons List.take_zero List.take_nil List.drop_succ_cons List.drop_zero List.drop_nil List.head?_cons List.map_cons List.map_nil List.getElem?_cons_zero List.getElem?_cons_succ List.cons_append List.nil_append List.append_nil List.length_map List.set_cons_zero List.set_cons_succ Nat.reduceMul eq_self Int.toNat_natCast Int.natCast_nonneg and_self true_and and_true decide_true decide_false Bool.false_eq_true Nat.zero_add Nat.add_zero List.contains_cons List.contains_nil Bool.or_false Bool.false_or beq_self_eq_true Nat.reduceBEq ne_eq not_true_eq_false not_false_eq_true Id.mk.injEq false_and and_false Nat.reduceLT Int.reduceLE Int.reduceLT Int.reduceToNat Int.reduceNeg Int.reduceAdd Nat.le_refl List.length_append beq_true beq_false Bool.not_eq_eq_eq_not or_false false_or dO ah aq aI aZ bt ck aS bf aO aY cK bK
theorem JV (lb:List ad) (hb:jg lb) (t:ad):aj Tryz.prog 168 [.agg (ab t),.cI [.sl (lb.map ab)]] (.bool (!decide (fY lb t.aJ=t.aN))):=by
 refine aj.body eI rfl fun hl n0=>?_
 clear hl
 have h:=QY lb t.aJ hb.Ff (by have:=hb.rf;omega)
 (repeat(first|((repeat(revert hN;revert N;apply Pn.out));refine wk (tw @ab.eq_1 @ae.eq_1) ?_;(repeat(refine Pn.mk ?_;intro N hN)))|((try apply Or.inl);refine⟨_,aj.x (h) (sd (tw @ab.eq_1 @ae.eq_1)),?_⟩;refine hN _ _ ?_;clear hN N)))
 exact aM (b:= !decide (fY lb t.aJ=t.aN)) (.inl rfl) (sd @Nat.zero_add) (by simp)
theorem Bm (la lb:List ad) (ha:jg la) (hb:jg lb):aj Tryz.prog 107 [.agg [.sl (la.map ab)],.agg [.sl (lb.map ab)]] (.bool (j5 la lb)):=by
 refine aj.body eI rfl fun hl n0=>?_
 clear hl
 have h1:=rl la
 have h2:=rl lb
 rw[rh.2 ha]at h1
 rw[rh.2 hb]at h2
 have h3:aj Tryz.prog 166 [.sl (la.map ab),.fn 168 [.cI [.sl (lb.map ab)]]] (.bool (la.any fun t=> !decide (fY lb t.aJ=t.aN))):=
  kb tT (show mV Tryz.prog 166=some (yf 166 202) by kernel_rfl)
   (show mV Tryz.prog 202=some (rF 202 3 true) by kernel_rfl) la (by have:=ha.rf;omega) _ _ _ rfl (fun g=>by rw[ah,aO,aq];rfl) (fun x _=>JV lb hb x) fun g=>by rw[ah,aO,aq];rfl
 (repeat(first|((repeat(revert hN;revert N;apply Pn.out));refine wk @Nat.zero_add ?_;(repeat(refine Pn.mk ?_;intro N hN)))|((try apply Or.inl);refine⟨_,aj.x (h1) (sd @Nat.zero_add),?_⟩;refine hN _ _ ?_;clear hN N)|((try apply Or.inl);refine⟨_,aj.x (h2) (sd @Nat.zero_add),?_⟩;refine hN _ _ ?_;clear hN N)|((try apply Or.inl);refine⟨_,aj.x (h3) (sd @Nat.zero_add),?_⟩;refine hN _ _ ?_;clear hN N)))
 exact aM (b:= !(la.any fun t=> !decide (fY lb t.aJ=t.aN))) (.inl rfl) (sd @Nat.zero_add) (by rw[C4];rfl)
theorem yc (s:aC) (l:List ad) (hn:gx s.aK) (hm:wo s) (hl:l.length<=1048576):aj Tryz.prog 63 [.agg (ax s),.agg [.sl (l.map ab)]] (.int .i64 (if qU s l then 0 else 1)):=by
 refine aj.body eI rfl fun mN n0=>?_
 clear mN
 have h1:=vI Ln s hn hm.s.g hm.s.t hm.s.s hm.a
 have h2:=mm s.aK l hn hm.s.g hm.s.t hm.s.s hl
 cases b1:me s
 ·rw[b1]at h1
  rw[ax]at h1 ⊢
  (repeat(first|((repeat(revert hN;revert N;apply Pn.out));refine wk @Nat.zero_add ?_;(repeat(refine Pn.mk ?_;intro N hN)))|((try apply Or.inl);refine⟨_,aj.x (h1) (sd @Nat.zero_add),?_⟩;refine hN _ _ ?_;clear hN N)))
  exact bZ (b:=1) (.inl rfl) (sd @Nat.zero_add) (by simp[qU,b1])
 have fc:pK s.aK=true:=lN.2 (uY.1 b1).set
 rw[b1]at h1
 rw[fc,Bool.true_and]at h2
 rw[ax]at h1 ⊢
 rw[aa]at h2
 cases b2:oH s.aK l
 ·rw[b2]at h2
  (repeat(first|((repeat(revert hN;revert N;apply Pn.out));refine wk @Nat.zero_add ?_;(repeat(refine Pn.mk ?_;intro N hN)))|((try apply Or.inl);refine⟨_,aj.x (h1) (sd @Nat.zero_add),?_⟩;refine hN _ _ ?_;clear hN N)|((try apply Or.inl);refine⟨_,aj.x (h2) (sd @Nat.zero_add),?_⟩;refine hN _ _ ?_;clear hN N)))
  exact bZ (b:=1) (.inl rfl) (sd @Nat.zero_add) (by simp[qU,b1,b2])
 ·rw[b2]at h2
  (repeat(first|((repeat(revert hN;revert N;apply Pn.out));refine wk @Nat.zero_add ?_;(repeat(refine Pn.mk ?_;intro N hN)))|((try apply Or.inl);refine⟨_,aj.x (h1) (sd @Nat.zero_add),?_⟩;refine hN _ _ ?_;clear hN N)|((try apply Or.inl);refine⟨_,aj.x (h2) (sd @Nat.zero_add),?_⟩;refine hN _ _ ?_;clear hN N)))
  exact bZ (b:=0) (.inl rfl) (sd @Nat.zero_add) (by simp[qU,b1,b2])
end Go.Proofs.YtgoelphibofcmaaGreat.V

namespace Go.Proofs.YtgoelphibofcmaaGreat.V
open Go.RowKit
attribute [local irreducible] dx wpOps gp Call
attribute [local go_sem] aH fC eG fW fV cF upd cj K.av cJ AV.cells AV.cell rowOf rowsOf part ld rowAt bj bY dz eb gT bE cZ er fS eU dp eh cX cW dR dS bH aW cN bG cQ cP ee ei ef cL bP cY ec bF aL cU cw gS bl cG bI aP dd aU dB AV.undef bw bB dV ea dI dG cE ep ev cq ek ej cR cV List.getD_cons_zero List.getD_cons_succ List.getD_nil List.all_cons List.all_nil Bool.and_true Bool.true_and Bool.and_self Bool.not_true Bool.not_false Option.map_some Option.map_none Option.bind_some Option.bind_none List.length_cons List.length_nil List.take_succ_cons List.take_zero List.take_nil List.drop_succ_cons List.drop_zero List.drop_nil List.head?_cons List.map_cons List.map_nil List.getElem?_cons_zero List.getElem?_cons_succ List.cons_append List.nil_append List.append_nil List.length_map List.set_cons_zero List.set_cons_succ Nat.reduceMul eq_self Int.toNat_natCast Int.natCast_nonneg and_self true_and and_true decide_true decide_false Bool.false_eq_true Nat.zero_add Nat.add_zero List.contains_cons List.contains_nil Bool.or_false Bool.false_or beq_self_eq_true Nat.reduceBEq ne_eq not_true_eq_false not_false_eq_true Id.mk.injEq false_and and_false Nat.reduceLT Int.reduceLE Int.reduceLT Int.reduceToNat Int.reduceNeg Int.reduceAdd Nat.le_refl List.length_append beq_true beq_false Bool.not_eq_eq_eq_not or_false false_or dO ah aq aI aZ bt ck aS bf aO aY cK bK
noncomputable def jo (s:aC) (l:List ad):Bool:=j5 s.bc.ai l&&decide ((jZ s l).2.length=l.length)
noncomputable def lJ (s:aC) (l:List ad):Bool×Int:=if qU s l then(jo s l,0)else(false,1)
theorem xK (s:aC) (l:List ad) (hn:gx s.aK) (hg:s.aK.ay.length<=1048576) (ht:s.aK.ai.length<=1048576):aj Tryz.prog 16 [.agg (ax s),.agg [.sl (l.map ab)]] (.gn [.bool (lJ s l).1,.int .i64 (lJ s l).2]):=by
 refine aj.body eI rfl fun mN n0=>?_
 clear mN
 have h1:=Ce s l hn hg ht
 cases h0:qU s l
 ·have hr:lJ s l=(false,1):=by rw[lJ,h0];rfl
  rw[h0]at h1
  simp only[Bool.false_eq_true,if_false]at h1
  rw[hr]
  rw[ax]at h1 ⊢
  (repeat(first|((repeat(revert hN;revert N;apply Pn.out));refine wk @Nat.zero_add ?_;(repeat(refine Pn.mk ?_;intro N hN)))|((try apply Or.inl);refine⟨_,aj.x (h1) (sd @Nat.zero_add),?_⟩;refine hN _ _ ?_;clear hN N)))
  exact gP (.inl rfl) (r1:=.bool false) (r2:=.int .i64 1) (sd @Nat.zero_add) (sd @Nat.zero_add) (by simp only[eo,aX,bD,eF,dQ,Option.map_some])
 ·have hr:lJ s l=(jo s l,0):=by rw[lJ,h0];rfl
  obtain⟨hP,hA⟩:=zu.1 h0
  rw[h0]at h1
  simp only[if_true]at h1
  rw[hr]
  have h2:=(Ao s.bc.ai l hA.1.Ff (by have:=hA.1.rf;omega) (by have:=hP.yL.1.rf;omega)).cut mixed (.ptr _ [.int .i64 s.az] (.same _ .nil))
  cases hW:j5 s.bc.ai l
  ·have hb:jo s l=false:=by rw[jo,hW];rfl
   rw[hW]at h2
   rw[hb]
   rw[ax]at h1 ⊢
   (repeat(first|((repeat(revert hN;revert N;apply Pn.out));refine wk @Nat.zero_add ?_;(repeat(refine Pn.mk ?_;intro N hN)))|((try apply Or.inl);refine⟨_,aj.x (h1) (sd @Nat.zero_add),?_⟩;refine hN _ _ ?_;clear hN N)|((try apply Or.inl);refine⟨_,aj.x (h2) (sd @Nat.zero_add),?_⟩;refine hN _ _ ?_;clear hN N)))
   exact gP (.inl rfl) (r1:=.bool false) (r2:=.int .i64 0) (sd @Nat.zero_add) (sd @Nat.zero_add) (by simp only[eo,aX,bD,eF,dQ,Option.map_some])
  ·have h3:=Au s hP l hA hW
   have hb:jo s l=decide (((jZ s l).2.length:Int)=(l.length:Int)):=by
    rw[jo,hW,Bool.true_and]
    exact decide_eq_decide.2 (by omega)
   rw[hW]at h2
   rw[hb]
   generalize (jZ s l).1=L at h3
   obtain⟨d,hd⟩:∃d,decide (((jZ s l).2.length:Int)=(l.length:Int))=d:=⟨_,rfl⟩
   rw[hd]
   rw[ax]at h1 h3 ⊢
   (repeat(first|((repeat(revert hN;revert N;apply Pn.out));refine wk @hd ?_;(repeat(refine Pn.mk ?_;intro N hN)))|((try apply Or.inl);refine⟨_,aj.x (h1) (sd @hd),?_⟩;refine hN _ _ ?_;clear hN N)|((try apply Or.inl);refine⟨_,aj.x (h2) (sd @hd),?_⟩;refine hN _ _ ?_;clear hN N)|((try apply Or.inl);refine⟨_,aj.x (h3) (sd @hd),?_⟩;refine hN _ _ ?_;clear hN N)))
   exact gP (.inl rfl) (r1:=.bool d) (r2:=.int .i64 0) (sd @Nat.zero_add) (sd @Nat.zero_add) (by simp only[eo,aX,bD,eF,dQ,Option.map_some])
theorem Ev (s:aC) (hP:vH s) (l:List ad) (hA:jn s.aK l):aj Tryz.prog 64 [.agg (ax s),.agg [.sl (s.bc.ai.map ab)],.agg [.sl (l.map ab)]] (.bool (jo s l)):=by
 refine aj.body eI rfl fun mN n0=>?_
 clear mN
 have h2:=Bm s.bc.ai l hP.yL.1 hA.1
 cases hW:j5 s.bc.ai l
 ·have hb:jo s l=false:=by rw[jo,hW];rfl
  rw[hW]at h2
  rw[hb]
  (repeat(first|((repeat(revert hN;revert N;apply Pn.out));refine wk @ax.eq_1 ?_;(repeat(refine Pn.mk ?_;intro N hN)))|((try apply Or.inl);refine⟨_,aj.x (h2) (sd @ax.eq_1),?_⟩;refine hN _ _ ?_;clear hN N)))
  exact aM (b:=false) (.inl rfl) (sd @Nat.zero_add) rfl
 ·have hc:=fun σ=>He s hP l hA hW σ
  have hb:jo s l=decide (((jZ s l).2.length:Int)=(l.length:Int)):=by
   rw[jo,hW,Bool.true_and]
   exact decide_eq_decide.2 (by omega)
  obtain⟨d,hd⟩:∃d,decide (((jZ s l).2.length:Int)=(l.length:Int))=d:=⟨_,rfl⟩
  rw[hW]at h2
  rw[hb,hd]
  rw[ax]at hc
  (repeat(first|((repeat(revert hN;revert N;apply Pn.out));refine wk @ax.eq_1 ?_;(repeat(refine Pn.mk ?_;intro N hN)))|((try apply Or.inl);refine⟨_,aj.x (h2) (sd @ax.eq_1),?_⟩;refine hN _ _ ?_;clear hN N)))
  refine .inr (bp _ _ _ _ _ (fun r σ1 hq=>?_) (hc _))
  obtain⟨g1,x1⟩:=σ1
  obtain⟨v,o,rfl,hv,ho,ho2,ho3,js⟩:=hq
  (try dsimp only at hv ho ho2 ho3 js)
  have k3:=js ⟨64000002,n0⟩ (by(try dsimp only);omega)
  simp only[go_sem, ↓reduceIte,Nat.reduceEqDiff,Nat.reduceAdd,Nat.reduceSub,Nat.reduceLeDiff,reduceCtorEq]at k3
  have v3:=dD (i:=⟨64000002,n0⟩) (n:=x1) (by(try dsimp only);omega)
  refine hN _ _ ?_
  clear hN N
  (try((repeat(revert hN;revert N;apply Pn.out));refine wk (tw @k3 (tw @v3 @hd)) ?_;(repeat(refine Pn.mk ?_;intro N hN))))
  exact aM (b:=d) (.inl rfl) (sd @Nat.zero_add) rfl
theorem xJ (s:aC) (l:List ad) (hn:gx s.aK) (hm:wo s) (hl:l.length<=1048576):aj Tryz.prog 19 [.agg (ax s),.agg [.sl (l.map ab)]] (.gn [.bool (lJ s l).1,.int .i64 (lJ s l).2]):=by
 refine aj.body eI rfl fun mN n0=>?_
 clear mN
 have h1:=yc s l hn hm hl
 cases h0:qU s l
 ·have hr:lJ s l=(false,1):=by rw[lJ,h0];rfl
  rw[h0]at h1
  simp only[Bool.false_eq_true,if_false]at h1
  rw[hr]
  rw[ax]at h1 ⊢
  (repeat(first|((repeat(revert hN;revert N;apply Pn.out));refine wk @Nat.zero_add ?_;(repeat(refine Pn.mk ?_;intro N hN)))|((try apply Or.inl);refine⟨_,aj.x (h1) (sd @Nat.zero_add),?_⟩;refine hN _ _ ?_;clear hN N)))
  exact gP (.inl rfl) (r1:=.bool false) (r2:=.int .i64 1) (sd @Nat.zero_add) (sd @Nat.zero_add) (by simp only[eo,aX,bD,eF,dQ,Option.map_some])
 ·have hr:lJ s l=(jo s l,0):=by rw[lJ,h0];rfl
  obtain⟨hP,hA⟩:=zu.1 h0
  rw[h0]at h1
  simp only[if_true]at h1
  rw[hr]
  have h2:=Ev s hP l hA
  generalize jo s l=d at h2 ⊢
  rw[ax]at h1 h2 ⊢
  (repeat(first|((repeat(revert hN;revert N;apply Pn.out));refine wk @Nat.zero_add ?_;(repeat(refine Pn.mk ?_;intro N hN)))|((try apply Or.inl);refine⟨_,aj.x (h1) (sd @Nat.zero_add),?_⟩;refine hN _ _ ?_;clear hN N)|((try apply Or.inl);refine⟨_,aj.x (h2) (sd @Nat.zero_add),?_⟩;refine hN _ _ ?_;clear hN N)))
  exact gP (.inl rfl) (r1:=.bool d) (r2:=.int .i64 0) (sd @Nat.zero_add) (sd @Nat.zero_add) (by simp only[eo,aX,bD,eF,dQ,Option.map_some])
end Go.Proofs.YtgoelphibofcmaaGreat.V

namespace Go.Proofs.YtgoelphibofcmaaGreat
open Go.ChangeShapes Go.WideShapes Go.ChangeAt Go.RowKit Go.Deep
section
variable {H:Type} {enc:TypeId×Value->H} {P:Program} {w:World}
theorem lW.Ph {α:Type} {rep:World->List Nat->List Value->α->Prop} {sz:Nat} {w:World} {b o len cap:Nat} (ny:Nat->List Value) (fs:Nat->List Nat) (ds:Nat->α) (hc:len<=cap) (hm:cap<=maxLen)
  (hl:∀i,i<len->(ny i).length=sz) (hr:∀i,i<len->rep w (fs i) (ny i) (ds i)) (Dl:∀i,i<len->∀j u,(ny i)[j]? =some u->w.cell? ⟨b,o+(i*sz+j),none⟩=some u):
  lW rep sz w ([b]++((List.range len).map fs).flatten) (.slice (some ⟨b,o,none⟩) len cap) ((List.range len).map ds):=by
 refine⟨(List.range len).map ny,(List.range len).map fs,[b],rfl,⟨some ⟨b,o,none⟩,cap,by simp,by simpa using hc,hm,.inr ⟨b,o,rfl,rfl,fun j u hj=>?_⟩⟩,by simp,by simp,fun i cs f d h1 h2 h3=>?_⟩
 ·have hlen:∀cs∈(List.range len).map ny,cs.length=sz:=fun cs dn=>by
   obtain⟨i,hi,rfl⟩:=List.mem_map.1 dn
   exact hl i (List.mem_range.1 hi)
  have gM:=(List.getElem?_eq_some_iff.1 hj).1
  have Jl:((List.range len).map ny).flatten.length=len*sz:=by
   rw[List.length_flatten,List.map_map]
   have:∀(l:List Nat),(∀i∈l,i<len)->(l.map (List.length∘ny)).sum=l.length*sz:=by
    intro l
    induction l with
    |nil=>intro _;simp
    |cons a l ih=>intro h;rw[List.map_cons,List.sum_cons,ih fun i hi=>h i (List.mem_cons_of_mem _ hi)];simp only[Function.comp,hl a (h a (by simp)),List.length_cons,Nat.add_mul];omega
   rw[this _ fun i hi=>List.mem_range.1 hi,List.length_range]
  rw[Jl]at gM
  have G8:0<sz:=by
   rcases Nat.eq_zero_or_pos sz with h|h
   ·subst h;simp at gM
   ·exact h
  have hi:j / sz<len:=(Nat.div_lt_iff_lt_mul G8).2 gM
  have IP:j % sz<sz:=Nat.mod_lt _ G8
  have Jp:j=(j / sz)*sz+j % sz:=by rw[Nat.mul_comm];exact(Nat.div_add_mod j sz).symm
  rw[Jp,sg hlen (i:=j / sz) (cs:=ny (j / sz)) (by simp[hi]) IP]at hj
  rw[Jp]
  have:=Dl (j / sz) hi (j % sz) u hj
  rw[<-Jp]at this ⊢
  exact this
 ·have hi:i<len:=by
   have:=(List.getElem?_eq_some_iff.1 h1).1
   simpa using this
  simp[hi]at h1 h2 h3
  subst h1 h2 h3
  exact⟨hr i hi,hl i hi⟩
theorem jP (b o k:Nat):(⟨b,o,none⟩:Addr).add k=⟨b,o+k,none⟩:=by
 unfold Addr.add;split
 ·rename_i h;subst h;rfl
 ·rfl
theorem oF {α:Type} {rep:World->List Nat->List Value->α->Prop} {Q:α->Prop} {t e:TypeId} {sz fuel:Nat} {cs:List Value} {x:DataW H×List MemPlace} (ht:P.underlying t=some (.slice e)) (hC:P.cellsOf e=sz) (G8:0<sz)
  (h:DataW.trod enc P w 0 (fun _=>true) true fuel t cs=some x) (hel:∀n oP y,oP.length=sz->DataW.trod enc P w 0 (fun _=>true) true n e oP=some y->∃f d,ft f 0 w.heap.size/\rep w f oP d/\Q d):
  ∃A n c f xs,cs=[.slice A n c]/\ft f 0 w.heap.size/\lW rep sz w f (.slice A n c) xs/\∀d∈xs,Q d:=by
 rcases open_slice ht h with⟨rfl,_⟩|⟨a,len,cap,m,n,D,Pl,rfl,_,hl,hm,L7,_,hi⟩
 ·exact⟨none,0,0,[],[],rfl,ft.nil _ _,lW.nil _ _ _,fun d h=>by cases h⟩
 rw[hC]at hi
 simp only[if_true]at L7
 by_cases h0:len=0
 ·subst h0
  exact⟨some a,0,cap,[],[],rfl,ft.nil _ _,⟨[],[],[],rfl,⟨some a,cap,rfl,Nat.zero_le _,hm,.inl ⟨rfl,rfl⟩⟩,rfl,rfl,fun i cs f d hc=>by simp at hc⟩,fun d h=>by cases h⟩
 obtain⟨b,o,sp⟩:=a
 have cell0:∃v,w.cell? ⟨b,o,sp⟩=some v:=by
  obtain⟨oP,hc,_⟩:=hi 0 (by omega)
  obtain⟨_,nH,Dl⟩:=World.cells?_some hc
  refine⟨oP[0]'(by omega),?_⟩
  have:=Dl 0 G8
  rw[List.getElem?_eq_getElem (by omega)]at this
  simpa[Addr.add]using this
 obtain⟨v0,qR⟩:=cell0
 have hb:b<w.heap.size:=World.block_lt_of_cell? w _ qR
 have Mg:sp=none:=by
  unfold World.cell? at qR
  split at qR
  ·split at qR
   ·cases qR
   ·rename_i h;simpa using h
  ·cases qR
 subst Mg
 have key:∀i,i<len->∃oP f d,oP.length=sz/\ft f 0 w.heap.size/\rep w f oP d/\Q d/\∀j u,oP[j]? =some u->w.cell? ⟨b,o+(i*sz+j),none⟩=some u:=fun i kQ=>by
  obtain⟨oP,hc,htr⟩:=hi i (by omega)
  obtain⟨_,nH,Dl⟩:=World.cells?_some hc
  obtain⟨f,d,h1,h2,h3⟩:=hel n oP _ nH htr
  refine⟨oP,f,d,nH,h1,h2,h3,fun j u hj=>?_⟩
  have gM:=(List.getElem?_eq_some_iff.1 hj).1
  have:=Dl j (by omega)
  rw[hj]at this
  rw[<-this,Go.Deep.add_add,jP]
 have:Nonempty α:=by
  obtain⟨_,_,d,_⟩:=key 0 (by omega)
  exact⟨d⟩
 let cf:Nat->List Value:=fun i=>if hi:i<len then(key i hi).choose else[]
 let ff:Nat->List Nat:=fun i=>if hi:i<len then(key i hi).choose_spec.choose else[]
 let df:Nat->α:=fun i=>if hi:i<len then(key i hi).choose_spec.choose_spec.choose else Classical.choice this
 have dy:∀i,i<len->(cf i).length=sz/\ft (ff i) 0 w.heap.size/\rep w (ff i) (cf i) (df i)/\Q (df i)/\∀j u,(cf i)[j]? =some u->w.cell? ⟨b,o+(i*sz+j),none⟩=some u:=fun i hi=>by
  have:=(key i hi).choose_spec.choose_spec.choose_spec
  simp only[cf,ff,df,dif_pos hi]
  exact this
 refine⟨some ⟨b,o,none⟩,len,cap,_,(List.range len).map df,rfl,?_,lW.Ph cf ff df hl hm (fun i hi=>(dy i hi).1) (fun i hi=>(dy i hi).2.2.1) (fun i hi=>(dy i hi).2.2.2.2),fun d hd=>?_⟩
 ·intro x hx
  rcases List.mem_append.1 hx with hx|hx
  ·simp at hx;subst hx;exact⟨Nat.zero_le _,hb⟩
  ·obtain⟨l,Qp,NI⟩:=List.mem_flatten.1 hx
   obtain⟨i,hi,rfl⟩:=List.mem_map.1 Qp
   exact(dy i (List.mem_range.1 hi)).2.1 x NI
 ·obtain⟨i,hi,rfl⟩:=List.mem_map.1 hd
  exact(dy i (List.mem_range.1 hi)).2.2.2.1
end
section
variable {H:Type} {enc:TypeId×Value->H} {w:World} {fuel:Nat} {cs:List Value} {x:DataW H×List MemPlace}
abbrev TT (enc:TypeId×Value->H) (w:World) (fuel t:Nat) (cs:List Value) (x:DataW H×List MemPlace):Prop:=DataW.trod enc Tryz.prog w 0 (fun _=>true) true fuel t cs=some x
theorem Mw (h:TT enc w fuel 56 cs x):∃A n c f xs,cs=[.slice A n c]/\ft f 0 w.heap.size/\tC w f (.slice A n c) xs:=by
 obtain⟨A,n,c,f,xs,h1,h2,h3,_⟩:=oF (rep:=C3) (Q:=fun _=>True) Tryz.underlying56 (sz:=1) (by kernel_rfl) (by omega) h fun n oP y hl hy=>by
  obtain⟨b,rfl,_⟩:=DataW.trod_int Tryz.underlying2 hy
  exact⟨[],b,ft.nil _ _,⟨rfl,rfl⟩,trivial⟩
 exact⟨A,n,c,f,xs,h1,h2,h3⟩
theorem l9 {t:TypeId} {fs:Array Field} (ht:Tryz.prog.underlying t=some (.struct fs)) (h:TT enc w fuel t cs x):cs.length=Tryz.prog.cellsOf t/\∃n,∀(i:Nat) (f:Field),fs[i]? =some f->∃y,TT enc w n f.type ((cs.drop f.offset).take (Tryz.prog.cellsOf f.type)) y:=by
 obtain⟨xs,n,_,_,hl,NI,hf⟩:=DataW.trod_struct ht h
 refine⟨hl,n,fun i f hi=>?_⟩
 have kQ:i<xs.length:=by rw[NI];exact(Array.getElem?_eq_some_iff.1 hi).1
 exact⟨xs[i],(hf i f hi).trans (List.getElem?_eq_getElem kQ)⟩
theorem Pd {l:List Value} (h:l.length=2):∃a b,l=[a,b]:=by
 match l,h with
 |[a,b],_=>exact⟨a,b,rfl⟩
theorem Sy {l:List Value} (h:l.length=3):∃a b c,l=[a,b,c]:=by
 match l,h with
 |[a,b,c],_=>exact⟨a,b,c,rfl⟩
theorem Sx {l:List Value} (h:l.length=1):∃a,l=[a]:=by
 match l,h with
 |[a],_=>exact⟨a,rfl⟩
theorem Sz {l:List Value} (h:l.length=4):∃a b c d,l=[a,b,c,d]:=by
 match l,h with
 |[a,b,c,d],_=>exact⟨a,b,c,d,rfl⟩
theorem JW (h:TT enc w fuel 22 cs x):∃A n c f xs,cs=[.slice A n c]/\ft f 0 w.heap.size/\pR w f (.slice A n c) xs/\∀d∈xs,d.aD.size<=9223372036854775807:=by
 exact oF (rep:=F2) (Q:=fun d=>d.aD.size<=9223372036854775807) Tryz.underlying22 (sz:=2) (by kernel_rfl) (by omega) h fun n oP y hl hy=>by
  obtain⟨_,m,hf⟩:=l9 Tryz.underlying191 hy
  obtain⟨a,b,rfl⟩:=Pd hl
  ·skip
   obtain⟨y0,h0⟩:=hf 0 _ rfl
   obtain⟨y1,h1⟩:=hf 1 _ rfl
   rw[show Tryz.prog.cellsOf _=1 from by kernel_rfl]at h0 h1
   obtain⟨p,e0,_,ws⟩:=DataW.trod_string Tryz.underlying9 h0
   obtain⟨q,e1,_⟩:=DataW.trod_int Tryz.underlying2 h1
   simp at e0 e1
   subst e0 e1
   exact⟨[],⟨p,q⟩,ft.nil _ _,⟨rfl,rfl⟩,by simpa[maxLen]using ws⟩
theorem JX (h:TT enc w fuel 23 cs x):∃A n c f xs,cs=[.slice A n c]/\ft f 0 w.heap.size/\pS w f (.slice A n c) xs/\∀d∈xs,d.aD.size<=9223372036854775807:=by
 exact oF (rep:=F3) (Q:=fun d=>d.aD.size<=9223372036854775807) Tryz.underlying23 (sz:=2) (by kernel_rfl) (by omega) h fun n oP y hl hy=>by
  obtain⟨_,m,hf⟩:=l9 Tryz.underlying193 hy
  obtain⟨a,b,rfl⟩:=Pd hl
  ·skip
   obtain⟨y0,h0⟩:=hf 0 _ rfl
   obtain⟨y1,h1⟩:=hf 1 _ rfl
   rw[show Tryz.prog.cellsOf _=1 from by kernel_rfl]at h0 h1
   obtain⟨p,e0,_,ws⟩:=DataW.trod_string Tryz.underlying9 h0
   obtain⟨A1,n1,c1,f1,PE,e1,k1,s1⟩:=Mw h1
   simp at e0 e1
   subst e0 e1
   exact⟨_,⟨p,PE⟩,k1,⟨_,f1,rfl,rfl,s1⟩,by simpa[maxLen]using ws⟩
theorem E4 (h:TT enc w fuel 26 cs x):∃A n c f xs,cs=[.slice A n c]/\ft f 0 w.heap.size/\iG w f (.slice A n c) xs:=by
 obtain⟨A,n,c,f,xs,h1,h2,h3,_⟩:=oF (rep:=zq) (Q:=fun _=>True) Tryz.underlying26 (sz:=3) (by kernel_rfl) (by omega) h fun n oP y hl hy=>by
  obtain⟨_,m,hf⟩:=l9 Tryz.underlying143 hy
  obtain⟨a,b,c,rfl⟩:=Sy hl
  ·skip
   obtain⟨y0,h0⟩:=hf 0 _ rfl
   obtain⟨y1,h1⟩:=hf 1 _ rfl
   rw[show Tryz.prog.cellsOf _=2 from by kernel_rfl]at h0
   rw[show Tryz.prog.cellsOf _=1 from by kernel_rfl]at h1
   obtain⟨_,m2,II⟩:=l9 Tryz.underlying66 h0
   obtain⟨z0,g0⟩:=II 0 _ rfl
   obtain⟨z1,g1⟩:=II 1 _ rfl
   rw[show Tryz.prog.cellsOf _=1 from by kernel_rfl]at g0 g1
   obtain⟨px,e0,_⟩:=DataW.trod_int Tryz.underlying2 g0
   obtain⟨py,e1,_⟩:=DataW.trod_int Tryz.underlying2 g1
   obtain⟨ti,e2,_⟩:=DataW.trod_int Tryz.underlying2 h1
   simp at e0 e1 e2
   subst e0 e1 e2
   exact⟨[],⟨⟨px,py⟩,ti⟩,ft.nil _ _,⟨rfl,rfl⟩,trivial⟩
 exact⟨A,n,c,f,xs,h1,h2,h3⟩
theorem uC (h:TT enc w fuel 28 cs x):∃A n c f,∃d:eK,cs=[.slice A n c]/\ft f 0 w.heap.size/\iG w f (.slice A n c) d.ai:=by
 obtain⟨hl,m,hf⟩:=l9 Tryz.underlying28 h
 rw[show Tryz.prog.cellsOf _=1 from by kernel_rfl]at hl
 obtain⟨a,rfl⟩:=Sx hl
 ·skip
  obtain⟨y0,h0⟩:=hf 0 _ rfl
  rw[show Tryz.prog.cellsOf _=1 from by kernel_rfl]at h0
  obtain⟨A1,n1,c1,f1,PE,e1,k1,s1⟩:=E4 h0
  simp at e1
  subst e1
  exact⟨A1,n1,c1,f1,⟨PE⟩,rfl,k1,s1⟩
theorem HA (h:TT enc w fuel 30 cs x):∃A0 n0 c0 f0 A1 n1 c1 f1 A2 n2 c2 f2,∃d:aC,cs=[.slice A0 n0 c0,.slice A1 n1 c1,.slice A2 n2 c2,.int .i64 d.az]/\ft f0 0 w.heap.size/\pR w f0 (.slice A0 n0 c0) d.aK.ay/\ft f1 0 w.heap.size/\pS w f1 (.slice A1 n1 c1) d.aK.ai/\ft f2 0 w.heap.size/\iG w f2 (.slice A2 n2 c2) d.bc.ai/\(∀g∈d.aK.ay,g.aD.size<=9223372036854775807)/\∀t∈d.aK.ai,t.aD.size<=9223372036854775807:=by
 obtain⟨hl,m,hf⟩:=l9 Tryz.underlying30 h
 rw[show Tryz.prog.cellsOf _=4 from by kernel_rfl]at hl
 obtain⟨a,b,c,d,rfl⟩:=Sz hl
 ·skip
  obtain⟨y0,h0⟩:=hf 0 _ rfl
  obtain⟨y1,h1⟩:=hf 1 _ rfl
  obtain⟨y2,h2⟩:=hf 2 _ rfl
  rw[show Tryz.prog.cellsOf _=2 from by kernel_rfl]at h0
  rw[show Tryz.prog.cellsOf _=1 from by kernel_rfl]at h1 h2
  obtain⟨_,m2,II⟩:=l9 Tryz.underlying25 h0
  obtain⟨z0,g0⟩:=II 0 _ rfl
  obtain⟨z1,g1⟩:=II 1 _ rfl
  rw[show Tryz.prog.cellsOf _=1 from by kernel_rfl]at g0 g1
  obtain⟨A0,n0,c0,f0,xs0,e0,k0,s0,o0⟩:=JW g0
  obtain⟨A1,n1,c1,f1,PE,e1,k1,s1,o1⟩:=JX g1
  obtain⟨A2,n2,c2,f2,d2,e2,k2,s2⟩:=uC h1
  obtain⟨t,e3,_⟩:=DataW.trod_int Tryz.underlying2 h2
  simp at e0 e1 e2 e3
  subst e0 e1 e2 e3
  exact⟨A0,n0,c0,f0,A1,n1,c1,f1,A2,n2,c2,f2,⟨⟨xs0,PE⟩,d2,t⟩,rfl,k0,s0,k1,s1,k2,s2,o0,o1⟩
end
end Go.Proofs.YtgoelphibofcmaaGreat

namespace Go.Proofs.YtgoelphibofcmaaGreat
open Go.ChangeShapes Go.WideShapes Go.ChangeAt Go.RowKit V
theorem Po:ownKnob Tryz.prog.godebug=none:=by kernel_rfl
theorem Hm:laidOutB Tryz.prog=true:=by kernel_rfl
theorem HK (s:aC) (a:eK) (hn:gx s.aK):aj Tryz.prog 3 [.agg (ax s),.agg (bd a)] (.bool true):=
 Hn (fun s a=>lJ s a.ai) (fun s a hn hm _=>xK s a.ai hn hm.s.g hm.s.t) (fun s a hn hm hl=>xJ s a.ai hn hm hl) s a hn
theorem AG (os:Os) (started:os.Started) (H:Type) (enc:TypeId×Value->H):
  ReturnsInHanded {} Tryz.checked os 3 .any (Rows.fnExactIsProducedSpec.pre6 enc Tryz.prog Tryz.f3 Rows.fnExactIsProducedRow.domain false) (Rows.fnExactIsProducedSpec.post enc Tryz.prog Tryz.f3 false true false false):=by
 refine returnsInHanded_of_change (C:=Tryz.checked) Po started (by kernel_rfl) Tryz.func3
  (ChangeSpec.witness6 (enc:=enc) (C:=Tryz.checked) false ⟨#[], #[.agg #[.slice none 0 0,.slice none 0 0,.slice none 0 0,.int .i64 0],.agg #[.slice none 0 0]],[]⟩ 8 (by kernel_rfl) (by kernel_rfl) (by kernel_rfl) (by kernel_rfl)) ?_
 intro W base args ds gs before KQ hW hcnd _
 have rE:∀(j:Nat) t v,Tryz.f3.params[j]? =some t->args[j]? =some v->Value.okWide Tryz.prog W .any base t v:=KQ
 have hW':=hW
 obtain⟨p,q,hA0,hV,rfl,A9,oe⟩:=hW
 have hA:DataW.TrodAll enc Tryz.prog W 0 (fun _=>true) true Tryz.f3.params.toList args.toList ds p:=hA0
 rw[Tryz.params3]at hA rE
 obtain⟨v0,SD,d0,ds0,p0,q0,mA,rfl,rfl,h0,r0⟩:=trodAll_cons hA
 obtain⟨v1,vs1,d1,ds1,p1,q1,rfl,rfl,rfl,h1,r1⟩:=trodAll_cons r0
 obtain⟨rfl,rfl,rfl⟩:=trodAll_nil r1
 obtain rfl:args= #[v0,v1]:=by cases args;simp_all
 obtain⟨rfl,rfl⟩:=trodVars_none hV
 obtain⟨Nr,rfl,_⟩:=okWide_struct Tryz.underlying30 (rE 0 30 v0 rfl rfl)
 obtain⟨Q2,rfl,_⟩:=okWide_struct Tryz.underlying28 (rE 1 28 v1 rfl rfl)
 have k0:=h0
 have k1:=h1
 have lt0:∀x∈p0,x.block<W.heap.size:=by obtain⟨m,hm⟩:=k0;exact DataW.trod_lt m _ _ _ hm
 have NM:∀x∈p1,x.block<W.heap.size:=by obtain⟨m,hm⟩:=k1;exact DataW.trod_lt m _ _ _ hm
 obtain⟨A0,n0,c0,f0,A1,n1,c1,f1,A2,n2,c2,f2,s,dn,w0,s0,w1,s1,w2,s2,o0,o1⟩:∃A0 n0 c0 f0 A1 n1 c1 f1 A2 n2 c2 f2,∃d:aC,(Value.agg Nr).cells.toList=[.slice A0 n0 c0,.slice A1 n1 c1,.slice A2 n2 c2,.int .i64 d.az]/\ft f0 0 W.heap.size/\pR W f0 (.slice A0 n0 c0) d.aK.ay/\ft f1 0 W.heap.size/\pS W f1 (.slice A1 n1 c1) d.aK.ai/\ft f2 0 W.heap.size/\iG W f2 (.slice A2 n2 c2) d.bc.ai/\(∀g∈d.aK.ay,g.aD.size<=9223372036854775807)/\∀t∈d.aK.ai,t.aD.size<=9223372036854775807:=by
  obtain⟨fuel,hf⟩:=h0
  exact HA hf
 obtain⟨A3,n3,c3,f3,a,On,w3,s3⟩:∃A n c f,∃d:eK,(Value.agg Q2).cells.toList=[.slice A n c]/\ft f 0 W.heap.size/\iG W f (.slice A n c) d.ai:=by
  obtain⟨fuel,hf⟩:=h1
  exact uC hf
 obtain rfl:Nr= #[.slice A0 n0 c0,.slice A1 n1 c1,.slice A2 n2 c2,.int .i64 s.az]:=by
  cases Nr;simp[Value.cells]at dn;subst dn;rfl
 obtain rfl:Q2= #[.slice A3 n3 c3]:=by
  cases Q2;simp[Value.cells]at On;subst On;rfl
 clear hA0 KQ
 have gr:e6 Tryz.prog W (fun b=>b<W.heap.size) (fun _=>none) [.agg (ax s),.agg (bd a)] #[.agg #[.slice A0 n0 c0,.slice A1 n1 c1,.slice A2 n2 c2,.int .i64 s.az],.agg #[.slice A3 n3 c3]]:=by
  have h:=lK (Bo s0 (fun b hb=>(w0 b hb).2) s1 (fun b hb=>(w1 b hb).2) s2 (fun b hb=>(w2 b hb).2)) (lK (xH s3 (fun b hb=>(w3 b hb).2)) (⟨rfl,fun j b hj=>by cases j<;>cases hj⟩:e6 Tryz.prog W (fun b=>b<W.heap.size) (fun _=>none) [] #[]))
  simpa using h
 have iH:=Mr mixed (HK s a ⟨o0,o1⟩) gr
 clear s0 s1 s2 s3 w0 w1 w2 w3 gr
 refine(iH.mono fun e W' ⟨he,bel⟩=>?_)
 subst he
 exact⟨_,rfl,_,_,_,[],_,[],hW',trodAll_mk1 (shut_bool Tryz.underlying4 _),(trodAll_cons_mk (Below.trod Hm (by kernel_rfl) (of_decide_eq_true (by kernel_rfl)) k0 bel lt0) (trodAll_cons_mk (Below.trod Hm (by kernel_rfl) (of_decide_eq_true (by kernel_rfl)) k1 bel NM) trodAll_mk0)),rfl,bel.frame _,fun h=>by cases h⟩
end Go.Proofs.YtgoelphibofcmaaGreat

namespace Go.Proofs.YtgoelphibofcmaaGreat
open Go.ChangeShapes Go.WideShapes Go.ChangeAt Go.RowKit
theorem prN:Tryz.pinned.checked.prog.funcNamed Rows.fnExactIsProducedRow.func=some 3:=by kernel_rfl
theorem prJ:joinedFacts Tryz.pinned.checked.prog 3 Tryz.f3 Rows.fnExactIsProducedSpec Rows.fnExactIsProducedRow=true:=by
 unfold joinedFacts
 repeat(with_reducible refine Bool.and_eq_true_iff.2 ⟨?_,by as_aux_lemma=>kernel_rfl⟩)
 as_aux_lemma=>kernel_rfl
theorem prI:Tryz.f3.isInstance Tryz.pinned.checked.prog Rows.fnExactIsProducedRow.origin Rows.fnExactIsProducedRow.targs:=of_decide_eq_true (by kernel_rfl)
theorem prW:Tryz.f3.isWrapper Tryz.pinned.checked.prog Rows.fnExactIsProducedRow.wrapper Rows.fnExactIsProducedRow.mainSum:=by
 unfold Func.isWrapper;first|(rw[if_pos (by decide+kernel)];kernel_rfl)|(rw[if_neg (by decide+kernel)];exact⟨rfl,rfl⟩)
theorem E8:Rows.fnExactIsProducedRow.holds Tryz.pinned (OpenSpec.ofChange Rows.fnExactIsProducedSpec):=
 OpenClaim.holds_of_wide 3 Tryz.f3 rfl rfl rfl rfl rfl rfl rfl ⟨rfl,rfl,rfl,rfl,rfl⟩ rfl rfl rfl rfl rfl prN Tryz.func3 prJ prI prW
  (fun os started H enc _=>AG os started H enc)
theorem fnExactIsProduced_proved:Rows.FnExactIsProducedSaid:=E8
end Go.Proofs.YtgoelphibofcmaaGreat
