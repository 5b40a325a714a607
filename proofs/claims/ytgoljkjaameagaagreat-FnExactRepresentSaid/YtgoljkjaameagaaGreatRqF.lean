/- TileSet.bonds, walked. -/
import Derived.Test.YtgoljkjaameagaaGreatRqE
import Derived.Test.YtgoljkjaameagaaGreatRqB
import Derived.Test.YtgoljkjaameagaaGreatRqC
import Derived.Test.YtgoljkjaameagaaGreatRqD
import Derived.WalkKit
import Derived.BigRegion
import Derived.Maps.OwnIn
import Derived.Maps.AppendAt
import Derived.Test.YtgoljkjaameagaaGreatChecked
import Derived.ProofKit
import Derived.Deep.Slices
import Derived.ChangeSame
import Derived.Test.YtgoljkjaameagaaGreatRows
import Derived.OpenShut
import Derived.ShutString
import Derived.ChangeOld
import Derived.Below
set_option linter.unusedVariables false
set_option linter.unusedSimpArgs false
set_option maxRecDepth 100000
set_option maxHeartbeats 16000000
namespace Go.Proofs.YtgoljkjaameagaaGreat.V
open Go.RowKit Go.Shelf
attribute [local go_sem] Oper.semAt_some
attribute [local irreducible] dQ wpOps ft Call
attribute [local go_sem] aA eV ef e9 e8 cZ upd bQ K.av cr AV.cells AV.cell rowOf rowsOf part ld rowAt bD bL dm dD fE bu cK dO fa eF db dH cI cH dw dx bz aQ cz bx cD cC dF dI dG cw bC cJ dE bw az cF bZ fD bj cq bB aJ cX aX dn AV.undef bp br dy dC du dz cm dM dP bU dK dJ cE cG List.getD_cons_zero List.getD_cons_succ List.getD_nil List.all_cons List.all_nil Bool.and_true Bool.true_and Bool.and_self Bool.not_true Bool.not_false Option.map_some Option.map_none Option.bind_some Option.bind_none List.length_cons List.length_nil List.take_succ_cons List.take_zero List.take_nil List.drop_succ_cons List.drop_zero List.drop_nil List.head?_cons List.map_cons List.map_nil List.getElem?_cons_zero List.getElem?_cons_succ List.cons_append List.nil_append List.append_nil List.length_map List.set_cons_zero List.set_cons_succ Nat.reduceMul eq_self Int.toNat_natCast Int.natCast_nonneg and_self true_and and_true decide_true decide_false Bool.false_eq_true Nat.zero_add Nat.add_zero List.contains_cons List.contains_nil Bool.or_false Bool.false_or beq_self_eq_true Nat.reduceBEq ne_eq not_true_eq_false not_false_eq_true Id.mk.injEq false_and and_false Nat.reduceLT Int.reduceLE Int.reduceLT Int.reduceToNat Int.reduceNeg Int.reduceAdd Nat.le_refl List.length_append beq_true beq_false Bool.not_eq_eq_eq_not or_false false_or dR ab aj ay bo bJ aD aV aH aU cu bq
theorem H5 (s:ax) (l:List ae) (hF:ke s) (hA:pC s l) (w:World) (Ag At:Option Addr) (ng cg nt ct:Nat) (vS:Value) (hT:jl Tryz.prog w (fun b=>b<w.heap.size) (.agg (ad s)) (.agg #[.slice Ag ng cg,.slice At nt ct])) (hP:o9 w vS l):
  CallsIn Fence.wide 5 Tryz.prog 205 #[.agg #[.slice Ag ng cg,.slice At nt ct],.agg #[vS]] w fun e W'=>∃v,e=.returned v/\W'.ownsRow w.heap.size 254 3 v (dh s l).length (KP (dh s l))/\(v=.slice none 0 0↔dh s l=[])/\Below w.heap.size w W':=by
 obtain⟨A,cp,rfl,_,_⟩:=hP.sl
 obtain⟨i0,hi,HC,Al,lf⟩:=info_parts I6
 refine callsIn_of_wp_marks Tryz.func205 rfl trivial ?_ rfl
 simp only[Tryz.ntmps205,List.size_toArray,List.length_cons,List.length_nil,Nat.reduceAdd,Nat.reduceSub,Array.replicate_succ,Array.replicate_zero,List.push_toArray,List.append_toArray,List.nil_append,List.cons_append]
 gi_wp2_with (refine⟨trivial,?_⟩;gi_at_call 260;refine(zy _ _ _).mono ?_;rintro e w' ⟨rfl,rfl⟩)
 have bT:((w.alloc (.cells #[.slice Ag ng cg,.slice At nt ct] 39)).heap[w.heap.size]?)=some (.cells #[.slice Ag ng cg,.slice At nt ct] 39 (0,0)):=World.alloc_heap_new _ _
 obtain⟨w1,nB⟩:∃w1,w.alloc (.cells #[.slice Ag ng cg,.slice At nt ct] 39)=w1:=⟨_,rfl⟩
 have Qt:w1.heap.size=w.heap.size+1:=by rw[<-nB];simp
 have Ae:Below w.heap.size w w1:=by rw[<-nB];exact(Below.refl _ w).alloc (Nat.le_refl _) _
 rw[nB]at bT ⊢
 clear nB
 have bA:=Boxed.new w1 42 (.slice A l.length cp)
 have bO:=Boxed.new (w1.alloc (.cells #[.slice A l.length cp] 42)) 179 (.slice none 0 0)
 have bN:=Boxed.new ((w1.alloc (.cells #[.slice A l.length cp] 42)).alloc (.cells #[.slice none 0 0] 179)) 42 (.slice A l.length cp)
 replace bA:=(bA.alloc (.cells #[.slice none 0 0] 179)).alloc (.cells #[.slice A l.length cp] 42)
 replace bO:=bO.alloc (.cells #[.slice A l.length cp] 42)
 simp only[World.size_alloc,Qt]at bA bO bN
 have pa:Below w1.heap.size w1 (((w1.alloc (.cells #[.slice A l.length cp] 42)).alloc (.cells #[.slice none 0 0] 179)).alloc (.cells #[.slice A l.length cp] 42)):=(((Below.refl _ w1).alloc (Nat.le_refl _) _).alloc (by simp) _).alloc (by simp;omega) _
 have fu:(((w1.alloc (.cells #[.slice A l.length cp] 42)).alloc (.cells #[.slice none 0 0] 179)).alloc (.cells #[.slice A l.length cp] 42)).heap.size=w.heap.size+4:=by simp;omega
 obtain⟨W0,hW0⟩:∃W0,((w1.alloc (.cells #[.slice A l.length cp] 42)).alloc (.cells #[.slice none 0 0] 179)).alloc (.cells #[.slice A l.length cp] 42)=W0:=⟨_,rfl⟩
 rw[hW0]at bA bO bN pa fu ⊢
 clear hW0
 have Bf:Below w.heap.size w W0:=Ae.trans (pa.mono ai)
 replace bT:=(pa.block w.heap.size ai).trans bT
 have hP0:o9 W0 (.slice A l.length cp) l:=hP.below Bf
 have kl:=RP hP
 have pq:=pH (s:=s) hA.1
 refine wpIn_rangeFunc_ownH (n:=5) rfl ai (gf:=302) (lb:= #[.pointer (some ⟨w.heap.size+1+1+1,0,none⟩)]) rfl trivial (enters_of Tryz.func302 (by kernel_rfl) rfl)
  (Jq l hA.1 (w.heap.size+1+1+1) (5-1) ai (.slice A l.length cp) (ib w.heap.size) kl W0 bN hP0) ib.trans (ib.b ai) (Below.refl _ _) (fun _=>rfl)
  (fun pre W=>((∃v,Boxed W (w.heap.size+1+1) 179 v/\W.ownsRow w.heap.size 254 3 v (np s l pre).length (KP (np s l pre))/\(v=.slice none 0 0↔np s l pre=[]))/\(Boxed W (w.heap.size+1) 42 (.slice A l.length cp)/\W.heap[w.heap.size]? =some (.cells #[.slice Ag ng cg,.slice At nt ct] 39 (0,0))))/\Below w.heap.size w W)
  (fun _ _ _=>False)
  (OwnFrom.and (OwnFrom.and (Own.from (holdsRow_own w.heap.size (w.heap.size+1+1) 179 254 3 (fun pre=>(np s l pre).length) (fun pre=>KP (np s l pre)) (fun pre v=>v=.slice none 0 0↔np s l pre=[])) _) (OwnFrom.and (Own.from (boxed_own _ _ _) _) (Own.from (Bh _ _ _ _) _))) (ownFrom_below (Nat.le_refl _) ai))
  (fun _ _ _ _ _ hs _ _=>hs)
  ⟨⟨⟨_,bO,World.ownsRow_nil _ _ _ _,by simp[np]⟩,bA,bT⟩,Bf⟩
  (fun x a' W=>∃Bx,w.heap.size+1+1<Bx/\W.heap[Bx]? =some (.cells #[.int .i64 (x.1.1:Int),.int .i64 (x.1.2.1:Int)] 322 (0,0))/\a'={tmps:= #[.agg #[.slice Ag ng cg,.slice At nt ct],.agg #[.slice A l.length cp],.pointer (some ⟨w.heap.size,0,none⟩),.pointer (some ⟨w.heap.size+1,0,none⟩),.slice none 0 0,.pointer (some ⟨w.heap.size+1+1,0,none⟩),.pointer (some ⟨Bx,0,none⟩),.int .i64 x.1.2.2,undef,.agg #[.slice A l.length cp],.func (.func 302) #[] #[.pointer (some ⟨w.heap.size+1+1+1,0,none⟩)],.agg #[.int .i64 (x.1.1:Int),.int .i64 (x.1.2.1:Int)],.int .i64 x.1.2.2,undef,undef,undef,undef,undef,undef,undef,undef,undef,undef,undef,undef,undef,undef,undef,undef,undef,undef,undef,undef,undef,undef,undef,undef,undef,undef,undef,undef,undef],defers:=[]})
  (fun x a' _ X Y row hs hg hr=>by obtain⟨Bx,h1,h2,h3⟩:=hs;exact⟨Bx,h1,Bh Bx _ _ _ () X Y row h2 hg (fun r e=>(hr r e).2),h3⟩)
  ?assign ?body ?done ?stop
 case assign=>
  rintro q pre ⟨⟨x0,x1,x2⟩,hx⟩ W K ⟨⟨⟨v,hv,gh,hnil⟩,bA1,bT1⟩,hB⟩ hK
  simp only[EW]
  gi_wp2
  exact hK _ _ ((KeepsOthers.alloc _ _).from _) (ib.of ((Below.refl _ W).alloc (Nat.le_refl _) _)) ⟨⟨⟨v,hv.alloc _,gh.alloc _,hnil⟩,bA1.alloc _,(Below.heap_alloc _ _ _ (Array.getElem?_eq_some_iff.1 bT1).1).trans bT1⟩,hB.alloc hB.size _⟩ ⟨W.heap.size,hv.lt,World.alloc_heap_new _ _,rfl⟩
 case body=>
  rintro q pre ⟨⟨x0,x1,x2⟩,hx⟩ a' W hq hqr ⟨⟨⟨v,hv,gh,hnil⟩,bA1,bT1⟩,hB⟩ ⟨Bx,hBx,bX,rfl⟩ eh
  obtain⟨CF,Nf,Ak⟩:=hx
  simp only at CF Nf Ak bX
  obtain⟨A',c',e',_,hc⟩:=(hP.below hB).sl
  cases e'
  have dS:∃b o,A=some ⟨b,o,none⟩/\W.cell? ⟨b,o+x0*3+2,none⟩=some (.int .i64 (bG l x0).bR)/\W.cell? ⟨b,o+x1*3+2,none⟩=some (.int .i64 (bG l x1).bR):=by
   rcases hc with rfl|⟨b,o,rfl,j4⟩
   ·simp at CF
   ·exact⟨b,o,rfl,by rw[Nat.add_assoc];exact(j4 x0 CF).2.2,by rw[Nat.add_assoc];exact(j4 x1 Nf).2.2⟩
  obtain⟨b,o,rfl,cP0,cP1⟩:=dS
  have cT0:W.cell? ⟨w.heap.size,0,none⟩=some (.slice Ag ng cg):=by simp[World.cell?,bT1]
  have cT1:W.cell? ⟨w.heap.size,1,none⟩=some (.slice At nt ct):=by simp[World.cell?,bT1]
  have cX0:W.cell? ⟨Bx,0,none⟩=some (.int .i64 (x0:Int)):=by simp[World.cell?,bX]
  have cX1:W.cell? ⟨Bx,1,none⟩=some (.int .i64 (x1:Int)):=by simp[World.cell?,bX]
  have cA:=bA1.cell
  have dP0:W.drew.cell? ⟨b,o+x0*3+2,none⟩=some (.int .i64 (bG l x0).bR):=cP0
  have dP1:W.drew.cell? ⟨b,o+x1*3+2,none⟩=some (.int .i64 (bG l x1).bR):=cP1
  have dT0:W.drew.cell? ⟨w.heap.size,0,none⟩=some (.slice Ag ng cg):=cT0
  have dT1:W.drew.cell? ⟨w.heap.size,1,none⟩=some (.slice At nt ct):=cT1
  have dX0:W.drew.cell? ⟨Bx,0,none⟩=some (.int .i64 (x0:Int)):=cX0
  have dX1:W.drew.cell? ⟨Bx,1,none⟩=some (.int .i64 (x1:Int)):=cX1
  have dA:W.drew.cell? ⟨w.heap.size+1,0,none⟩=some (.slice (some ⟨b,o,none⟩) l.length cp):=cA
  have r8:∀i,i<l.length->bG l i∈l:=fun i hi=>by
   unfold bG
   rw[List.getD_eq_getElem?_getD,List.getElem?_eq_getElem hi]
   exact List.getElem_mem hi
  have UL:=mixed
  have hfw:=hA.1.Hu
  have SR:=NL s hF (bG l x0).bR x2 (bG l x1).bR (hA.2 _ (r8 x0 CF)) (hA.2 _ (r8 x1 Nf)) (uW ai)
  have hTW:jl Tryz.prog W (fun b=>b<w.heap.size) (.agg (ad s)) (.agg #[.slice Ag ng cg,.slice At nt ct]):=hT.frame (fun b hb=>hB.block b hb) (fun _ h=>h)
  have hAW:jl Tryz.prog W (fun b=>b<w.heap.size) (.sl (l.map aa)) (.slice (some ⟨b,o,none⟩) l.length cp):=hP.eM.frame (fun b hb=>hB.block b hb) (fun _ h=>h)
  obtain⟨fT,hT0,hT1⟩:∃f:Nat->Value,(∀j,j<(ad s).length->(#[Value.slice Ag ng cg,.slice At nt ct])[j]? =some (f j))/\∀j a,(ad s)[j]? =some a->jl Tryz.prog W (fun b=>b<w.heap.size) a (f j):=by
   cases hTW with
   |agg _ _ f _ _ h3 h4=>exact⟨f,h3,h4⟩
  have eb:St Tryz.prog W.heap.size 42 (fun b=>b<w.heap.size) (H7 w.heap.size Bx) (NM s l x0 x1 x2) ⟨MH s l x0 x1,1⟩ {tmps:= #[.agg #[.slice Ag ng cg,.slice At nt ct],.agg #[.slice (some ⟨b,o,none⟩) l.length cp],.pointer (some ⟨w.heap.size,0,none⟩),.pointer (some ⟨w.heap.size+1,0,none⟩),.slice none 0 0,.pointer (some ⟨w.heap.size+1+1,0,none⟩),.pointer (some ⟨Bx,0,none⟩),.int .i64 x2,undef,.agg #[.slice (some ⟨b,o,none⟩) l.length cp],.func (.func 302) #[] #[.pointer (some ⟨w.heap.size+1+1+1,0,none⟩)],.agg #[.int .i64 (x0:Int),.int .i64 (x1:Int)],.int .i64 x2,undef,undef,undef,undef,undef,undef,undef,undef,undef,undef,undef,undef,undef,undef,undef,undef,undef,undef,undef,undef,undef,undef,undef,undef,undef,undef,undef,undef,undef],defers:=[]} W:=by
   have n1:(H7 w.heap.size Bx) ⟨1,0⟩=some ⟨w.heap.size,2,2,none⟩:=rfl
   have n2:(H7 w.heap.size Bx) ⟨2,0⟩=some ⟨w.heap.size+1,1,1,none⟩:=rfl
   have n3:(H7 w.heap.size Bx) ⟨3,0⟩=some ⟨w.heap.size+1+1,1,1,none⟩:=rfl
   have n4:(H7 w.heap.size Bx) ⟨4,0⟩=some ⟨Bx,2,2,none⟩:=rfl
   have n5:(H7 w.heap.size Bx) ⟨5,0⟩=some ⟨w.heap.size+1+1+1,1,1,none⟩:=rfl
   have rp:∀(id:Id) (B:rL),(H7 w.heap.size Bx) id=some B->B.k=none->dd Tryz.prog W (fun b=>b<w.heap.size) (H7 w.heap.size Bx) (.ptr id 0 0) (.pointer (some ⟨B.b,0,none⟩)):=fun id B h hk=>by
    have:=dd.ptr (P:=Tryz.prog) (w:=W) (D:=fun b=>b<w.heap.size) id 0 0 B h hk
    simpa using this
   have ri:∀n:Int,dd Tryz.prog W (fun b=>b<w.heap.size) (H7 w.heap.size Bx) (.int .i64 n) (.int .i64 n):=fun n=>.eM _ _ (.int _ _)
   have hA1:jl Tryz.prog W (fun b=>b<w.heap.size) (.agg [.sl (l.map aa)]) (.agg #[.slice (some ⟨b,o,none⟩) l.length cp]):=.agg _ _ (fun _=>.slice (some ⟨b,o,none⟩) l.length cp) rfl (fun a ha=>by simp at ha;rw[ha];rfl) (fun j hj=>by match j,hj with|0,_=>rfl|j+1,hj=>simp at hj) (fun j a ha=>by match j,ha with|0,ha=>simp at ha;subst ha;exact hAW|j+1,ha=>simp at ha)
   refine⟨⟨Nat.le_refl _,fun b hb=>Nat.lt_of_lt_of_le hb hB.size,fun id r hg=>?_,fun id jG r r' B B' h _ hw=>?_⟩,fun id hid=>?_,fun t=>?_,rfl⟩
   ·replace hg:MH s l x0 x1 id=some r:=hg
    unfold MH at hg
    split at hg
    ·rename_i e;subst e;injection hg with hg;subst hg
     exact⟨_,n1,Eh (cs:=ad s) rfl bT1 rfl rfl rfl (fun a ha=>by simp[ad]at ha;rcases ha with rfl|rfl<;>rfl) (fun j a ha=>⟨_,hT0 j (List.getElem?_eq_some_iff.1 ha).1,.eM _ _ (hT1 j a ha)⟩),fun h=>(by cases h),fun h=>(by cases h)⟩
    ·split at hg
     ·rename_i e;subst e;injection hg with hg;subst hg
      exact⟨_,n2,Eh (cs:=[.sl (l.map aa)]) rfl bA1 rfl rfl rfl (fun a ha=>by simp at ha;rw[ha];rfl) (fun j a ha=>by match j,ha with|0,ha=>simp at ha;subst ha;exact⟨_,rfl,.eM _ _ hAW⟩|j+1,ha=>simp at ha),fun h=>(by cases h),fun h=>(by cases h)⟩
     ·split at hg
      ·rename_i e;subst e;injection hg with hg;subst hg
       exact⟨_,n4,Eh (cs:=[.int .i64 (x0:Int),.int .i64 (x1:Int)]) rfl bX rfl rfl rfl (fun a ha=>by simp at ha;rcases ha with rfl|rfl<;>rfl) (fun j a ha=>by match j,ha with|0,ha=>simp at ha;subst ha;exact⟨_,rfl,ri _⟩|1,ha=>simp at ha;subst ha;exact⟨_,rfl,ri _⟩|j+2,ha=>simp at ha),fun h=>(by cases h),fun h=>(by cases h)⟩
      ·cases hg
   ·exfalso
    replace h:MH s l x0 x1 id=some r:=h
    unfold MH at h
    split at h
    ·injection h with h;subst h;cases hw
    ·split at h
     ·injection h with h;subst h;cases hw
     ·split at h
      ·injection h with h;subst h;cases hw
      ·cases h
   ·left
    unfold H7 at hid
    repeat' (split at hid)
    all_goals first|(rename_i e;subst e;exact Nat.zero_lt_one)|exact absurd rfl hid
   ·match t with
    |0=>exact .eM _ _ hTW
    |1=>exact .eM _ _ hA1
    |2=>exact rp _ _ n1 rfl
    |3=>exact rp _ _ n2 rfl
    |4=>exact .eM _ _ .bS
    |5=>exact rp _ _ n3 rfl
    |6=>exact rp _ _ n4 rfl
    |7=>exact ri _
    |8=>exact dd.undef
    |9=>exact .eM _ _ hA1
    |10=>exact .fn _ _ _ (fun _=>.pointer (some ⟨w.heap.size+1+1+1,0,none⟩)) (by kernel_rfl) rfl (fun j hj=>by match j,hj with|0,_=>rfl|j+1,hj=>simp at hj) (fun j a ha=>by match j,ha with|0,ha=>simp at ha;subst ha;exact rp _ _ n5 rfl|j+1,ha=>simp at ha)
    |11=>exact .agg _ _ (fun j=>if j=0 then .int .i64 (x0:Int)else .int .i64 (x1:Int)) rfl (fun a ha=>by simp at ha;rcases ha with rfl|rfl<;>rfl) (fun j hj=>by match j,hj with|0,_=>rfl|1,_=>rfl|j+2,hj=>simp at hj;omega) (fun j a ha=>by match j,ha with|0,ha=>simp at ha;subst ha;exact ri _|1,ha=>simp at ha;subst ha;exact ri _|j+2,ha=>simp at ha)
    |12=>exact ri _
    |13=>exact dd.undef
    |14=>exact dd.undef
    |15=>exact dd.undef
    |16=>exact dd.undef
    |17=>exact dd.undef
    |18=>exact dd.undef
    |19=>exact dd.undef
    |20=>exact dd.undef
    |21=>exact dd.undef
    |22=>exact dd.undef
    |23=>exact dd.undef
    |24=>exact dd.undef
    |25=>exact dd.undef
    |26=>exact dd.undef
    |27=>exact dd.undef
    |28=>exact dd.undef
    |29=>exact dd.undef
    |30=>exact dd.undef
    |31=>exact dd.undef
    |32=>exact dd.undef
    |33=>exact dd.undef
    |34=>exact dd.undef
    |35=>exact dd.undef
    |36=>exact dd.undef
    |37=>exact dd.undef
    |38=>exact dd.undef
    |39=>exact dd.undef
    |40=>exact dd.undef
    |41=>exact dd.undef
    |t+42=>exact dd.undef
  have hV:wpOps (Call Tryz.prog) true ?vl (fun e _=>e 5=.ptr ⟨3,0⟩ 0 0/\e 6=.ptr ⟨4,0⟩ 0 0/\e 8=.int .i64 (iM s (bG l x0).bR x2 (bG l x1).bR)) (NM s l x0 x1 x2) ⟨MH s l x0 x1,1⟩:= ?hv
  gi_wp2
  refine zD mixed (rrE (nt:=42) (site0:=205005000)) (Js (by kernel_rfl)) (kI (fun _ _ _ _ h=>fR mixed h) kj (fun _ _ h=>h) _ _ _ hV) eb ?_
  rintro e1 σ1 ⟨tm,df⟩ w3 D1 ι1 ⟨h5,h6,h8⟩ T1 rO Dn
  case hv=>
   refine D5 ?_
   have e0:=gw CF
   have e1:=gw Nf
   (repeat(first|((repeat(revert hN;revert N;apply Pn.out));refine wk (tw @e0 (tw @e1 (tw @NM.eq_1 (tw @MH.eq_1 (tw @aa.eq_1 @ad.eq_1))))) ?_;(repeat(refine Pn.mk ?_;intro N hN)))|((try apply Or.inl);refine⟨_,aq.x (SR) (sd (tw @e0 (tw @e1 (tw @NM.eq_1 (tw @MH.eq_1 (tw @aa.eq_1 @ad.eq_1)))))),?_⟩;refine hN _ _ ?_;clear hN N)))
   exact⟨sd @NM.eq_1,sd @NM.eq_1,sd @NM.eq_1⟩
  ·have Bg:Below W.heap.size W w3:=T1.below
   have tU:∀id B,H7 w.heap.size Bx id=some B->ι1 id=some B:=T1.names
   have p5:tm.getD 5 undef=.pointer (some ⟨w.heap.size+1+1,0,none⟩):=by
    have g:=rO.env 5
    rw[h5]at g
    obtain⟨B,e,hB,_⟩:=iv g
    have h:=tU ⟨3,0⟩ ⟨w.heap.size+1+1,1,1,none⟩ rfl
    rw[h]at hB;injection hB with hB;subst hB
    simpa using e
   have p6:tm.getD 6 undef=.pointer (some ⟨Bx,0,none⟩):=by
    have g:=rO.env 6
    rw[h6]at g
    obtain⟨B,e,hB,_⟩:=iv g
    have h:=tU ⟨4,0⟩ ⟨Bx,2,2,none⟩ rfl
    rw[h]at hB;injection hB with hB;subst hB
    simpa using e
   have p8:tm.getD 8 undef=.int .i64 (iM s (bG l x0).bR x2 (bG l x1).bR):=by
    have g:=rO.env 8
    rw[h8]at g
    exact dL g
   have fu:=rO.size
   obtain⟨tl⟩:=tm
   obtain⟨f,M9,hf⟩:∃f:Nat->Value,tl=[f 0,f 1,f 2,f 3,f 4,f 5,f 6,f 7,f 8,f 9,f 10,f 11,f 12,f 13,f 14,f 15,f 16,f 17,f 18,f 19,f 20,f 21,f 22,f 23,f 24,f 25,f 26,f 27,f 28,f 29,f 30,f 31,f 32,f 33,f 34,f 35,f 36,f 37,f 38,f 39,f 40,f 41]/\∀i,f i=(⟨tl⟩:Array Value).getD i undef:=by
    refine⟨fun i=>(⟨tl⟩:Array Value).getD i undef,?_,fun _=>rfl⟩
    have h:=Jg tl undef
    rw[show tl.length=42 from fu]at h
    exact h
   rw[<-hf]at p5 p6 p8
   have Uv:df=[]:=Dn
   subst Uv
   clear hf rO eb hV
   subst M9
   rw[p5,p6,p8]
   have Tg:=hv.kept (grown_of Bg) (by simp)
   have Fh:=gh.kept (grown_of Bg) (by rcases gh.2 with⟨e,_⟩|⟨_,_,_,e,_⟩<;>rw[e]<;>simp[Value.ownBlock])
   have hc3:=Tg.cell
   have UR:w.heap.size<=w3.heap.size:=Nat.le_trans hB.size Bg.size
   have eX0:w3.cell? ⟨Bx,0,none⟩=some (.int .i64 (x0:Int)):=(Bg.cell (p:=⟨Bx,0,none⟩) (Array.getElem?_eq_some_iff.1 bX).1).trans cX0
   have eX1:w3.cell? ⟨Bx,1,none⟩=some (.int .i64 (x1:Int)):=(Bg.cell (p:=⟨Bx,1,none⟩) (Array.getElem?_eq_some_iff.1 bX).1).trans cX1
   have k7:(np s l pre).length<=2097152:=by
    have h1:=HY s l pre
    have h2:=BU l l.length
    omega
   have hKF:KeepsFrom (w.heap.size+4) W w3:=⟨Bg.size,fun k o _ hk _=>(Bg.block k (Array.getElem?_eq_some_iff.1 hk).1).trans hk⟩
   have hKT:ib w.heap.size W w3:=ib.of Bg
   have TA:w3.heap[w.heap.size+1]? = _:=(Bg.block _ bA1.lt).trans bA1
   have TB:=(Bg.block _ (Array.getElem?_eq_some_iff.1 bT1).1).trans bT1
   by_cases jZ:0<iM s (bG l x0).bR x2 (bG l x1).bR
   ·have Af:np s l (pre++[⟨(x0,x1,x2),CF,Nf,Ak⟩])=np s l pre++[⟨x0,x1,iM s (bG l x0).bR x2 (bG l x1).bR⟩]:=by
     rw[xF];simp only[yR,if_pos jZ]
    gi_wp2_with (gi_at_builtin;refine wpListIn_append_own _ rfl _ _ 179 rfl w.heap.size 254 i0 (.agg #[.int .i64 0,.int .i64 0,.int .i64 0]) 3 24 (by kernel_rfl) hi HC Al lf rfl (by decide) _ _ _ rfl (Fh.alloc _) ⟨w3.heap.size,0,none⟩ 1 1 [.int .i64 (x0:Int),.int .i64 (x1:Int),.int .i64 (iM s (bG l x0).bR x2 (bG l x1).bR)] rfl rfl (uz _ _ _ _ _) (by simp[Value.oneCell']) (by unfold maxLen;omega) ai (by simp;omega) ?_;intro v' w4 M5 Fc _;obtain⟨g',cap',rfl⟩:=ownsRow_succ M5;obtain⟨xZ,OY,zh,uQ,Gf⟩:=Tg.appended (by decide) Fh UR ai M5 Fc;have Ln:=ib.app Tg Fh Fc Gf;have pr:=xZ.cell;have Rh:=xZ.frozen)
    exact⟨hKF.trans (uQ.from _),hKT.trans Ln,⟨⟨_,OY,by rw[Af,HX,List.length_append];exact zh,by rw[Af];simp⟩,(Ln.2.1 _ _ _ _ TA (by decide) (by decide)).trans TA,(Ln.2.1 _ _ _ _ TB (by decide) (by decide)).trans TB⟩,hB.trans ((Bg.mono hB.size).trans Gf)⟩
   ·have Af:np s l (pre++[⟨(x0,x1,x2),CF,Nf,Ak⟩])=np s l pre:=by
     rw[xF];simp only[yR,if_neg jZ,List.append_nil]
    gi_wp2
    exact⟨hKF,hKT,⟨⟨v,Tg,by rw[Af];exact Fh,by rw[Af];exact hnil⟩,TA,TB⟩,hB.trans (Bg.mono hB.size)⟩
 case done=>
  rintro D ys W hD Fk ⟨⟨⟨v,hv,gh,hnil⟩,_⟩,hB⟩ hK
  have hc:=hv.cell
  have Ku:np s l ys=dh s l:=by rw[H6,<-Fk];rfl
  rw[Ku]at gh hnil
  gi_wp2
  refine⟨by simp,.inl ⟨_,_,rfl,run_takeDeferred hK,?_⟩⟩
  exact⟨_,results_tmp rfl _ _ _,v,rfl,ownsRow_putObj gh _ hK rfl,hnil,hB.trans (belowK_b (w:=w) (Nat.le_refl _) W D _ _ ai hK rfl rfl)⟩
 case stop=>
  rintro D c pre W _ _ h _
  exact h.elim
end Go.Proofs.YtgoljkjaameagaaGreat.V

namespace Go.Proofs.YtgoljkjaameagaaGreat.V
open Go.RowKit Go.Shelf
theorem EO:∀{bs:List PB} {i j:Nat} {b:PB},bs[i]? =some b->j<3->(KP bs)[i*3+j]? =([.int .i64 b.a,.int .i64 b.b,.int .i64 b.s]:List Value)[j]?
 |c::bs,0,j,b,h,hj=>by
  simp at h;subst h
  simp only[KP,List.flatMap_cons,Nat.zero_mul,Nat.zero_add]
  rw[List.getElem?_append_left (by simpa using hj)]
 |c::bs,i+1,j,b,h,hj=>by
  simp only[List.getElem?_cons_succ]at h
  have:=EO (bs:=bs) (i:=i) (j:=j) h hj
  simp only[KP,List.flatMap_cons]at this ⊢
  rw[List.getElem?_append_right (by simp;omega),<-this]
  congr 1
  simp;omega
theorem qK {P:Program} {w:World} {D:Nat->Prop} {rows:List (List AV)} {v:Value} (h:jl P w D (.sl rows) v):∃A n c,v=.slice A n c:=by
 cases h with
 |zL a c _=>exact⟨_,_,_,rfl⟩
 |sl=>exact⟨_,_,_,rfl⟩
theorem qd {P:Program} {w:World} {D:Nat->Prop} {ι:Names} {rows:List (List AV)} {v:Value} (h:dd P w D ι (.sl rows) v):jl P w D (.sl rows) v:=by
 cases h with
 |eM _ _ h=>exact h
theorem L9 {P:Program} {w:World} {D:Nat->Prop} {l:List ae} {v:Value} (h:jl P w D (.sl (l.map aa)) v):o9 w v l:=by
 generalize hr:l.map aa=rows at h
 cases h with
 |zL a c hc=>
  have:l=[]:=by simpa using hr
  subst this
  exact⟨a,c,rfl,⟨Nat.zero_le _,hc⟩,.inl rfl⟩
 |sl _ b o n c sz vs h1 h2 h3 h4 h5 h5' h6 h7=>
  have hn:n=l.length:=by rw[<-h1,<-hr];simp
  subst hn
  refine⟨some ⟨b,o,none⟩,c,rfl,⟨h2,h3⟩,?_⟩
  by_cases hl:l=[]
  ·exact .inl hl
  refine .inr ⟨b,o,rfl,fun i hi=>?_⟩
  have hg:rows[i]? =some (aa (bG l i)):=by rw[<-hr];exact gw hi
  have fu:sz=3:=by rw[<-h5 _ (List.mem_of_getElem? hg)];rfl
  subst fu
  have k:∀(j:Nat) (x:Int),(aa (bG l i))[j]? =some (.int .i64 x)->j<3->w.cell? ⟨b,o+(i*3+j),none⟩=some (.int .i64 x):=fun j x hj h3=>by
   have:=h7 i j _ _ hg hj
   rw[h6 i j hi h3,dL (.eM (ι:=fun _=>none) _ _ this)]
  exact⟨k 0 _ rfl ai,k 1 _ rfl ai,k 2 _ rfl ai⟩
theorem H4:CH:=by
 intro s l hS hA n
 refine fB ?_
 intro hs D ι w vs S U A
 obtain⟨u0,Tf,r0⟩:=A.2 0 _ rfl
 obtain⟨u1,RB,r1⟩:=A.2 1 _ rfl
 have eh:∀b,D b->b<w.heap.size:=S.dead
 obtain⟨v0,f0,rfl,HC,_,SX,U8⟩:=iu r0
 obtain⟨v1,f1,rfl,Al,_,Rh,Lw⟩:=iu r1
 have g0:=qd (U8 0 _ rfl)
 have g1:=qd (U8 1 _ rfl)
 have a0:=qd (Lw 0 _ rfl)
 obtain⟨Ag,ng,cg,eg⟩:=qK g0
 obtain⟨At,nt,ct,et⟩:=qK g1
 have e0:v0= #[.slice Ag ng cg,.slice At nt ct]:=by
  obtain⟨vl⟩:=v0
  have q0:=SX 0 (by simp[ad])
  have q1:=SX 1 (by simp[ad])
  rw[eg]at q0;rw[et]at q1
  match vl,HC with
  |[a,b],_=>simp at q0 q1;rw[q0,q1]
 have e1:v1= #[f1 0]:=by
  obtain⟨vl⟩:=v1
  have q0:=Rh 0 (by simp)
  match vl,Al with
  |[a],_=>simp at q0;rw[q0]
 subst e0 e1
 have evs:vs= #[.agg #[.slice Ag ng cg,.slice At nt ct],.agg #[f1 0]]:=by
  obtain⟨vl⟩:=vs
  have hz:=A.1
  match vl,hz with
  |[a,b],_=>simp at Tf RB;rw[Tf,RB]
 subst evs
 have up:∀{a v},jl Tryz.prog w D a v->jl Tryz.prog w (fun b=>b<w.heap.size) a v:=fun h=>h.frame (fun _ _=>rfl) eh
 have hT:jl Tryz.prog w (fun b=>b<w.heap.size) (.agg (ad s)) (.agg #[.slice Ag ng cg,.slice At nt ct]):=
  .agg _ _ f0 HC (fun a ha=>by simp[ad]at ha;rcases ha with rfl|rfl<;>rfl) SX (fun j a ha=>by
   match j,ha with
   |0,ha=>simp[ad]at ha;subst ha;exact up g0
   |1,ha=>simp[ad]at ha;subst ha;exact up g1
   |j+2,ha=>simp[ad]at ha)
 refine(callsIn_wide.1 (H5 s l hS.form hA w Ag At ng cg nt ct (f1 0) hT (L9 a0))).mono ?_
 rintro e W' ⟨v,rfl,⟨hl,hown⟩,hnil,hB⟩
 have S':gx Tryz.prog hs D ι (fun _=>none) W':=S.stay (fun b hb=>hB.block b hb) hB.size (fun _ h=>h) (fun b hb=>Nat.lt_of_lt_of_le (eh b hb) hB.size) (fun _ h=>.inl h) (fun _ _ h=>h)
 have T:Step hs D ι w D ι W':=Step.stay S (fun b hb=>hB.block b hb) hB.size hB.os hB.tape hB.output (fun _ h=>h) (fun _ h=>.inl h) (fun _ _ h=>h)
 rcases hown with⟨rfl,h0⟩|⟨gb,cap,cur,rfl,Rl,hblk,hle,Iz,dS,od⟩
 ·have Q4:dh s l=[]:=hnil.1 rfl
  exact⟨.bS,_,n,D,ι,_,rfl,⟨.bS,jO _ _,by rw[Q4];rfl⟩,T,S',U,Nat.le_refl _,.eM _ _ .bS⟩
 ·have Q4:dh s l≠[]:=fun h=>by have:=hnil.2 h;cases this
  have kK:ι ⟨0,n⟩=none:=fresh U (fun h=>h)
  have gH:∀{a v},dd Tryz.prog W' D ι a v->dd Tryz.prog W' D (kd ι ⟨0,n⟩ ⟨gb,3,cap*3,none⟩) a v:=fun h=>h.frame (fun _ _=>rfl) (fun _ h=>h) (fh kK)
  have hR:gT Tryz.prog W' D (kd ι ⟨0,n⟩ ⟨gb,3,cap*3,none⟩) ⟨gb,3,cap*3,none⟩ ⟨true,3,(dh s l).map aB⟩:=by
   refine kV.obj ⟨rfl,⟨cur,_,hblk,dS⟩,?_,fun cs hc=>?_,fun cs hc a ha=>?_,fun i j cs a hi hj=>?_⟩ rfl
   ·simp only[List.length_map];exact Nat.mul_le_mul_right 3 hle
   ·obtain⟨b,_,rfl⟩:=List.mem_map.1 hc;rfl
   ·obtain⟨b,_,rfl⟩:=List.mem_map.1 hc
    simp[aB]at ha
    rcases ha with rfl|rfl|rfl<;>rfl
   ·rw[List.getElem?_map]at hi
    simp only[Option.map_eq_some_iff]at hi
    obtain⟨b,hb,rfl⟩:=hi
    have hj3:j<3:=by have:=(List.getElem?_eq_some_iff.1 hj).1;simpa[aB]using this
    have mi:=(List.getElem?_eq_some_iff.1 hb).1
    have hg:=EO hb hj3
    rw[<-od,List.getElem?_take,if_pos ai]at hg
    have key:∀x:Value,([.int .i64 b.a,.int .i64 b.b,.int .i64 b.s]:List Value)[j]? =some x->W'.cell? ⟨gb,i*3+j,none⟩=some x:=fun x hx=>by
     rw[hx]at hg
     have e:W'.cell? ⟨gb,i*3+j,none⟩=cur[i*3+j]? :=by
      unfold World.cell?
      rw[show W'.heap[(⟨gb,i*3+j,none⟩:Addr).block]? = _ from hblk]
      rfl
     rw[e,<-Array.getElem?_toList];exact hg
    match j,hj with
    |0,hj=>simp[aB]at hj;subst hj;exact⟨_,key _ rfl,.eM _ _ (.int _ _)⟩
    |1,hj=>simp[aB]at hj;subst hj;exact⟨_,key _ rfl,.eM _ _ (.int _ _)⟩
    |2,hj=>simp[aB]at hj;subst hj;exact⟨_,key _ rfl,.eM _ _ (.int _ _)⟩
    |j+3,hj=>simp[aB]at hj
  have S2:=gx.add (r:=⟨true,3,(dh s l).map aB⟩) S S' kK Rl hR
  refine⟨.own ⟨0,n⟩ 0 (dh s l).length,bD (fun _=>none) ⟨0,n⟩ ⟨true,3,(dh s l).map aB⟩,n+1,D,kd ι ⟨0,n⟩ ⟨gb,3,cap*3,none⟩,_,rfl,⟨zM (dh s l),?_,rfl⟩,T.trans (Step.stay S' (fun _ _=>rfl) (Nat.le_refl _) rfl rfl rfl (fun _ h=>h) (fun _ h=>.inl h) (fh kK)),S2,U.upd.next,Nat.le_succ _,.own _ _ _ _ _ _ (eo _ _ _) rfl hle (.inr (by simp)) (by simp) Iz⟩
  unfold zM
  rw[if_neg Q4]
  have hg:(bD (fun _=>none) (⟨0,n⟩:Id) ⟨true,3,(dh s l).map aB⟩:Rows) ⟨0,n⟩=some ⟨true,3,(dh s l).map aB⟩:=by simp[bD]
  have:=ig (n:=5) hg rfl fun b=>tM _ 4 b
  simpa using this
end Go.Proofs.YtgoljkjaameagaaGreat.V

namespace Go.Proofs.YtgoljkjaameagaaGreat.V
open Go.RowKit
attribute [local irreducible] dQ wpOps ft Call
attribute [local go_sem] aA eV ef e9 e8 cZ upd bQ K.av cr AV.cells AV.cell rowOf rowsOf part ld rowAt bD bL dm dD fE bu cK dO fa eF db dH cI cH dw dx bz aQ cz bx cD cC dF dI dG cw bC cJ dE bw az cF bZ fD bj cq bB aJ cX aX dn AV.undef bp br dy dC du dz cm dM dP bU dK dJ cE cG List.getD_cons_zero List.getD_cons_succ List.getD_nil List.all_cons List.all_nil Bool.and_true Bool.true_and Bool.and_self Bool.not_true Bool.not_false Option.map_some Option.map_none Option.bind_some Option.bind_none List.length_cons List.length_nil List.take_succ_cons List.take_zero List.take_nil List.drop_succ_cons List.drop_zero List.drop_nil List.head?_cons List.map_cons List.map_nil List.getElem?_cons_zero List.getElem?_cons_succ List.cons_append List.nil_append List.append_nil List.length_map List.set_cons_zero List.set_cons_succ Nat.reduceMul eq_self Int.toNat_natCast Int.natCast_nonneg and_self true_and and_true decide_true decide_false Bool.false_eq_true Nat.zero_add Nat.add_zero List.contains_cons List.contains_nil Bool.or_false Bool.false_or beq_self_eq_true Nat.reduceBEq ne_eq not_true_eq_false not_false_eq_true Id.mk.injEq false_and and_false Nat.reduceLT Int.reduceLE Int.reduceLT Int.reduceToNat Int.reduceNeg Int.reduceAdd Nat.le_refl List.length_append beq_true beq_false Bool.not_eq_eq_eq_not or_false false_or dR ab aj ay bo bJ aD aV aH aU cu bq
structure ph (m:bl):Prop where
 b:As m.da
 s:As m.bf
 l:m.aE.length<=1048576
theorem K5:PZ bt (fun c=>.int .i64 c) 1 false:=⟨fun _=>rfl,fun _=>rfl,fun x g=>by rw[ab,ay,aj];rfl⟩
theorem wT (k:Int):aq Tryz.prog 275 [.int .i64 k] (.bool (gM k 1 4)):=by
 refine aq.body eG rfl fun hl n0=>?_
 clear hl
 have h:=jj k 1 4
 (repeat(first|((repeat(revert hN;revert N;apply Pn.out));refine wk @Nat.zero_add ?_;(repeat(refine Pn.mk ?_;intro N hN)))|((try apply Or.inl);refine⟨_,aq.x (h) (sd @Nat.zero_add),?_⟩;refine hN _ _ ?_;clear hN N)))
 exact bd (b:=gM k 1 4) (.inl rfl) (sd @Nat.zero_add) rfl
theorem DV (m:bl) (n:Int) (ht:m.bf.aM.ah.length<=1048576):aq Tryz.prog 276 [.int .i64 n,.dt (ak m)] (.bool (!gM n (-1) ((m.bf.aM.ah.length:Int)-1))):=by
 refine aq.body eG rfl fun hl n0=>?_
 clear hl
 have h:=jj n (-1) ((m.bf.aM.ah.length:Int)-1)
 have OG:(m.bf.aM.ah.map bV).length=m.bf.aM.ah.length:=List.length_map ..
 have w1:IntKind.i64.wrap ((m.bf.aM.ah.length:Int)-1)=(m.bf.aM.ah.length:Int)-1:=bP ai
 (repeat(first|((repeat(revert hN;revert N;apply Pn.out));refine wk (tw @ak.eq_1 (tw @OG @w1)) ?_;(repeat(refine Pn.mk ?_;intro N hN)))|((try apply Or.inl);refine⟨_,aq.x (h) (sd (tw @ak.eq_1 (tw @OG @w1))),?_⟩;refine hN _ _ ?_;clear hN N)))
 exact bd (b:= !gM n (-1) ((m.bf.aM.ah.length:Int)-1)) (.inl rfl) (sd @Nat.zero_add) rfl
theorem Jc (m:bl) (ht:m.bf.aM.ah.length<=1048576) (hl:m.aE.length<=1048576):aq Tryz.prog 226 [.sl (m.aE.map bt),.fn 276 [.dt (ak m)]] (.bool (m.aE.any fun n=> !gM n (-1) ((m.bf.aM.ah.length:Int)-1))):=
 ko K5 (show lP Tryz.prog 226=some (za 226 279) by kernel_rfl)
  (show lP Tryz.prog 279=some (sb 279 1 false) by kernel_rfl) m.aE hl _ _ _ rfl (fun g=>by rw[ab,aH,aj];rfl) (fun x _=>DV m x ht) fun g=>by rw[ab,aH,aj];rfl
theorem qp (m:bl) (n1:fZ m.da.aM) (n2:fZ m.bf.aM) (hm:ph m):aq Tryz.prog 217 [.agg (ak m)] (.bool (l5 m)):=by
 refine aq.body eG rfl fun hl n0=>?_
 clear hl
 have h1:=pj H4 m.da n1 hm.b.s.g hm.b.s.t hm.b.s.s hm.b.a
 have h2:=pj H4 m.bf n2 hm.s.s.g hm.s.s.t hm.s.s.s hm.s.a
 have h3:=wT m.dp
 have h5:=Jc m hm.s.s.t hm.l
 rw[bY]at h1 h2
 rw[ak]at h5 ⊢
 have sS:(m.aE.map bt).length=m.aE.length:=List.length_map ..
 have r7:(m.da.aM.ah.map bV).length=m.da.aM.ah.length:=List.length_map ..
 cases b1:kT m.da
 ·rw[b1]at h1
  (repeat(first|((repeat(revert hN;revert N;apply Pn.out));refine wk @Nat.zero_add ?_;(repeat(refine Pn.mk ?_;intro N hN)))|((try apply Or.inl);refine⟨_,aq.x (h1) (sd @Nat.zero_add),?_⟩;refine hN _ _ ?_;clear hN N)))
  exact bd (b:=false) (.inl rfl) (sd @Nat.zero_add) (by simp only[l5,b1,Bool.false_and])
 cases b2:kT m.bf
 ·rw[b1]at h1
  rw[b2]at h2
  (repeat(first|((repeat(revert hN;revert N;apply Pn.out));refine wk @Nat.zero_add ?_;(repeat(refine Pn.mk ?_;intro N hN)))|((try apply Or.inl);refine⟨_,aq.x (h1) (sd @Nat.zero_add),?_⟩;refine hN _ _ ?_;clear hN N)|((try apply Or.inl);refine⟨_,aq.x (h2) (sd @Nat.zero_add),?_⟩;refine hN _ _ ?_;clear hN N)))
  exact bd (b:=false) (.inl rfl) (sd @Nat.zero_add) (by simp only[l5,b1,b2,Bool.false_and,Bool.and_false])
 cases b3:gM m.dp 1 4
 ·rw[b1]at h1
  rw[b2]at h2
  rw[b3]at h3
  (repeat(first|((repeat(revert hN;revert N;apply Pn.out));refine wk @Nat.zero_add ?_;(repeat(refine Pn.mk ?_;intro N hN)))|((try apply Or.inl);refine⟨_,aq.x (h1) (sd @Nat.zero_add),?_⟩;refine hN _ _ ?_;clear hN N)|((try apply Or.inl);refine⟨_,aq.x (h2) (sd @Nat.zero_add),?_⟩;refine hN _ _ ?_;clear hN N)|((try apply Or.inl);refine⟨_,aq.x (h3) (sd @Nat.zero_add),?_⟩;refine hN _ _ ?_;clear hN N)))
  exact bd (b:=false) (.inl rfl) (sd @Nat.zero_add) (by simp only[l5,b3,Bool.false_and,Bool.and_false])
 rw[b1]at h1
 rw[b2]at h2
 rw[b3]at h3
 by_cases h4:(m.aE.length:Int)=(m.da.aM.ah.length:Int)
 ·have hd:=decide_eq_true h4
  (repeat(first|((repeat(revert hN;revert N;apply Pn.out));refine wk (tw @sS (tw @r7 @hd)) ?_;(repeat(refine Pn.mk ?_;intro N hN)))|((try apply Or.inl);refine⟨_,aq.x (h1) (sd (tw @sS (tw @r7 @hd))),?_⟩;refine hN _ _ ?_;clear hN N)|((try apply Or.inl);refine⟨_,aq.x (h2) (sd (tw @sS (tw @r7 @hd))),?_⟩;refine hN _ _ ?_;clear hN N)|((try apply Or.inl);refine⟨_,aq.x (h3) (sd (tw @sS (tw @r7 @hd))),?_⟩;refine hN _ _ ?_;clear hN N)|((try apply Or.inl);refine⟨_,aq.x (h5) (sd (tw @sS (tw @r7 @hd))),?_⟩;refine hN _ _ ?_;clear hN N)))
  exact bd (b:= !(m.aE.any fun n=> !gM n (-1) ((m.bf.aM.ah.length:Int)-1))) (.inl rfl) (sd @Nat.zero_add) (by simp only[EM,l5,b1,b2,b3,hd,Bool.true_and])
 ·have hd:=decide_eq_false h4
  (repeat(first|((repeat(revert hN;revert N;apply Pn.out));refine wk (tw @sS (tw @r7 @hd)) ?_;(repeat(refine Pn.mk ?_;intro N hN)))|((try apply Or.inl);refine⟨_,aq.x (h1) (sd (tw @sS (tw @r7 @hd))),?_⟩;refine hN _ _ ?_;clear hN N)|((try apply Or.inl);refine⟨_,aq.x (h2) (sd (tw @sS (tw @r7 @hd))),?_⟩;refine hN _ _ ?_;clear hN N)|((try apply Or.inl);refine⟨_,aq.x (h3) (sd (tw @sS (tw @r7 @hd))),?_⟩;refine hN _ _ ?_;clear hN N)))
  exact bd (b:=false) (.inl rfl) (sd @Nat.zero_add) (by simp only[l5,hd,Bool.false_and,Bool.and_false])
theorem sw (m:bl) (a:List ae) (n1:fZ m.da.aM) (n2:fZ m.bf.aM) (hm:ph m) (ha:a.length<=1048576):aq Tryz.prog 143 [.agg (ak m),.agg [.sl (a.map aa)]] (.int .i64 (l6 m a)):=by
 refine aq.body eG rfl fun hl n0=>?_
 clear hl
 have h1:=qp m n1 n2 hm
 have h2:=mT m.da.aM a n1 hm.b.s.g hm.b.s.t hm.b.s.s ha
 rw[ad]at h2
 rw[ak]at h1 ⊢
 cases b1:l5 m
 ·rw[b1]at h1
  (repeat(first|((repeat(revert hN;revert N;apply Pn.out));refine wk @Nat.zero_add ?_;(repeat(refine Pn.mk ?_;intro N hN)))|((try apply Or.inl);refine⟨_,aq.x (h1) (sd @Nat.zero_add),?_⟩;refine hN _ _ ?_;clear hN N)))
  exact cR (b:=1) (.inl rfl) (sd @Nat.zero_add) (by rw[l6,if_neg (by rw[b1];simp)])
 rw[b1]at h1
 rw[lZ.2 (vW b1).TC.set,Bool.true_and]at h2
 cases b2:nj m.da.aM a
 ·rw[b2]at h2
  (repeat(first|((repeat(revert hN;revert N;apply Pn.out));refine wk @Nat.zero_add ?_;(repeat(refine Pn.mk ?_;intro N hN)))|((try apply Or.inl);refine⟨_,aq.x (h1) (sd @Nat.zero_add),?_⟩;refine hN _ _ ?_;clear hN N)|((try apply Or.inl);refine⟨_,aq.x (h2) (sd @Nat.zero_add),?_⟩;refine hN _ _ ?_;clear hN N)))
  exact cR (b:=1) (.inl rfl) (sd @Nat.zero_add) (by rw[l6,if_neg (by rw[b2];simp)])
 ·rw[b2]at h2
  (repeat(first|((repeat(revert hN;revert N;apply Pn.out));refine wk @Nat.zero_add ?_;(repeat(refine Pn.mk ?_;intro N hN)))|((try apply Or.inl);refine⟨_,aq.x (h1) (sd @Nat.zero_add),?_⟩;refine hN _ _ ?_;clear hN N)|((try apply Or.inl);refine⟨_,aq.x (h2) (sd @Nat.zero_add),?_⟩;refine hN _ _ ?_;clear hN N)))
  exact cR (b:=0) (.inl rfl) (sd @Nat.zero_add) (by rw[l6,if_pos ⟨b1,b2⟩])
def sK (m:bl):Prop:=fZ m.da.aM/\fZ m.bf.aM
def wI (m:bl):Nat:=j3 m.da+j3 m.bf+m.aE.length
theorem G9 {m:bl} (h:wI m<=1048576):ph m:=by
 unfold wI at h
 exact⟨yE ai,yE ai,ai⟩
theorem we (m:bl) (l:Int) (h0:0<=l) (h1:l<=1048576) (hn:sK m):aq Tryz.prog 70 [.agg (ak m),.int .i64 l] (.int .i64 (wN (wI m) l)):=by
 refine aq.body eG rfl fun hl n0=>?_
 clear hl
 have e1:=wg m.da l h0 h1 hn.1
 rw[bY]at e1
 have he:wI m=j3 m.da+j3 m.bf+m.aE.length:=rfl
 by_cases c1:(j3 m.da:Int)<=l
 ·rw[gj c1]at e1
  have d1:¬l-(j3 m.da:Int)<0:=ai
  have e2:=wg m.bf (l-j3 m.da) ai ai hn.2
  rw[bY]at e2
  by_cases c2:(j3 m.bf:Int)<=l-j3 m.da
  ·rw[gj c2]at e2
   have d2:¬l-(j3 m.da:Int)-(j3 m.bf:Int)<0:=ai
   have e3:=Ci m.aE (l-j3 m.da-j3 m.bf) ai ai
   by_cases c3:(m.aE.length:Int)<=l-j3 m.da-j3 m.bf
   ·rw[gj c3]at e3
    have d3:¬l-(j3 m.da:Int)-(j3 m.bf:Int)-(m.aE.length:Int)<0:=ai
    (repeat(first|((repeat(revert hN;revert N;apply Pn.out));refine wk (tw @ak.eq_1 (tw @d1 (tw @d2 @d3))) ?_;(repeat(refine Pn.mk ?_;intro N hN)))|((try apply Or.inl);refine⟨_,aq.x (e1) (sd (tw @ak.eq_1 (tw @d1 (tw @d2 @d3)))),?_⟩;refine hN _ _ ?_;clear hN N)|((try apply Or.inl);refine⟨_,aq.x (e2) (sd (tw @ak.eq_1 (tw @d1 (tw @d2 @d3)))),?_⟩;refine hN _ _ ?_;clear hN N)|((try apply Or.inl);refine⟨_,aq.x (e3) (sd (tw @ak.eq_1 (tw @d1 (tw @d2 @d3)))),?_⟩;refine hN _ _ ?_;clear hN N)))
    exact cR (b:=l-(j3 m.da:Int)-(j3 m.bf:Int)-(m.aE.length:Int)) (.inl rfl) (sd @Nat.zero_add) (by rw[gj ai];omega)
   ·rw[fX c3]at e3
    (repeat(first|((repeat(revert hN;revert N;apply Pn.out));refine wk (tw @ak.eq_1 (tw @d1 @d2)) ?_;(repeat(refine Pn.mk ?_;intro N hN)))|((try apply Or.inl);refine⟨_,aq.x (e1) (sd (tw @ak.eq_1 (tw @d1 @d2))),?_⟩;refine hN _ _ ?_;clear hN N)|((try apply Or.inl);refine⟨_,aq.x (e2) (sd (tw @ak.eq_1 (tw @d1 @d2))),?_⟩;refine hN _ _ ?_;clear hN N)|((try apply Or.inl);refine⟨_,aq.x (e3) (sd (tw @ak.eq_1 (tw @d1 @d2))),?_⟩;refine hN _ _ ?_;clear hN N)))
    exact cR (b:=-1) (.inl rfl) (sd @Nat.zero_add) (by rw[fX ai])
  ·rw[fX c2]at e2
   (repeat(first|((repeat(revert hN;revert N;apply Pn.out));refine wk (tw @ak.eq_1 @d1) ?_;(repeat(refine Pn.mk ?_;intro N hN)))|((try apply Or.inl);refine⟨_,aq.x (e1) (sd (tw @ak.eq_1 @d1)),?_⟩;refine hN _ _ ?_;clear hN N)|((try apply Or.inl);refine⟨_,aq.x (e2) (sd (tw @ak.eq_1 @d1)),?_⟩;refine hN _ _ ?_;clear hN N)))
   exact cR (b:=-1) (.inl rfl) (sd @Nat.zero_add) (by rw[fX ai])
 ·rw[fX c1]at e1
  (repeat(first|((repeat(revert hN;revert N;apply Pn.out));refine wk @ak.eq_1 ?_;(repeat(refine Pn.mk ?_;intro N hN)))|((try apply Or.inl);refine⟨_,aq.x (e1) (sd @ak.eq_1),?_⟩;refine hN _ _ ?_;clear hN N)))
  exact cR (b:=-1) (.inl rfl) (sd @Nat.zero_add) (by rw[fX ai])
theorem wq (m:bl) (hs:ph m):jU Tryz.prog 72 [.agg (ak m)] (.agg (ak m)):=by
 refine jU.body eG rfl fun hl σ=>?_
 clear hl
 have h1:=wv m.da hs.b
 have h2:=wv m.bf hs.s
 have h3:=Cm m.aE hs.l
 rw[bY]at h1 h2
 (repeat(first|((repeat(revert hN;revert N;apply Pn.out));refine wk @ak.eq_1 ?_;(repeat(refine Pn.mk ?_;intro N hN)))|((try apply Or.inl);refine⟨_,jU.x (h1) _,?_⟩;refine hN _ _ ?_;clear hN N)|((try apply Or.inl);refine⟨_,jU.x (h2) _,?_⟩;refine hN _ _ ?_;clear hN N)|((try apply Or.inl);refine⟨_,jU.x (h3) _,?_⟩;refine hN _ _ ?_;clear hN N)))
 exact vO (.inl rfl) (vs:=[.agg (ak m)]) (by simp only[go_sem, ↓reduceIte,Nat.reduceEqDiff,Nat.reduceAdd,Nat.reduceSub,Nat.reduceLeDiff,reduceCtorEq,fj,gJ,ak]) (by simp[eX,ak,aV,ab,aj,bJ,ay])
theorem uE (m:bl):aq Tryz.prog 74 [.agg (ak m),.agg (ak m)] (.bool true):=by
 refine aq.body eG rfl fun hl n0=>?_
 clear hl
 have h1:=uF m.da
 have h2:=uF m.bf
 have h3:=AS m.aE m.aE
 rw[decide_eq_true rfl]at h3
 rw[bY]at h1 h2
 have e:decide (m.dp=m.dp)=true:=decide_eq_true rfl
 (repeat(first|((repeat(revert hN;revert N;apply Pn.out));refine wk (tw @ak.eq_1 @e) ?_;(repeat(refine Pn.mk ?_;intro N hN)))|((try apply Or.inl);refine⟨_,aq.x (h1) (sd (tw @ak.eq_1 @e)),?_⟩;refine hN _ _ ?_;clear hN N)|((try apply Or.inl);refine⟨_,aq.x (h2) (sd (tw @ak.eq_1 @e)),?_⟩;refine hN _ _ ?_;clear hN N)|((try apply Or.inl);refine⟨_,aq.x (h3) (sd (tw @ak.eq_1 @e)),?_⟩;refine hN _ _ ?_;clear hN N)))
 exact bd (b:=true) (.inl rfl) (sd @Nat.zero_add) rfl
structure wQ (g:Rows) (v:AV) (m:bl) (ids:List Id):Prop where
 ex:∃o1 o2 o3 o4 o5 o6 o7 i1 i2,v=.agg [.own o1 0 m.da.aM.aw.length,.own o2 0 m.da.aM.ah.length,.own o3 0 m.da.cj.ah.length,.int .i64 m.da.aC,.own o4 0 m.bf.aM.aw.length,.own o5 0 m.bf.aM.ah.length,.own o6 0 m.bf.cj.ah.length,.int .i64 m.bf.aC,.int .i64 m.dp,.own o7 0 m.aE.length]/\
  um g (.agg [.own o1 0 m.da.aM.aw.length,.own o2 0 m.da.aM.ah.length,.own o3 0 m.da.cj.ah.length,.int .i64 m.da.aC]) m.da i1/\
  um g (.agg [.own o4 0 m.bf.aM.aw.length,.own o5 0 m.bf.aM.ah.length,.own o6 0 m.bf.cj.ah.length,.int .i64 m.bf.aC]) m.bf i2/\
  g o7=some ⟨true,1,m.aE.map bt⟩/\ids=i1++(i2++[o7])
theorem wQ.frame {g g':Rows} {v:AV} {m:bl} {ids:List Id} (h:wQ g v m ids) (hf:∀i∈ids,g' i=g i):wQ g' v m ids:=by
 obtain⟨o1,o2,o3,o4,o5,o6,o7,i1,i2,h1,h2,h3,h4,rfl⟩:=h.ex
 exact⟨o1,o2,o3,o4,o5,o6,o7,i1,i2,h1,h2.frame fun i hi=>hf i (by simp[hi]),h3.frame fun i hi=>hf i (by simp[hi]),(hf o7 (by simp)).trans h4,rfl⟩
theorem wQ.owns {g:Rows} {v:AV} {m:bl} {ids:List Id} (h:wQ g v m ids):∃o1 o2 o3 o4 o5 o6 o7,v=.agg [.own o1 0 m.da.aM.aw.length,.own o2 0 m.da.aM.ah.length,.own o3 0 m.da.cj.ah.length,.int .i64 m.da.aC,.own o4 0 m.bf.aM.aw.length,.own o5 0 m.bf.aM.ah.length,.own o6 0 m.bf.cj.ah.length,.int .i64 m.bf.aC,.int .i64 m.dp,.own o7 0 m.aE.length]:=by
 obtain⟨o1,o2,o3,o4,o5,o6,o7,i1,i2,h1,_⟩:=h.ex
 exact⟨o1,o2,o3,o4,o5,o6,o7,h1⟩
theorem wc {g:Rows} {n:Nat} {a b c:AV} {t:Int} {s:dc} (h:V.fz g (n+1) (.agg [a,b,c,.int .i64 t])=some (.agg (bY s))):V.fz g n a=some (.sl (s.aM.aw.map cL))/\V.fz g n b=some (.sl (s.aM.ah.map bV))/\V.fz g n c=some (.sl (s.cj.ah.map aa)):=by
 rw[aV,bY]at h
 cases ha:V.fz g n a with
 |none=>rw[ab,ha]at h;cases h
 |some a'=>
  cases hb:V.fz g n b with
  |none=>rw[ab,ha,ab,hb]at h;cases h
  |some b'=>
   cases hc:V.fz g n c with
   |none=>rw[ab,ha,ab,hb,ab,hc]at h;cases h
   |some c'=>
    cases hd:V.fz g n (.int .i64 t)with
    |none=>rw[ab,ha,ab,hb,ab,hc,ab,hd]at h;cases h
    |some d'=>
     rw[ab,ha,ab,hb,ab,hc,ab,hd,aj]at h
     simp at h
     obtain⟨rfl,rfl,rfl,_⟩:=h
     exact⟨rfl,rfl,rfl⟩
theorem wQ.fz {g:Rows} {v:AV} {m:bl} {ids:List Id} (n:Nat) (h:wQ g v m ids):V.fz (dR g) (n+5) v=some (.agg (ak m)):=by
 obtain⟨o1,o2,o3,o4,o5,o6,o7,i1,i2,rfl,h2,h3,h4,rfl⟩:=h.ex
 obtain⟨a1,a2,a3⟩:=wc (n:=n+4) (h2.fz n)
 obtain⟨b1,b2,b3⟩:=wc (n:=n+4) (h3.fz n)
 have c1:V.fz (dR g) (n+4) (.own o7 0 m.aE.length)=some (.sl (m.aE.map bt)):=gr (e:=bt) (sz:=1) (n:=n+3) (by simp[dR,h4]) rfl fun x=>by simp[bt,ab,aj,ay]
 simp only[aV,ab,aj,a1,a2,a3,b1,b2,b3,c1,ay,Option.map_some,ak]
theorem Mp {g:Rows} {v w:AV} {s:bl} {i:List Id} (hX:wQ g v s i) (hw:fz (dR g) 6 w=some w):de (dR g) 6 [v,w]=some [.agg (ak s),w]:=by
 simp only[ab,aj,hX.fz 1,hw,Option.map_some]
theorem AR (g:Rows) (s:bl):fz g 6 (.agg (ak s))=some (.agg (ak s)):=by simp[ak,aV,ab,aj,bJ,ay]
def BI (m:bl):Nat:=p7 m.da+p7 m.bf+m.aE.length
theorem LS (m:bl):BI m<=3*wI m:=by
 have:=Fx m.da
 have:=Fx m.bf
 unfold BI wI
 omega
theorem um.owns {g:Rows} {v:AV} {s:dc} {ids:List Id} (h:um g v s ids):∃o1 o2 o3,v=.agg [.own o1 0 s.aM.aw.length,.own o2 0 s.aM.ah.length,.own o3 0 s.cj.ah.length,.int .i64 s.aC]:=by
 obtain⟨a,b,c,i1,i2,i3,rfl,hA,hB,hC,_⟩:=h.ex
 obtain⟨oa,rfl⟩:=hA.ku
 obtain⟨ob,rfl⟩:=hB.ku
 obtain⟨oc,rfl⟩:=hC.ku
 exact⟨oa,ob,oc,rfl⟩
theorem wo (m:bl) (hs:ph m) (σ:au):Call Tryz.prog 72 [.agg (ak m)] σ (fun r σ'=>∃ids,wQ σ'.get r m ids/\fC σ.next σ'.next ids/\Kept σ σ'):=by
 refine fo eG rfl fun hl=>?_
 clear hl
 have t1:=fun σ=>wu m.da hs.b σ
 have t2:=fun σ=>wu m.bf hs.s σ
 have t3:=fun σ=>Cl m.aE hs.l σ
 rw[bY]at t1 t2
 (try((repeat(revert hN;revert N;apply Pn.out));refine wk @ak.eq_1 ?_;(repeat(refine Pn.mk ?_;intro N hN))))
 refine .inr (aY _ _ _ _ _ (fun r σ1 hq=>?_) (t1 _))
 obtain⟨i1,hA,hI,hK⟩:=hq
 obtain⟨g1,x1⟩:=σ1
 (try dsimp only at hA hI hK)
 have hn:=hK.1
 have hb:=hI.2
 (try dsimp only at hb hn)
 obtain⟨o1,o2,o3,rfl⟩:=hA.owns
 refine hN _ _ ?_
 clear hN N
 have k1:=hK.2 ⟨72000000,σ.next⟩ bK
 have k2:=hK.2 ⟨72000001,σ.next⟩ bK
 have k3:=hK.2 ⟨72001000,σ.next+1⟩ bK
 simp only[go_sem, ↓reduceIte,Nat.reduceEqDiff,Nat.reduceAdd,Nat.reduceSub,Nat.reduceLeDiff,reduceCtorEq]at k1 k2 k3
 (try((repeat(revert hN;revert N;apply Pn.out));refine wk (tw @k1 (tw @k2 @k3)) ?_;(repeat(refine Pn.mk ?_;intro N hN))))
 refine .inr (aY _ _ _ _ _ (fun r σ2 hq=>?_) (t2 _))
 obtain⟨i2,hB,hJ,hL⟩:=hq
 obtain⟨g2,x2⟩:=σ2
 (try dsimp only at hB hJ hL)
 have Gp:=hL.1
 have hc:=hJ.2
 (try dsimp only at hc Gp)
 obtain⟨o4,o5,o6,rfl⟩:=hB.owns
 refine hN _ _ ?_
 clear hN N
 have l1:=hL.2 ⟨72000000,σ.next⟩ bK
 have l2:=hL.2 ⟨72000001,σ.next⟩ bK
 have l3:=hL.2 ⟨72001000,σ.next+1⟩ bK
 simp only[go_sem, ↓reduceIte,Nat.reduceEqDiff,Nat.reduceAdd,Nat.reduceSub,Nat.reduceLeDiff,reduceCtorEq,k1,k2,k3]at l1 l2 l3
 (try((repeat(revert hN;revert N;apply Pn.out));refine wk (tw @l1 (tw @l2 @l3)) ?_;(repeat(refine Pn.mk ?_;intro N hN))))
 refine .inr (aY _ _ _ _ _ (fun r σ3 hq=>?_) (t3 _))
 obtain⟨o7,rfl,hC,hP,hM⟩:=hq
 obtain⟨g3,x3⟩:=σ3
 (try dsimp only at hC hP hM)
 have UR:=hM.1
 have hd:=hP.2
 (try dsimp only at hd UR)
 refine hN _ _ ?_
 clear hN N
 have m1:=hM.2 ⟨72000000,σ.next⟩ bK
 have m2:=hM.2 ⟨72000001,σ.next⟩ bK
 have m3:=hM.2 ⟨72001000,σ.next+1⟩ bK
 simp only[go_sem, ↓reduceIte,Nat.reduceEqDiff,Nat.reduceAdd,Nat.reduceSub,Nat.reduceLeDiff,reduceCtorEq,l1,l2,l3]at m1 m2 m3
 (try((repeat(revert hN;revert N;apply Pn.out));refine wk (tw @m1 (tw @m2 @m3)) ?_;(repeat(refine Pn.mk ?_;intro N hN))))
 refine fJ (.inl rfl) (vs:=[.agg [.own o1 0 m.da.aM.aw.length,.own o2 0 m.da.aM.ah.length,.own o3 0 m.da.cj.ah.length,.int .i64 m.da.aC,.own o4 0 m.bf.aM.aw.length,.own o5 0 m.bf.aM.ah.length,.own o6 0 m.bf.cj.ah.length,.int .i64 m.bf.aC,.int .i64 m.dp,.own o7 0 m.aE.length]]) (sd @Nat.zero_add) ?_
 have fr:∀x:Id,σ.next+2<=x.cV->(x=⟨72000001,σ.next⟩)=False/\(x=⟨72001000,σ.next+1⟩)=False:=fun x hx=>⟨(dr (a:=⟨72000001,σ.next⟩) (b:=x) bK).2,(dr (a:=⟨72001000,σ.next+1⟩) (b:=x) bK).2⟩
 have SA:∀i∈i1,g2 i=g1 i:=fun i hi=>by
  have h1:=hb i hi
  have h2:=hL.2 i bK
  have h3:=fr i ai
  simp only[go_sem, ↓reduceIte,Nat.reduceEqDiff,Nat.reduceAdd,Nat.reduceSub,Nat.reduceLeDiff,reduceCtorEq,h3]at h2
  exact h2
 have Gb:∀i:Id,σ.next+2<=i.cV->i.cV<x2->g3 i=g2 i:=fun i h0 h1=>by
  have h2:=hM.2 i bK
  have h3:=fr i ai
  simp only[go_sem, ↓reduceIte,Nat.reduceEqDiff,Nat.reduceAdd,Nat.reduceSub,Nat.reduceLeDiff,reduceCtorEq,h3]at h2
  exact h2
 refine⟨i1++(i2++[o7]),⟨o1,o2,o3,o4,o5,o6,o7,i1,i2,rfl,hA.frame fun i hi=>?_,hB.frame fun i hi=>?_,?_,rfl⟩,?_,⟨bK,fun j hj=>?_⟩⟩
 ·have h1:=hb i hi
  have h2:=(Gb i ai ai).trans (SA i hi)
  have h3:=fr i ai
  simp only[go_sem, ↓reduceIte,Nat.reduceEqDiff,Nat.reduceAdd,Nat.reduceSub,Nat.reduceLeDiff,reduceCtorEq,h2,h3]
 ·have h1:=hc i hi
  have h2:=Gb i ai ai
  have h3:=fr i ai
  simp only[go_sem, ↓reduceIte,Nat.reduceEqDiff,Nat.reduceAdd,Nat.reduceSub,Nat.reduceLeDiff,reduceCtorEq,h2,h3]
 ·have h1:=hd o7 (by simp)
  have h3:=fr o7 ai
  simp only[go_sem, ↓reduceIte,Nat.reduceEqDiff,Nat.reduceAdd,Nat.reduceSub,Nat.reduceLeDiff,reduceCtorEq,h3,hC]
 ·(try dsimp only at *)
  rw[<-List.append_assoc]
  exact((hI.app hJ ai ai ai).app hP ai ai ai).wide ai ai
 ·have h1:=eL hj
  have h2:=hL.2 j bK
  have h3:=hK.2 j bK
  have h4:=hM.2 j bK
  simp only[go_sem, ↓reduceIte,Nat.reduceEqDiff,Nat.reduceAdd,Nat.reduceSub,Nat.reduceLeDiff,reduceCtorEq,h1]at h2 h3 h4
  simp only[go_sem, ↓reduceIte,Nat.reduceEqDiff,Nat.reduceAdd,Nat.reduceSub,Nat.reduceLeDiff,reduceCtorEq,h1,h2,h3,h4]
theorem GO (v:AV) (m:bl) (ids:List Id) (k:Int) (h0:0<=k) (hs:ph m) (h1:k+BI m<=4611686018427387904) (σ:au) (hv:∀i∈ids,i.cV<σ.next) (lu:ids.Nodup) (hg:wQ σ.get v m ids):
  Call Tryz.prog 75 [v,.int .i64 k] σ (fun r σ'=>r=.int .i64 (k+BI m)/\rM σ ids σ'.get σ'.next):=by
 obtain⟨o1,o2,o3,o4,o5,o6,o7,i1,i2,rfl,hA,hB,hC,rfl⟩:=hg.ex
 obtain⟨n1,n23,n4⟩:=List.nodup_append.1 lu
 obtain⟨n2,n3,n5⟩:=List.nodup_append.1 n23
 have hm:(BI m:Int)=p7 m.da+p7 m.bf+m.aE.length:=by simp[BI]
 refine fo eG rfl fun hl=>?_
 clear hl
 have ju:∀i∈i1++(i2++[o7]),i≠⟨75000000,σ.next⟩:=fun i hi e=>by
  have:=hv i hi
  rw[e]at this;(try dsimp only at this);omega
 (try((repeat(revert hN;revert N;apply Pn.out));refine wk @Nat.zero_add ?_;(repeat(refine Pn.mk ?_;intro N hN))))
 refine .inr (aY _ _ _ _ _ (fun r σ1 hq=>?_) (yj _ m.da i1 k h0 hs.b.s.t ai _ (fun i hi=>by have:=hv i (by simp[hi]);(try dsimp only);omega) n1 (hA.frame fun i hi=>by
  have:=eL (hv i (by simp[hi]))
  simp only[go_sem, ↓reduceIte,Nat.reduceEqDiff,Nat.reduceAdd,Nat.reduceSub,Nat.reduceLeDiff,reduceCtorEq,this])))
 obtain⟨g1,x1⟩:=σ1
 obtain⟨rfl,CC,n9⟩:=hq
 (try dsimp only at CC n9)
 refine hN _ _ ?_
 clear hN N
 have k1:=n9 ⟨75000000,σ.next⟩ bK (fun h=>ju _ (by simp[h]) rfl)
 have SA:∀x:Id,x.cV<σ.next->x∉i1->g1 x=σ.get x:=fun x hx hi=>by
  have h2:=n9 x bK hi
  have h3:=eL hx
  simp only[go_sem, ↓reduceIte,Nat.reduceEqDiff,Nat.reduceAdd,Nat.reduceSub,Nat.reduceLeDiff,reduceCtorEq,h3]at h2
  exact h2
 simp only[go_sem, ↓reduceIte,Nat.reduceEqDiff,Nat.reduceAdd,Nat.reduceSub,Nat.reduceLeDiff,reduceCtorEq]at k1
 (try((repeat(revert hN;revert N;apply Pn.out));refine wk @k1 ?_;(repeat(refine Pn.mk ?_;intro N hN))))
 refine .inr (aY _ _ _ _ _ (fun r σ2 hq=>?_) (yj _ m.bf i2 (k+p7 m.da) ai hs.s.s.t ai _ (fun i hi=>by have:=hv i (by simp[hi]);(try dsimp only);omega) n2 (hB.frame fun i hi=>SA i (hv i (by simp[hi])) fun h=>n4 i h i (by simp[hi]) rfl)))
 obtain⟨g2,x2⟩:=σ2
 obtain⟨rfl,Lw,zh⟩:=hq
 (try dsimp only at Lw zh)
 refine hN _ _ ?_
 clear hN N
 have k2:=(zh ⟨75000000,σ.next⟩ bK (fun h=>ju _ (by simp[h]) rfl)).trans k1
 have Gb:∀x:Id,x.cV<σ.next->x∉i1->x∉i2->g2 x=σ.get x:=fun x hx h1 h2=>(zh x bK h2).trans (SA x hx h1)
 (try((repeat(revert hN;revert N;apply Pn.out));refine wk @k2 ?_;(repeat(refine Pn.mk ?_;intro N hN))))
 refine .inr (aY _ _ _ _ _ (fun r σ3 hq=>?_) (vg o7 m.aE (k+p7 m.da+p7 m.bf) ai ai _ (by have:=hv o7 (by simp);(try dsimp only);omega) ((Gb o7 (hv o7 (by simp)) (fun h=>n4 o7 h o7 (by simp) rfl) (fun h=>n5 o7 h o7 (by simp) rfl)).trans hC)))
 obtain⟨g3,x3⟩:=σ3
 obtain⟨rfl,CD,Lx⟩:=hq
 (try dsimp only at CD Lx)
 refine hN _ _ ?_
 clear hN N
 (try((repeat(revert hN;revert N;apply Pn.out));refine wk @Nat.zero_add ?_;(repeat(refine Pn.mk ?_;intro N hN))))
 exact fJ (.inl rfl) (vs:=[.int .i64 (k+p7 m.da+p7 m.bf+m.aE.length)]) (sd @Nat.zero_add) ⟨by rw[hm];exact congrArg (AV.int .i64) ai,⟨bK,fun x hx hi=>(Lx x bK fun h=>hi (by simp[List.mem_singleton.1 h])).trans (Gb x hx (fun h=>hi (by simp[h])) fun h=>hi (by simp[h]))⟩⟩
theorem LN (NI:bl->eu->List ae×Int)
  (Rz:∀s a,sK s->ph s->a.ah.length<=1048576->∃w0,jr aa (NI s a).1 w0/\jU Tryz.prog 71 [.agg (ak s),.agg (bh a)] (.gn [.agg [w0],.int .i64 (NI s a).2]))
  (Rp:∀s a,sK s->ph s->a.ah.length<=1048576->∀n:Nat,Call Tryz.prog 73 [.agg (ak s),.agg (bh a)] ⟨fun _=>none,n⟩ (fun r σ'=>∃ids,(∃v0 i0,r=.gn [.agg [v0],.int .i64 (NI s a).2]/\ki aa 3 σ'.get v0 (NI s a).1 i0/\ids=i0)/\fC n σ'.next ids))
  (M4:∀s a,sK s->ph s->a.ah.length<=1048576->(NI s a).1.length<=1099511627776)
  (s:bl) (a:eu) (hn:sK s):aq Tryz.prog 12 [.agg (ak s),.agg (bh a)] (.bool true):=by
 refine aq.body eG rfl fun hl n0=>?_
 clear hl
 have h1:=we s 1048576 ai ai hn
 by_cases Rh:((wI s:Nat):Int)<=1048576
 ·rw[gj Rh]at h1
  have Gj:¬(1048576:Int)-((wI s:Nat):Int)<0:=ai
  have h2:=rm a (1048576-((wI s:Nat):Int)) ai ai
  by_cases MT:((a.ah.length:Nat):Int)<=1048576-((wI s:Nat):Int)
  ·rw[gj MT]at h2
   have Oz:¬(1048576:Int)-((wI s:Nat):Int)-((a.ah.length:Nat):Int)<0:=ai
   have sm:=G9 (m:=s) ai
   have ma:a.ah.length<=1048576:=ai
   have t1:=wq s sm
   have t2:=rz a ma
   obtain⟨w0,Fi,r1⟩:=Rz s a hn sm ma
   have r2:=Rp s a hn sm ma
   have q1:=uE s
   have q2:=yY a
   have QY:=M4 s a hn sm ma
   obtain⟨L0,hR0⟩:∃R,(NI s a).1=R:=⟨_,rfl⟩
   obtain⟨c1,Q0⟩:∃R,(NI s a).2=R:=⟨_,rfl⟩
   simp only[hR0,Q0]at r1 r2 Fi QY
   have o1:=fun σ=>wo s sm σ
   rw[ak]at o1
   have o2:=fun σ=>rq a ma σ
   rw[bh]at o2
   have Kq:decide (c1=c1)=true:=by simp
   rw[ak]at h1
   rw[bh]at h2
   (repeat(first|((repeat(revert hN;revert N;apply Pn.out));refine wk (tw @ak.eq_1 (tw @bh.eq_1 (tw @Gj @Oz))) ?_;(repeat(refine Pn.mk ?_;intro N hN)))|((try apply Or.inl);refine⟨_,aq.x (h1) (sd (tw @ak.eq_1 (tw @bh.eq_1 (tw @Gj @Oz)))),?_⟩;refine hN _ _ ?_;clear hN N)|((try apply Or.inl);refine⟨_,aq.x (h2) (sd (tw @ak.eq_1 (tw @bh.eq_1 (tw @Gj @Oz)))),?_⟩;refine hN _ _ ?_;clear hN N)))
   refine⟨_,jU.x (by rw[ak]at t1;exact t1) _,?_⟩
   refine hN _ _ ?_
   clear hN N
   (try((repeat(revert hN;revert N;apply Pn.out));refine wk (tw @ak.eq_1 @bh.eq_1) ?_;(repeat(refine Pn.mk ?_;intro N hN))))
   refine⟨_,jU.x (by rw[bh]at t2;exact t2) _,?_⟩
   refine hN _ _ ?_
   clear hN N
   (try((repeat(revert hN;revert N;apply Pn.out));refine wk @Nat.zero_add ?_;(repeat(refine Pn.mk ?_;intro N hN))))
   have cw0:=Fi.cell.1
   have dw0:=Fi.cell.2
   unfold AV.cells at cw0
   unfold AV.cell at dw0
   refine⟨_,jU.x (by rw[ak,bh]at r1;exact r1) _,?_⟩
   refine hN _ _ ?_
   clear hN N
   (try((repeat(revert hN;revert N;apply Pn.out));refine wk (tw @cw0 @dw0) ?_;(repeat(refine Pn.mk ?_;intro N hN))))
   refine .inr (aY _ _ _ _ _ (fun r' σ1 hq=>?_) (o1 _))
   obtain⟨is,Hs,Ns,Ks⟩:=hq
   obtain⟨g1,x1⟩:=σ1
   (try dsimp only at Hs Ns Ks)
   obtain⟨q1s,q2s,q3s,q4s,q5s,q6s,q7s,rfl⟩:=Hs.owns
   have ns:=Ks.1
   have bs:=Ns.2
   (try dsimp only at ns bs)
   have NX:=Ks.2 ⟨12000000,n0⟩ bK
   have NY:=Ks.2 ⟨12000001,n0⟩ bK
   have TL:=Ks.2 ⟨12008008,n0+1+1+1+1+1+1⟩ bK
   simp only[go_sem, ↓reduceIte,Nat.reduceEqDiff,Nat.reduceAdd,Nat.reduceSub,Nat.reduceLeDiff,reduceCtorEq]at NX NY TL
   clear Ks
   refine hN _ _ ?_
   clear hN N
   (try((repeat(revert hN;revert N;apply Pn.out));refine wk (tw @NX (tw @NY @TL)) ?_;(repeat(refine Pn.mk ?_;intro N hN))))
   refine .inr (aY _ _ _ _ _ (fun r' σ2 hq=>?_) (o2 _))
   obtain⟨ia,Ha,Na,Ka⟩:=hq
   obtain⟨g2,x2⟩:=σ2
   (try dsimp only at Ha Na Ka)
   obtain⟨Da,hDa⟩:=Ha
   obtain⟨rfl,Ua⟩:=hDa
   obtain⟨oDa,rfl⟩:=Ua.ku
   have Ha:yJ g2 (.agg [.own oDa 0 a.ah.length]) a ia:=⟨_,rfl,Ua⟩
   clear Ua
   have na:=Ka.1
   have ba:=Na.2
   (try dsimp only at na ba)
   have Gb:∀i:Id,i.cV<x1->g2 i=g1 i:=fun i hi=>by
    have h4:=Ka.2 i bK
    have h5:=eL (i:=i) (n:=x1) hi
    simp only[go_sem, ↓reduceIte,Nat.reduceEqDiff,Nat.reduceAdd,Nat.reduceSub,Nat.reduceLeDiff,reduceCtorEq,h5]at h4
    exact h4
   have QO:=(Gb ⟨12000000,n0⟩ bK).trans NX
   have QP:=(Gb ⟨12000001,n0⟩ bK).trans NY
   have f2w:=(Gb ⟨12008008,n0+1+1+1+1+1+1⟩ bK).trans TL
   have N1:=Ka.2 ⟨12009002,x1⟩ bK
   simp only[go_sem, ↓reduceIte,Nat.reduceEqDiff,Nat.reduceAdd,Nat.reduceSub,Nat.reduceLeDiff,reduceCtorEq]at N1
   have Hs:=Hs.frame (g':=g2) fun i hi=>Gb i (by have:=bs i hi;omega)
   clear Ka
   refine hN _ _ ?_
   clear hN N
   (try((repeat(revert hN;revert N;apply Pn.out));refine wk (tw @QO (tw @QP (tw @f2w @N1))) ?_;(repeat(refine Pn.mk ?_;intro N hN))))
   refine .inr (aY _ _ _ _ _ (fun r' σ3 hq=>?_) (FM mixed (K:=fun r g ids=>(∃v0 i0,r=.gn [.agg [v0],.int .i64 c1]/\ki aa 3 g v0 L0 i0/\ids=i0)) (by
    rintro r g ids ⟨v0,i0,rfl,k0,rfl⟩
    exact⟨by simp[C0,CY k0.clean,CZ,AJ],(k0.hand TE)⟩) (by
    rintro r g g' ids ⟨v0,i0,rfl,k0,rfl⟩ hf
    exact⟨v0,ids,rfl,k0.frame (fun i hi=>hf i (by simp[hi])),rfl⟩) r2 (QW ((Hs.frame fun i hi=>by
    have h5:=eL (i:=i) (n:=x2) (by have:=bs i hi;omega)
    simp only[go_sem, ↓reduceIte,Nat.reduceEqDiff,Nat.reduceAdd,Nat.reduceSub,Nat.reduceLeDiff,reduceCtorEq,h5]).fz 1) ((Ha.frame fun i hi=>by
    have h5:=eL (i:=i) (n:=x2) (by have:=ba i hi;omega)
    simp only[go_sem, ↓reduceIte,Nat.reduceEqDiff,Nat.reduceAdd,Nat.reduceSub,Nat.reduceLeDiff,reduceCtorEq,h5]).fz 2))))
   obtain⟨iZ,⟨v0,iZ0,rfl,Z0,rfl⟩,NZ,KZ⟩:=hq
   obtain⟨g3,x3⟩:=σ3
   (try dsimp only at Z0 NZ KZ)
   have nZ:=KZ.1
   (try dsimp only at nZ)
   have N0:=NZ
   have b0:=N0.2
   (try dsimp only at b0)
   have P8:∀i:Id,i.cV<x2->g3 i=g2 i:=fun i hi=>by
    have h4:=KZ.2 i bK
    have h5:=eL (i:=i) (n:=x2) hi
    simp only[go_sem, ↓reduceIte,Nat.reduceEqDiff,Nat.reduceAdd,Nat.reduceSub,Nat.reduceLeDiff,reduceCtorEq,h5]at h4
    exact h4
   have C5:=(P8 ⟨12000000,n0⟩ bK).trans QO
   have C6:=(P8 ⟨12000001,n0⟩ bK).trans QP
   have N2:=(P8 ⟨12008008,n0+1+1+1+1+1+1⟩ bK).trans f2w
   have F9:=(P8 ⟨12009002,x1⟩ bK).trans N1
   have AW:=KZ.2 ⟨12010002,x2⟩ bK
   simp only[go_sem, ↓reduceIte,Nat.reduceEqDiff,Nat.reduceAdd,Nat.reduceSub,Nat.reduceLeDiff,reduceCtorEq]at AW
   have Hs:=Hs.frame (g':=g3) fun i hi=>P8 i (by have:=bs i hi;omega)
   have Ha:=Ha.frame (g':=g3) fun i hi=>P8 i (by have:=ba i hi;omega)
   clear KZ
   have TH:=Z0.cell.1
   have TJ:=Z0.cell.2
   unfold AV.cells at TH
   unfold AV.cell at TJ
   refine hN _ _ ?_
   clear hN N
   (try((repeat(revert hN;revert N;apply Pn.out));refine wk (tw @C5 (tw @C6 (tw @N2 (tw @F9 (tw @AW (tw @TH @TJ)))))) ?_;(repeat(refine Pn.mk ?_;intro N hN))))
   refine .inl ⟨_,aq.x (uD Z0.LP Fi) (wC (kW ((Z0.frame fun i hi=>by
    have h5:=eL (i:=i) (n:=x3) (by have:=b0 i hi;omega)
    simp only[go_sem, ↓reduceIte,Nat.reduceEqDiff,Nat.reduceAdd,Nat.reduceSub,Nat.reduceLeDiff,reduceCtorEq,h5]).SE E6)) (kW (Fi.SC _))),?_⟩
   refine hN _ _ ?_
   clear hN N
   (try((repeat(revert hN;revert N;apply Pn.out));refine wk (tw @C5 (tw @C6 (tw @N2 (tw @F9 (tw @AW @Kq))))) ?_;(repeat(refine Pn.mk ?_;intro N hN))))
   refine⟨_,jU.x (by rw[ak]at t1;exact t1) _,?_⟩
   refine hN _ _ ?_
   clear hN N
   (try((repeat(revert hN;revert N;apply Pn.out));refine wk (tw @C5 (tw @C6 (tw @N2 (tw @F9 (tw @AW @Kq))))) ?_;(repeat(refine Pn.mk ?_;intro N hN))))
   refine⟨_,aq.x (by rw[ak]at q1;exact q1) (by rw[<-ak];exact Mp (Hs.frame fun i hi=>by
    have h5:=eL (i:=i) (n:=x3) (by have:=bs i hi;omega)
    simp only[go_sem, ↓reduceIte,Nat.reduceEqDiff,Nat.reduceAdd,Nat.reduceSub,Nat.reduceLeDiff,reduceCtorEq,h5]) (AR _ _)),?_⟩
   refine hN _ _ ?_
   clear hN N
   (try((repeat(revert hN;revert N;apply Pn.out));refine wk (tw @C5 (tw @C6 (tw @N2 (tw @F9 (tw @AW @Kq))))) ?_;(repeat(refine Pn.mk ?_;intro N hN))))
   refine⟨_,jU.x (by rw[bh]at t2;exact t2) _,?_⟩
   refine hN _ _ ?_
   clear hN N
   (try((repeat(revert hN;revert N;apply Pn.out));refine wk (tw @C5 (tw @C6 (tw @N2 (tw @F9 (tw @AW @Kq))))) ?_;(repeat(refine Pn.mk ?_;intro N hN))))
   refine⟨_,aq.x (by rw[bh]at q2;exact q2) (by rw[<-bh];exact KM (Ha.frame fun i hi=>by
    have h5:=eL (i:=i) (n:=x3) (by have:=ba i hi;omega)
    simp only[go_sem, ↓reduceIte,Nat.reduceEqDiff,Nat.reduceAdd,Nat.reduceSub,Nat.reduceLeDiff,reduceCtorEq,h5]) (EU _ _)),?_⟩
   refine hN _ _ ?_
   clear hN N
   (try((repeat(revert hN;revert N;apply Pn.out));refine wk (tw @C5 (tw @C6 (tw @N2 (tw @F9 (tw @AW @Kq))))) ?_;(repeat(refine Pn.mk ?_;intro N hN))))
   have OI:=LS s
   refine .inr (aY _ _ _ _ _ (fun r' σ4 hq=>?_) (GO _ s _ 1 ai sm ai _ (fun i hi=>by have:=bs i hi;(try dsimp only);omega) Ns.1 (Hs.frame fun i hi=>by
    have h5:=eL (i:=i) (n:=x3) (by have:=bs i hi;omega)
    simp only[go_sem, ↓reduceIte,Nat.reduceEqDiff,Nat.reduceAdd,Nat.reduceSub,Nat.reduceLeDiff,reduceCtorEq,h5])))
   obtain⟨rfl,hM⟩:=hq
   obtain⟨g4,x4⟩:=σ4
   (try dsimp only at hM)
   have nM4:=hM.1
   (try dsimp only at nM4)
   have P9:∀i:Id,i.cV<x3->i∉is->g4 i=g3 i:=fun i hi hx=>by
    have h4:=hM.2 i bK hx
    have h5:=eL (i:=i) (n:=x3) hi
    simp only[go_sem, ↓reduceIte,Nat.reduceEqDiff,Nat.reduceAdd,Nat.reduceSub,Nat.reduceLeDiff,reduceCtorEq,h5]at h4
    exact h4
   have QQ:=(P9 ⟨12000000,n0⟩ bK (Ns.not bK)).trans C5
   have QR:=(P9 ⟨12000001,n0⟩ bK (Ns.not bK)).trans C6
   have f4w:=(P9 ⟨12008008,n0+1+1+1+1+1+1⟩ bK (Ns.not bK)).trans N2
   have TN:=(P9 ⟨12010002,x2⟩ bK (Ns.not bK)).trans AW
   have TM:=hM.2 ⟨12011006,x3⟩ bK (Ns.not bK)
   simp only[go_sem, ↓reduceIte,Nat.reduceEqDiff,Nat.reduceAdd,Nat.reduceSub,Nat.reduceLeDiff,reduceCtorEq,TH,TJ]at TM
   have Ha:=Ha.frame (g':=g4) fun i hi=>P9 i (by have:=ba i hi;omega) (Ns.not (by have:=ba i hi;omega))
   have Z0:=Z0.frame (g':=g4) fun i hi=>P9 i (by have:=b0 i hi;omega) (Ns.not (by have:=b0 i hi;omega))
   clear hM
   refine hN _ _ ?_
   clear hN N
   (try((repeat(revert hN;revert N;apply Pn.out));refine wk (tw @QQ (tw @QR (tw @f4w (tw @TN @TM)))) ?_;(repeat(refine Pn.mk ?_;intro N hN))))
   refine .inr (aY _ _ _ _ _ (fun r' σ5 hq=>?_) (yh _ a _ (1+BI s) ai ai _ (fun i hi=>by have:=ba i hi;(try dsimp only);omega) Ha))
   obtain⟨rfl,hM⟩:=hq
   obtain⟨g5,x5⟩:=σ5
   (try dsimp only at hM)
   have nM5:=hM.1
   (try dsimp only at nM5)
   have QV:∀i:Id,i.cV<x4->i∉ia->g5 i=g4 i:=fun i hi hx=>hM.2 i bK hx
   have N3:=(QV ⟨12000000,n0⟩ bK (Na.not bK)).trans QQ
   have N4:=(QV ⟨12000001,n0⟩ bK (Na.not bK)).trans QR
   have TQ:=(QV ⟨12008008,n0+1+1+1+1+1+1⟩ bK (Na.not bK)).trans f4w
   have TP:=(QV ⟨12011006,x3⟩ bK (Na.not bK)).trans TM
   have Z0:=Z0.frame (g':=g5) fun i hi=>QV i (by have:=b0 i hi;omega) (Na.not (by have:=b0 i hi;omega))
   clear hM
   have e3:decide (1+((BI s:Nat):Int)+3*(a.ah.length:Int)<0)=false:=decide_eq_false ai
   refine hN _ _ ?_
   clear hN N
   (try((repeat(revert hN;revert N;apply Pn.out));refine wk (tw @N3 (tw @N4 (tw @TQ (tw @TP @e3)))) ?_;(repeat(refine Pn.mk ?_;intro N hN))))
   refine .inl ⟨_,aq.x (uD Z0.LP Fi) (wC (kW (Z0.SE E6)) (kW (Fi.SC _))),?_⟩
   refine hN _ _ ?_
   clear hN N
   (try((repeat(revert hN;revert N;apply Pn.out));refine wk (tw @N3 (tw @N4 (tw @TQ (tw @TP (tw @Kq @e3))))) ?_;(repeat(refine Pn.mk ?_;intro N hN))))
   refine .inr (aY _ _ _ _ _ (fun r' σ6 hq=>?_) (DQ 1 ai ai _ (fun i hi=>by have:=b0 i hi;(try dsimp only);omega) Z0))
   obtain⟨rfl,hM,Y0⟩:=hq
   obtain⟨g6,x6⟩:=σ6
   (try dsimp only at hM Y0)
   have nM6:=hM.1
   (try dsimp only at nM6)
   have SB:∀i:Id,i.cV<x5->i∉iZ->g6 i=g5 i:=fun i hi hx=>hM.2 i bK hx
   have C7:=(SB ⟨12000000,n0⟩ bK (N0.not bK)).trans N3
   have C8:=(SB ⟨12000001,n0⟩ bK (N0.not bK)).trans N4
   have N6:=(SB ⟨12008008,n0+1+1+1+1+1+1⟩ bK (N0.not bK)).trans TQ
   have N5:=(SB ⟨12011006,x3⟩ bK (N0.not bK)).trans TP
   clear hM
   refine hN _ _ ?_
   clear hN N
   (try((repeat(revert hN;revert N;apply Pn.out));refine wk (tw @C7 (tw @C8 (tw @N6 @N5))) ?_;(repeat(refine Pn.mk ?_;intro N hN))))
   have Sw:decide (1+3*(L0.length:Int)<0)=false:=decide_eq_false ai
   refine .inl ⟨_,aq.x (uO 1 L0.length ai ai Y0.LP) (wC (kW (Y0.SE E6)) (ay _ _ _ _)),?_⟩
   refine hN _ _ ?_
   clear hN N
   have e5:decide (1+3*(L0.length:Int)=1+3*(L0.length:Int))=true:=decide_eq_true rfl
   (try((repeat(revert hN;revert N;apply Pn.out));refine wk (tw @C7 (tw @C8 (tw @N6 (tw @N5 (tw @Sw @e5))))) ?_;(repeat(refine Pn.mk ?_;intro N hN))))
   refine⟨_,jU.x (by rw[ak]at t1;exact t1) _,?_⟩
   refine hN _ _ ?_
   clear hN N
   (try((repeat(revert hN;revert N;apply Pn.out));refine wk (tw @C7 (tw @C8 (tw @N6 (tw @N5 (tw @Sw @e5))))) ?_;(repeat(refine Pn.mk ?_;intro N hN))))
   refine⟨_,jU.x (by rw[bh]at t2;exact t2) _,?_⟩
   refine hN _ _ ?_
   clear hN N
   (try((repeat(revert hN;revert N;apply Pn.out));refine wk (tw @C7 (tw @C8 (tw @N6 (tw @N5 (tw @Sw @e5))))) ?_;(repeat(refine Pn.mk ?_;intro N hN))))
   have rs:aq Tryz.prog 73 [.agg (ak s),.agg (bh a)] (.gn [.agg [KE aa L0],.int .i64 c1]):=fun n=>aY _ _ _ _ _ (fun r σ' hq=>by
    obtain⟨ids,⟨v0,i0,rfl,k0,rfl⟩,-⟩:=hq
    exact⟨_,by simp only[eP,bW,cU,tN,k0.s (n:=3) N9,eC,fF,Option.map_some]<;>rfl,rfl⟩) (r2 n)
   refine⟨_,aq.x (by rw[ak,bh]at rs;exact rs) (QW (by rw[<-ak];exact AR _ _) (by rw[<-bh];exact EU _ _)),?_⟩
   refine hN _ _ ?_
   clear hN N
   have Ai:=(BW (e:=aa) (L:=L0))
   have TF:=Ai.cell.1
   have TI:=Ai.cell.2
   unfold AV.cells at TF
   unfold AV.cell at TI
   generalize KE aa L0=u0 at TF TI Ai ⊢
   (try((repeat(revert hN;revert N;apply Pn.out));refine wk (tw @C7 (tw @C8 (tw @N6 (tw @N5 (tw @TF (tw @TI @Kq)))))) ?_;(repeat(refine Pn.mk ?_;intro N hN))))
   refine .inl ⟨_,aq.x (uD Ai Fi) (wC (kW (Ai.SC _)) (kW (Fi.SC _))),?_⟩
   refine hN _ _ ?_
   clear hN N
   (try((repeat(revert hN;revert N;apply Pn.out));refine wk (tw @C7 (tw @C8 (tw @N6 (tw @N5 @Kq)))) ?_;(repeat(refine Pn.mk ?_;intro N hN))))
   refine .inl ⟨_,aq.x (uO 1 L0.length ai ai Y0.LP) (wC (kW ((Y0.frame fun i hi=>by
    have h5:=eL (i:=i) (n:=x6) (by have:=b0 i hi;omega)
    simp only[go_sem, ↓reduceIte,Nat.reduceEqDiff,Nat.reduceAdd,Nat.reduceSub,Nat.reduceLeDiff,reduceCtorEq,h5]).SE E6)) (ay _ _ _ _)),?_⟩
   refine hN _ _ ?_
   clear hN N
   (try((repeat(revert hN;revert N;apply Pn.out));refine wk (tw @C7 (tw @C8 (tw @N6 (tw @N5 (tw @Sw @e5))))) ?_;(repeat(refine Pn.mk ?_;intro N hN))))
   exact bd (b:=true) (.inl rfl) (sd @Nat.zero_add) rfl
  ·rw[fX MT]at h2
   rw[ak]at h1
   rw[bh]at h2
   (repeat(first|((repeat(revert hN;revert N;apply Pn.out));refine wk (tw @ak.eq_1 (tw @bh.eq_1 @Gj)) ?_;(repeat(refine Pn.mk ?_;intro N hN)))|((try apply Or.inl);refine⟨_,aq.x (h1) (sd (tw @ak.eq_1 (tw @bh.eq_1 @Gj))),?_⟩;refine hN _ _ ?_;clear hN N)|((try apply Or.inl);refine⟨_,aq.x (h2) (sd (tw @ak.eq_1 (tw @bh.eq_1 @Gj))),?_⟩;refine hN _ _ ?_;clear hN N)))
   exact bd (b:=true) (.inl rfl) (sd @Nat.zero_add) rfl
 ·rw[fX Rh]at h1
  rw[ak]at h1
  (repeat(first|((repeat(revert hN;revert N;apply Pn.out));refine wk (tw @ak.eq_1 @bh.eq_1) ?_;(repeat(refine Pn.mk ?_;intro N hN)))|((try apply Or.inl);refine⟨_,aq.x (h1) (sd (tw @ak.eq_1 @bh.eq_1)),?_⟩;refine hN _ _ ?_;clear hN N)))
  exact bd (b:=true) (.inl rfl) (sd @Nat.zero_add) rfl
noncomputable def qc (m:bl) (a:List ae):List ae×Int:=if l6 m a=0 then(match qj m.aE m.dp [] a with|some R=>(R,0)|none=>([],7))else([],l6 m a)
def P4 (n:Nat) (L:List ae) (b:Bool) (r:AV) (σ':au):Prop:=∃v,r=.gn [.agg [v],.bool b]/\wK n L v σ'.get σ'.next/\(L=[]->v=.bS)
theorem P4.val {f:Nat} {args eS:List AV} {L:List ae} {b:Bool} {σ:au} (h:∀n,Call Tryz.prog f eS ⟨fun _=>none,n⟩ (P4 n L b)) (hv:de (dR σ.get) 6 args=some eS):Call Tryz.prog f args σ (fun r σ'=>P4 σ.next L b r σ'/\Kept σ σ'):=by
 refine ug mixed hv (aY _ _ _ _ _ (fun r σ' hq=>?_) (rN mixed (h σ.next)))
 obtain⟨⟨v,rfl,h2,h3⟩,hn⟩:=hq
 rcases h2 with⟨rfl,rfl⟩|⟨o,rfl,h2,h4,h5⟩
 ·exact⟨[],rfl,(fun i hi=>(by cases hi)),⟨.bS,rfl,.inl ⟨rfl,rfl⟩,fun _=>rfl⟩,hn,fun j hj=>(show wm [] σ.get σ'.get j=σ.get j from if_neg List.not_mem_nil)⟩
 refine⟨[o],rfl,fun i hi=>?_,⟨_,rfl,.inr ⟨o,rfl,(oE (by simp)).trans h2,h4,h5⟩,h3⟩,hn,fun j hj=>mb fun hc=>?_⟩
 ·rw[List.mem_singleton.1 hi]
  exact⟨_,h2,rfl,fun cs dS a ha=>by
   obtain⟨x,_,rfl⟩:=List.mem_map.1 dS
   simp[aa]at ha
   rcases ha with rfl|rfl|rfl<;>rfl⟩
 ·rw[List.mem_singleton.1 hc]at hj;omega
theorem wK.SD {m n:Nat} {L:List ae} {v:AV} {g:Rows} (h:wK m L v g n) (hz:L=[]->v=.bS) (k:Nat):V.fz g (k+3) v=some (KE aa L):=by
 by_cases h0:L=[]
 ·rw[hz h0,h0];exact aD _ _
 ·have h1:¬L.length=0:=fun e=>h0 (List.eq_nil_of_length_eq_zero e)
  rcases h with⟨e,_⟩|⟨o,rfl,h2,_⟩
  ·exact absurd e h0
  ·rw[KE,if_neg h1]
   exact gr (e:=aa) (sz:=3) h2 rfl fun x=>by simp[aa,ab,aj,ay]
theorem K2 (g:Rows) (n:Nat) (m:bl):de g (n+1) (ak m)=some (ak m):=by
 simp only[ak,ab,aj,bJ,ay,Option.map_some]
theorem Mb {g:Rows} {B:Id} {m:bl} (h:g B=some ⟨true,10,[ak m]⟩):fz (dR g) 6 (.ptr B 0 0)=some (.dt (ak m)):=
 pT (sz:=10) (rows:=[ak m]) (by simp[dR,h]) rfl (by rw[List.drop_zero];exact K2 _ _ _)
theorem Ma {g:Rows} {B:Id} {a:List ae} (h:g B=some ⟨true,1,[[.sl (a.map aa)]]⟩):fz (dR g) 6 (.ptr B 0 0)=some (.dt [.sl (a.map aa)]):=
 pT (sz:=1) (rows:=[[.sl (a.map aa)]]) (by simp[dR,h]) rfl (by simp only[List.drop_zero,ab,aj,bJ,Option.map_some])
theorem Ar (m:bl) (a:List ae) (hM:NA m) (hL:m.aE.length<=1048576):∃w,jr aa (qc m a).1 w/\jU Tryz.prog 71 [.agg (ak m),.agg [.sl (a.map aa)]] (.gn [.agg [w],.int .i64 (qc m a).2]):=by
 have h1:=DL m a hM hL
 by_cases h0:l6 m a=0
 ·have hq:l5 m=true/\nj m.da.aM a=true:=by
   unfold l6 at h0
   split at h0
   ·assumption
   ·cases h0
  have h2:=fun n=>uZ m (vW hq.1) a (km.1 hq.2) n
  have hr:qc m a=(match qj m.aE m.dp [] a with|some R=>(R,0)|none=>([],7)):=by rw[qc,if_pos h0]
  rw[hr]
  rw[h0]at h1
  generalize qj m.aE m.dp [] a=R at h2 ⊢
  refine⟨KE aa (R.getD []),by cases R<;>exact BW,?_⟩
  refine jU.body eG rfl fun Bk σ=>?_
  clear Bk
  rw[ak]at h1
  (repeat(first|((repeat(revert hN;revert N;apply Pn.out));refine wk @ak.eq_1 ?_;(repeat(refine Pn.mk ?_;intro N hN)))|((try apply Or.inl);refine⟨_,aq.x (h1) (sd @ak.eq_1),?_⟩;refine hN _ _ ?_;clear hN N)))
  refine .inr (aY _ _ _ _ _ (fun r σ2 hq=>?_) (P4.val h2 (by
   simp only[ab,aj]
   rw[Mb (m:=m) (sd @ak.eq_1),Ma (a:=a) (sd @Nat.zero_add)]
   rfl)))
  obtain⟨⟨v,rfl,hG,hz⟩,hK⟩:=hq
  obtain⟨g2,x2⟩:=σ2
  (try dsimp only at hG hK)
  have Gp:=hK.1
  (try dsimp only at Gp)
  have k2:=hK.2 ⟨71000002,σ.next⟩ bK
  simp only[go_sem, ↓reduceIte,Nat.reduceEqDiff,Nat.reduceAdd,Nat.reduceSub,Nat.reduceLeDiff,reduceCtorEq]at k2
  obtain⟨cv,dv⟩:=hG.cell
  unfold AV.cells at cv
  unfold AV.cell at dv
  refine hN _ _ ?_
  clear hN N
  cases R with
  |none=>
   have e1:(none:Option (List ae)).isSome=false:=rfl
   (try((repeat(revert hN;revert N;apply Pn.out));refine wk (tw @k2 (tw @cv (tw @dv @e1))) ?_;(repeat(refine Pn.mk ?_;intro N hN))))
   exact vO (.inl rfl) (vs:=[.agg [.bS],.int .i64 7]) (sd @Nat.zero_add) (by simp[KE,eX,bq,aV,aD,ab,aj,ay])
  |some R=>
   have e1:(some R:Option (List ae)).isSome=true:=rfl
   have e2:(some R:Option (List ae)).getD []=R:=rfl
   rw[e2]at hG hz
   (try((repeat(revert hN;revert N;apply Pn.out));refine wk (tw @k2 (tw @cv (tw @dv @e1))) ?_;(repeat(refine Pn.mk ?_;intro N hN))))
   have hF:=(hG.frame (g':=bD (bD (bD g2 ⟨71004004,x2⟩ ⟨true,1,[[.bS]]⟩) ⟨71004004,x2⟩ ⟨true,1,[[v]]⟩) ⟨71000002,σ.next⟩ ⟨true,1,[[v]]⟩) (Nat.le_refl _) fun x k3 k4=>by
    have h5:=eL (i:=x) (n:=x2) k4
    have h6:(x=(⟨71000002,σ.next⟩:Id))=False:=eq_false fun e=>by rw[e]at k3;(try dsimp only at k3);omega
    simp only[go_sem, ↓reduceIte,Nat.reduceEqDiff,Nat.reduceAdd,Nat.reduceSub,Nat.reduceLeDiff,reduceCtorEq,h5,h6]).SD hz 1
   exact vO (.inl rfl) (vs:=[.agg [v],.int .i64 0]) (sd (tw @cv @dv)) (by
    simp only[eX,bq,aV,ab,aj,ay]
    rw[hF];rfl)
 ·have hd:decide (l6 m a=0)=false:=decide_eq_false h0
  have hr:qc m a=([],l6 m a):=by rw[qc,if_neg h0]
  rw[hr]
  refine⟨.bS,.inl ⟨rfl,rfl⟩,?_⟩
  refine jU.body eG rfl fun Bk σ=>?_
  clear Bk
  rw[ak]at h1 ⊢
  (repeat(first|((repeat(revert hN;revert N;apply Pn.out));refine wk @hd ?_;(repeat(refine Pn.mk ?_;intro N hN)))|((try apply Or.inl);refine⟨_,aq.x (h1) (sd @hd),?_⟩;refine hN _ _ ?_;clear hN N)))
  exact vO (.inl rfl) (vs:=[.agg [.bS],.int .i64 (l6 m a)]) (sd @Nat.zero_add) (by simp[eX,bq,aV,aD,ab,aj,ay])
end Go.Proofs.YtgoljkjaameagaaGreat.V

namespace Go.Proofs.YtgoljkjaameagaaGreat.V
open Go.RowKit Go.Shelf Go.Lib Go.Sort
theorem xp {P:Program} {fn:Func} {p u:Tmp} {ty tz:TypeId} (h:fn.results= #[.cell p ty,.cell u tz]) (tmps:Array Value) (w:World) (g g':Nat) (t t':TypeId) (cs lH:Array Value) (fr QU:Nat×Nat) (d d':TypeDesc)
  (hp:tmps.getD p undef=.pointer (some ⟨g,0,none⟩)) (hq:tmps.getD u undef=.pointer (some ⟨g',0,none⟩))
  (hg:w.heap[g]? =some (.cells cs t fr)) (Fa:w.heap[g']? =some (.cells lH t' QU))
  (hu:P.underlying ty=some d) (hd:(match d with| .struct _| .array _ _=>true|_=>false)=true) (hi:(P.info? ty).map (·.size)=some cs.size)
  (CE:P.underlying tz=some d') (Qb:(match d' with| .struct _| .array _ _=>true|_=>false)=true) (pw:(P.info? tz).map (·.size)=some lH.size):
  (results fn tmps).run P w=.ok (.tuple #[.agg cs,.agg lH]) w:=by
 have Lu:tmps[p]?.getD undef=.pointer (some ⟨g,0,none⟩):=by simpa using hp
 have IU:tmps[u]?.getD undef=.pointer (some ⟨g',0,none⟩):=by simpa using hq
 simp[results,h,Lu,IU,asAddr,Sem.run_bind,run_loadVar_row w g t ty cs fr d hg hu hd hi,run_loadVar_row w g' t' tz lH QU d' Fa CE Qb pw]
theorem KR (tmps:Array Value) (W:World) (g g':Nat) (cs lH:Array Value) (fr QU:Nat×Nat) (hs:cs.size=2) (zi:lH.size=2)
  (h4:tmps.getD 4 undef=.pointer (some ⟨g,0,none⟩)) (h5:tmps.getD 5 undef=.pointer (some ⟨g',0,none⟩))
  (hg:W.heap[g]? =some (.cells cs 123 fr)) (Fa:W.heap[g']? =some (.cells lH 123 QU)):
  (results Tryz.f218 tmps).run Tryz.prog W=.ok (.tuple #[.agg cs,.agg lH]) W:=by
 have hi:(Tryz.prog.info? 123).map (·.size)=some 2:=by kernel_rfl
 exact xp (p:=4) (u:=5) rfl tmps W g g' _ _ cs lH fr QU _ _ h4 h5 hg Fa rfl rfl (hi.trans (by rw[hs])) rfl rfl (hi.trans (by rw[zi]))
theorem AA (w:World) (a b c d:Obj):((((w.alloc a).alloc b).alloc c).alloc d).drew.drew.heap[w.heap.size+1]? =some b/\((((w.alloc a).alloc b).alloc c).alloc d).drew.drew.heap[w.heap.size+1+1]? =some c:=by
 show((((w.heap.push a).push b).push c).push d)[w.heap.size+1]? =some b/\((((w.heap.push a).push b).push c).push d)[w.heap.size+1+1]? =some c
 refine⟨?_,?_⟩<;>simp[Array.getElem?_push,Array.getElem_push]
theorem Iq (w:World) (a k:Int) (h1:1<=k) (h4:k<=4) (ha: -1000000<=a) (hb:a<=1000000):Calls Tryz.prog 277 #[.int .i64 a,.int .i64 k] w fun e w'=>e=.returned (.int .i64 (a / k))/\w=w':=by
 go_enter Tryz.func277,Tryz.ntmps277
 have r6:¬k=0:=ai
 go_wp2_with fail
 ·go_ret
  have hn:=Ic h1 h4 ‹a<0›
  have hB:=lR h1 h4 ha hb
  have hq:wrap64 (-((-a+k-1) / k))=a / k:=by
   have e: -((-a+k-1) / k)=a / k:=by
    rw[<-hn,show 0-a+k-1= -a+k-1 by omega]
    generalize (-a+k-1) / k=q
    omega
   rw[e]
   exact IntWalk.wrap64_in _ ai
  exact⟨Ca hq,rfl⟩
 ·go_ret
  exact⟨rfl,rfl⟩
theorem AB (w:World) (x y k:Int) (h1:1<=k) (h4:k<=4) (hx: -1000000<=x/\x<=1000000) (hy: -1000000<=y/\y<=1000000):Calls Tryz.prog 218 #[.agg #[.int .i64 x,.int .i64 y],.int .i64 k] w fun e w'=>e=.returned (.tuple #[.agg #[.int .i64 (x / k),.int .i64 (y / k)],.agg #[.int .i64 (x-k*(x / k)),.int .i64 (y-k*(y / k))]])/\Below w.heap.size w w':=by
 go_enter Tryz.func218,Tryz.ntmps218
 go_wp2_with fail
 go_region_held3 (fun w'=>w'.cell? ⟨w.heap.size,0,none⟩=some (.int .i64 x)/\w'.cell? ⟨w.heap.size,1,none⟩=some (.int .i64 y))
  (first|go_keep)
  (first|(go_at_call 277;refine(Iq _ _ _ h1 h4 ai ai).mono ?_;rintro e w' ⟨rfl,rfl⟩)|fail)
 all_goals go_wp2_with fail
 all_goals go_region
 all_goals go_wp2_with fail
 all_goals
  have hBx:=lR h1 h4 hx.1 hx.2
  have hBy:=lR h1 h4 hy.1 hy.2
  have Qh: -4000000<=k*(x / k)/\k*(x / k)<=4000000:=by rcases four h1 h4 with rfl|rfl|rfl|rfl<;>omega
  have hmy: -4000000<=k*(y / k)/\k*(y / k)<=4000000:=by rcases four h1 h4 with rfl|rfl|rfl|rfl<;>omega
  have w1:wrap64 (k*(x / k))=k*(x / k):=IntWalk.wrap64_in _ ai
  have w2:wrap64 (k*(y / k))=k*(y / k):=IntWalk.wrap64_in _ ai
  have w3:wrap64 (x-k*(x / k))=x-k*(x / k):=IntWalk.wrap64_in _ ai
  have w4:wrap64 (y-k*(y / k))=y-k*(y / k):=IntWalk.wrap64_in _ ai
  simp only[w1,w2,w3,w4]
  exact bodyPost_ret (KR _ _ (w.heap.size+1) (w.heap.size+1+1) _ _ _ _ rfl rfl rfl rfl (AA _ _ _ _ _).1 (AA _ _ _ _ _).2) rfl ⟨rfl,(by repeat(first|(with_reducible exact Below.refl _ _)|(refine Below.alloc ?_ (by simp;try omega) _)|(refine Below.drew ?_)|(refine H0 ?_ _)|(refine Below.setCell ?_ (by simp;try omega) _)))⟩
end Go.Proofs.YtgoljkjaameagaaGreat.V

namespace Go.Proofs.YtgoljkjaameagaaGreat.V
open Go.RowKit Go.Shelf
attribute [local go_sem] Oper.semAt_some
section
variable {F:Fence} {n:Nat} {P:Program} {ops:Array Oper} {Q:Exit->Act->World->Prop} {rest:List Oper} {a:Act} {w:World} {o:Oper}
end
end Go.Proofs.YtgoljkjaameagaaGreat.V

namespace Go.Proofs.YtgoljkjaameagaaGreat.V
open Go.RowKit
attribute [local irreducible] dQ wpOps ft Call
attribute [local go_sem] aA eV ef e9 e8 cZ upd bQ K.av cr AV.cells AV.cell rowOf rowsOf part ld rowAt bD bL dm dD fE bu cK dO fa eF db dH cI cH dw dx bz aQ cz bx cD cC dF dI dG cw bC cJ dE bw az cF bZ fD bj cq bB aJ cX aX dn AV.undef bp br dy dC du dz cm dM dP bU dK dJ cE cG List.getD_cons_zero List.getD_cons_succ List.getD_nil List.all_cons List.all_nil Bool.and_true Bool.true_and Bool.and_self Bool.not_true Bool.not_false Option.map_some Option.map_none Option.bind_some Option.bind_none List.length_cons List.length_nil List.take_succ_cons List.take_zero List.take_nil List.drop_succ_cons List.drop_zero List.drop_nil List.head?_cons List.map_cons List.map_nil List.getElem?_cons_zero List.getElem?_cons_succ List.cons_append List.nil_append List.append_nil List.length_map List.set_cons_zero List.set_cons_succ Nat.reduceMul eq_self Int.toNat_natCast Int.natCast_nonneg and_self true_and and_true decide_true decide_false Bool.false_eq_true Nat.zero_add Nat.add_zero List.contains_cons List.contains_nil Bool.or_false Bool.false_or beq_self_eq_true Nat.reduceBEq ne_eq not_true_eq_false not_false_eq_true Id.mk.injEq false_and and_false Nat.reduceLT Int.reduceLE Int.reduceLT Int.reduceToNat Int.reduceNeg Int.reduceAdd Nat.le_refl List.length_append beq_true beq_false Bool.not_eq_eq_eq_not or_false false_or dR ab aj ay bo bJ aD aV aH aU cu bq
end Go.Proofs.YtgoljkjaameagaaGreat.V

namespace Go.Proofs.YtgoljkjaameagaaGreat.V
open Go.RowKit
abbrev En:=aO×AV
def so:List En->aO->AV->List En
 |[],q,v=>[(q,v)]
 |e::es,q,v=>if e.1=q then(q,v)::es else e::so es q v
def AL:List En->aO->List En
 |[],_=>[]
 |e::es,q=>if e.1=q then es else e::AL es q
theorem Jm {q:aO} {v:AV} {x:En}:∀{es:List En},x.1≠q->(x∈so es q v↔x∈es)
 |[],h=>by
  rw[so,List.mem_singleton]
  exact⟨fun e=>absurd (by rw[e]) h,fun e=>by cases e⟩
 |e::es,h=>by
  have ih:=@Jm q v x es h
  rw[so]
  split
  ·rename_i he
   rw[List.mem_cons,List.mem_cons]
   exact⟨fun h1=>h1.elim (fun e=>absurd (by rw[e]) h) .inr,fun h1=>h1.elim (fun e'=>absurd (by rw[e'];exact he) h) .inr⟩
  ·rw[List.mem_cons,List.mem_cons,ih]
theorem G0 (q:aO) (v:AV):∀es:List En,(q,v)∈so es q v
 |[]=>by simp[so]
 |e::es=>by
  have ih:=G0 q v es
  rw[so]
  split
  ·simp
  ·exact List.mem_cons_of_mem _ ih
theorem BB {q:aO} {v:AV} {p:aO}:∀{es:List En},p∈(so es q v).map (·.1)->p=q∨p∈es.map (·.1)
 |[],h=>by simp[so]at h;exact .inl h
 |e::es,h=>by
  rw[so]at h
  split at h
  ·simp only[List.map_cons,List.mem_cons]at h ⊢
   exact h.imp_right .inr
  ·simp only[List.map_cons,List.mem_cons]at h ⊢
   rcases h with h|h
   ·exact .inr (.inl h)
   ·exact(BB h).imp_right .inr
theorem Ea (q:aO) (v:AV):∀{es:List En},(es.map (·.1)).Nodup->((so es q v).map (·.1)).Nodup
 |[],_=>by simp[so]
 |e::es,h=>by
  obtain⟨h1,h2⟩:=List.nodup_cons.1 (show(e.1::es.map (·.1)).Nodup from h)
  rw[so]
  split
  ·rename_i he
   refine List.nodup_cons.2 ⟨?_,h2⟩
   show q∉_
   rw[<-he];exact h1
  ·rename_i he
   refine List.nodup_cons.2 ⟨fun hc=>?_,Ea q v h2⟩
   rcases BB hc with h3|h3
   ·exact he h3
   ·exact h1 h3
theorem Jl {q:aO} {x:En}:∀{es:List En},x.1≠q->(x∈AL es q↔x∈es)
 |[],_=>Iff.rfl
 |e::es,h=>by
  have ih:=@Jl q x es h
  rw[AL]
  split
  ·rename_i he
   rw[List.mem_cons]
   exact⟨.inr,fun h1=>h1.elim (fun e'=>absurd (by rw[e'];exact he) h) id⟩
  ·rw[List.mem_cons,List.mem_cons,ih]
theorem AM {q:aO}:∀{es:List En},(AL es q).Sublist es
 |[]=>List.Sublist.slnil
 |e::es=>by
  rw[AL]
  split
  ·exact List.sublist_cons_self _ _
  ·exact(AM (es:=es)).cons_cons _
theorem NS (q:aO) {es:List En} (h:(es.map (·.1)).Nodup):((AL es q).map (·.1)).Nodup:=((AM (q:=q) (es:=es)).map _).nodup h
theorem KY {q:aO}:∀{es:List En},(es.map (·.1)).Nodup->∀e∈AL es q,e.1≠q
 |[],_,e,h=>by cases h
 |x::es,hn,e,h=>by
  obtain⟨h1,h2⟩:=List.nodup_cons.1 (show(x.1::es.map (·.1)).Nodup from hn)
  rw[AL]at h
  split at h
  ·rename_i hx
   intro he
   exact h1 (by rw[hx,<-he];exact List.mem_map_of_mem h)
  ·rename_i hx
   rcases List.mem_cons.1 h with rfl|h
   ·exact hx
   ·exact KY h2 e h
structure OpS (g:Rows) (n:Nat) (es:List En) (fs:aO->List Int) (A:aO->Prop):Prop where
 nodup:(es.map (·.1)).Nodup
 at_:∀q,A q->(fs q=[]/\∀e∈es,e.1≠q)∨(fs q≠[]/\∃o:Id,(q,AV.own o 0 (fs q).length)∈es/\o.cV<n/\g o=some ⟨true,1,(fs q).map bt⟩)
theorem bind_some {s:ax} {F:aO->Int} {p:aO} {t:Int}:∀d:Nat,0<nN s F p t d->∃k:Nat,k<d/\0<=F (eK p k)
 |0,h=>by simp[nN]at h
 |d+1,h=>by
  by_cases h0:0<=F (eK p d)
  ·exact⟨d,Nat.lt_succ_self d,h0⟩
  ·rw[nN,if_neg h0,Int.add_zero]at h
   obtain⟨k,hk,h1⟩:=bind_some d h
   exact⟨k,Nat.lt_succ_of_lt hk,h1⟩
theorem Pk {P:Program} {w:World} {D:Nat->Prop} {ι:Names} {x y:Int} {v:Value} (h:dd P w D ι (.agg [.int .i64 x,.int .i64 y]) v):v=.agg #[.int .i64 x,.int .i64 y]:=by
 obtain⟨vs,f,rfl,fu,_,h1,h2⟩:=iu h
 have v0:=h1 0 (by simp)
 have v1:=h1 1 (by simp)
 rw[dL (h2 0 _ rfl)]at v0
 rw[dL (h2 1 _ rfl)]at v1
 obtain⟨vl⟩:=vs
 match vl,fu with
 |[a,b],_=>
  simp at v0 v1
  rw[v0,v1]
theorem B6 {P:Program} {w:World} {D:Nat->Prop} {ι:Names} (k1 k2:IntKind) (x y:Int):dd P w D ι (.agg [.int k1 x,.int k2 y]) (.agg #[.int k1 x,.int k2 y]):=by
 refine .eM _ _ (.agg _ _ (fun j=>if j=0 then .int k1 x else .int k2 y) rfl (by simp[AV.cell]) (fun j hj=>?_) (fun j a ha=>?_))
 ·have:j=0∨j=1:=by simp at hj;omega
  rcases this with rfl|rfl<;>rfl
 ·match j,ha with
  |0,ha=>simp at ha;subst ha;exact .int _ _
  |1,ha=>simp at ha;subst ha;exact .int _ _
  |j+2,ha=>simp at ha
theorem FR (p:aO) (k:Int) (h1:1<=k) (h4:k<=4) (hx: -1000000<=p.fb/\p.fb<=1000000) (hy: -1000000<=p.eT/\p.eT<=1000000):aq Tryz.prog 218 [.agg (ar p),.int .i64 k] (.gn [.agg (ar (Az p k)),.agg (ar (H8 p k))]):=by
 intro n
 refine fB fun hs D ι w vs S U A=>?_
 obtain⟨u,us,rfl,g1,g2⟩:=kf A
 obtain⟨u',us',g3,g4,g5⟩:=kf g2
 simp at g3;subst g3
 have:=vJ g5
 simp at this;subst this
 obtain rfl:=Pk g1
 rw[dL g4]
 refine(AB w p.fb p.eT k h1 h4 hx hy).mono ?_
 rintro e w' ⟨rfl,hb⟩
 exact⟨.gn [.agg (ar (Az p k)),.agg (ar (H8 p k))],_,n,D,ι,_,rfl,⟨_,by simp only[ar,eP,tN,bW,cU,eC,Option.map_some],rfl⟩,Step.stay S hb.block hb.size hb.os hb.tape hb.output (fun _ h=>h) (fun _ h=>.inl h) (fun _ _ h=>h),
  S.stay hb.block hb.size (fun _ h=>h) (fun b hd=>Nat.lt_of_lt_of_le (S.dead b hd) hb.size) (fun _ h=>.inl h) (fun _ _ h=>h),U,Nat.le_refl _,B8 (B6 _ _ _ _) (B6 _ _ _ _)⟩
def R3 (P:Program) (u0 u1:VC) (F:(Ex->Env->au->Prop)->Env->au->Prop) (Q:Ex->Env->au->Prop):Env->au->Prop:=dQ (Sound P) u0 (cX (dQ (Sound P) u1 (cX (F Q) Q)) Q)
def Pf (P:Program) (u0 u1:VC) (F:(Ex->Env->au->Prop)->Env->au->Prop) (Q:Ex->Env->au->Prop):Env->au->Prop:=dQ (Call P) u0 (cX (dQ (Call P) u1 (cX (F Q) Q)) Q)
theorem JE {P:Program} (hm:P.follows .mixedOrders=true) {u0 u1:VC} {F F':(Ex->Env->au->Prop)->Env->au->Prop} {Q:Ex->Env->au->Prop} (hF:∀e s,F Q e s->F' Q e s) {env:Env} {σ:au} (h:Pf P u0 u1 F Q env σ):R3 P u0 u1 F' Q env σ:=
 mh hm (ox fun _ _ h=>mh hm (ox hF) h) h
noncomputable def BA:Go.Code:=Tryz.f144.body.getD .skip
noncomputable def nz:Go.Code:=EH (EH BA)
def zV:VC:=(.seq (.eA false [⟨(some 18),(.fx 0 (.t 3)),none,144002000,[]⟩,⟨(some 19),(.load false 1 (.t 18)),none,144002001,[]⟩,⟨(some 20),(.len (.t 19)),none,144002002,[]⟩,⟨(some 21),(.dq (.k (.int .i64 0))),none,144002003,[]⟩]) (.block 0 (.loop (.seq (.eA false [⟨(some 22),(.bin .lss .i64 (.t 21) (.t 20)),none,144003000,[]⟩]) (.seq (.cond (.t 22) .skip (.exit 0)) (.seq (.block 1 (.seq (.eA false [⟨(some 23),(.ea 3 (.t 19) (.t 21)),none,144004000,[]⟩,⟨(some 24),(.load true 3 (.t 23)),none,144004001,[]⟩,⟨(some 8),(.new [(.int .i64 0),(.int .i64 0),(.int .i64 0)]),none,144004002,[]⟩,⟨none,(.store 3 (.t 8) (.t 24)),none,144004003,[]⟩]) (.seq (.eA false [⟨(some 25),(.fx 9 (.t 2)),none,144005000,[]⟩,⟨(some 26),(.load false 1 (.t 25)),none,144005001,[]⟩,⟨(some 27),(.fx 2 (.t 8)),none,144005002,[]⟩,⟨(some 28),(.load false 1 (.t 27)),none,144005003,[]⟩,⟨(some 29),(.ea 1 (.t 26) (.t 28)),none,144005004,[]⟩,⟨(some 30),(.load false 1 (.t 29)),none,144005005,[]⟩,⟨(some 9),(.dq (.t 30)),none,144005006,[]⟩]) (.seq (.eA false [⟨(some 32),(.fx 0 (.t 8)),none,144006000,[]⟩,⟨(some 33),(.load true 2 (.t 32)),none,144006001,[]⟩,⟨(some 34),(.fx 8 (.t 2)),none,144006002,[]⟩,⟨(some 35),(.load false 1 (.t 34)),none,144006003,[]⟩,⟨(some 36),(.call 218 [(.t 33),(.t 35)]),none,144006004,[]⟩,⟨(some 31),(.dq (.t 36)),none,144006005,[]⟩,⟨(some 37),(.extract 0 (.t 31)),none,144006006,[]⟩,⟨(some 38),(.extract 1 (.t 31)),none,144006007,[]⟩,⟨(some 10),(.new [(.int .i64 0),(.int .i64 0)]),none,144006008,[]⟩,⟨(some 11),(.new [(.int .i64 0),(.int .i64 0)]),none,144006009,[]⟩,⟨none,(.store 2 (.t 10) (.t 37)),none,144006010,[]⟩,⟨none,(.store 2 (.t 11) (.t 38)),none,144006011,[]⟩]) (.seq (.eA false [⟨(some 40),(.dq (.t 6)),none,144007000,[]⟩,⟨(some 41),(.load true 2 (.t 10)),none,144007001,[]⟩,⟨(some 42),(.mq (.look ⟨true,[.tI,.tI]⟩ true (.int .i64 0)) [(.t 40),(.t 41)]),none,144007002,[]⟩,⟨(some 39),(.dq (.t 42)),none,144007003,[]⟩,⟨(some 43),(.extract 0 (.t 39)),none,144007004,[]⟩,⟨(some 44),(.extract 1 (.t 39)),none,144007005,[]⟩,⟨(some 12),(.dq (.t 43)),none,144007006,[]⟩,⟨(some 13),(.dq (.t 44)),none,144007007,[]⟩]) (.block 2 (.seq (.eA false [⟨(some 49),(.dq (.t 9)),none,144009000,[]⟩,⟨(some 50),(.bin .lss .i64 (.t 49) (.k (.int .i64 0))),none,144009001,[]⟩,⟨(some 48),(.dq (.t 50)),none,144009002,[]⟩]) (.cond (.t 48) .skip (.seq (.eA false [⟨(some 52),(.dq (.t 13)),none,144010000,[]⟩,⟨(some 53),(.dq (.t 52)),none,144010001,[]⟩,⟨(some 54),(.dq (.t 12)),(some (53,true)),144010002,[]⟩,⟨(some 55),(.dq (.t 9)),(some (53,true)),144010003,[]⟩,⟨(some 56),(.MJ true .tI (.t 54) (.t 55)),(some (53,true)),144010004,[]⟩,⟨(some 57),(.pick (.t 53) (.t 56) (.k (.bool false))),none,144010005,[]⟩,⟨(some 51),(.dq (.t 57)),none,144010006,[]⟩]) (.cond (.t 51) (.seq (.eA false [⟨(some 58),(.build [.bS] []),none,144011000,[]⟩,⟨none,(.store 1 (.t 4) (.t 58)),none,144011001,[]⟩,⟨(some 5),(.dq (.k (.bool false))),none,144011002,[]⟩]) .ret) (.eA false [⟨(some 45),(.dq (.t 6)),none,144008000,[]⟩,⟨(some 46),(.load true 2 (.t 10)),none,144008001,[]⟩,⟨(some 47),(.dq (.t 9)),none,144008002,[]⟩,⟨none,(.mw (.set ⟨true,[.tI,.tI]⟩) [(.t 45),(.t 46),(.t 47)]),none,144008003,[]⟩]))))))))))) (.eA false [⟨(some 59),(.bin .add .i64 (.t 21) (.k (.int .i64 1))),none,144012000,[]⟩,⟨(some 21),(.dq (.t 59)),none,144012001,[]⟩])))))))
def zW:VC:=(.eA false [⟨(some 14),(.dq (.k .bS)),none,144013000,[]⟩])
def zX:List bH:=[⟨(some 60),(.dq (.t 6)),none,144014000,[]⟩]
def wG:List bH:=[⟨(some 65),(.extract 0 (.t 64)),none,144016001,[]⟩,⟨(some 66),(.extract 1 (.t 64)),none,144016002,[]⟩,⟨(some 15),(.new [(.int .i64 0),(.int .i64 0)]),none,144016003,[]⟩,⟨none,(.store 2 (.t 15) (.t 65)),none,144016004,[]⟩,⟨(some 16),(.dq (.t 66)),none,144016005,[]⟩]
def wH:VC:=(.eA false [⟨(some 67),(.dq (.t 14)),none,144017000,[]⟩,⟨(some 68),(.load true 2 (.t 15)),none,144017001,[]⟩,⟨(some 69),(.dq (.t 16)),none,144017002,[]⟩,⟨(some 70),(.build [(.int .i64 0),(.int .i64 0),(.int .i64 0)] [(0,(2,(.t 68))),(2,(1,(.t 69)))]),none,144017003,[]⟩,⟨(some 71),(.lr 3 1 [(.t 70)]),none,144017004,[]⟩,⟨(some 72),(.append 3 (.t 67) (.t 71)),none,144017005,[]⟩,⟨(some 14),(.dq (.t 72)),none,144017006,[]⟩])
def qf:VC:=(.seq (.eA false [⟨(some 73),(.dq (.t 14)),none,144018000,[]⟩,⟨(some 74),(.call 118 [(.t 73)]),none,144018001,[]⟩,⟨none,(.store 1 (.t 4) (.t 74)),none,144018002,[]⟩,⟨(some 5),(.dq (.k (.bool true))),none,144018003,[]⟩]) .ret)
def oG:List nh:=[(.cell true 1 4),(.tmp 5)]
def zT:O:=(.t 60)
def EC:VC:=(.eA false [⟨(some 2),(.box (.t 0)),none,144000000,[]⟩,⟨(some 3),(.box (.t 1)),none,144000001,[]⟩,⟨(some 4),(.new [.bS]),none,144000002,[]⟩,⟨(some 5),(.dq (.k (.bool false))),none,144000003,[]⟩])
def ED:VC:=(.eA false [⟨(some 17),(.mq (.new ⟨true,[.tI,.tI]⟩) []),none,144001000,[]⟩,⟨(some 6),(.dq (.t 17)),none,144001001,[]⟩])
theorem Pd:HN Tryz.prog [] Tryz.f144.ntmps 144 144016000 61 62 63 64 (Tm nz 0) (Tm nz 1) (R7 nz) (R8 nz) (rgR nz) wG wH:=⟨by kernel_rfl,by kernel_rfl,by kernel_rfl,by kernel_rfl,by kernel_rfl,by kernel_rfl,by kernel_rfl,by kernel_rfl,by kernel_rfl,by decide,by decide,by decide,by decide,by decide,by kernel_rfl,by kernel_rfl⟩
theorem Ps:nz=.seq (KG nz) (.seq (KG (EH nz)) (.seq (.seq (.region 14 (rgP nz++[rgO nz]).toArray false) (.block 3 (.loop (JP 15 16 3 4 63 (Tm nz 0) (Tm nz 1) (R7 nz) (R8 nz) (rgR nz))))) (EH (EH (EH nz))))):=by kernel_rfl
theorem NR (m:MK):CS Tryz.prog Tryz.f144.ntmps nz (Pq Tryz.prog zV zW zX m zT 144014999 61 62 63 64 wG wH 3 4 qf):=by
 rw[Ps]
 exact CS.seq (CS.code (md:=[]) (fid:=144) mixed (by kernel_rfl)) (CS.seq (CS.code (md:=[]) (fid:=144) mixed (by kernel_rfl)) (CS.seq (CS.rng (tm:=.tmp 60) (sA:=144014000) (t:=148) (k:=123) (e:=2) mixed Pd (by kernel_rfl) (by kernel_rfl) (by kernel_rfl) (by decide) (by kernel_rfl) (by kernel_rfl) (by kernel_rfl)) (CS.code (md:=[]) (fid:=144) mixed (by kernel_rfl))))
theorem Mn:BA=.seq (KG BA) (.seq (KG (EH BA)) nz):=by kernel_rfl
theorem KX (m:MK):CS Tryz.prog Tryz.f144.ntmps BA (R3 Tryz.prog EC ED (Pq Tryz.prog zV zW zX m zT 144014999 61 62 63 64 wG wH 3 4 qf)):=by
 rw[Mn]
 exact CS.seq (CS.code (md:=[]) (fid:=144) mixed (by kernel_rfl)) (CS.seq (CS.code (md:=[]) (fid:=144) mixed (by kernel_rfl)) (NR m))
theorem Pm {args:List AV} {σ:au} {K:AV->au->Prop} (ha:args.length=Tryz.f144.params.size) (m:MK) (h:Pf Tryz.prog EC ED (Pp Tryz.prog zV zW zX m zT 144014999 61 62 63 64 wG wH 3 4 qf) (kb oG K) (bQ args) σ):Call Tryz.prog 144 args σ K:=
 CS.fn Tryz.func144 (by kernel_rfl) (by kernel_rfl) ha.symm (by decide) (KX m) (JE mixed (fun _ _=>JQ mixed) h)
end Go.Proofs.YtgoljkjaameagaaGreat.V

namespace Go.Proofs.YtgoljkjaameagaaGreat.V
open Go.RowKit
attribute [local irreducible] dQ wpOps ft Call
attribute [local go_sem] aA eV ef e9 e8 cZ upd bQ K.av cr AV.cells AV.cell rowOf rowsOf part ld rowAt bD bL dm dD fE bu cK dO fa eF db dH cI cH dw dx bz aQ cz bx cD cC dF dI dG cw bC cJ dE bw az cF bZ fD bj cq bB aJ cX aX dn AV.undef bp br dy dC du dz cm dM dP bU dK dJ cE cG List.getD_cons_zero List.getD_cons_succ List.getD_nil List.all_cons List.all_nil Bool.and_true Bool.true_and Bool.and_self Bool.not_true Bool.not_false Option.map_some Option.map_none Option.bind_some Option.bind_none List.length_cons List.length_nil List.take_succ_cons List.take_zero List.take_nil List.drop_succ_cons List.drop_zero List.drop_nil List.head?_cons List.map_cons List.map_nil List.getElem?_cons_zero List.getElem?_cons_succ List.cons_append List.nil_append List.append_nil List.length_map List.set_cons_zero List.set_cons_succ Nat.reduceMul eq_self Int.toNat_natCast Int.natCast_nonneg and_self true_and and_true decide_true decide_false Bool.false_eq_true Nat.zero_add Nat.add_zero List.contains_cons List.contains_nil Bool.or_false Bool.false_or beq_self_eq_true Nat.reduceBEq ne_eq not_true_eq_false not_false_eq_true Id.mk.injEq false_and and_false Nat.reduceLT Int.reduceLE Int.reduceLT Int.reduceToNat Int.reduceNeg Int.reduceAdd Nat.le_refl List.length_append beq_true beq_false Bool.not_eq_eq_eq_not or_false false_or dR ab aj ay bo bJ aD aV aH aU cu bq
def sY (p:ae->Bool) (l:List ae):List ae:=l.filter fun x=> !p x
theorem O4 {p:ae->Bool} {l:List ae} {j:Nat} (hj:j<l.length):sY p (l.take (j+1))=sY p (l.take j)++if p l[j]=true then[]else[l[j]]:=by
 unfold sY
 rw[List.take_succ_eq_append_getElem hj,List.filter_append]
 congr 1
 cases h:p l[j]<;>simp[h]
theorem O3 {p:ae->Bool} {l:List ae} (h:∀b∈l,p b=false):sY p l=l:=by
 unfold sY
 rw[List.filter_eq_self]
 intro b hb
 rw[h b hb];rfl
structure DlL (p:ae->Bool) (bs:List ae) (j:Nat) (R:List ae):Prop where
 len:R.length=bs.length
 pre:R.take (sY p (bs.take j)).length=sY p (bs.take j)
 post:∀x,j<=x->R[x]? =bs[x]?
 lt:(sY p (bs.take j)).length<j
def MkT (n:Nat) (L:List ae) (r:AV) (σ':au):Prop:=∃(o:Id) (J:List ae),r=.agg [.own o 0 L.length]/\σ'.get o=some ⟨true,3,(L++J).map aa⟩/\n<=o.cV/\o.cV<σ'.next
def resS (s:dc) (a:List ae):dc:=⟨s.aM,⟨a⟩,s.aC⟩
structure RepP (s:dc) (r a:List ae):Prop where
 sys:CO s
 right:pC s.aM r
 asm:pC s.aM a
 wr:FL s.cj.ah r=true
 wa:FL s.cj.ah a=true
def InM (X:Id) (st:CL) (e7:AV) (g:Rows) (n:Nat):Prop:=∃o u:Id,g X=some ⟨true,1,[[.own o 0 st.2.length]]⟩/\g o=some ⟨true,3,st.2.map aa⟩/\e7=.own u 0 st.1.length/\g u=some ⟨true,3,st.1.map aa⟩/\(o=u->False)/\(X=u->False)/\u.cV<n/\(X=o->False)/\o.cV<n/\X.cV<n
end Go.Proofs.YtgoljkjaameagaaGreat.V

namespace Go.Proofs.YtgoljkjaameagaaGreat.V
open Go.RowKit
theorem O1 {a:List ae} (h:nI a) {i:Nat} (hi:i<a.length):eO a a[i].bE=i:=by
 have h0:0<=eO a a[i].bE:=by
  rcases Int.lt_or_le (eO a a[i].bE) 0 with h0|h0
  ·exact absurd rfl (Bu.1 h0 a[i] (List.getElem_mem hi))
  ·exact h0
 obtain⟨h1,h2⟩:=lg h0
 have h3:(eO a a[i].bE).toNat=i:=by
  rcases Nat.lt_trichotomy (eO a a[i].bE).toNat i with h4|h4|h4
  ·have:=h _ _ h4 hi
   rw[h2,eZ hi,j9]at this;cases this
  ·exact h4
  ·have:=h _ _ h4 h1
   rw[h2,eZ hi,j9]at this;cases this
 omega
theorem NJ {a:List ae} (h:nI a) {x:ae} (hx:x∈a):nk a x.bE=x.bR:=by
 obtain⟨i,hi,rfl⟩:=List.getElem_of_mem hx
 unfold nk
 rw[O1 h hi,if_pos ai,Int.toNat_natCast,eZ hi]
end Go.Proofs.YtgoljkjaameagaaGreat.V

namespace Go.Proofs.YtgoljkjaameagaaGreat.V
open Go.RowKit
attribute [local irreducible] dQ wpOps ft Call
attribute [local go_sem] aA eV ef e9 e8 cZ upd bQ K.av cr AV.cells AV.cell rowOf rowsOf part ld rowAt bD bL dm dD fE bu cK dO fa eF db dH cI cH dw dx bz aQ cz bx cD cC dF dI dG cw bC cJ dE bw az cF bZ fD bj cq bB aJ cX aX dn AV.undef bp br dy dC du dz cm dM dP bU dK dJ cE cG List.getD_cons_zero List.getD_cons_succ List.getD_nil List.all_cons List.all_nil Bool.and_true Bool.true_and Bool.and_self Bool.not_true Bool.not_false Option.map_some Option.map_none Option.bind_some Option.bind_none List.length_cons List.length_nil List.take_succ_cons List.take_zero List.take_nil List.drop_succ_cons List.drop_zero List.drop_nil List.head?_cons List.map_cons List.map_nil List.getElem?_cons_zero List.getElem?_cons_succ List.cons_append List.nil_append List.append_nil List.length_map List.set_cons_zero List.set_cons_succ Nat.reduceMul eq_self Int.toNat_natCast Int.natCast_nonneg and_self true_and and_true decide_true decide_false Bool.false_eq_true Nat.zero_add Nat.add_zero List.contains_cons List.contains_nil Bool.or_false Bool.false_or beq_self_eq_true Nat.reduceBEq ne_eq not_true_eq_false not_false_eq_true Id.mk.injEq false_and and_false Nat.reduceLT Int.reduceLE Int.reduceLT Int.reduceToNat Int.reduceNeg Int.reduceAdd Nat.le_refl List.length_append beq_true beq_false Bool.not_eq_eq_eq_not or_false false_or dR ab aj ay bo bJ aD aV aH aU cu bq
def GrQ (L:List aO) (v:AV) (g:Rows) (n:Nat):Prop:=(L=[]/\v=.bS)∨∃u:Id,v=.own u 0 L.length/\g u=some ⟨true,2,L.map ar⟩/\u.cV<n/\0<L.length/\u.site=177006004
def GrZ (L:List Int) (v:AV) (g:Rows) (n:Nat):Prop:=(L=[]/\v=.bS)∨∃u:Id,v=.own u 0 L.length/\g u=some ⟨true,1,L.map bt⟩/\u.cV<n/\0<L.length/\u.site=117006003
end Go.Proofs.YtgoljkjaameagaaGreat.V

namespace Go.Proofs.YtgoljkjaameagaaGreat.V
open Go.RowKit
end Go.Proofs.YtgoljkjaameagaaGreat.V

namespace Go.Proofs.YtgoljkjaameagaaGreat.V
open Go.RowKit
attribute [local irreducible] dQ wpOps ft Call
attribute [local go_sem] aA eV ef e9 e8 cZ upd bQ K.av cr AV.cells AV.cell rowOf rowsOf part ld rowAt bD bL dm dD fE bu cK dO fa eF db dH cI cH dw dx bz aQ cz bx cD cC dF dI dG cw bC cJ dE bw az cF bZ fD bj cq bB aJ cX aX dn AV.undef bp br dy dC du dz cm dM dP bU dK dJ cE cG List.getD_cons_zero List.getD_cons_succ List.getD_nil List.all_cons List.all_nil Bool.and_true Bool.true_and Bool.and_self Bool.not_true Bool.not_false Option.map_some Option.map_none Option.bind_some Option.bind_none List.length_cons List.length_nil List.take_succ_cons List.take_zero List.take_nil List.drop_succ_cons List.drop_zero List.drop_nil List.head?_cons List.map_cons List.map_nil List.getElem?_cons_zero List.getElem?_cons_succ List.cons_append List.nil_append List.append_nil List.length_map List.set_cons_zero List.set_cons_succ Nat.reduceMul eq_self Int.toNat_natCast Int.natCast_nonneg and_self true_and and_true decide_true decide_false Bool.false_eq_true Nat.zero_add Nat.add_zero List.contains_cons List.contains_nil Bool.or_false Bool.false_or beq_self_eq_true Nat.reduceBEq ne_eq not_true_eq_false not_false_eq_true Id.mk.injEq false_and and_false Nat.reduceLT Int.reduceLE Int.reduceLT Int.reduceToNat Int.reduceNeg Int.reduceAdd Nat.le_refl List.length_append beq_true beq_false Bool.not_eq_eq_eq_not or_false false_or dR ab aj ay bo bJ aD aV aH aU cu bq
theorem yW:aq Tryz.prog 166 [.bS] .bS:=by
 refine aq.body eG rfl fun hl n0=>?_
 clear hl
 (try((repeat(revert hN;revert N;apply Pn.out));refine wk @Nat.zero_add ?_;(repeat(refine Pn.mk ?_;intro N hN))))
 exact ll (.inl rfl) (vs:=[.bS]) (sd @Nat.zero_add) (by simp only[eX,jO])
theorem Em (σ:au):Call Tryz.prog 185 [.bS,.fn 186 []] σ fun r σ'=>r=.gn []/\σ'.next=σ.next/\σ'.get=σ.get:=by
 refine fB fun hs D ι w vs S U A=>?_
 obtain⟨u1,us1,rfl,h1,h2⟩:=kf A
 obtain⟨u2,us2,h3,h4,h5⟩:=kf h2
 simp at h3;subst h3
 have:=vJ h5
 simp at this;subst this
 obtain rfl:=jg h1
 refine(JV _ _ _ w).mono ?_
 rintro e w' ⟨rfl,rfl⟩
 exact⟨.gn [],σ.get,σ.next,D,ι,_,rfl,⟨rfl,rfl,rfl⟩,Step.refl _ _ _ _,S,U,Nat.le_refl _,.gn [] #[] (fun _=>Go.undef) rfl (fun j hj=>by simp at hj) (fun j a h=>by simp at h)⟩
theorem wR (σ:au):Call Tryz.prog 118 [.bS] σ fun r σ'=>r=.agg [.bS]/\σ.next<=σ'.next/\∀x:Id,x.cV<σ.next->σ'.get x=σ.get x:=by
 refine fo eG rfl fun hl=>?_
 clear hl
 have h1:=yW
 (repeat(first|((repeat(revert hN;revert N;apply Pn.out));refine wk @Nat.zero_add ?_;(repeat(refine Pn.mk ?_;intro N hN)))|((try apply Or.inl);refine⟨_,aq.x (h1) (sd @Nat.zero_add),?_⟩;refine hN _ _ ?_;clear hN N)))
 refine .inr (aY _ _ _ _ _ (fun r σ2 hq=>?_) (Em _))
 obtain⟨g2,x2⟩:=σ2
 obtain⟨rfl,u1,u2⟩:=hq
 (try dsimp only at u1 u2)
 subst u1 u2
 refine hN _ _ ?_
 clear hN N
 (try((repeat(revert hN;revert N;apply Pn.out));refine wk @Nat.zero_add ?_;(repeat(refine Pn.mk ?_;intro N hN))))
 exact fJ (.inl rfl) (vs:=[.agg [.bS]]) (sd @Nat.zero_add) ⟨rfl,bK,fun x hx=>by
  have h:=eL hx
  simp only[go_sem, ↓reduceIte,Nat.reduceEqDiff,Nat.reduceAdd,Nat.reduceSub,Nat.reduceLeDiff,reduceCtorEq,h]⟩
theorem L8 {ts out:List ae} (hp:ts.Perm out) (h:yL out) (p:aO):nk out p=nk ts p:=by
 by_cases h0:eO ts p<0
 ·have h1:eO out p<0:=zl.2 fun t ht=>zl.1 h0 t (hp.mem_iff.2 ht)
  unfold nk
  rw[if_neg ai,if_neg ai]
 ·have h2:=lg (l:=ts) (p:=p) ai
  have h3:=NJ h.Nk (hp.mem_iff.1 (jf h2.1))
  rw[h2.2]at h3
  rw[h3,nk,if_pos ai]
theorem JU {ts:List ae} {i:Nat} (hi:i<ts.length) {B:aO} {n:Int} (h1:(bG ts i).bE=B) (h2:(bG ts i).bR=n):(ts.map aa).set i [.int .i64 B.fb,.int .i64 B.eT,.int .i64 n]=ts.map aa:=by
 have hg:(ts.map aa)[i]'(by simpa using hi)=[.int .i64 B.fb,.int .i64 B.eT,.int .i64 n]:=by
  rw[List.getElem_map]
  rw[eZ hi]at h1 h2
  rw[aa,h1,h2]
 rw[<-hg,List.set_getElem_self]
def RpJ (n0:Nat) (ts:List ae) (pre:List (List AV)) (e0:Env) (s0:au):Prop:=
 ∃l':List ae,pre=l'.map aa/\((l'=[]/\e0 14=.bS)∨l'≠[]/\∃o:Id,e0 14=.own o 0 l'.length/\s0.get o=some ⟨true,3,l'.map aa⟩/\n0+2<o.cV/\o.cV<s0.next)/\n0+2<s0.next/\s0.get ⟨144001000,n0+1⟩=some ⟨false,mP.ua,ts.map aa⟩/\s0.get ⟨144000002,n0⟩=some ⟨true,1,[[.bS]]⟩/\e0 4=.ptr ⟨144000002,n0⟩ 0 0
theorem B9 (m:bl) (hP:NB m) (a:List ae) (hA:pC m.da.aM a) (n0:Nat):Call Tryz.prog 144 [.agg (ak m),.agg [.sl (a.map aa)]] ⟨fun _=>none,n0⟩ (P4 n0 ((qj m.aE m.dp [] a).getD []) (qj m.aE m.dp [] a).isSome):=by
 refine Pm rfl mP ?_
 have Lh:=hA.1.Hu
 obtain⟨R,hR⟩:∃R,qj m.aE m.dp [] a=R:=⟨_,rfl⟩
 rw[hR]
 have kP:(a.map aa).length=a.length:=by simp
 unfold Pf Pp
 rw[EC,ED,zV]
 (try((repeat(revert hN;revert N;apply Pn.out));refine wk (tw @ak.eq_1 @kP) ?_;(repeat(refine Pn.mk ?_;intro N hN))))
 refine bF (fun n env st=>∃j:Nat,n=(a.length)-j/\j<=(a.length)/\env 21=.int .i64 (j:Int)/\st.get ⟨144000000,n0⟩=some ⟨true,10,[ak m]⟩/\st.get ⟨144000002,n0⟩=some ⟨true,1,[[.bS]]⟩/\(n0+3<=st.next/\∃(out ts:List ae),qj m.aE m.dp out (a.drop j)=R/\yL out/\ts.Perm out/\out.length<=j/\st.get ⟨144001000,n0+1⟩=some ⟨true,mP.ua,ts.map aa⟩)) (a.length) ⟨0,ai,ai,sl @ak.eq_1,sl @ak.eq_1,sl @ak.eq_1,by(try dsimp only);exact⟨ai,[],[],by rw[List.drop_zero];exact hR,yL.nil,List.Perm.refl _,by simp,sl @Nat.zero_add⟩⟩ ?_
 rintro n_a env_a st_a ⟨j,rfl,ale,a21,ag0,ag1,lL⟩ ev
 have a2:=ev 2 (by kernel_rfl);have a4:=ev 4 (by kernel_rfl);have a6:=ev 6 (by kernel_rfl);have qg:=ev 19 (by kernel_rfl);have a20:=ev 20 (by kernel_rfl)
 simp only[go_sem, ↓reduceIte,Nat.reduceEqDiff,Nat.reduceAdd,Nat.reduceSub,Nat.reduceLeDiff,reduceCtorEq,ak]at a2 a4 a6 qg a20
 clear ev
 obtain⟨an,out,ts,aR,aP,aT,aL,Cw⟩:=lL
 have vA:=eL (i:=⟨144000000,n0⟩) (n:=st_a.next) bK
 have vB:=eL (i:=⟨144000002,n0⟩) (n:=st_a.next) bK
 have vC:=eL (i:=⟨144001000,n0+1⟩) (n:=st_a.next) bK
 by_cases hj:(j:Int)<(a.length:Int)
 ·have cY:∀{e:Env} {gg:Rows} {nx:Nat},(e 21=.int .i64 (IntKind.i64.wrap ((j:Int)+1)))->(gg ⟨144000000,n0⟩=some ⟨true,10,[ak m]⟩)->(gg ⟨144000002,n0⟩=some ⟨true,1,[[.bS]]⟩)->(n0+3<=nx/\∃(out ts:List ae),qj m.aE m.dp out (a.drop (j+1))=R/\yL out/\ts.Perm out/\out.length<=(j+1)/\gg ⟨144001000,n0+1⟩=some ⟨true,mP.ua,ts.map aa⟩)->∃m0,m0<(a.length)-j/\∃j:Nat,m0=(a.length)-j/\j<=(a.length)/\e 21=.int .i64 (j:Int)/\gg ⟨144000000,n0⟩=some ⟨true,10,[ak m]⟩/\gg ⟨144000002,n0⟩=some ⟨true,1,[[.bS]]⟩/\(n0+3<=nx/\∃(out ts:List ae),qj m.aE m.dp out (a.drop j)=R/\yL out/\ts.Perm out/\out.length<=j/\gg ⟨144001000,n0+1⟩=some ⟨true,mP.ua,ts.map aa⟩):=fun x1 x2 x3 x4=>⟨_,ai,j+1,rfl,ai,(by rw[x1,aI ai]),x2,x3,x4⟩
  have hZ:j<a.length:=ai
  have qi:=gw hZ
  rw[ET hZ,qj]at aR
  have ht:=hA.2 _ (jf hZ)
  have ht2:=dX ht
  obtain⟨tn,xY⟩:∃tn:Nat,(bG a j).bR=tn:=⟨(bG a j).bR.toNat,ai⟩
  have M9:tn<m.aE.length:=by have:=hP.len;omega
  have pc:=zq M9
  have hle:DM m.aE (bG a j)=m.aE.getD tn 0:=by rw[DM,xY,Int.toNat_natCast]
  rw[hle]at aR
  have Lv:=hA.1.pt hZ
  unfold D8 at Lv
  rw[Bool.and_eq_true]at Lv
  have hb:=FR (bG a j).bE m.dp hP.sc.1 hP.sc.2 (by have:=dX Lv.1;omega) (by have:=dX Lv.2;omega)
  generalize Az (bG a j).bE m.dp=B at aR hb
  generalize H8 (bG a j).bE m.dp=C at hb
  simp only[ar]at hb
  generalize m.aE.getD tn 0=n at aR pc
  have hpa:=L8 aT aP B
  by_cases fP:0<=eO ts B
  ·have hm:=GP fP
   have Hx:=lg fP
   have Fb:=gw Hx.1
   have Iy:nk out B=(bG ts (eO ts B).toNat).bR:=by rw[hpa,nk,if_pos fP]
   have KB:=aP.pos _ (aT.mem_iff.1 (jf Hx.1))
   have OS:=fun e=>JU Hx.1 Hx.2 (n:=n) e
   rw[aa]at Fb
   generalize (bG ts (eO ts B).toNat).bR=q at Iy KB Fb OS
   have ho:(some (eO ts B).toNat).isSome=true:=rfl
   by_cases h1:n<0
   ·rw[if_pos h1]at aR
    (repeat(first|((repeat(revert hN;revert N;apply Pn.out));refine wk (tw @a21 (tw @ag0 (tw @ag1 (tw @a2 (tw @a4 (tw @a6 (tw @qg (tw @a20 (tw @hj (tw @qi (tw @aa.eq_1 (tw @xY (tw @pc (tw @h1 (tw @Cw (tw @vA (tw @vB (tw @vC (tw @hm (tw @Fb @ho)))))))))))))))))))) ?_;(repeat(refine Pn.mk ?_;intro N hN)))|((try apply Or.inl);refine⟨_,aq.x (hb) (sd (tw @a21 (tw @ag0 (tw @ag1 (tw @a2 (tw @a4 (tw @a6 (tw @qg (tw @a20 (tw @hj (tw @qi (tw @aa.eq_1 (tw @xY (tw @pc (tw @h1 (tw @Cw (tw @vA (tw @vB (tw @vC (tw @hm (tw @Fb @ho))))))))))))))))))))),?_⟩;refine hN _ _ ?_;clear hN N)))
    refine cY ?_ ?_ ?_ (by(try dsimp only);exact⟨ai,out,ts,aR,aP,aT,ai,sd (tw @vC @Cw)⟩)
    all_goals simp only[go_sem, ↓reduceIte,Nat.reduceEqDiff,Nat.reduceAdd,Nat.reduceSub,Nat.reduceLeDiff,reduceCtorEq,a21,ag0,ag1,a2,a4,a6,qg,a20,vA,vB,vC]
   ·rw[if_neg h1,Iy,if_neg ai]at aR
    by_cases h3:q=n
    ·rw[if_pos h3]at aR
     have Ld:=decide_eq_true h3
     have OS:=OS h3
     (repeat(first|((repeat(revert hN;revert N;apply Pn.out));refine wk (tw @a21 (tw @ag0 (tw @ag1 (tw @a2 (tw @a4 (tw @a6 (tw @qg (tw @a20 (tw @hj (tw @qi (tw @aa.eq_1 (tw @xY (tw @pc (tw @h1 (tw @Cw (tw @vA (tw @vB (tw @vC (tw @hm (tw @Fb (tw @ho (tw @Ld @OS)))))))))))))))))))))) ?_;(repeat(refine Pn.mk ?_;intro N hN)))|((try apply Or.inl);refine⟨_,aq.x (hb) (sd (tw @a21 (tw @ag0 (tw @ag1 (tw @a2 (tw @a4 (tw @a6 (tw @qg (tw @a20 (tw @hj (tw @qi (tw @aa.eq_1 (tw @xY (tw @pc (tw @h1 (tw @Cw (tw @vA (tw @vB (tw @vC (tw @hm (tw @Fb (tw @ho (tw @Ld @OS))))))))))))))))))))))),?_⟩;refine hN _ _ ?_;clear hN N)))
     refine cY ?_ ?_ ?_ (by(try dsimp only);exact⟨ai,out,ts,aR,aP,aT,ai,sd (tw @vC @Cw)⟩)
     all_goals simp only[go_sem, ↓reduceIte,Nat.reduceEqDiff,Nat.reduceAdd,Nat.reduceSub,Nat.reduceLeDiff,reduceCtorEq,a21,ag0,ag1,a2,a4,a6,qg,a20,vA,vB,vC]
    ·rw[if_neg h3]at aR
     have Ld:=decide_eq_false h3
     (repeat(first|((repeat(revert hN;revert N;apply Pn.out));refine wk (tw @a21 (tw @ag0 (tw @ag1 (tw @a2 (tw @a4 (tw @a6 (tw @qg (tw @a20 (tw @hj (tw @qi (tw @aa.eq_1 (tw @xY (tw @pc (tw @h1 (tw @Cw (tw @vA (tw @vB (tw @vC (tw @hm (tw @Fb (tw @ho @Ld))))))))))))))))))))) ?_;(repeat(refine Pn.mk ?_;intro N hN)))|((try apply Or.inl);refine⟨_,aq.x (hb) (sd (tw @a21 (tw @ag0 (tw @ag1 (tw @a2 (tw @a4 (tw @a6 (tw @qg (tw @a20 (tw @hj (tw @qi (tw @aa.eq_1 (tw @xY (tw @pc (tw @h1 (tw @Cw (tw @vA (tw @vB (tw @vC (tw @hm (tw @Fb (tw @ho @Ld)))))))))))))))))))))),?_⟩;refine hN _ _ ?_;clear hN N)))
     subst aR
     exact fJ (.inl rfl) (vs:=[.agg [.bS],.bool false]) (by rw[oG];simp only[fj,gJ,go_sem, ↓reduceIte,Nat.reduceEqDiff,Nat.reduceAdd,Nat.reduceSub,Nat.reduceLeDiff,reduceCtorEq,a21,ag0,ag1,a2,a4,a6,qg,a20]) ⟨.bS,rfl,.inl ⟨rfl,rfl⟩,fun _=>rfl⟩
  ·have hm:=DR (ts:=ts) (p:=B) ai
   have ho:(none:Option Nat).isSome=false:=rfl
   have Iy:nk out B= -1:=by rw[hpa,nk,if_neg fP]
   by_cases h1:n<0
   ·rw[if_pos h1]at aR
    (repeat(first|((repeat(revert hN;revert N;apply Pn.out));refine wk (tw @a21 (tw @ag0 (tw @ag1 (tw @a2 (tw @a4 (tw @a6 (tw @qg (tw @a20 (tw @hj (tw @qi (tw @aa.eq_1 (tw @xY (tw @pc (tw @h1 (tw @Cw (tw @vA (tw @vB (tw @vC (tw @hm @ho))))))))))))))))))) ?_;(repeat(refine Pn.mk ?_;intro N hN)))|((try apply Or.inl);refine⟨_,aq.x (hb) (sd (tw @a21 (tw @ag0 (tw @ag1 (tw @a2 (tw @a4 (tw @a6 (tw @qg (tw @a20 (tw @hj (tw @qi (tw @aa.eq_1 (tw @xY (tw @pc (tw @h1 (tw @Cw (tw @vA (tw @vB (tw @vC (tw @hm @ho)))))))))))))))))))),?_⟩;refine hN _ _ ?_;clear hN N)))
    refine cY ?_ ?_ ?_ (by(try dsimp only);exact⟨ai,out,ts,aR,aP,aT,ai,sd (tw @vC @Cw)⟩)
    all_goals simp only[go_sem, ↓reduceIte,Nat.reduceEqDiff,Nat.reduceAdd,Nat.reduceSub,Nat.reduceLeDiff,reduceCtorEq,a21,ag0,ag1,a2,a4,a6,qg,a20,vA,vB,vC]
   ·rw[if_neg h1,Iy,if_pos ai]at aR
    (repeat(first|((repeat(revert hN;revert N;apply Pn.out));refine wk (tw @a21 (tw @ag0 (tw @ag1 (tw @a2 (tw @a4 (tw @a6 (tw @qg (tw @a20 (tw @hj (tw @qi (tw @aa.eq_1 (tw @xY (tw @pc (tw @h1 (tw @Cw (tw @vA (tw @vB (tw @vC (tw @hm @ho))))))))))))))))))) ?_;(repeat(refine Pn.mk ?_;intro N hN)))|((try apply Or.inl);refine⟨_,aq.x (hb) (sd (tw @a21 (tw @ag0 (tw @ag1 (tw @a2 (tw @a4 (tw @a6 (tw @qg (tw @a20 (tw @hj (tw @qi (tw @aa.eq_1 (tw @xY (tw @pc (tw @h1 (tw @Cw (tw @vA (tw @vB (tw @vC (tw @hm @ho)))))))))))))))))))),?_⟩;refine hN _ _ ?_;clear hN N)))
    have k7:=lW ⟨B,n⟩ out
    have hsn:=ve ts ⟨B,n⟩
    refine cY ?_ ?_ ?_ (by(try dsimp only);exact⟨ai,iE out ⟨B,n⟩,ts++[⟨B,n⟩],aR,aP.put ai ai,(aT.append_right _).trans (sn ⟨B,n⟩ out),ai,by rw[hsn];simp only[go_sem, ↓reduceIte,Nat.reduceEqDiff,Nat.reduceAdd,Nat.reduceSub,Nat.reduceLeDiff,reduceCtorEq,vC,Cw]⟩)
    all_goals simp only[go_sem, ↓reduceIte,Nat.reduceEqDiff,Nat.reduceAdd,Nat.reduceSub,Nat.reduceLeDiff,reduceCtorEq,a21,ag0,ag1,a2,a4,a6,qg,a20,vA,vB,vC]
 ·have:a.drop j=[]:=List.drop_eq_nil_of_le ai
  rw[this,qj]at aR
  subst aR
  (try((repeat(revert hN;revert N;apply Pn.out));refine wk (tw @a21 (tw @ag0 (tw @ag1 (tw @a2 (tw @a4 (tw @a6 (tw @qg (tw @a20 (tw @hj (tw @Cw (tw @vA (tw @vB (tw @vC (tw @zW.eq_1 @zX.eq_1)))))))))))))) ?_;(repeat(refine Pn.mk ?_;intro N hN))))
  refine Cu (Se (id:=⟨144001000,n0+1⟩) (r:=⟨true,mP.ua,ts.map aa⟩) (RpJ n0 ts) (sd (tw @a21 (tw @ag0 (tw @ag1 (tw @a2 (tw @a4 (tw @a6 (tw @qg (tw @a20 @zT.eq_1))))))))) (sd (tw @Cw @vC)) rfl (by decide) ?_ ?_ ?_)
  ·exact⟨[],rfl,.inl ⟨rfl,sd (tw @a21 (tw @ag0 (tw @ag1 (tw @a2 (tw @a4 (tw @a6 (tw @qg @a20)))))))⟩,bK,sd (tw @a21 (tw @ag0 (tw @ag1 (tw @a2 (tw @a4 (tw @a6 (tw @qg @a20))))))),sd (tw @a21 (tw @ag0 (tw @ag1 (tw @a2 (tw @a4 (tw @a6 (tw @qg @a20))))))),sd (tw @a21 (tw @ag0 (tw @ag1 (tw @a2 (tw @a4 (tw @a6 (tw @qg @a20)))))))⟩
  ·rintro pre cs rest e0 s0 kv vv hpp ⟨l',rfl,hout,Ai,hT,h5,e2⟩ hK hpart hvv
   have r8:cs∈ts.map aa:=hpp.subset (by simp)
   obtain⟨tl,hx,rfl⟩:=List.mem_map.1 r8
   have IL:=hpp.length_eq
   have htL:=aT.length_eq
   simp only[List.length_append,List.length_map,List.length_cons]at IL
   simp[part,aa,MK.ks]at hpart hvv
   subst hpart hvv
   rw[wG,wH]
   have vT:=eL (i:=⟨144001000,n0+1⟩) (n:=s0.next) bK
   have v5:=eL (i:=⟨144000002,n0⟩) (n:=s0.next) bK
   clear hpp r8 hK
   have sS:l'.map aa++[aa tl]=(l'++[tl]).map aa:=by simp
   have CA:=GK l' tl
   have tU:(l'++[tl]).map aa=l'.map aa++[[.int .i64 tl.bE.fb,.int .i64 tl.bE.eT,.int .i64 tl.bR]]:=by rw[List.map_append];rfl
   rcases hout with⟨M3,e3⟩|⟨gP,o,e3,og,on,ov⟩
   ·subst M3
    (try((repeat(revert hN;revert N;apply Pn.out));refine wk (tw @e3 @e2) ?_;(repeat(refine Pn.mk ?_;intro N hN))))
    exact⟨[]++[tl],sS,.inr ⟨by simp,⟨144017005,s0.next+1+1⟩,sl @Nat.zero_add,sl @Nat.zero_add,bK,bK⟩,bK,sd (tw @vT @hT),sd (tw @v5 @h5),sd @e2⟩
   ·have vo:=eL ov
    have oT:=dr (a:=⟨144001000,n0+1⟩) (b:=o) bK
    have o5:=dr (a:=⟨144000002,n0⟩) (b:=o) bK
    have UM:(l'.map aa).length=l'.length:=by simp
    have e1:l'.length<=16777215:=ai
    (try((repeat(revert hN;revert N;apply Pn.out));refine wk (tw @e3 (tw @e2 (tw @og (tw @vo (tw @UM @e1))))) ?_;(repeat(refine Pn.mk ?_;intro N hN))))
    exact⟨l'++[tl],sS,.inr ⟨by simp,⟨144017005,s0.next+1+1⟩,by rw[CA];simp only[go_sem, ↓reduceIte,Nat.reduceEqDiff,Nat.reduceAdd,Nat.reduceSub,Nat.reduceLeDiff,reduceCtorEq]<;>rfl,by rw[tU];simp only[go_sem, ↓reduceIte,Nat.reduceEqDiff,Nat.reduceAdd,Nat.reduceSub,Nat.reduceLeDiff,reduceCtorEq]<;>rfl,bK,bK⟩,bK,sd (tw @vT (tw @oT @hT)),sd (tw @v5 (tw @o5 @h5)),sd @e2⟩
  ·rintro pre e0 s0 hpp ⟨l',rfl,hout,Ai,hT,h5,e2⟩ hK
   clear hK
   have k7:l'.Perm ts:=by
    have:∀{a b:List ae},(a.map aa).Perm (b.map aa)->a.Perm b:=fun {a b} pW=>by
     have h2:=pW.map (fun cs:List AV=>match cs with|[.int _ x,.int _ y,.int _ t]=>(⟨⟨x,y⟩,t⟩:ae)|_=>default)
     simpa[List.map_map,Function.comp_def,aa]using h2
    exact this hpp
   have hl2:=k7.length_eq
   have hl3:=aT.length_eq
   rcases hout with⟨M3,e3⟩|⟨gP,o,e3,og,on,ov⟩
   ·subst M3
    have hz:out=[]:=List.eq_nil_of_length_eq_zero (by rw[<-hl3,<-hl2];rfl)
    subst hz
    (try((repeat(revert hN;revert N;apply Pn.out));refine wk (tw @qf.eq_1 (tw @oG.eq_1 (tw @e3 @e2))) ?_;(repeat(refine Pn.mk ?_;intro N hN))))
    refine .inr (aY _ _ _ _ _ (fun r σ1 hq=>?_) (wR _))
    obtain⟨g1,x1⟩:=σ1
    obtain⟨rfl,q1,q4⟩:=hq
    (try dsimp only at q1 q4)
    have k5:=(q4 ⟨144000002,n0⟩ bK).trans h5
    refine hN _ _ ?_
    clear hN N
    (try((repeat(revert hN;revert N;apply Pn.out));refine wk (tw @qf.eq_1 (tw @oG.eq_1 (tw @e2 @k5))) ?_;(repeat(refine Pn.mk ?_;intro N hN))))
    exact fJ (.inl rfl) (vs:=[.agg [.bS],.bool true]) (by rw[oG];simp only[fj,gJ,go_sem, ↓reduceIte,Nat.reduceEqDiff,Nat.reduceAdd,Nat.reduceSub,Nat.reduceLeDiff,reduceCtorEq,e2]) ⟨.bS,rfl,.inl ⟨rfl,rfl⟩,fun _=>rfl⟩
   ·(try((repeat(revert hN;revert N;apply Pn.out));refine wk (tw @qf.eq_1 (tw @oG.eq_1 (tw @e3 @e2))) ?_;(repeat(refine Pn.mk ?_;intro N hN))))
    refine .inr (aY _ _ _ _ _ (fun r σ1 hq=>?_) (yP l' out ai gP aP.Nk (k7.trans aT) ⟨s0.get,_⟩ o bK og))
    obtain⟨g1,x1⟩:=σ1
    obtain⟨o2,rfl,q1,q2,q3,q4⟩:=hq
    (try dsimp only at q1 q2 q3 q4)
    have k5:=(q4 ⟨144000002,n0⟩ bK).trans h5
    have o25:(o2=(⟨144000002,n0⟩:Id))=False:=eq_false fun e=>by rw[e]at q2;(try dsimp only at q2);omega
    have ju:=k7.length_eq
    refine hN _ _ ?_
    clear hN N
    (try((repeat(revert hN;revert N;apply Pn.out));refine wk (tw @qf.eq_1 (tw @oG.eq_1 (tw @e2 @k5))) ?_;(repeat(refine Pn.mk ?_;intro N hN))))
    exact fJ (.inl rfl) (vs:=[.agg [.own o2 0 out.length],.bool true]) (by rw[oG];simp only[fj,gJ,go_sem, ↓reduceIte,Nat.reduceEqDiff,Nat.reduceAdd,Nat.reduceSub,Nat.reduceLeDiff,reduceCtorEq,e2]) ⟨.own o2 0 out.length,rfl,.inr ⟨o2,rfl,sl (tw @o25 @q1),ai,bK⟩,fun e=>absurd (List.eq_nil_of_length_eq_zero (by rw[ju,hl3];exact congrArg List.length e)) gP⟩
theorem wK.Vn {m n:Nat} {L:List ae} {v:AV} {g:Rows} (h:wK m L v g n) (hz:L=[]->v=.bS):∃ids,ki aa 3 g v L ids/\fC m n ids:=by
 by_cases h0:L=[]
 ·exact⟨[],.inl ⟨h0,hz h0,rfl⟩,by simp,fun i hi=>by cases hi⟩
 ·rcases h with⟨e,_⟩|⟨o,rfl,h2,h3,h4⟩
  ·exact absurd e h0
  ·exact⟨[o],.inr ⟨o,[],rfl,by rw[List.append_nil];exact h2,rfl,List.length_pos_iff.2 h0⟩,by simp,fun i hi=>by rw[List.mem_singleton.1 hi];exact⟨h3,h4⟩⟩
theorem Aq (m:bl) (a:List ae) (n1:fZ m.da.aM) (n2:fZ m.bf.aM) (hm:ph m) (ha:a.length<=1048576) (n0:Nat):
  Call Tryz.prog 73 [.agg (ak m),.agg [.sl (a.map aa)]] ⟨fun _=>none,n0⟩ (fun r σ'=>∃ids,(∃v0 i0,r=.gn [.agg [v0],.int .i64 (qc m a).2]/\ki aa 3 σ'.get v0 (qc m a).1 i0/\ids=i0)/\fC n0 σ'.next ids):=by
 refine fo eG rfl fun Bk=>?_
 clear Bk
 have h1:=sw m a n1 n2 hm ha
 by_cases h0:l6 m a=0
 ·have hq:l5 m=true/\nj m.da.aM a=true:=by
   unfold l6 at h0
   split at h0
   ·assumption
   ·cases h0
  have h2:=fun n=>B9 m (vW hq.1) a (km.1 hq.2) n
  have hr:qc m a=(match qj m.aE m.dp [] a with|some R=>(R,0)|none=>([],7)):=by
   unfold qc
   rw[if_pos h0]
   all_goals (cases qj m.aE m.dp [] a<;>rfl)
  rw[hr]
  rw[h0]at h1
  generalize qj m.aE m.dp [] a=R at h2 ⊢
  rw[ak]at h1
  (repeat(first|((repeat(revert hN;revert N;apply Pn.out));refine wk @ak.eq_1 ?_;(repeat(refine Pn.mk ?_;intro N hN)))|((try apply Or.inl);refine⟨_,aq.x (h1) (sd @ak.eq_1),?_⟩;refine hN _ _ ?_;clear hN N)))
  refine .inr (aY _ _ _ _ _ (fun r σ2 hq=>?_) (P4.val h2 (by
   simp only[ak,ab,aj,aV,bJ,ay,Option.map_some])))
  obtain⟨⟨v,rfl,hG,hz⟩,hK⟩:=hq
  obtain⟨g2,x2⟩:=σ2
  (try dsimp only at hG hK)
  have Gp:=hK.1
  (try dsimp only at Gp)
  have k2:=hK.2 ⟨73000002,n0⟩ bK
  simp only[go_sem, ↓reduceIte,Nat.reduceEqDiff,Nat.reduceAdd,Nat.reduceSub,Nat.reduceLeDiff,reduceCtorEq]at k2
  obtain⟨cv,dv⟩:=hG.cell
  unfold AV.cells at cv
  unfold AV.cell at dv
  refine hN _ _ ?_
  clear hN N
  cases R with
  |none=>
   have e1:(none:Option (List ae)).isSome=false:=rfl
   (try((repeat(revert hN;revert N;apply Pn.out));refine wk (tw @k2 (tw @cv (tw @dv @e1))) ?_;(repeat(refine Pn.mk ?_;intro N hN))))
   exact fJ (.inl rfl) (vs:=[.agg [.bS],.int .i64 7]) (sd @Nat.zero_add) ⟨[],⟨.bS,[],rfl,.inl ⟨rfl,rfl,rfl⟩,rfl⟩,by simp,fun i hi=>by cases hi⟩
  |some R=>
   have e1:(some R:Option (List ae)).isSome=true:=rfl
   have e2:(some R:Option (List ae)).getD []=R:=rfl
   rw[e2]at hG hz
   (try((repeat(revert hN;revert N;apply Pn.out));refine wk (tw @k2 (tw @cv (tw @dv @e1))) ?_;(repeat(refine Pn.mk ?_;intro N hN))))
   obtain⟨ids,hO,hN⟩:=((hG.frame (g':=bD (bD (bD g2 ⟨73004006,x2⟩ ⟨true,1,[[.bS]]⟩) ⟨73004006,x2⟩ ⟨true,1,[[v]]⟩) ⟨73000002,n0⟩ ⟨true,1,[[v]]⟩) (n':=x2+1+1+1) ai fun x k3 k4=>by
    have h5:=eL (i:=x) (n:=x2) k4
    have h6:(x=(⟨73000002,n0⟩:Id))=False:=eq_false fun e=>by rw[e]at k3;(try dsimp only at k3);omega
    simp only[go_sem, ↓reduceIte,Nat.reduceEqDiff,Nat.reduceAdd,Nat.reduceSub,Nat.reduceLeDiff,reduceCtorEq,h5,h6]).low (m':=n0) ai).Vn hz
   exact fJ (.inl rfl) (vs:=[.agg [v],.int .i64 0]) (sd (tw @cv @dv)) ⟨ids,⟨v,ids,rfl,hO,rfl⟩,hN⟩
 ·have hd:decide (l6 m a=0)=false:=decide_eq_false h0
  have hr:qc m a=([],l6 m a):=by rw[qc,if_neg h0]
  rw[hr]
  rw[ak]at h1 ⊢
  (repeat(first|((repeat(revert hN;revert N;apply Pn.out));refine wk @hd ?_;(repeat(refine Pn.mk ?_;intro N hN)))|((try apply Or.inl);refine⟨_,aq.x (h1) (sd @hd),?_⟩;refine hN _ _ ?_;clear hN N)))
  exact fJ (.inl rfl) (vs:=[.agg [.bS],.int .i64 (l6 m a)]) (sd @Nat.zero_add) ⟨[],⟨.bS,[],rfl,.inl ⟨rfl,rfl,rfl⟩,rfl⟩,by simp,fun i hi=>by cases hi⟩
end Go.Proofs.YtgoljkjaameagaaGreat.V

namespace Go.Proofs.YtgoljkjaameagaaGreat
open Go.ChangeShapes Go.WideShapes Go.ChangeAt Go.RowKit Go.Deep
section
variable {H:Type} {enc:TypeId×Value->H} {P:Program} {w:World}
theorem mu.RW {α:Type} {rep:World->List Nat->List Value->α->Prop} {sz:Nat} {w:World} {b o len cap:Nat} (nQ:Nat->List Value) (fs:Nat->List Nat) (ds:Nat->α) (hc:len<=cap) (hm:cap<=maxLen)
  (hl:∀i,i<len->(nQ i).length=sz) (hr:∀i,i<len->rep w (fs i) (nQ i) (ds i)) (Iy:∀i,i<len->∀j u,(nQ i)[j]? =some u->w.cell? ⟨b,o+(i*sz+j),none⟩=some u):
  mu rep sz w ([b]++((List.range len).map fs).flatten) (.slice (some ⟨b,o,none⟩) len cap) ((List.range len).map ds):=by
 refine⟨(List.range len).map nQ,(List.range len).map fs,[b],rfl,⟨some ⟨b,o,none⟩,cap,by simp,by simpa using hc,hm,.inr ⟨b,o,rfl,rfl,fun j u hj=>?_⟩⟩,by simp,by simp,fun i cs f d h1 h2 h3=>?_⟩
 ·have hlen:∀cs∈(List.range len).map nQ,cs.length=sz:=fun cs dS=>by
   obtain⟨i,hi,rfl⟩:=List.mem_map.1 dS
   exact hl i (List.mem_range.1 hi)
  have gZ:=(List.getElem?_eq_some_iff.1 hj).1
  have Li:((List.range len).map nQ).flatten.length=len*sz:=by
   rw[List.length_flatten,List.map_map]
   have:∀(l:List Nat),(∀i∈l,i<len)->(l.map (List.length∘nQ)).sum=l.length*sz:=by
    intro l
    induction l with
    |nil=>intro _;simp
    |cons a l ih=>intro h;rw[List.map_cons,List.sum_cons,ih fun i hi=>h i (List.mem_cons_of_mem _ hi)];simp only[Function.comp,hl a (h a (by simp)),List.length_cons,Nat.add_mul];omega
   rw[this _ fun i hi=>List.mem_range.1 hi,List.length_range]
  rw[Li]at gZ
  have M7:0<sz:=by
   rcases Nat.eq_zero_or_pos sz with h|h
   ·subst h;simp at gZ
   ·exact h
  have hi:j / sz<len:=(Nat.div_lt_iff_lt_mul M7).2 gZ
  have r7:j % sz<sz:=Nat.mod_lt _ M7
  have Lm:j=(j / sz)*sz+j % sz:=by rw[Nat.mul_comm];exact(Nat.div_add_mod j sz).symm
  rw[Lm,sO hlen (i:=j / sz) (cs:=nQ (j / sz)) (by simp[hi]) r7]at hj
  rw[Lm]
  have:=Iy (j / sz) hi (j % sz) u hj
  rw[<-Lm]at this ⊢
  exact this
 ·have hi:i<len:=by
   have:=(List.getElem?_eq_some_iff.1 h1).1
   simpa using this
  simp[hi]at h1 h2 h3
  subst h1 h2 h3
  exact⟨hr i hi,hl i hi⟩
theorem jV (b o k:Nat):(⟨b,o,none⟩:Addr).add k=⟨b,o+k,none⟩:=by
 unfold Addr.add;split
 ·rename_i h;subst h;rfl
 ·rfl
theorem o8 {α:Type} {rep:World->List Nat->List Value->α->Prop} {Q:α->Prop} {t e:TypeId} {sz fuel:Nat} {cs:List Value} {x:DataW H×List MemPlace} (ht:P.underlying t=some (.slice e)) (hC:P.cellsOf e=sz) (M7:0<sz)
  (h:DataW.trod enc P w 0 (fun _=>true) true fuel t cs=some x) (hel:∀n lH y,lH.length=sz->DataW.trod enc P w 0 (fun _=>true) true n e lH=some y->∃f d,gz f 0 w.heap.size/\rep w f lH d/\Q d):
  ∃A n c f xs,cs=[.slice A n c]/\gz f 0 w.heap.size/\mu rep sz w f (.slice A n c) xs/\∀d∈xs,Q d:=by
 rcases open_slice ht h with⟨rfl,_⟩|⟨a,len,cap,m,n,D,Pl,rfl,_,hl,hm,OH,_,hi⟩
 ·exact⟨none,0,0,[],[],rfl,gz.nil _ _,mu.nil _ _ _,fun d h=>by cases h⟩
 rw[hC]at hi
 simp only[if_true]at OH
 by_cases h0:len=0
 ·subst h0
  exact⟨some a,0,cap,[],[],rfl,gz.nil _ _,⟨[],[],[],rfl,⟨some a,cap,rfl,Nat.zero_le _,hm,.inl ⟨rfl,rfl⟩⟩,rfl,rfl,fun i cs f d hc=>by simp at hc⟩,fun d h=>by cases h⟩
 obtain⟨b,o,sp⟩:=a
 have cell0:∃v,w.cell? ⟨b,o,sp⟩=some v:=by
  obtain⟨lH,hc,_⟩:=hi 0 (by omega)
  obtain⟨_,lS,Iy⟩:=World.cells?_some hc
  refine⟨lH[0]'(by omega),?_⟩
  have:=Iy 0 M7
  rw[List.getElem?_eq_getElem (by omega)]at this
  simpa[Addr.add]using this
 obtain⟨v0,rJ⟩:=cell0
 have hb:b<w.heap.size:=World.block_lt_of_cell? w _ rJ
 have OR:sp=none:=by
  unfold World.cell? at rJ
  split at rJ
  ·split at rJ
   ·cases rJ
   ·rename_i h;simpa using h
  ·cases rJ
 subst OR
 have key:∀i,i<len->∃lH f d,lH.length=sz/\gz f 0 w.heap.size/\rep w f lH d/\Q d/\∀j u,lH[j]? =some u->w.cell? ⟨b,o+(i*sz+j),none⟩=some u:=fun i mi=>by
  obtain⟨lH,hc,htr⟩:=hi i (by omega)
  obtain⟨_,lS,Iy⟩:=World.cells?_some hc
  obtain⟨f,d,h1,h2,h3⟩:=hel n lH _ lS htr
  refine⟨lH,f,d,lS,h1,h2,h3,fun j u hj=>?_⟩
  have gZ:=(List.getElem?_eq_some_iff.1 hj).1
  have:=Iy j (by omega)
  rw[hj]at this
  rw[<-this,Go.Deep.add_add,jV]
 have:Nonempty α:=by
  obtain⟨_,_,d,_⟩:=key 0 (by omega)
  exact⟨d⟩
 let cf:Nat->List Value:=fun i=>if hi:i<len then(key i hi).choose else[]
 let ff:Nat->List Nat:=fun i=>if hi:i<len then(key i hi).choose_spec.choose else[]
 let df:Nat->α:=fun i=>if hi:i<len then(key i hi).choose_spec.choose_spec.choose else Classical.choice this
 have ee:∀i,i<len->(cf i).length=sz/\gz (ff i) 0 w.heap.size/\rep w (ff i) (cf i) (df i)/\Q (df i)/\∀j u,(cf i)[j]? =some u->w.cell? ⟨b,o+(i*sz+j),none⟩=some u:=fun i hi=>by
  have:=(key i hi).choose_spec.choose_spec.choose_spec
  simp only[cf,ff,df,dif_pos hi]
  exact this
 refine⟨some ⟨b,o,none⟩,len,cap,_,(List.range len).map df,rfl,?_,mu.RW cf ff df hl hm (fun i hi=>(ee i hi).1) (fun i hi=>(ee i hi).2.2.1) (fun i hi=>(ee i hi).2.2.2.2),fun d hd=>?_⟩
 ·intro x hx
  rcases List.mem_append.1 hx with hx|hx
  ·simp at hx;subst hx;exact⟨Nat.zero_le _,hb⟩
  ·obtain⟨l,Qg,Qr⟩:=List.mem_flatten.1 hx
   obtain⟨i,hi,rfl⟩:=List.mem_map.1 Qg
   exact(ee i (List.mem_range.1 hi)).2.1 x Qr
 ·obtain⟨i,hi,rfl⟩:=List.mem_map.1 hd
  exact(ee i (List.mem_range.1 hi)).2.2.2.1
end
section
variable {H:Type} {enc:TypeId×Value->H} {w:World} {fuel:Nat} {cs:List Value} {x:DataW H×List MemPlace}
abbrev TT (enc:TypeId×Value->H) (w:World) (fuel t:Nat) (cs:List Value) (x:DataW H×List MemPlace):Prop:=DataW.trod enc Tryz.prog w 0 (fun _=>true) true fuel t cs=some x
theorem Ju (h:TT enc w fuel 31 cs x):∃A n c f xs,cs=[.slice A n c]/\gz f 0 w.heap.size/\qn w f (.slice A n c) xs:=by
 obtain⟨A,n,c,f,xs,h1,h2,h3,_⟩:=o8 (rep:=EL) (Q:=fun _=>True) Tryz.underlying31 (sz:=1) (by kernel_rfl) (by omega) h fun n lH y hl hy=>by
  obtain⟨b,rfl,_⟩:=DataW.trod_int Tryz.underlying2 hy
  exact⟨[],b,gz.nil _ _,⟨rfl,rfl⟩,trivial⟩
 exact⟨A,n,c,f,xs,h1,h2,h3⟩
theorem lk {t:TypeId} {fs:Array Field} (ht:Tryz.prog.underlying t=some (.struct fs)) (h:TT enc w fuel t cs x):cs.length=Tryz.prog.cellsOf t/\∃n,∀(i:Nat) (f:Field),fs[i]? =some f->∃y,TT enc w n f.type ((cs.drop f.offset).take (Tryz.prog.cellsOf f.type)) y:=by
 obtain⟨xs,n,_,_,hl,Qr,hf⟩:=DataW.trod_struct ht h
 refine⟨hl,n,fun i f hi=>?_⟩
 have mi:i<xs.length:=by rw[Qr];exact(Array.getElem?_eq_some_iff.1 hi).1
 exact⟨xs[i],(hf i f hi).trans (List.getElem?_eq_getElem mi)⟩
theorem RS {l:List Value} (h:l.length=2):∃a b,l=[a,b]:=by
 match l,h with
 |[a,b],_=>exact⟨a,b,rfl⟩
theorem Vl {l:List Value} (h:l.length=3):∃a b c,l=[a,b,c]:=by
 match l,h with
 |[a,b,c],_=>exact⟨a,b,c,rfl⟩
theorem Vk {l:List Value} (h:l.length=1):∃a,l=[a]:=by
 match l,h with
 |[a],_=>exact⟨a,rfl⟩
theorem Vm {l:List Value} (h:l.length=4):∃a b c d,l=[a,b,c,d]:=by
 match l,h with
 |[a,b,c,d],_=>exact⟨a,b,c,d,rfl⟩
theorem LZ (h:TT enc w fuel 22 cs x):∃A n c f xs,cs=[.slice A n c]/\gz f 0 w.heap.size/\qm w f (.slice A n c) xs/\∀d∈xs,d.aW.size<=9223372036854775807:=by
 exact o8 (rep:=HL) (Q:=fun d=>d.aW.size<=9223372036854775807) Tryz.underlying22 (sz:=2) (by kernel_rfl) (by omega) h fun n lH y hl hy=>by
  obtain⟨_,m,hf⟩:=lk Tryz.underlying247 hy
  obtain⟨a,b,rfl⟩:=RS hl
  ·skip
   obtain⟨y0,h0⟩:=hf 0 _ rfl
   obtain⟨y1,h1⟩:=hf 1 _ rfl
   rw[show Tryz.prog.cellsOf _=1 from by kernel_rfl]at h0 h1
   obtain⟨p,e0,_,ws⟩:=DataW.trod_string Tryz.underlying9 h0
   obtain⟨q,e1,_⟩:=DataW.trod_int Tryz.underlying2 h1
   simp at e0 e1
   subst e0 e1
   exact⟨[],⟨p,q⟩,gz.nil _ _,⟨rfl,rfl⟩,by simpa[maxLen]using ws⟩
theorem L1 (h:TT enc w fuel 23 cs x):∃A n c f xs,cs=[.slice A n c]/\gz f 0 w.heap.size/\qo w f (.slice A n c) xs/\∀d∈xs,d.aW.size<=9223372036854775807:=by
 exact o8 (rep:=HM) (Q:=fun d=>d.aW.size<=9223372036854775807) Tryz.underlying23 (sz:=2) (by kernel_rfl) (by omega) h fun n lH y hl hy=>by
  obtain⟨_,m,hf⟩:=lk Tryz.underlying250 hy
  obtain⟨a,b,rfl⟩:=RS hl
  ·skip
   obtain⟨y0,h0⟩:=hf 0 _ rfl
   obtain⟨y1,h1⟩:=hf 1 _ rfl
   rw[show Tryz.prog.cellsOf _=1 from by kernel_rfl]at h0 h1
   obtain⟨p,e0,_,ws⟩:=DataW.trod_string Tryz.underlying9 h0
   obtain⟨A1,n1,c1,f1,Sg,e1,k1,s1⟩:=Ju h1
   simp at e0 e1
   subst e0 e1
   exact⟨_,⟨p,Sg⟩,k1,⟨_,f1,rfl,rfl,s1⟩,by simpa[maxLen]using ws⟩
theorem GV (h:TT enc w fuel 26 cs x):∃A n c f xs,cs=[.slice A n c]/\gz f 0 w.heap.size/\iL w f (.slice A n c) xs:=by
 obtain⟨A,n,c,f,xs,h1,h2,h3,_⟩:=o8 (rep:=Ap) (Q:=fun _=>True) Tryz.underlying26 (sz:=3) (by kernel_rfl) (by omega) h fun n lH y hl hy=>by
  obtain⟨_,m,hf⟩:=lk Tryz.underlying208 hy
  obtain⟨a,b,c,rfl⟩:=Vl hl
  ·skip
   obtain⟨y0,h0⟩:=hf 0 _ rfl
   obtain⟨y1,h1⟩:=hf 1 _ rfl
   rw[show Tryz.prog.cellsOf _=2 from by kernel_rfl]at h0
   rw[show Tryz.prog.cellsOf _=1 from by kernel_rfl]at h1
   obtain⟨_,m2,MT⟩:=lk Tryz.underlying163 h0
   obtain⟨z0,g0⟩:=MT 0 _ rfl
   obtain⟨z1,g1⟩:=MT 1 _ rfl
   rw[show Tryz.prog.cellsOf _=1 from by kernel_rfl]at g0 g1
   obtain⟨px,e0,_⟩:=DataW.trod_int Tryz.underlying2 g0
   obtain⟨py,e1,_⟩:=DataW.trod_int Tryz.underlying2 g1
   obtain⟨ti,e2,_⟩:=DataW.trod_int Tryz.underlying2 h1
   simp at e0 e1 e2
   subst e0 e1 e2
   exact⟨[],⟨⟨px,py⟩,ti⟩,gz.nil _ _,⟨rfl,rfl⟩,trivial⟩
 exact⟨A,n,c,f,xs,h1,h2,h3⟩
theorem vq (h:TT enc w fuel 28 cs x):∃A n c f,∃d:eu,cs=[.slice A n c]/\gz f 0 w.heap.size/\iL w f (.slice A n c) d.ah:=by
 obtain⟨hl,m,hf⟩:=lk Tryz.underlying28 h
 rw[show Tryz.prog.cellsOf _=1 from by kernel_rfl]at hl
 obtain⟨a,rfl⟩:=Vk hl
 ·skip
  obtain⟨y0,h0⟩:=hf 0 _ rfl
  rw[show Tryz.prog.cellsOf _=1 from by kernel_rfl]at h0
  obtain⟨A1,n1,c1,f1,Sg,e1,k1,s1⟩:=GV h0
  simp at e1
  subst e1
  exact⟨A1,n1,c1,f1,⟨Sg⟩,rfl,k1,s1⟩
theorem BY (h:TT enc w fuel 30 cs x):∃A0 n0 c0 f0 A1 n1 c1 f1 A2 n2 c2 f2,∃d:dc,cs=[.slice A0 n0 c0,.slice A1 n1 c1,.slice A2 n2 c2,.int .i64 d.aC]/\gz f0 0 w.heap.size/\qm w f0 (.slice A0 n0 c0) d.aM.aw/\gz f1 0 w.heap.size/\qo w f1 (.slice A1 n1 c1) d.aM.ah/\gz f2 0 w.heap.size/\iL w f2 (.slice A2 n2 c2) d.cj.ah/\(∀g∈d.aM.aw,g.aW.size<=9223372036854775807)/\∀t∈d.aM.ah,t.aW.size<=9223372036854775807:=by
 obtain⟨hl,m,hf⟩:=lk Tryz.underlying30 h
 rw[show Tryz.prog.cellsOf _=4 from by kernel_rfl]at hl
 obtain⟨a,b,c,d,rfl⟩:=Vm hl
 ·skip
  obtain⟨y0,h0⟩:=hf 0 _ rfl
  obtain⟨y1,h1⟩:=hf 1 _ rfl
  obtain⟨y2,h2⟩:=hf 2 _ rfl
  rw[show Tryz.prog.cellsOf _=2 from by kernel_rfl]at h0
  rw[show Tryz.prog.cellsOf _=1 from by kernel_rfl]at h1 h2
  obtain⟨_,m2,MT⟩:=lk Tryz.underlying25 h0
  obtain⟨z0,g0⟩:=MT 0 _ rfl
  obtain⟨z1,g1⟩:=MT 1 _ rfl
  rw[show Tryz.prog.cellsOf _=1 from by kernel_rfl]at g0 g1
  obtain⟨A0,n0,c0,f0,xs0,e0,k0,s0,o0⟩:=LZ g0
  obtain⟨A1,n1,c1,f1,Sg,e1,k1,s1,o1⟩:=L1 g1
  obtain⟨A2,n2,c2,f2,d2,e2,k2,s2⟩:=vq h1
  obtain⟨t,e3,_⟩:=DataW.trod_int Tryz.underlying2 h2
  simp at e0 e1 e2 e3
  subst e0 e1 e2 e3
  exact⟨A0,n0,c0,f0,A1,n1,c1,f1,A2,n2,c2,f2,⟨⟨xs0,Sg⟩,d2,t⟩,rfl,k0,s0,k1,s1,k2,s2,o0,o1⟩
end
end Go.Proofs.YtgoljkjaameagaaGreat

namespace Go.Proofs.YtgoljkjaameagaaGreat
open Go.ChangeShapes Go.WideShapes Go.ChangeAt Go.RowKit Go.Deep V
section
variable {H:Type} {enc:TypeId×Value->H} {w:World}
theorem RQ {l:List Value} (h:l.length=10):∃a b c d e f g i j k,l=[a,b,c,d,e,f,g,i,j,k]:=by
 match l,h with
 |[a,b,c,d,e,f,g,i,j,k],_=>exact⟨a,b,c,d,e,f,g,i,j,k,rfl⟩
theorem uk {P:Program} {D:Nat->Prop} {m:bl} {f0 f1 f2 f3 f4 f5 f6:List Nat} {v0 v1 v2 v3 v4 v5 v6:Value} (h0:qm w f0 v0 m.da.aM.aw) (d0:∀b∈f0,D b) (h1:qo w f1 v1 m.da.aM.ah) (d1:∀b∈f1,D b) (h2:iL w f2 v2 m.da.cj.ah) (d2:∀b∈f2,D b)
  (h3:qm w f3 v3 m.bf.aM.aw) (d3:∀b∈f3,D b) (h4:qo w f4 v4 m.bf.aM.ah) (d4:∀b∈f4,D b) (h5:iL w f5 v5 m.bf.cj.ah) (d5:∀b∈f5,D b) (h6:qn w f6 v6 m.aE) (d6:∀b∈f6,D b):
  jl P w D (.agg (ak m)) (.agg #[v0,v1,v2,.int .i64 m.da.aC,v3,v4,v5,.int .i64 m.bf.aC,.int .i64 m.dp,v6]):=by
 refine .agg _ _ (fun j=>(#[v0,v1,v2,.int .i64 m.da.aC,v3,v4,v5,.int .i64 m.bf.aC,.int .i64 m.dp,v6]:Array Value).getD j Go.undef) rfl (fun a ha=>by simp[ak]at ha;rcases ha with rfl|rfl|rfl|rfl|rfl|rfl|rfl|rfl|rfl|rfl<;>rfl) (fun j hj=>?_) (fun j a ha=>?_)
 ·match j,hj with
  |0,_=>rfl
  |1,_=>rfl
  |2,_=>rfl
  |3,_=>rfl
  |4,_=>rfl
  |5,_=>rfl
  |6,_=>rfl
  |7,_=>rfl
  |8,_=>rfl
  |9,_=>rfl
  |j+10,hj=>simp[ak]at hj<;>omega
 ·match j,ha with
  |0,ha=>simp[ak]at ha;subst ha;exact xu h0 d0
  |1,ha=>simp[ak]at ha;subst ha;exact xx h1 d1
  |2,ha=>simp[ak]at ha;subst ha;exact nH h2 d2
  |3,ha=>simp[ak]at ha;subst ha;exact .int _ _
  |4,ha=>simp[ak]at ha;subst ha;exact xu h3 d3
  |5,ha=>simp[ak]at ha;subst ha;exact xx h4 d4
  |6,ha=>simp[ak]at ha;subst ha;exact nH h5 d5
  |7,ha=>simp[ak]at ha;subst ha;exact .int _ _
  |8,ha=>simp[ak]at ha;subst ha;exact .int _ _
  |9,ha=>simp[ak]at ha;subst ha;exact ui h6 d6
  |j+10,ha=>simp[ak]at ha
variable {fuel:Nat} {cs:List Value} {x:DataW H×List MemPlace}
theorem zz (h:TT enc w fuel 107 cs x):∃m:bl,sK m/\jl Tryz.prog w (fun b=>b<w.heap.size) (.agg (ak m)) (.agg cs.toArray):=by
 obtain⟨hl,m,hf⟩:=lk Tryz.underlying107 h
 rw[show Tryz.prog.cellsOf _=10 from by kernel_rfl]at hl
 obtain⟨c0,c1,c2,c3,c4,c5,c6,c7,c8,c9,rfl⟩:=RQ hl
 obtain⟨y0,h0⟩:=hf 0 _ rfl
 obtain⟨y1,h1⟩:=hf 1 _ rfl
 obtain⟨y2,h2⟩:=hf 2 _ rfl
 obtain⟨y3,h3⟩:=hf 3 _ rfl
 rw[show Tryz.prog.cellsOf _=4 from by kernel_rfl]at h0 h1
 rw[show Tryz.prog.cellsOf _=1 from by kernel_rfl]at h2 h3
 obtain⟨A0,n0,k0,f0,A1,n1,k1,f1,A2,n2,k2,f2,s,e0,w0,s0,w1,s1,w2,s2,o0,o1⟩:=BY h0
 obtain⟨A3,n3,k3,f3,A4,n4,k4,f4,A5,n5,k5,f5,t,e1,w3,s3,w4,s4,w5,s5,o2,o3⟩:=BY h1
 obtain⟨z,e2,_⟩:=DataW.trod_int Tryz.underlying2 h2
 obtain⟨A6,n6,k6,f6,ls,e3,w6,s6⟩:=Ju h3
 simp at e0 e1 e2 e3
 obtain⟨rfl,rfl,rfl,rfl⟩:=e0
 obtain⟨rfl,rfl,rfl,rfl⟩:=e1
 subst e2 e3
 exact⟨⟨s,t,z,ls⟩,⟨⟨o0,o1⟩,o2,o3⟩,uk (m:=⟨s,t,z,ls⟩) s0 (fun b hb=>(w0 b hb).2) s1 (fun b hb=>(w1 b hb).2) s2 (fun b hb=>(w2 b hb).2) s3 (fun b hb=>(w3 b hb).2) s4 (fun b hb=>(w4 b hb).2) s5 (fun b hb=>(w5 b hb).2) s6 (fun b hb=>(w6 b hb).2)⟩
end
end Go.Proofs.YtgoljkjaameagaaGreat

namespace Go.Proofs.YtgoljkjaameagaaGreat
open Go.ChangeShapes Go.WideShapes Go.ChangeAt Go.RowKit V
theorem R0:ownKnob Tryz.prog.godebug=none:=by kernel_rfl
theorem Jd:laidOutB Tryz.prog=true:=by kernel_rfl
theorem JH (m:bl) (l:List ae) (hl:l.length<=1048576):(qc m l).1.length<=1099511627776:=by
 unfold qc
 split
 ·cases h:qj m.aE m.dp [] l with
  |none=>(try dsimp only);rw[List.length_nil];omega
  |some R=>
   have:=(zH yL.nil h).2
   rw[List.length_nil]at this
   (try dsimp only);omega
 ·(try dsimp only);rw[List.length_nil];omega
theorem Mh (s:bl) (a:eu) (hn:sK s):aq Tryz.prog 12 [.agg (ak s),.agg (bh a)] (.bool true):=
 LN (fun s a=>qc s a.ah) (fun s a hn hm _=>Ar s a.ah ⟨hn.1,hn.2,hm.b.s.g,hm.b.s.t,hm.s.s.g,hm.s.s.t⟩ hm.l) (fun s a hn hm hl n=>Aq s a.ah hn.1 hn.2 hm hl n) (fun s a _ _ hl=>JH s a.ah hl) s a hn
theorem Ed (os:Os) (started:os.Started) (H:Type) (enc:TypeId×Value->H):
  ReturnsInHanded {} Tryz.checked os 12 .any (Rows.fnExactRepresentSpec.pre6 enc Tryz.prog Tryz.f12 Rows.fnExactRepresentRow.domain false) (Rows.fnExactRepresentSpec.post enc Tryz.prog Tryz.f12 false true false false):=by
 refine returnsInHanded_of_change (C:=Tryz.checked) R0 started (by kernel_rfl) Tryz.func12
  (ChangeSpec.witness6 (enc:=enc) (C:=Tryz.checked) false ⟨#[], #[.agg #[.slice none 0 0,.slice none 0 0,.slice none 0 0,.int .i64 0,.slice none 0 0,.slice none 0 0,.slice none 0 0,.int .i64 0,.int .i64 0,.slice none 0 0],.agg #[.slice none 0 0]],[]⟩ 8 (by kernel_rfl) (by kernel_rfl) (by kernel_rfl) (by kernel_rfl)) ?_
 intro W base args ds gs before Nd hW hcnd _
 have sa:∀(j:Nat) t v,Tryz.f12.params[j]? =some t->args[j]? =some v->Value.okWide Tryz.prog W .any base t v:=Nd
 have hW':=hW
 obtain⟨p,q,hA0,hV,rfl,Cy,lu⟩:=hW
 have hA:DataW.TrodAll enc Tryz.prog W 0 (fun _=>true) true Tryz.f12.params.toList args.toList ds p:=hA0
 rw[Tryz.params12]at hA sa
 obtain⟨v0,vs0,d0,ds0,p0,q0,mZ,rfl,rfl,h0,r0⟩:=trodAll_cons hA
 obtain⟨v1,vs1,d1,ds1,p1,q1,rfl,rfl,rfl,h1,r1⟩:=trodAll_cons r0
 obtain⟨rfl,rfl,rfl⟩:=trodAll_nil r1
 obtain rfl:args= #[v0,v1]:=by cases args;simp_all
 obtain⟨rfl,rfl⟩:=trodVars_none hV
 obtain⟨MI,rfl,_⟩:=okWide_struct Tryz.underlying107 (sa 0 107 v0 rfl rfl)
 obtain⟨TG,rfl,_⟩:=okWide_struct Tryz.underlying28 (sa 1 28 v1 rfl rfl)
 have k0:=h0
 have k1:=h1
 have lt0:∀x∈p0,x.block<W.heap.size:=by obtain⟨m,hm⟩:=k0;exact DataW.trod_lt m _ _ _ hm
 have Qv:∀x∈p1,x.block<W.heap.size:=by obtain⟨m,hm⟩:=k1;exact DataW.trod_lt m _ _ _ hm
 obtain⟨s,hn,hi⟩:∃m:bl,sK m/\jl Tryz.prog W (fun b=>b<W.heap.size) (.agg (ak m)) (.agg (Value.agg MI).cells.toList.toArray):=by
  obtain⟨fuel,hf⟩:=h0
  exact zz hf
 have dS:(Value.agg MI).cells.toList.toArray=MI:=by cases MI;simp[Value.cells]
 rw[dS]at hi
 obtain⟨A3,n3,c3,f3,a,Q9,w3,s3⟩:∃A n c f,∃d:eu,(Value.agg TG).cells.toList=[.slice A n c]/\gz f 0 W.heap.size/\iL W f (.slice A n c) d.ah:=by
  obtain⟨fuel,hf⟩:=h1
  exact vq hf
 obtain rfl:TG= #[.slice A3 n3 c3]:=by
  cases TG;simp[Value.cells]at Q9;subst Q9;rfl
 clear hA0 Nd
 have gH:fw Tryz.prog W (fun b=>b<W.heap.size) (fun _=>none) [.agg (ak s),.agg (bh a)] #[.agg MI,.agg #[.slice A3 n3 c3]]:=by
  have h:=lX hi (lX (yK s3 (fun b hb=>(w3 b hb).2)) (⟨rfl,fun j b hj=>by cases j<;>cases hj⟩:fw Tryz.prog W (fun b=>b<W.heap.size) (fun _=>none) [] #[]))
  simpa using h
 have ij:=O7 mixed (Mh s a hn) gH
 clear s3 w3 hi gH
 refine(ij.mono fun e W' ⟨he,bel⟩=>?_)
 subst he
 exact⟨_,rfl,_,_,_,[],_,[],hW',trodAll_mk1 (shut_bool Tryz.underlying4 _),(trodAll_cons_mk (Below.trod Jd (by kernel_rfl) (of_decide_eq_true (by kernel_rfl)) k0 bel lt0) (trodAll_cons_mk (Below.trod Jd (by kernel_rfl) (of_decide_eq_true (by kernel_rfl)) k1 bel Qv) trodAll_mk0)),rfl,bel.frame _,fun h=>by cases h⟩
end Go.Proofs.YtgoljkjaameagaaGreat

namespace Go.Proofs.YtgoljkjaameagaaGreat
open Go.ChangeShapes Go.WideShapes Go.ChangeAt Go.RowKit
theorem rpN:Tryz.pinned.checked.prog.funcNamed Rows.fnExactRepresentRow.func=some 12:=by kernel_rfl
theorem rpJ:joinedFacts Tryz.pinned.checked.prog 12 Tryz.f12 Rows.fnExactRepresentSpec Rows.fnExactRepresentRow=true:=by
 unfold joinedFacts
 repeat(with_reducible refine Bool.and_eq_true_iff.2 ⟨?_,by as_aux_lemma=>kernel_rfl⟩)
 as_aux_lemma=>kernel_rfl
theorem rpI:Tryz.f12.isInstance Tryz.pinned.checked.prog Rows.fnExactRepresentRow.origin Rows.fnExactRepresentRow.targs:=of_decide_eq_true (by kernel_rfl)
theorem rpW:Tryz.f12.isWrapper Tryz.pinned.checked.prog Rows.fnExactRepresentRow.wrapper Rows.fnExactRepresentRow.mainSum:=by
 unfold Func.isWrapper;first|(rw[if_pos (by decide+kernel)];kernel_rfl)|(rw[if_neg (by decide+kernel)];exact⟨rfl,rfl⟩)
theorem JJ:Rows.fnExactRepresentRow.holds Tryz.pinned (OpenSpec.ofChange Rows.fnExactRepresentSpec):=
 OpenClaim.holds_of_wide 12 Tryz.f12 rfl rfl rfl rfl rfl rfl rfl ⟨rfl,rfl,rfl,rfl,rfl⟩ rfl rfl rfl rfl rfl rpN Tryz.func12 rpJ rpI rpW
  (fun os started H enc _=>Ed os started H enc)
theorem fnExactRepresent_proved:Rows.FnExactRepresentSaid:=JJ
end Go.Proofs.YtgoljkjaameagaaGreat
