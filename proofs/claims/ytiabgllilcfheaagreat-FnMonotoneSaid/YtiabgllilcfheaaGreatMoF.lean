/- TileSet.bonds, walked. -/
import Derived.Test.YtiabgllilcfheaaGreatMoE
import Derived.Test.YtiabgllilcfheaaGreatMoD
import Derived.Test.YtiabgllilcfheaaGreatMoB
import Derived.Test.YtiabgllilcfheaaGreatChecked
import Derived.OwnWalk
import Derived.Test.YtiabgllilcfheaaGreatMoA
import Derived.Shelf.RegionOpenPlain
import Derived.Lib.Walk
import Derived.Lib.SliceRun
import Derived.Lib.AppendZerosOnto
import Derived.Lib.Overlaps
import Derived.Laws.Externs
import Derived.Laws.IdiomCopy
import Derived.Laws.NewBlocks
import Derived.Test.YtiabgllilcfheaaGreatMoC
set_option linter.unusedVariables false
set_option linter.unusedSimpArgs false
set_option maxRecDepth 100000
set_option maxHeartbeats 16000000
namespace Go.Proofs.YtiabgllilcfheaaGreat.V
open Go.RowKit Go.Shelf
attribute [local go_sem] Oper.semAt_some
attribute [local irreducible] eC wpOps gi Call
attribute [local go_sem] aM fP fa fX fW du upd cz K.av cP AV.cells AV.cell rowOf rowsOf part ld rowAt bL cu dK eb gK bP de eu fS fq dx ef db da dR dS bU bf cU bR cW cV dW eh ee cR bW dd ec bQ aL cY cH gJ bF cL bV aY dr bq dL AV.undef bJ bK dV dY dQ dU cK er ez cF ej ei cX cZ List.getD_cons_zero List.getD_cons_succ List.getD_nil List.all_cons List.all_nil Bool.and_true Bool.true_and Bool.and_self Bool.not_true Bool.not_false Option.map_some Option.map_none Option.bind_some Option.bind_none List.length_cons List.length_nil List.take_succ_cons List.take_zero List.take_nil List.drop_succ_cons List.drop_zero List.drop_nil List.head?_cons List.map_cons List.map_nil List.getElem?_cons_zero List.getElem?_cons_succ List.cons_append List.nil_append List.append_nil List.length_map List.set_cons_zero List.set_cons_succ Nat.reduceMul eq_self Int.toNat_natCast Int.natCast_nonneg and_self true_and and_true decide_true decide_false Bool.false_eq_true Nat.zero_add Nat.add_zero List.contains_cons List.contains_nil Bool.or_false Bool.false_or beq_self_eq_true Nat.reduceBEq ne_eq not_true_eq_false not_false_eq_true Id.mk.injEq false_and and_false Nat.reduceLT Int.reduceLE Int.reduceLT Int.reduceToNat Int.reduceNeg Int.reduceAdd Nat.le_refl List.length_append beq_true beq_false Bool.not_eq_eq_eq_not or_false false_or eL ar ax aW bp bZ cw aV bH aU bh cQ bI
theorem LB (s:aH) (l:List aa) (hF:jT s) (hA:jf s l) (w:World) (Ag At:Option Addr) (ng cg nt ct:Nat) (vS:Value) (hT:lH Tryz.prog w (fun b=>b<w.heap.size) (.agg (aj s)) (.agg #[.slice Ag ng cg,.slice At nt ct])) (hP:rX w vS l):
  CallsIn Fence.wide 5 Tryz.prog 149 #[.agg #[.slice Ag ng cg,.slice At nt ct],.agg #[vS]] w fun e W'=>∃v,e=.returned v/\W'.ownsRow w.heap.size 163 3 v (dI s l).length (OT (dI s l))/\(v=.slice none 0 0↔dI s l=[])/\Below w.heap.size w W':=by
 obtain⟨A,cp,rfl,_,_⟩:=hP.sl
 obtain⟨i0,hi,Dx,Bg,qJ⟩:=info_parts Ms
 refine callsIn_of_wp_marks Tryz.func149 rfl trivial ?_ rfl
 simp only[Tryz.ntmps149,List.size_toArray,List.length_cons,List.length_nil,Nat.reduceAdd,Nat.reduceSub,Array.replicate_succ,Array.replicate_zero,List.push_toArray,List.append_toArray,List.nil_append,List.cons_append]
 gi_wp2_with (refine⟨trivial,?_⟩;gi_at_call 177;refine(CR _ _ _).mono ?_;rintro e w' ⟨rfl,rfl⟩)
 have bT:((w.alloc (.cells #[.slice Ag ng cg,.slice At nt ct] 27)).heap[w.heap.size]?)=some (.cells #[.slice Ag ng cg,.slice At nt ct] 27 (0,0)):=World.alloc_heap_new _ _
 obtain⟨w1,oP⟩:∃w1,w.alloc (.cells #[.slice Ag ng cg,.slice At nt ct] 27)=w1:=⟨_,rfl⟩
 have G7:w1.heap.size=w.heap.size+1:=by rw[<-oP];simp
 have Dr:Below w.heap.size w w1:=by rw[<-oP];exact(Below.refl _ w).alloc (Nat.le_refl _) _
 rw[oP]at bT ⊢
 clear oP
 have bA:=Boxed.new w1 30 (.slice A l.length cp)
 have bO:=Boxed.new (w1.alloc (.cells #[.slice A l.length cp] 30)) 138 (.slice none 0 0)
 have bN:=Boxed.new ((w1.alloc (.cells #[.slice A l.length cp] 30)).alloc (.cells #[.slice none 0 0] 138)) 30 (.slice A l.length cp)
 replace bA:=(bA.alloc (.cells #[.slice none 0 0] 138)).alloc (.cells #[.slice A l.length cp] 30)
 replace bO:=bO.alloc (.cells #[.slice A l.length cp] 30)
 simp only[World.size_alloc,G7]at bA bO bN
 have lg:Below w1.heap.size w1 (((w1.alloc (.cells #[.slice A l.length cp] 30)).alloc (.cells #[.slice none 0 0] 138)).alloc (.cells #[.slice A l.length cp] 30)):=(((Below.refl _ w1).alloc (Nat.le_refl _) _).alloc (by simp) _).alloc (by simp;omega) _
 have eQ:(((w1.alloc (.cells #[.slice A l.length cp] 30)).alloc (.cells #[.slice none 0 0] 138)).alloc (.cells #[.slice A l.length cp] 30)).heap.size=w.heap.size+4:=by simp;omega
 obtain⟨W0,WI⟩:∃W0,((w1.alloc (.cells #[.slice A l.length cp] 30)).alloc (.cells #[.slice none 0 0] 138)).alloc (.cells #[.slice A l.length cp] 30)=W0:=⟨_,rfl⟩
 rw[WI]at bA bO bN lg eQ ⊢
 clear WI
 have zX:Below w.heap.size w W0:=Dr.trans (lg.mono ah)
 replace bT:=(lg.block w.heap.size ah).trans bT
 have hP0:rX W0 (.slice A l.length cp) l:=hP.below zX
 have kl:=XK hP
 have iD:=sR (s:=s) hA.1
 refine wpIn_rangeFunc_ownH (n:=5) rfl ah (gf:=190) (lb:= #[.pointer (some ⟨w.heap.size+1+1+1,0,none⟩)]) rfl trivial (enters_of Tryz.func190 (by kernel_rfl) rfl)
  (MO l hA.1 (w.heap.size+1+1+1) (5-1) ah (.slice A l.length cp) (jl w.heap.size) kl W0 bN hP0) jl.trans (jl.b ah) (Below.refl _ _) (fun _=>rfl)
  (fun pre W=>((∃v,Boxed W (w.heap.size+1+1) 138 v/\W.ownsRow w.heap.size 163 3 v (pQ s l pre).length (OT (pQ s l pre))/\(v=.slice none 0 0↔pQ s l pre=[]))/\(Boxed W (w.heap.size+1) 30 (.slice A l.length cp)/\W.heap[w.heap.size]? =some (.cells #[.slice Ag ng cg,.slice At nt ct] 27 (0,0))))/\Below w.heap.size w W)
  (fun _ _ _=>False)
  (OwnFrom.and (OwnFrom.and (Own.from (holdsRow_own w.heap.size (w.heap.size+1+1) 138 163 3 (fun pre=>(pQ s l pre).length) (fun pre=>OT (pQ s l pre)) (fun pre v=>v=.slice none 0 0↔pQ s l pre=[])) _) (OwnFrom.and (Own.from (boxed_own _ _ _) _) (Own.from (Ev _ _ _ _) _))) (ownFrom_below (Nat.le_refl _) ah))
  (fun _ _ _ _ _ hs _ _=>hs)
  ⟨⟨⟨_,bO,World.ownsRow_nil _ _ _ _,by simp[pQ]⟩,bA,bT⟩,zX⟩
  (fun x a' W=>∃Bx,w.heap.size+1+1<Bx/\W.heap[Bx]? =some (.cells #[.int .i64 (x.1.1:Int),.int .i64 (x.1.2.1:Int)] 221 (0,0))/\a'={tmps:= #[.agg #[.slice Ag ng cg,.slice At nt ct],.agg #[.slice A l.length cp],.pointer (some ⟨w.heap.size,0,none⟩),.pointer (some ⟨w.heap.size+1,0,none⟩),.slice none 0 0,.pointer (some ⟨w.heap.size+1+1,0,none⟩),.pointer (some ⟨Bx,0,none⟩),.int .i64 x.1.2.2,undef,.agg #[.slice A l.length cp],.func (.func 190) #[] #[.pointer (some ⟨w.heap.size+1+1+1,0,none⟩)],.agg #[.int .i64 (x.1.1:Int),.int .i64 (x.1.2.1:Int)],.int .i64 x.1.2.2,undef,undef,undef,undef,undef,undef,undef,undef,undef,undef,undef,undef,undef,undef,undef,undef,undef,undef,undef,undef,undef,undef,undef,undef,undef,undef,undef,undef,undef],defers:=[]})
  (fun x a' _ X Y row hs hg hr=>by obtain⟨Bx,h1,h2,h3⟩:=hs;exact⟨Bx,h1,Ev Bx _ _ _ () X Y row h2 hg (fun r e=>(hr r e).2),h3⟩)
  ?assign ?body ?done ?stop
 case assign=>
  rintro q pre ⟨⟨x0,x1,x2⟩,hx⟩ W K ⟨⟨⟨v,hv,fy,hnil⟩,bA1,bT1⟩,hB⟩ hK
  simp only[Ie]
  gi_wp2
  exact hK _ _ ((KeepsOthers.alloc _ _).from _) (jl.of ((Below.refl _ W).alloc (Nat.le_refl _) _)) ⟨⟨⟨v,hv.alloc _,fy.alloc _,hnil⟩,bA1.alloc _,(Below.heap_alloc _ _ _ (Array.getElem?_eq_some_iff.1 bT1).1).trans bT1⟩,hB.alloc hB.size _⟩ ⟨W.heap.size,hv.lt,World.alloc_heap_new _ _,rfl⟩
 case body=>
  rintro q pre ⟨⟨x0,x1,x2⟩,hx⟩ a' W hq hqr ⟨⟨⟨v,hv,fy,hnil⟩,bA1,bT1⟩,hB⟩ ⟨Bx,hBx,bX,rfl⟩ eW
  obtain⟨IC,F9,sJ,-⟩:=id hx
  simp only at IC F9 sJ bX
  obtain⟨A',c',e',_,hc⟩:=(hP.below hB).sl
  cases e'
  have eD:∃b o,A=some ⟨b,o,none⟩/\W.cell? ⟨b,o+x0*3+2,none⟩=some (.int .i64 (bw l x0).ck)/\W.cell? ⟨b,o+x1*3+2,none⟩=some (.int .i64 (bw l x1).ck):=by
   rcases hc with rfl|⟨b,o,rfl,lv⟩
   ·simp at IC
   ·exact⟨b,o,rfl,by rw[Nat.add_assoc];exact(lv x0 IC).2.2,by rw[Nat.add_assoc];exact(lv x1 F9).2.2⟩
  obtain⟨b,o,rfl,cP0,cP1⟩:=eD
  have cT0:W.cell? ⟨w.heap.size,0,none⟩=some (.slice Ag ng cg):=by simp[World.cell?,bT1]
  have cT1:W.cell? ⟨w.heap.size,1,none⟩=some (.slice At nt ct):=by simp[World.cell?,bT1]
  have ZR:W.cell? ⟨Bx,0,none⟩=some (.int .i64 (x0:Int)):=by simp[World.cell?,bX]
  have ZS:W.cell? ⟨Bx,1,none⟩=some (.int .i64 (x1:Int)):=by simp[World.cell?,bX]
  have cA:=bA1.cell
  have dP0:W.drew.cell? ⟨b,o+x0*3+2,none⟩=some (.int .i64 (bw l x0).ck):=cP0
  have dP1:W.drew.cell? ⟨b,o+x1*3+2,none⟩=some (.int .i64 (bw l x1).ck):=cP1
  have dT0:W.drew.cell? ⟨w.heap.size,0,none⟩=some (.slice Ag ng cg):=cT0
  have dT1:W.drew.cell? ⟨w.heap.size,1,none⟩=some (.slice At nt ct):=cT1
  have dX0:W.drew.cell? ⟨Bx,0,none⟩=some (.int .i64 (x0:Int)):=ZR
  have dX1:W.drew.cell? ⟨Bx,1,none⟩=some (.int .i64 (x1:Int)):=ZS
  have dA:W.drew.cell? ⟨w.heap.size+1,0,none⟩=some (.slice (some ⟨b,o,none⟩) l.length cp):=cA
  have oM:∀i,i<l.length->bw l i∈l:=fun i hi=>by
   unfold bw
   rw[List.getD_eq_getElem?_getD,List.getElem?_eq_getElem hi]
   exact List.getElem_mem hi
  have hmix:=mixed
  have YT:=hA.1.wQ
  have Vy:=Lz s hF (bw l x0).ck x2 (bw l x1).ck (hA.2 _ (oM x0 IC)) (hA.2 _ (oM x1 F9)) (jn ah)
  have hTW:lH Tryz.prog W (fun b=>b<w.heap.size) (.agg (aj s)) (.agg #[.slice Ag ng cg,.slice At nt ct]):=hT.frame (fun b hb=>hB.block b hb) (fun _ h=>h)
  have hAW:lH Tryz.prog W (fun b=>b<w.heap.size) (.sl (l.map ai)) (.slice (some ⟨b,o,none⟩) l.length cp):=hP.fF.frame (fun b hb=>hB.block b hb) (fun _ h=>h)
  obtain⟨fT,hT0,hT1⟩:∃f:Nat->Value,(∀j,j<(aj s).length->(#[Value.slice Ag ng cg,.slice At nt ct])[j]? =some (f j))/\∀j a,(aj s)[j]? =some a->lH Tryz.prog W (fun b=>b<w.heap.size) a (f j):=by
   cases hTW with
   |agg _ _ f _ _ h3 h4=>exact⟨f,h3,h4⟩
  have eA:St Tryz.prog W.heap.size 42 (fun b=>b<w.heap.size) (LD w.heap.size Bx) (Sc s l x0 x1 x2) ⟨Q5 s l x0 x1,1⟩ {tmps:= #[.agg #[.slice Ag ng cg,.slice At nt ct],.agg #[.slice (some ⟨b,o,none⟩) l.length cp],.pointer (some ⟨w.heap.size,0,none⟩),.pointer (some ⟨w.heap.size+1,0,none⟩),.slice none 0 0,.pointer (some ⟨w.heap.size+1+1,0,none⟩),.pointer (some ⟨Bx,0,none⟩),.int .i64 x2,undef,.agg #[.slice (some ⟨b,o,none⟩) l.length cp],.func (.func 190) #[] #[.pointer (some ⟨w.heap.size+1+1+1,0,none⟩)],.agg #[.int .i64 (x0:Int),.int .i64 (x1:Int)],.int .i64 x2,undef,undef,undef,undef,undef,undef,undef,undef,undef,undef,undef,undef,undef,undef,undef,undef,undef,undef,undef,undef,undef,undef,undef,undef,undef,undef,undef,undef,undef],defers:=[]} W:=by
   have n1:(LD w.heap.size Bx) ⟨1,0⟩=some ⟨w.heap.size,2,2,none⟩:=rfl
   have n2:(LD w.heap.size Bx) ⟨2,0⟩=some ⟨w.heap.size+1,1,1,none⟩:=rfl
   have n3:(LD w.heap.size Bx) ⟨3,0⟩=some ⟨w.heap.size+1+1,1,1,none⟩:=rfl
   have n4:(LD w.heap.size Bx) ⟨4,0⟩=some ⟨Bx,2,2,none⟩:=rfl
   have n5:(LD w.heap.size Bx) ⟨5,0⟩=some ⟨w.heap.size+1+1+1,1,1,none⟩:=rfl
   have rp:∀(id:Id) (B:tM),(LD w.heap.size Bx) id=some B->B.k=none->dy Tryz.prog W (fun b=>b<w.heap.size) (LD w.heap.size Bx) (.ptr id 0 0) (.pointer (some ⟨B.b,0,none⟩)):=fun id B h hk=>by
    have:=dy.ptr (P:=Tryz.prog) (w:=W) (D:=fun b=>b<w.heap.size) id 0 0 B h hk
    simpa using this
   have ri:∀n:Int,dy Tryz.prog W (fun b=>b<w.heap.size) (LD w.heap.size Bx) (.int .i64 n) (.int .i64 n):=fun n=>.fF _ _ (.int _ _)
   have Sy:lH Tryz.prog W (fun b=>b<w.heap.size) (.agg [.sl (l.map ai)]) (.agg #[.slice (some ⟨b,o,none⟩) l.length cp]):=.agg _ _ (fun _=>.slice (some ⟨b,o,none⟩) l.length cp) rfl (fun a ha=>by simp at ha;rw[ha];rfl) (fun j hj=>by match j,hj with|0,_=>rfl|j+1,hj=>simp at hj) (fun j a ha=>by match j,ha with|0,ha=>simp at ha;subst ha;exact hAW|j+1,ha=>simp at ha)
   refine⟨⟨Nat.le_refl _,fun b hb=>Nat.lt_of_lt_of_le hb hB.size,fun id r hg=>?_,fun id lh r r' B B' h _ hw=>?_⟩,fun id hid=>?_,fun t=>?_,rfl⟩
   ·replace hg:Q5 s l x0 x1 id=some r:=hg
    unfold Q5 at hg
    split at hg
    ·rename_i e;subst e;injection hg with hg;subst hg
     exact⟨_,n1,Hy (cs:=aj s) rfl bT1 rfl rfl rfl (fun a ha=>by simp[aj]at ha;rcases ha with rfl|rfl<;>rfl) (fun j a ha=>⟨_,hT0 j (List.getElem?_eq_some_iff.1 ha).1,.fF _ _ (hT1 j a ha)⟩),fun h=>(by cases h),fun h=>(by cases h)⟩
    ·split at hg
     ·rename_i e;subst e;injection hg with hg;subst hg
      exact⟨_,n2,Hy (cs:=[.sl (l.map ai)]) rfl bA1 rfl rfl rfl (fun a ha=>by simp at ha;rw[ha];rfl) (fun j a ha=>by match j,ha with|0,ha=>simp at ha;subst ha;exact⟨_,rfl,.fF _ _ hAW⟩|j+1,ha=>simp at ha),fun h=>(by cases h),fun h=>(by cases h)⟩
     ·split at hg
      ·rename_i e;subst e;injection hg with hg;subst hg
       exact⟨_,n4,Hy (cs:=[.int .i64 (x0:Int),.int .i64 (x1:Int)]) rfl bX rfl rfl rfl (fun a ha=>by simp at ha;rcases ha with rfl|rfl<;>rfl) (fun j a ha=>by match j,ha with|0,ha=>simp at ha;subst ha;exact⟨_,rfl,ri _⟩|1,ha=>simp at ha;subst ha;exact⟨_,rfl,ri _⟩|j+2,ha=>simp at ha),fun h=>(by cases h),fun h=>(by cases h)⟩
      ·cases hg
   ·exfalso
    replace h:Q5 s l x0 x1 id=some r:=h
    unfold Q5 at h
    split at h
    ·injection h with h;subst h;cases hw
    ·split at h
     ·injection h with h;subst h;cases hw
     ·split at h
      ·injection h with h;subst h;cases hw
      ·cases h
   ·left
    unfold LD at hid
    repeat' (split at hid)
    all_goals first|(rename_i e;subst e;exact Nat.zero_lt_one)|exact absurd rfl hid
   ·match t with
    |0=>exact .fF _ _ hTW
    |1=>exact .fF _ _ Sy
    |2=>exact rp _ _ n1 rfl
    |3=>exact rp _ _ n2 rfl
    |4=>exact .fF _ _ .br
    |5=>exact rp _ _ n3 rfl
    |6=>exact rp _ _ n4 rfl
    |7=>exact ri _
    |8=>exact dy.undef
    |9=>exact .fF _ _ Sy
    |10=>exact .fn _ _ _ (fun _=>.pointer (some ⟨w.heap.size+1+1+1,0,none⟩)) (by kernel_rfl) rfl (fun j hj=>by match j,hj with|0,_=>rfl|j+1,hj=>simp at hj) (fun j a ha=>by match j,ha with|0,ha=>simp at ha;subst ha;exact rp _ _ n5 rfl|j+1,ha=>simp at ha)
    |11=>exact .agg _ _ (fun j=>if j=0 then .int .i64 (x0:Int)else .int .i64 (x1:Int)) rfl (fun a ha=>by simp at ha;rcases ha with rfl|rfl<;>rfl) (fun j hj=>by match j,hj with|0,_=>rfl|1,_=>rfl|j+2,hj=>simp at hj;omega) (fun j a ha=>by match j,ha with|0,ha=>simp at ha;subst ha;exact ri _|1,ha=>simp at ha;subst ha;exact ri _|j+2,ha=>simp at ha)
    |12=>exact ri _
    |13=>exact dy.undef
    |14=>exact dy.undef
    |15=>exact dy.undef
    |16=>exact dy.undef
    |17=>exact dy.undef
    |18=>exact dy.undef
    |19=>exact dy.undef
    |20=>exact dy.undef
    |21=>exact dy.undef
    |22=>exact dy.undef
    |23=>exact dy.undef
    |24=>exact dy.undef
    |25=>exact dy.undef
    |26=>exact dy.undef
    |27=>exact dy.undef
    |28=>exact dy.undef
    |29=>exact dy.undef
    |30=>exact dy.undef
    |31=>exact dy.undef
    |32=>exact dy.undef
    |33=>exact dy.undef
    |34=>exact dy.undef
    |35=>exact dy.undef
    |36=>exact dy.undef
    |37=>exact dy.undef
    |38=>exact dy.undef
    |39=>exact dy.undef
    |40=>exact dy.undef
    |41=>exact dy.undef
    |t+42=>exact dy.undef
  have hV:wpOps (Call Tryz.prog) true ?vl (fun e _=>e 5=.ptr ⟨3,0⟩ 0 0/\e 6=.ptr ⟨4,0⟩ 0 0/\e 8=.int .i64 (iL s (bw l x0).ck x2 (bw l x1).ck)) (Sc s l x0 x1 x2) ⟨Q5 s l x0 x1,1⟩:= ?hv
  gi_wp2
  refine CZ mixed (rrE (nt:=42) (site0:=149005000)) (MS (by kernel_rfl)) (mK (fun _ _ _ _ h=>iE mixed h) ma (fun _ _ h=>h) _ _ _ hV) eA ?_
  rintro e1 σ1 ⟨tm,df⟩ w3 D1 ι1 ⟨h5,h6,h8⟩ T1 vI GW
  case hv=>
   refine Hp ?_
   have e0:=gI IC
   have e1:=gI F9
   (have zF:=tw @e0 (tw @e1 (tw @Sc.eq_1 (tw @Q5.eq_1 (tw @ai.eq_1 @aj.eq_1))));(repeat(first|((repeat(revert N;apply Pn.out));refine wk zF ?_;(repeat(apply Pn.mk;intro N Z)))|((try apply Or.inl);refine⟨_,ay.x (Vy) (sd zF),?_⟩;apply Z;clear Z N)));try clear zF)
   exact⟨sd @Sc.eq_1,sd @Sc.eq_1,sd @Sc.eq_1⟩
  ·have Es:Below W.heap.size W w3:=T1.below
   have lV:∀id B,LD w.heap.size Bx id=some B->ι1 id=some B:=T1.names
   have p5:tm.getD 5 undef=.pointer (some ⟨w.heap.size+1+1,0,none⟩):=by
    have g:=vI.env 5
    rw[h5]at g
    obtain⟨B,e,hB,_⟩:=jk g
    have h:=lV ⟨3,0⟩ ⟨w.heap.size+1+1,1,1,none⟩ rfl
    rw[h]at hB;injection hB with hB;subst hB
    simpa using e
   have p6:tm.getD 6 undef=.pointer (some ⟨Bx,0,none⟩):=by
    have g:=vI.env 6
    rw[h6]at g
    obtain⟨B,e,hB,_⟩:=jk g
    have h:=lV ⟨4,0⟩ ⟨Bx,2,2,none⟩ rfl
    rw[h]at hB;injection hB with hB;subst hB
    simpa using e
   have p8:tm.getD 8 undef=.int .i64 (iL s (bw l x0).ck x2 (bw l x1).ck):=by
    have g:=vI.env 8
    rw[h8]at g
    exact eB g
   have eQ:=vI.size
   obtain⟨tl⟩:=tm
   obtain⟨f,F8,hf⟩:∃f:Nat->Value,tl=[f 0,f 1,f 2,f 3,f 4,f 5,f 6,f 7,f 8,f 9,f 10,f 11,f 12,f 13,f 14,f 15,f 16,f 17,f 18,f 19,f 20,f 21,f 22,f 23,f 24,f 25,f 26,f 27,f 28,f 29,f 30,f 31,f 32,f 33,f 34,f 35,f 36,f 37,f 38,f 39,f 40,f 41]/\∀i,f i=(⟨tl⟩:Array Value).getD i undef:=by
    refine⟨fun i=>(⟨tl⟩:Array Value).getD i undef,?_,fun _=>rfl⟩
    have h:=MG tl undef
    rw[show tl.length=42 from eQ]at h
    exact h
   rw[<-hf]at p5 p6 p8
   have hdf':df=[]:=GW
   subst hdf'
   clear hf vI eA hV
   subst F8
   rw[p5,p6,p8]
   have Zc:=hv.kept (grown_of Es) (by simp)
   have Ix:=fy.kept (grown_of Es) (by rcases fy.2 with⟨e,_⟩|⟨_,_,_,e,_⟩<;>rw[e]<;>simp[Value.ownBlock])
   have WO:=Zc.cell
   have Xj:w.heap.size<=w3.heap.size:=Nat.le_trans hB.size Es.size
   have eX0:w3.cell? ⟨Bx,0,none⟩=some (.int .i64 (x0:Int)):=(Es.cell (p:=⟨Bx,0,none⟩) (Array.getElem?_eq_some_iff.1 bX).1).trans ZR
   have eX1:w3.cell? ⟨Bx,1,none⟩=some (.int .i64 (x1:Int)):=(Es.cell (p:=⟨Bx,1,none⟩) (Array.getElem?_eq_some_iff.1 bX).1).trans ZS
   have nK:(pQ s l pre).length<=2097152:=by
    have h1:=Lx s l pre
    have h2:=Fs l l.length
    omega
   have hKF:KeepsFrom (w.heap.size+4) W w3:=⟨Es.size,fun k o _ hk _=>(Es.block k (Array.getElem?_eq_some_iff.1 hk).1).trans hk⟩
   have hKT:jl w.heap.size W w3:=jl.of Es
   have ZM:w3.heap[w.heap.size+1]? = _:=(Es.block _ bA1.lt).trans bA1
   have ZO:=(Es.block _ (Array.getElem?_eq_some_iff.1 bT1).1).trans bT1
   by_cases kd:0<iL s (bw l x0).ck x2 (bw l x1).ck
   ·have zY:pQ s l (pre++[⟨(x0,x1,x2),hx⟩])=pQ s l pre++[⟨x0,x1,iL s (bw l x0).ck x2 (bw l x1).ck⟩]:=by
     rw[AM];simp only[Cc,if_pos kd]
    gi_wp2_with (gi_at_builtin;refine wpListIn_append_own _ rfl _ _ 138 rfl w.heap.size 163 i0 (.agg #[.int .i64 0,.int .i64 0,.int .i64 0]) 3 24 (by kernel_rfl) hi Dx Bg qJ rfl (by decide) _ _ _ rfl (Ix.alloc _) ⟨w3.heap.size,0,none⟩ 1 1 [.int .i64 (x0:Int),.int .i64 (x1:Int),.int .i64 (iL s (bw l x0).ck x2 (bw l x1).ck)] rfl rfl (yF _ _ _ _ _) (by simp[Value.oneCell']) (by unfold maxLen;omega) ah (by simp;omega) ?_;intro v' w4 EH Bc _;obtain⟨g',ZT,rfl⟩:=ownsRow_succ EH;obtain⟨yY,PF,F6,sk,Cs⟩:=Zc.appended (by decide) Ix Xj ah EH Bc;have Ox:=jl.app Zc Ix Bc Cs;have pI:=yY.cell;have YS:=yY.frozen)
    exact⟨hKF.trans (sk.from _),hKT.trans Ox,⟨⟨_,PF,by rw[zY,Lw,List.length_append];exact F6,by rw[zY];simp⟩,(Ox.2.1 _ _ _ _ ZM (by decide) (by decide)).trans ZM,(Ox.2.1 _ _ _ _ ZO (by decide) (by decide)).trans ZO⟩,hB.trans ((Es.mono hB.size).trans Cs)⟩
   ·have zY:pQ s l (pre++[⟨(x0,x1,x2),hx⟩])=pQ s l pre:=by
     rw[AM];simp only[Cc,if_neg kd,List.append_nil]
    gi_wp2
    exact⟨hKF,hKT,⟨⟨v,Zc,by rw[zY];exact Ix,by rw[zY];exact hnil⟩,ZM,ZO⟩,hB.trans (Es.mono hB.size)⟩
 case done=>
  rintro D ys W hD Gb ⟨⟨⟨v,hv,fy,hnil⟩,_⟩,hB⟩ hK
  have hc:=hv.cell
  have Ol:pQ s l ys=dI s l:=by rw[LC,<-Gb];rfl
  rw[Ol]at fy hnil
  gi_wp2
  refine⟨by simp,.inl ⟨_,_,rfl,run_takeDeferred hK,?_⟩⟩
  exact⟨_,results_tmp rfl _ _ _,v,rfl,ownsRow_putObj fy _ hK rfl,hnil,hB.trans (belowK_b (w:=w) (Nat.le_refl _) W D _ _ ah hK rfl rfl)⟩
 case stop=>
  rintro D c pre W _ _ h _
  exact h.elim
end Go.Proofs.YtiabgllilcfheaaGreat.V

namespace Go.Proofs.YtiabgllilcfheaaGreat.V
open Go.RowKit Go.Shelf
theorem H7:∀{bs:List PB} {i j:Nat} {b:PB},bs[i]? =some b->j<3->(OT bs)[i*3+j]? =([.int .i64 b.a,.int .i64 b.b,.int .i64 b.s]:List Value)[j]?
 |c::bs,0,j,b,h,hj=>by
  simp at h;subst h
  simp only[OT,List.flatMap_cons,Nat.zero_mul,Nat.zero_add]
  rw[List.getElem?_append_left (by simpa using hj)]
 |c::bs,i+1,j,b,h,hj=>by
  simp only[List.getElem?_cons_succ]at h
  have:=H7 (bs:=bs) (i:=i) (j:=j) h hj
  simp only[OT,List.flatMap_cons]at this ⊢
  rw[List.getElem?_append_right (by simp;omega),<-this]
  congr 1
  simp;omega
theorem uB {P:Program} {w:World} {D:Nat->Prop} {rows:List (List AV)} {v:Value} (h:lH P w D (.sl rows) v):∃A n c,v=.slice A n c:=by
 cases h with
 |Dy a c _=>exact⟨_,_,_,rfl⟩
 |sl=>exact⟨_,_,_,rfl⟩
theorem tH {P:Program} {w:World} {D:Nat->Prop} {ι:Names} {rows:List (List AV)} {v:Value} (h:dy P w D ι (.sl rows) v):lH P w D (.sl rows) v:=by
 cases h with
 |fF _ _ h=>exact h
theorem Qh {P:Program} {w:World} {D:Nat->Prop} {l:List aa} {v:Value} (h:lH P w D (.sl (l.map ai)) v):rX w v l:=by
 generalize hr:l.map ai=rows at h
 cases h with
 |Dy a c hc=>
  have:l=[]:=by simpa using hr
  subst this
  exact⟨a,c,rfl,⟨Nat.zero_le _,hc⟩,.inl rfl⟩
 |sl _ b o n c sz vs h1 h2 h3 h4 h5 h5' h6 h7=>
  have hn:n=l.length:=by rw[<-h1,<-hr];simp
  subst hn
  refine⟨some ⟨b,o,none⟩,c,rfl,⟨h2,h3⟩,?_⟩
  by_cases hl:l=[]
  ·exact .inl hl
  refine .inr ⟨b,o,rfl,fun i hi=>?_⟩
  have hg:rows[i]? =some (ai (bw l i)):=by rw[<-hr];exact gI hi
  have eQ:sz=3:=by rw[<-h5 _ (List.mem_of_getElem? hg)];rfl
  subst eQ
  have k:∀(j:Nat) (x:Int),(ai (bw l i))[j]? =some (.int .i64 x)->j<3->w.cell? ⟨b,o+(i*3+j),none⟩=some (.int .i64 x):=fun j x hj h3=>by
   have:=h7 i j _ _ hg hj
   rw[h6 i j hi h3,eB (.fF (ι:=fun _=>none) _ _ this)]
  exact⟨k 0 _ rfl ah,k 1 _ rfl ah,k 2 _ rfl ah⟩
theorem Sb:Gc:=by
 intro s l hS hA n
 refine gG ?_
 intro hs D ι w vs S U A
 obtain⟨u0,Zb,r0⟩:=A.2 0 _ rfl
 obtain⟨u1,Xy,r1⟩:=A.2 1 _ rfl
 have eW:∀b,D b->b<w.heap.size:=S.dead
 obtain⟨v0,f0,rfl,Dx,_,YR,hr0⟩:=jw r0
 obtain⟨v1,f1,rfl,Bg,_,YS,Tg⟩:=jw r1
 have g0:=tH (hr0 0 _ rfl)
 have g1:=tH (hr0 1 _ rfl)
 have a0:=tH (Tg 0 _ rfl)
 obtain⟨Ag,ng,cg,eg⟩:=uB g0
 obtain⟨At,nt,ct,et⟩:=uB g1
 have e0:v0= #[.slice Ag ng cg,.slice At nt ct]:=by
  obtain⟨vl⟩:=v0
  have q0:=YR 0 (by simp[aj])
  have q1:=YR 1 (by simp[aj])
  rw[eg]at q0;rw[et]at q1
  match vl,Dx with
  |[a,b],_=>simp at q0 q1;rw[q0,q1]
 have e1:v1= #[f1 0]:=by
  obtain⟨vl⟩:=v1
  have q0:=YS 0 (by simp)
  match vl,Bg with
  |[a],_=>simp at q0;rw[q0]
 subst e0 e1
 have evs:vs= #[.agg #[.slice Ag ng cg,.slice At nt ct],.agg #[f1 0]]:=by
  obtain⟨vl⟩:=vs
  have hz:=A.1
  match vl,hz with
  |[a,b],_=>simp at Zb Xy;rw[Zb,Xy]
 subst evs
 have up:∀{a v},lH Tryz.prog w D a v->lH Tryz.prog w (fun b=>b<w.heap.size) a v:=fun h=>h.frame (fun _ _=>rfl) eW
 have hT:lH Tryz.prog w (fun b=>b<w.heap.size) (.agg (aj s)) (.agg #[.slice Ag ng cg,.slice At nt ct]):=
  .agg _ _ f0 Dx (fun a ha=>by simp[aj]at ha;rcases ha with rfl|rfl<;>rfl) YR (fun j a ha=>by
   match j,ha with
   |0,ha=>simp[aj]at ha;subst ha;exact up g0
   |1,ha=>simp[aj]at ha;subst ha;exact up g1
   |j+2,ha=>simp[aj]at ha)
 refine(callsIn_wide.1 (LB s l hS.form hA w Ag At ng cg nt ct (f1 0) hT (Qh a0))).mono ?_
 rintro e W' ⟨v,rfl,⟨hl,hown⟩,hnil,hB⟩
 have S':ik Tryz.prog hs D ι (fun _=>none) W':=S.stay (fun b hb=>hB.block b hb) hB.size (fun _ h=>h) (fun b hb=>Nat.lt_of_lt_of_le (eW b hb) hB.size) (fun _ h=>.inl h) (fun _ _ h=>h)
 have T:Step hs D ι w D ι W':=Step.stay S (fun b hb=>hB.block b hb) hB.size hB.os hB.tape hB.output (fun _ h=>h) (fun _ h=>.inl h) (fun _ _ h=>h)
 rcases hown with⟨rfl,h0⟩|⟨gb,cap,cur,rfl,SR,hblk,hle,GU,eD,oN⟩
 ·have yS:dI s l=[]:=hnil.1 rfl
  exact⟨.br,_,n,D,ι,_,rfl,⟨.br,iN _ _,by rw[yS];rfl⟩,T,S',U,Nat.le_refl _,.fF _ _ .br⟩
 ·have yS:dI s l≠[]:=fun h=>by have:=hnil.2 h;cases this
  have jP:ι ⟨0,n⟩=none:=fresh U (fun h=>h)
  have iF:∀{a v},dy Tryz.prog W' D ι a v->dy Tryz.prog W' D (kD ι ⟨0,n⟩ ⟨gb,3,cap*3,none⟩) a v:=fun h=>h.frame (fun _ _=>rfl) (fun _ h=>h) (fG jP)
  have hR:iJ Tryz.prog W' D (kD ι ⟨0,n⟩ ⟨gb,3,cap*3,none⟩) ⟨gb,3,cap*3,none⟩ ⟨true,3,(dI s l).map aP⟩:=by
   refine lQ.obj ⟨rfl,⟨cur,_,hblk,eD⟩,?_,fun cs hc=>?_,fun cs hc a ha=>?_,fun i j cs a hi hj=>?_⟩ rfl
   ·simp only[List.length_map];exact Nat.mul_le_mul_right 3 hle
   ·obtain⟨b,_,rfl⟩:=List.mem_map.1 hc;rfl
   ·obtain⟨b,_,rfl⟩:=List.mem_map.1 hc
    simp[aP]at ha
    rcases ha with rfl|rfl|rfl<;>rfl
   ·rw[List.getElem?_map]at hi
    simp only[Option.map_eq_some_iff]at hi
    obtain⟨b,hb,rfl⟩:=hi
    have hj3:j<3:=by have:=(List.getElem?_eq_some_iff.1 hj).1;simpa[aP]using this
    have lU:=(List.getElem?_eq_some_iff.1 hb).1
    have hg:=H7 hb hj3
    rw[<-oN,List.getElem?_take,if_pos ah]at hg
    have key:∀x:Value,([.int .i64 b.a,.int .i64 b.b,.int .i64 b.s]:List Value)[j]? =some x->W'.cell? ⟨gb,i*3+j,none⟩=some x:=fun x hx=>by
     rw[hx]at hg
     have e:W'.cell? ⟨gb,i*3+j,none⟩=cur[i*3+j]? :=by
      unfold World.cell?
      rw[show W'.heap[(⟨gb,i*3+j,none⟩:Addr).block]? = _ from hblk]
      rfl
     rw[e,<-Array.getElem?_toList];exact hg
    match j,hj with
    |0,hj=>simp[aP]at hj;subst hj;exact⟨_,key _ rfl,.fF _ _ (.int _ _)⟩
    |1,hj=>simp[aP]at hj;subst hj;exact⟨_,key _ rfl,.fF _ _ (.int _ _)⟩
    |2,hj=>simp[aP]at hj;subst hj;exact⟨_,key _ rfl,.fF _ _ (.int _ _)⟩
    |j+3,hj=>simp[aP]at hj
  have S2:=ik.add (r:=⟨true,3,(dI s l).map aP⟩) S S' jP SR hR
  refine⟨.own ⟨0,n⟩ 0 (dI s l).length,bL (fun _=>none) ⟨0,n⟩ ⟨true,3,(dI s l).map aP⟩,n+1,D,kD ι ⟨0,n⟩ ⟨gb,3,cap*3,none⟩,_,rfl,⟨C6 (dI s l),?_,rfl⟩,T.trans (Step.stay S' (fun _ _=>rfl) (Nat.le_refl _) rfl rfl rfl (fun _ h=>h) (fun _ h=>.inl h) (fG jP)),S2,U.upd.next,Nat.le_succ _,.own _ _ _ _ _ _ (eU _ _ _) rfl hle (.inr (by simp)) (by simp) GU⟩
  unfold C6
  rw[if_neg yS]
  have hg:(bL (fun _=>none) (⟨0,n⟩:Id) ⟨true,3,(dI s l).map aP⟩:Rows) ⟨0,n⟩=some ⟨true,3,(dI s l).map aP⟩:=by simp[bL]
  have:=eP (n:=5) hg rfl fun b=>xU _ 4 b
  simpa using this
end Go.Proofs.YtiabgllilcfheaaGreat.V

namespace Go.Proofs.YtiabgllilcfheaaGreat.V
open Go.RowKit
theorem TM {P:Program} {w:World} {D:Nat->Prop} {ι:Names} {x y:Int} {v:Value} (h:dy P w D ι (.agg [.int .i64 x,.int .i64 y]) v):v=.agg #[.int .i64 x,.int .i64 y]:=by
 obtain⟨vs,f,rfl,eQ,_,h1,h2⟩:=jw h
 have v0:=h1 0 (by simp)
 have v1:=h1 1 (by simp)
 rw[eB (h2 0 _ rfl)]at v0
 rw[eB (h2 1 _ rfl)]at v1
 obtain⟨vl⟩:=vs
 match vl,eQ with
 |[a,b],_=>
  simp at v0 v1
  rw[v0,v1]
theorem DQ {σ:az} {X O:Id} {b1 b2:Bool} {es:List En} (hX:σ.get X=some ⟨b1,1,[[.map O mP]]⟩) (hO:σ.get O=some ⟨b2,mP.mY,es.map pC⟩) (hl:es.length<=1000000):
  Call Tryz.prog 136 [.br,.fn 109 [.ptr X 0 0]] σ (fun r σ'=>σ.next<=σ'.next/\(∀x:Id,x.bj<σ.next->σ'.get x=σ.get x)/\∃ss:List aq,ss.Perm (es.map (·.1))/\((ss=[]/\r=.br)∨∃o:Id,r=.own o 0 ss.length/\σ'.get o=some ⟨true,2,ss.map ae⟩/\σ.next<=o.bj/\o.bj<σ'.next/\ss≠[])):=by
 refine gG fun hs D ι w vs S U A=>?_
 obtain⟨u1,us1,rfl,h1,h2⟩:=l6 A
 obtain⟨u2,us2,h3,h4,h5⟩:=l6 h2
 simp at h3;subst h3
 have:=zD h5
 simp at this;subst this
 obtain rfl:=jG h1
 obtain⟨vc,gf,rfl,_,z7,Rj,hrc⟩:=zE h4
 obtain⟨BX,hp,SB,hkX⟩:=jk (hrc 0 _ rfl)
 have hvc:vc= #[.pointer (some ⟨BX.b,0,none⟩)]:=by
  obtain⟨l⟩:=vc
  have q0:=Rj 0 (by simp)
  match l,z7 with
  |[a],_=>simp at q0;rw[q0,hp];simp
 subst hvc
 obtain⟨BX',Pc,RX,_,_⟩:=S.row X _ hX
 rw[SB]at Pc;injection Pc with Pc;subst Pc
 obtain⟨vm,JV,OB⟩:=(RX.row hkX).at_ 0 0 _ _ rfl rfl
 obtain⟨BO,rfl,hBO,hkO⟩:=C0 OB
 obtain⟨BO',Pb,RO,_,_⟩:=S.row O _ hO
 rw[hBO]at Pb;injection Pb with Pb;subst Pb
 obtain⟨_,Og,clock,hblk,eQ,⟨_,EO⟩,hM⟩:=RO.map mP hkO
 have hk:Og.toList.map (·.key)=(es.map (·.1)).map ud:=by
  have iG:Og.toList.length=es.length:=by simpa using eQ
  refine List.ext_getElem (by simpa using iG) fun i h1 h2=>?_
  have hi:i<es.length:=by simpa using h2
  obtain⟨e,kv,vv,q1,q2,_,q4,_⟩:=hM i (pC es[i]) (by simp[hi])
  have e1:kv=.agg [.int .i64 es[i].1.fC,.int .i64 es[i].1.fu]:=by
   simp[part,MK.ks,pC]at q2
   exact q2.symm
  subst e1
  have e2:=TM q4
  simp only[List.getElem_map]
  have e3:Og.toList[i]'ah=e:=by
   have:=Array.getElem?_eq_some_iff.1 q1
   obtain⟨_,h⟩:=this
   simpa using h
  rw[e3,e2];rfl
 have eW:∀b,D b->b<w.heap.size:=S.dead
 have hbx:BX.b<w.heap.size:=RX.lt
 have WR:w.cell? ⟨BX.b,0,none⟩=some (.map (some BO.b)):=by simpa using JV
 refine(callsIn_wide.1 (B8 BX.b BO.b Og clock EO (es.map (·.1)) hk (by simpa using hl) w hbx WR hblk)).mono ?_
 rintro e W' ⟨ss,v,yX,rfl,⟨hle',hown⟩,hnil,hB⟩
 have S':ik Tryz.prog hs D ι σ.get W':=S.stay (fun b hb=>hB.block b hb) hB.size (fun _ h=>h) (fun b hb=>Nat.lt_of_lt_of_le (eW b hb) hB.size) (fun _ h=>.inl h) (fun _ _ h=>h)
 have T:Step hs D ι w D ι W':=Step.stay S (fun b hb=>hB.block b hb) hB.size hB.os hB.tape hB.output (fun _ h=>h) (fun _ h=>.inl h) (fun _ _ h=>h)
 rcases hown with⟨rfl,h0⟩|⟨gb,cap,cur,rfl,SR,hblk2,hle,GU,eD,oN⟩
 ·have yS:ss=[]:=hnil.1 rfl
  exact⟨.br,_,σ.next,D,ι,_,rfl,⟨Nat.le_refl _,fun _ _=>rfl,ss,yX,.inl ⟨yS,rfl⟩⟩,T,S',U,Nat.le_refl _,.fF _ _ .br⟩
 ·have yS:ss≠[]:=fun h=>by have:=hnil.2 h;cases this
  have jP:ι ⟨0,σ.next⟩=none:=fresh U (fun h=>h)
  have hR:iJ Tryz.prog W' D (kD ι ⟨0,σ.next⟩ ⟨gb,2,cap*2,none⟩) ⟨gb,2,cap*2,none⟩ ⟨true,2,ss.map ae⟩:=by
   refine lQ.obj ⟨rfl,⟨cur,_,hblk2,eD⟩,?_,fun cs hc=>?_,fun cs hc a ha=>?_,fun i j cs a hi hj=>?_⟩ rfl
   ·simp only[List.length_map];exact Nat.mul_le_mul_right 2 hle
   ·obtain⟨b,_,rfl⟩:=List.mem_map.1 hc;rfl
   ·obtain⟨b,_,rfl⟩:=List.mem_map.1 hc
    simp[ae]at ha
    rcases ha with rfl|rfl<;>rfl
   ·rw[List.getElem?_map]at hi
    simp only[Option.map_eq_some_iff]at hi
    obtain⟨b,hb,rfl⟩:=hi
    have hj3:j<2:=by have:=(List.getElem?_eq_some_iff.1 hj).1;simpa[ae]using this
    have lU:=(List.getElem?_eq_some_iff.1 hb).1
    have hg:=Qi hb hj3
    rw[<-oN,List.getElem?_take,if_pos ah]at hg
    have key:∀x:Value,([.int .i64 b.fC,.int .i64 b.fu]:List Value)[j]? =some x->W'.cell? ⟨gb,i*2+j,none⟩=some x:=fun x hx=>by
     rw[hx]at hg
     have e:W'.cell? ⟨gb,i*2+j,none⟩=cur[i*2+j]? :=by
      unfold World.cell?
      rw[show W'.heap[(⟨gb,i*2+j,none⟩:Addr).block]? = _ from hblk2]
      rfl
     rw[e,<-Array.getElem?_toList];exact hg
    match j,hj with
    |0,hj=>simp[ae]at hj;subst hj;exact⟨_,key _ rfl,.fF _ _ (.int _ _)⟩
    |1,hj=>simp[ae]at hj;subst hj;exact⟨_,key _ rfl,.fF _ _ (.int _ _)⟩
    |j+2,hj=>simp[ae]at hj
  have S2:=ik.add (r:=⟨true,2,ss.map ae⟩) S S' jP SR hR
  refine⟨.own ⟨0,σ.next⟩ 0 ss.length,bL σ.get ⟨0,σ.next⟩ ⟨true,2,ss.map ae⟩,σ.next+1,D,kD ι ⟨0,σ.next⟩ ⟨gb,2,cap*2,none⟩,_,rfl,⟨Nat.le_succ _,fun x hx=>?_,ss,yX,.inr ⟨_,rfl,by simp[bL],Nat.le_refl _,Nat.lt_succ_self _,yS⟩⟩,T.trans (Step.stay S' (fun _ _=>rfl) (Nat.le_refl _) rfl rfl rfl (fun _ h=>h) (fun _ h=>.inl h) (fG jP)),S2,U.upd.next,Nat.le_succ _,.own _ _ _ _ _ _ (eU _ _ _) rfl hle (.inr (by simp)) (by simp) GU⟩
  have:¬x=⟨0,σ.next⟩:=fun e=>by subst e;simp at hx
  simp[bL,this]
end Go.Proofs.YtiabgllilcfheaaGreat.V

namespace Go.Proofs.YtiabgllilcfheaaGreat.V
open Go.RowKit
attribute [local irreducible] eC wpOps gi Call
attribute [local go_sem] aM fP fa fX fW du upd cz K.av cP AV.cells AV.cell rowOf rowsOf part ld rowAt bL cu dK eb gK bP de eu fS fq dx ef db da dR dS bU bf cU bR cW cV dW eh ee cR bW dd ec bQ aL cY cH gJ bF cL bV aY dr bq dL AV.undef bJ bK dV dY dQ dU cK er ez cF ej ei cX cZ List.getD_cons_zero List.getD_cons_succ List.getD_nil List.all_cons List.all_nil Bool.and_true Bool.true_and Bool.and_self Bool.not_true Bool.not_false Option.map_some Option.map_none Option.bind_some Option.bind_none List.length_cons List.length_nil List.take_succ_cons List.take_zero List.take_nil List.drop_succ_cons List.drop_zero List.drop_nil List.head?_cons List.map_cons List.map_nil List.getElem?_cons_zero List.getElem?_cons_succ List.cons_append List.nil_append List.append_nil List.length_map List.set_cons_zero List.set_cons_succ Nat.reduceMul eq_self Int.toNat_natCast Int.natCast_nonneg and_self true_and and_true decide_true decide_false Bool.false_eq_true Nat.zero_add Nat.add_zero List.contains_cons List.contains_nil Bool.or_false Bool.false_or beq_self_eq_true Nat.reduceBEq ne_eq not_true_eq_false not_false_eq_true Id.mk.injEq false_and and_false Nat.reduceLT Int.reduceLE Int.reduceLT Int.reduceToNat Int.reduceNeg Int.reduceAdd Nat.le_refl List.length_append beq_true beq_false Bool.not_eq_eq_eq_not or_false false_or eL ar ax aW bp bZ cw aV bH aU bh cQ bI
theorem qS {α:Type} [DecidableEq α]:∀{xs ys:List α},xs.Nodup->(∀x∈xs,x∈ys)->xs.length=ys.length->xs.Perm ys
 |[],ys,_,_,h=>by
  have:ys=[]:=List.eq_nil_of_length_eq_zero h.symm
  subst this;exact List.Perm.nil
 |x::xs,ys,hn,hs,h=>by
  obtain⟨h1,h2⟩:=List.nodup_cons.1 hn
  have hx:=hs x (by simp)
  have hl:=List.length_erase_of_mem hx
  have:=@qS α _ xs (ys.erase x) h2 (fun y hy=>(List.mem_erase_of_ne fun e=>h1 (by rw[<-e];exact hy)).2 (hs y (by simp[hy]))) (by rw[hl];simp only[List.length_cons]at h;omega)
  exact(this.cons x).trans (List.perm_cons_erase hx).symm
theorem pa {L:List aq} (h:ox L):L.Nodup:=List.Pairwise.imp (fun {a b} qa e=>by rw[e,lW]at qa;cases qa) h
theorem Qq {L qs:List aq} (hR:ox L) (hp:qs.Perm L) (hs:∀i j:Nat,i<j->j<qs.length->jM (kz qs j) (kz qs i)=false):qs=L:=by
 have hd:qs.Nodup:=hp.nodup_iff.2 (pa hR)
 have hq:ox qs:=by
  unfold ox
  unfold List.Nodup at hd
  rw[List.pairwise_iff_getElem]at hd ⊢
  intro i j hi hj EA
  have h1:=hs i j EA hj
  rw[kV hj,kV hi]at h1
  exact yc h1 fun e=>hd i j hi hj EA e.symm
 exact IU hq hR fun x=>hp.mem_iff
theorem KC (σ:az):Call Tryz.prog 108 [.br,.fn 84 []] σ fun r σ'=>r=.gM []/\σ'.next=σ.next/\σ'.get=σ.get:=by
 refine gG fun hs D ι w vs S U A=>?_
 obtain⟨u1,us1,rfl,h1,h2⟩:=l6 A
 obtain⟨u2,us2,h3,h4,h5⟩:=l6 h2
 simp at h3;subst h3
 have:=zD h5
 simp at this;subst this
 obtain rfl:=jG h1
 refine(RD _ _ _ w).mono ?_
 rintro e w' ⟨rfl,rfl⟩
 exact⟨.gM [],σ.get,σ.next,D,ι,_,rfl,⟨rfl,rfl,rfl⟩,Step.refl _ _ _ _,S,U,Nat.le_refl _,.gM [] #[] (fun _=>Go.undef) rfl (fun j hj=>by simp at hj) (fun j a h=>by simp at h)⟩
theorem Mv (O:Id) (σ:az):Call Tryz.prog 83 [.map O mP] σ (fun r σ'=>r=.fn 109 [.ptr ⟨83000000,σ.next⟩ 0 0]/\σ'.get ⟨83000000,σ.next⟩=some ⟨true,1,[[.map O mP]]⟩/\σ.next<σ'.next/\∀x:Id,x.bj<σ.next->σ'.get x=σ.get x):=by
 refine hZ fR rfl fun hl=>?_
 clear hl
 (try((repeat(revert N;apply Pn.out));refine wk @Nat.zero_add ?_;(repeat(apply Pn.mk;intro N Z))))
 exact fV (.inl rfl) (vs:=[.fn 109 [.ptr ⟨83000000,σ.next⟩ 0 0]]) (sd @Nat.zero_add) ⟨rfl,sd @Nat.zero_add,aQ,fun x hx=>by
  have:=dh hx
  simp only[go_sem, ↓reduceIte,Nat.reduceEqDiff,Nat.reduceAdd,Nat.reduceSub,Nat.reduceLeDiff,reduceCtorEq,this]⟩
theorem Jn {σ:az} {X O:Id} {b1 b2:Bool} {es:List En} (hX:σ.get X=some ⟨b1,1,[[.map O mP]]⟩) (hO:σ.get O=some ⟨b2,mP.mY,es.map pC⟩) (hl:es.length<=1000000) (hXv:X.bj<σ.next) (LZ:O.bj<σ.next):
  Call Tryz.prog 107 [.fn 109 [.ptr X 0 0]] σ (fun r σ'=>σ.next<=σ'.next/\(∀x:Id,x.bj<σ.next->σ'.get x=σ.get x)/\∃ss:List aq,ss.Perm (es.map (·.1))/\((ss=[]/\r=.br)∨∃o:Id,r=.own o 0 ss.length/\σ'.get o=some ⟨true,2,ss.map ae⟩/\σ.next<=o.bj/\o.bj<σ'.next/\ss≠[])):=by
 refine hZ fR rfl fun gZ=>?_
 clear gZ
 (try((repeat(revert N;apply Pn.out));refine wk @Nat.zero_add ?_;(repeat(apply Pn.mk;intro N Z))))
 refine .inr (aE _ _ _ _ _ (fun r σ1 hq=>?_) (DQ (σ:=⟨σ.get,_⟩) hX hO hl))
 obtain⟨g1,x1⟩:=σ1
 obtain⟨q1,q2,ss,q3,q4⟩:=hq
 (try dsimp only at q1 q2 q4)
 apply Z
 clear Z N
 (try((repeat(revert N;apply Pn.out));refine wk @Nat.zero_add ?_;(repeat(apply Pn.mk;intro N Z))))
 exact fV (.inl rfl) (vs:=[r]) (sd @Nat.zero_add) ⟨aQ,fun x hx=>q2 x ah,ss,q3,by
  rcases q4 with h|⟨o,h1,h2,h3,h4,h5⟩
  ·exact .inl h
  ·exact .inr ⟨o,h1,h2,ah,aQ,h5⟩⟩
theorem Nw {σ:az} {X O:Id} {b1 b2:Bool} {es:List En} (hX:σ.get X=some ⟨b1,1,[[.map O mP]]⟩) (hO:σ.get O=some ⟨b2,mP.mY,es.map pC⟩) (hl:es.length<=1000000) (hXv:X.bj<σ.next) (LZ:O.bj<σ.next) (L:List aq) (hR:ox L) (hn:(es.map (·.1)).Nodup) (hm:∀x,x∈L↔x∈es.map (·.1)):
  Call Tryz.prog 82 [.fn 109 [.ptr X 0 0],.fn 84 []] σ (fun r σ'=>σ.next<=σ'.next/\(∀x:Id,x.bj<σ.next->σ'.get x=σ.get x)/\((L=[]/\r=.br)∨∃o:Id,r=.own o 0 L.length/\σ'.get o=some ⟨true,2,L.map ae⟩/\σ.next<=o.bj/\o.bj<σ'.next/\L≠[])):=by
 refine hZ fR rfl fun gZ=>?_
 clear gZ
 (try((repeat(revert N;apply Pn.out));refine wk @Nat.zero_add ?_;(repeat(apply Pn.mk;intro N Z))))
 refine .inr (aE _ _ _ _ _ (fun r σ1 hq=>?_) (Jn (σ:=⟨σ.get,_⟩) hX hO hl aQ aQ))
 obtain⟨g1,x1⟩:=σ1
 obtain⟨q1,q2,ss,q3,q4⟩:=hq
 (try dsimp only at q1 q2 q4)
 have pU:ss.Nodup:=q3.nodup_iff.2 hn
 have oM:∀x,x∈L↔x∈ss:=fun x=>(hm x).trans q3.mem_iff.symm
 apply Z
 clear Z N
 rcases q4 with⟨hs,rfl⟩|⟨o,rfl,q5,q6,q7,q8⟩
 ·have hL:L=[]:=List.eq_nil_iff_forall_not_mem.2 fun x hx=>by have:=(oM x).1 hx;rw[hs]at this;cases this
  (try((repeat(revert N;apply Pn.out));refine wk @Nat.zero_add ?_;(repeat(apply Pn.mk;intro N Z))))
  refine .inr (aE _ _ _ _ _ (fun r σ2 hq=>?_) (KC ⟨g1,_⟩))
  obtain⟨g2,x2⟩:=σ2
  obtain⟨rfl,u1,u2⟩:=hq
  (try dsimp only at u1 u2)
  apply Z
  clear Z N
  (try((repeat(revert N;apply Pn.out));refine wk @Nat.zero_add ?_;(repeat(apply Pn.mk;intro N Z))))
  exact fV (.inl rfl) (vs:=[.br]) (sd @Nat.zero_add) ⟨aQ,fun x hx=>(congrFun u2 x).trans (q2 x ah),.inl ⟨hL,rfl⟩⟩
 ·have z6:ss.length<=1048576:=by rw[q3.length_eq,List.length_map];omega
  (try((repeat(revert N;apply Pn.out));refine wk @Nat.zero_add ?_;(repeat(apply Pn.mk;intro N Z))))
  refine .inr (aE _ _ _ _ _ (fun r σ2 hq=>?_) (KD X2 RD ss z6 ⟨g1,_⟩ o q5))
  obtain⟨g2,x2⟩:=σ2
  obtain⟨u1,u2,qs,u3,u4,u5,u6⟩:=hq
  (try dsimp only at u1 u2 u3)
  have Y6:qs=L:=Qq hR ((qS (pa hR) (fun x hx=>(u5 x).2 ((oM x).1 hx)) (by
   rw[u4]
   exact(qS (pa hR) (fun x hx=>(oM x).1 hx) (Nat.le_antisymm (nV (pa hR) fun x hx=>(oM x).1 hx) (nV pU fun x hx=>(oM x).2 hx))).length_eq)).symm) u6
  rw[Y6]at u3 u4
  have Oi:L≠[]:=fun e=>by rw[e]at u4;exact q8 (List.eq_nil_of_length_eq_zero u4.symm)
  apply Z
  clear Z N
  (try((repeat(revert N;apply Pn.out));refine wk @Nat.zero_add ?_;(repeat(apply Pn.mk;intro N Z))))
  exact fV (.inl rfl) (vs:=[.own o 0 ss.length]) (sd @Nat.zero_add) ⟨aQ,fun x hx=>by
   have h1:x≠o:=fun e=>by rw[e]at hx;omega
   exact(u2 x h1).trans (q2 x ah),.inr ⟨o,by rw[u4];rfl,u3,ah,aQ,Oi⟩⟩
def Li (z m:Nat) (L:List aa) (v:AV) (g:Rows) (n:Nat):Prop:=(L=[]/\v=.br)∨∃u:Id,v=.own u 0 L.length/\g u=some ⟨true,3,L.map ai⟩/\m<=u.bj/\u.bj<n/\0<L.length/\u.site=z
theorem Li.frame {z m:Nat} {L:List aa} {v v':AV} {g g':Rows} {n n':Nat} (h:Li z m L v g n) (he:v'=v) (hn:n<=n') (hf:∀x:Id,x.bj<n->g' x=g x):Li z m L v' g' n':=by
 subst he
 rcases h with h|⟨u,h1,h2,h3,h4,h5⟩
 ·exact .inl h
 ·exact .inr ⟨u,h1,(hf u h4).trans h2,h3,ah,h5⟩
def kj (p:aq) (ks:List Int) (j:Nat):List aa:=(ks.take j).map fun k=>⟨p,k⟩
theorem BE {p:aq} {ks:List Int} {j:Nat} (h:j<ks.length):kj p ks (j+1)=kj p ks j++[⟨p,ks.getD j 0⟩]:=by
 unfold kj
 rw[List.take_succ_eq_append_getElem h,List.map_append]
 simp[List.getD_eq_getElem?_getD,h]
theorem Fw (p:aq) (ks:List Int):kj p ks ks.length=ks.map fun k=>(⟨p,k⟩:aa):=by unfold kj;rw[List.take_length]
theorem IG {ks:List Int} {j:Nat} (h:j<ks.length):(ks.map aJ)[j]? =some [.int .i64 (ks.getD j 0)]:=by simp[aJ,List.getD_eq_getElem?_getD,h]
structure ZB (g:Rows) (n:Nat) (c T O:Id) (s:aA) (l:List aa):Prop where
 row:g c=some ⟨true,6,[[.sl (s.aI.bd.map ek),.sl (s.aI.au.map dw),.sl (s.dm.au.map ai),.int .i64 s.aD,.map T mP,.map O mP]]⟩
 cv:c.bj<n
 ov:O.bj<n
 op:∃es:List En,g O=some ⟨true,mP.mY,es.map pC⟩/\xN g n es (jb s l) (fun _=>True)
theorem TA {σ:az} {c T O:Id} {s:aA} {l:List aa} (h:ZB σ.get σ.next c T O s l) (hT:1<=s.aD) (hS:iK s.aI) (hA:jf s.aI l):
  Call Tryz.prog 49 [.ptr c 0 0] σ (fun r σ'=>σ.next<=σ'.next/\(∀x:Id,x.bj<σ.next->σ'.get x=σ.get x)/\Li 49008005 σ.next (oj (dX s l) s.aI.au.length (gx l)) r σ'.get σ'.next):=by
 refine hZ fR rfl fun gZ=>?_
 clear gZ
 obtain⟨es,hO,hE⟩:=h.op
 have fy:=h.row
 have v1:=dh h.cv
 have v2:=dh h.ov
 have F8:=hS.uY
 have Ew:=hA.1.wQ
 have S3:∀q,q∈kK s l↔q∈es.map (·.1):=fun q=>by
  rw[oU hT hA]
  rcases hE.at_ q trivial with⟨h1,h2⟩|⟨h1,o,h2,_⟩
  ·refine⟨fun h=>absurd h1 h,fun h=>?_⟩
   obtain⟨e,he,rfl⟩:=List.mem_map.1 h
   exact absurd rfl (h2 e he)
  ·exact⟨fun _=>List.mem_map_of_mem (f:=(·.1)) h2,fun _=>h1⟩
 have Pz:(kK s l).length<=10000:=by
  have h1:(kK s l).length<=(gx l).length:=List.length_filter_le _ _
  have h2:(gx l).length<=l.length*4:=kT l l.length
  omega
 have hes:es.length<=1000000:=by
  have h1:=nV hE.nodup fun x hx=>(S3 x).2 hx
  rw[List.length_map]at h1
  omega
 rw[Gq]
 have hR:=GC s l
 have wc:∀q∈kK s l,jb s l q≠[]:=fun q hq=>(oU hT hA q).1 hq
 generalize kK s l=ps at S3 Pz hR wc
 (try((repeat(revert N;apply Pn.out));refine wk (tw @fy @v1) ?_;(repeat(apply Pn.mk;intro N Z))))
 refine .inr (aE _ _ _ _ _ (fun r σ1 hq=>?_) (Mv O _))
 obtain⟨g1,x1⟩:=σ1
 obtain⟨rfl,q1,q2,q3⟩:=hq
 (try dsimp only at q1 q2 q3)
 have hO1:g1 O=some ⟨true,mP.mY,es.map pC⟩:=(q3 O (by have:=h.ov;(try dsimp only);omega)).trans hO
 apply Z
 clear Z N
 (try((repeat(revert N;apply Pn.out));refine wk @Nat.zero_add ?_;(repeat(apply Pn.mk;intro N Z))))
 refine .inr (aE _ _ _ _ _ (fun r σ2 hq=>?_) (Nw (σ:=⟨g1,_⟩) q1 hO1 hes aQ (by have:=h.ov;(try dsimp only);omega) ps hR hE.nodup S3))
 obtain⟨g2,x2⟩:=σ2
 obtain⟨u1,u2,u3⟩:=hq
 (try dsimp only at u1 u2 u3)
 have K2:∀x:Id,x.bj<σ.next->g2 x=σ.get x:=fun x hx=>(u2 x ah).trans (q3 x aQ)
 apply Z
 clear Z N
 rcases u3 with⟨hps,rfl⟩|⟨o,rfl,ho,vD,Y4,hpne⟩
 ·(try((repeat(revert N;apply Pn.out));refine wk @Nat.zero_add ?_;(repeat(apply Pn.mk;intro N Z))))
  refine bz (fun n env st=>(env 15=.int .i64 0/\env 14=.int .i64 0/\env 3=.br)/\σ.next<=st.next/\∀x:Id,x.bj<σ.next->st.get x=σ.get x) 0 ⟨⟨sd @Nat.zero_add,sl @Nat.zero_add,sd @Nat.zero_add⟩,aQ,fun x hx=>K2 x hx⟩ ?_
  rintro m e st ⟨⟨a15,OK,a3⟩,an,aF⟩ -
  have d0:decide ((0:Int)<0)=false:=rfl
  (try((repeat(revert N;apply Pn.out));refine wk (tw @a3 (tw @OK (tw @a15 @d0))) ?_;(repeat(apply Pn.mk;intro N Z))))
  exact fV (.inl rfl) (vs:=[.br]) (sd @a3) ⟨aQ,fun x hx=>aF x hx,.inl ⟨by rw[hps];rfl,rfl⟩⟩
 ·have A9:g2 c=some ⟨true,6,[[.sl (s.aI.bd.map ek),.sl (s.aI.au.map dw),.sl (s.dm.au.map ai),.int .i64 s.aD,.map T mP,.map O mP]]⟩:=(K2 c h.cv).trans fy
  have hO2:g2 O=some ⟨true,mP.mY,es.map pC⟩:=(K2 O h.ov).trans hO
  have Pk:=h.cv
  have LZ:=h.ov
  (try((repeat(revert N;apply Pn.out));refine wk @Nat.zero_add ?_;(repeat(apply Pn.mk;intro N Z))))
  refine bz (fun n env st=>∃k:Nat,n=(ps.length)-k/\k<=(ps.length)/\env 15=.int .i64 (k:Int)/\(x2<=st.next/\(∀x:Id,x.bj<x2->st.get x=g2 x)/\Li 49008005 x2 (oj (dX s l) s.aI.au.length (ps.take k)) (env 3) st.get st.next)) (ps.length) ⟨0,ah,ah,sl @Nat.zero_add,by(try dsimp only);exact⟨ah,fun x hx=>sd @Nat.zero_add,.inl ⟨rfl,sd @Nat.zero_add⟩⟩⟩ ?_
  rintro n_a env_a st_a ⟨k,rfl,ale,a15,nh⟩ eE
  have a0:=eE 0 (by kernel_rfl);have RY:=eE 13 (by kernel_rfl);have OK:=eE 14 (by kernel_rfl)
  simp only[go_sem, ↓reduceIte,Nat.reduceEqDiff,Nat.reduceAdd,Nat.reduceSub,Nat.reduceLeDiff,reduceCtorEq]at a0 RY OK
  clear eE
  obtain⟨an,eE,a3⟩:=nh
  have bl:(oj (dX s l) s.aI.au.length (ps.take k)).length<=10000*160:=by
   have h2:=xQ (dX s l) s.aI.au.length (ps.take k)
   have h3:(ps.take k).length*s.aI.au.length<=10000*160:=Nat.mul_le_mul (by rw[List.length_take];omega) F8
   omega
  by_cases hk:(k:Int)<(ps.length:Int)
  ·have dD:∀{e:Env} {gg:Rows} {nx:Nat},(e 15=.int .i64 (IntKind.i64.wrap ((k:Int)+1)))->(x2<=nx/\(∀x:Id,x.bj<x2->gg x=g2 x)/\Li 49008005 x2 (oj (dX s l) s.aI.au.length (ps.take (k+1))) (e 3) gg nx)->∃m0,m0<(ps.length)-k/\∃k:Nat,m0=(ps.length)-k/\k<=(ps.length)/\e 15=.int .i64 (k:Int)/\(x2<=nx/\(∀x:Id,x.bj<x2->gg x=g2 x)/\Li 49008005 x2 (oj (dX s l) s.aI.au.length (ps.take k)) (e 3) gg nx):=fun x1 x2=>⟨_,ah,k+1,rfl,ah,(by rw[x1,aK ah]),x2⟩
   have iO:k<ps.length:=ah
   have xH:=(eE o Y4).trans ho
   have vao:=dh (i:=o) (n:=st_a.next) ah
   have iS:=xn iO
   have Rj:=(eE c ah).trans A9
   have vac:=dh (i:=c) (n:=st_a.next) ah
   have YU:=(eE O ah).trans hO2
   have vaO:=dh (i:=O) (n:=st_a.next) ah
   obtain⟨o',Ct,ho'v,S8⟩:∃o':Id,(kz ps k,AV.own o' 0 (jb s l (kz ps k)).length)∈es/\o'.bj<σ.next/\σ.get o'=some ⟨true,1,(jb s l (kz ps k)).map aJ⟩:=by
    rcases hE.at_ (kz ps k) trivial with⟨h1,_⟩|⟨_,o',h2⟩
    ·exact absurd h1 (wc _ (CY iO))
    ·exact⟨o',h2⟩
   obtain⟨fi,GX,_,_,EN,Xl⟩:=By (kz ps k) es
   obtain⟨j0,rfl,Rn⟩:∃j,fi=some j/\(es.map pC)[j]? =some [.int .i64 (kz ps k).fC,.int .i64 (kz ps k).fu,.own o' 0 (jb s l (kz ps k)).length]:=by
    cases fi with
    |none=>exact absurd rfl (Xl rfl _ Ct)
    |some j=>
     obtain⟨v,hv⟩:=EN j rfl
     have e:=PU hE.nodup (List.mem_of_getElem? hv) Ct
     subst e
     exact⟨j,rfl,by rw[List.getElem?_map,hv];rfl⟩
   have K1:=DV (B:=dX s l) (m:=s.aI.au.length) iO
   have gH:H5 (dX s l) (kz ps k) s.aI.au.length=(jb s l (kz ps k)).map fun t=>(⟨kz ps k,t⟩:aa):=vK _ _ _
   rw[gH,<-Fw]at K1
   have PE:(jb s l (kz ps k)).length<=160:=by
    have:=rq (dX s l) (kz ps k) s.aI.au.length
    unfold jb;omega
   generalize kz ps k=q at GX Rn Ct S8 iS K1 PE
   generalize jb s l q=us at Rn Ct S8 K1 PE
   generalize oj (dX s l) s.aI.au.length (ps.take k)=L at a3 bl K1
   (try((repeat(revert N;apply Pn.out));refine wk (tw @a15 (tw @a0 (tw @RY (tw @OK (tw @hk (tw @xH (tw @vao (tw @iS (tw @Rj (tw @vac (tw @YU (tw @vaO (tw @GX (tw @Rn @ae.eq_1)))))))))))))) ?_;(repeat(apply Pn.mk;intro N Z))))
   refine bz (fun n env st=>∃j:Nat,n=(us.length)-j/\j<=(us.length)/\env 26=.int .i64 (j:Int)/\st.get ⟨49004002,st_a.next+1⟩=some ⟨true,2,[ae q]⟩/\(st_a.next+2<=st.next/\(∀x:Id,x.bj<x2->st.get x=g2 x)/\Li 49008005 x2 (L++kj q us j) (env 3) st.get st.next)) (us.length) ⟨0,ah,ah,sl (tw @a15 (tw @a0 (tw @RY (tw @OK @ae.eq_1)))),sl (tw @a15 (tw @a0 (tw @RY (tw @OK @ae.eq_1)))),by(try dsimp only);exact⟨ah,fun x hx=>by
    have h2:=dh (i:=x) (n:=st_a.next) ah
    have h3:=eE x hx
    simp only[go_sem, ↓reduceIte,Nat.reduceEqDiff,Nat.reduceAdd,Nat.reduceSub,Nat.reduceLeDiff,reduceCtorEq,h2,h3],by
    rw[show kj q us 0=[]from rfl,List.append_nil]
    exact a3.frame (sd @Nat.zero_add) ah fun x hx=>by
     have h2:=dh hx
     simp only[go_sem, ↓reduceIte,Nat.reduceEqDiff,Nat.reduceAdd,Nat.reduceSub,Nat.reduceLeDiff,reduceCtorEq,h2]⟩⟩ ?_
   rintro n_b env_b st_b ⟨j,rfl,ble,b26,bg0,bI0⟩ fo
   have b0:=fo 0 (by kernel_rfl);have b5:=fo 5 (by kernel_rfl);have yv:=fo 13 (by kernel_rfl);have R6:=fo 14 (by kernel_rfl);have R7:=fo 15 (by kernel_rfl);have R8:=fo 24 (by kernel_rfl);have R9:=fo 25 (by kernel_rfl)
   simp only[go_sem, ↓reduceIte,Nat.reduceEqDiff,Nat.reduceAdd,Nat.reduceSub,Nat.reduceLeDiff,reduceCtorEq,a15,a0,RY,OK,ae]at b0 b5 yv R6 R7 R8 R9
   clear fo
   obtain⟨bn,fo,b3⟩:=bI0
   have Zs:=dh (i:=⟨49004002,st_a.next+1⟩) (n:=st_b.next) aQ
   have kO:(L++kj q us j).length<=16777214:=by
    have:(kj q us j).length<=us.length:=by unfold kj;simp;omega
    rw[List.length_append];omega
   by_cases hj:(j:Int)<(us.length:Int)
   ·have fN:∀{e:Env} {gg:Rows} {nx:Nat},(e 26=.int .i64 (IntKind.i64.wrap ((j:Int)+1)))->(gg ⟨49004002,st_a.next+1⟩=some ⟨true,2,[ae q]⟩)->(st_a.next+2<=nx/\(∀x:Id,x.bj<x2->gg x=g2 x)/\Li 49008005 x2 (L++kj q us (j+1)) (e 3) gg nx)->∃m0,m0<(us.length)-j/\∃j:Nat,m0=(us.length)-j/\j<=(us.length)/\e 26=.int .i64 (j:Int)/\gg ⟨49004002,st_a.next+1⟩=some ⟨true,2,[ae q]⟩/\(st_a.next+2<=nx/\(∀x:Id,x.bj<x2->gg x=g2 x)/\Li 49008005 x2 (L++kj q us j) (e 3) gg nx):=fun x1 x2 x3=>⟨_,ah,j+1,rfl,ah,(by rw[x1,aK ah]),x2,x3⟩
    have nk:j<us.length:=ah
    have uA:=BE (p:=q) nk
    have Cu:=IG nk
    have Xb:=(fo o' ah).trans ((K2 o' ho'v).trans S8)
    have X4:=dh (i:=o') (n:=st_b.next) ah
    have Pr:(us.map aJ).length=us.length:=by simp
    have uj:L++kj q us (j+1)=(L++kj q us j)++[⟨q,us.getD j 0⟩]:=by rw[uA,List.append_assoc]
    generalize us.getD j 0=t at Cu uj
    generalize L++kj q us j=M at b3 kO uj
    have uw:(M++[(⟨q,t⟩:aa)]).length=M.length+1:=by simp
    have lV:(M++[(⟨q,t⟩:aa)]).map ai=M.map ai++[[.int .i64 q.fC,.int .i64 q.fu,.int .i64 t]]:=by rw[List.map_append];rfl
    rcases b3 with⟨hM,b3⟩|⟨u,b3,hug,hum,huv,hul0,hus⟩
    ·subst hM
     (try((repeat(revert N;apply Pn.out));refine wk (tw @b26 (tw @bg0 (tw @b0 (tw @b5 (tw @yv (tw @R6 (tw @R7 (tw @R8 (tw @R9 (tw @hj (tw @Cu (tw @Xb (tw @X4 (tw @Pr (tw @b3 (tw @Zs @ae.eq_1)))))))))))))))) ?_;(repeat(apply Pn.mk;intro N Z))))
     refine fN ?_ ?_ (by(try dsimp only);exact⟨ah,fun x hx=>by
      have h2:=dh (i:=x) (n:=st_b.next) ah
      have h3:=fo x hx
      simp only[go_sem, ↓reduceIte,Nat.reduceEqDiff,Nat.reduceAdd,Nat.reduceSub,Nat.reduceLeDiff,reduceCtorEq,h2,h3],.inr ⟨⟨49008005,st_b.next+1+1⟩,by rw[uj,uw];simp only[go_sem, ↓reduceIte,Nat.reduceEqDiff,Nat.reduceAdd,Nat.reduceSub,Nat.reduceLeDiff,reduceCtorEq]<;>rfl,by rw[uj,lV];simp only[go_sem, ↓reduceIte,Nat.reduceEqDiff,Nat.reduceAdd,Nat.reduceSub,Nat.reduceLeDiff,reduceCtorEq]<;>rfl,aQ,aQ,by rw[uj,uw];omega,rfl⟩⟩)
     all_goals simp only[go_sem, ↓reduceIte,Nat.reduceEqDiff,Nat.reduceAdd,Nat.reduceSub,Nat.reduceLeDiff,reduceCtorEq,b26,bg0,b0,b5,yv,R6,R7,R8,R9,Zs,ae]
    ·have vub:=dh huv
     have gU:(M.map ai).length=M.length:=by simp
     have hM1:M.length<=16777215:=ah
     have ux:=iP hus (b:=49004002) (v:=st_a.next+1) (by decide)
     (try((repeat(revert N;apply Pn.out));refine wk (tw @b26 (tw @bg0 (tw @b0 (tw @b5 (tw @yv (tw @R6 (tw @R7 (tw @R8 (tw @R9 (tw @hj (tw @Cu (tw @Xb (tw @X4 (tw @Pr (tw @b3 (tw @hug (tw @vub (tw @gU (tw @hM1 (tw @Zs (tw @ux @ae.eq_1))))))))))))))))))))) ?_;(repeat(apply Pn.mk;intro N Z))))
     refine fN ?_ ?_ (by(try dsimp only);exact⟨ah,fun x hx=>by
      have h2:=dh (i:=x) (n:=st_b.next) ah
      have h4:=dP (a:=x) (b:=u) ah
      have h3:=fo x hx
      simp only[go_sem, ↓reduceIte,Nat.reduceEqDiff,Nat.reduceAdd,Nat.reduceSub,Nat.reduceLeDiff,reduceCtorEq,h2,h3,h4],.inr ⟨⟨49008005,st_b.next+1+1⟩,by rw[uj,uw];simp only[go_sem, ↓reduceIte,Nat.reduceEqDiff,Nat.reduceAdd,Nat.reduceSub,Nat.reduceLeDiff,reduceCtorEq]<;>rfl,by rw[uj,lV];simp only[go_sem, ↓reduceIte,Nat.reduceEqDiff,Nat.reduceAdd,Nat.reduceSub,Nat.reduceLeDiff,reduceCtorEq]<;>rfl,aQ,aQ,by rw[uj,uw];omega,rfl⟩⟩)
     all_goals simp only[go_sem, ↓reduceIte,Nat.reduceEqDiff,Nat.reduceAdd,Nat.reduceSub,Nat.reduceLeDiff,reduceCtorEq,b26,bg0,b0,b5,yv,R6,R7,R8,R9,Zs,ux,ae]
   ·have hju:j=us.length:=ah
    subst hju
    (try((repeat(revert N;apply Pn.out));refine wk (tw @b26 (tw @bg0 (tw @b0 (tw @b5 (tw @yv (tw @R6 (tw @R7 (tw @R8 (tw @R9 @hj))))))))) ?_;(repeat(apply Pn.mk;intro N Z))))
    exact dD (sd (tw @a15 (tw @a0 (tw @RY (tw @OK (tw @b26 (tw @bg0 (tw @b0 (tw @b5 (tw @yv (tw @R6 (tw @R7 (tw @R8 @R9))))))))))))) (by(try dsimp only);exact⟨ah,fun x hx=>fo x hx,by
     rw[K1]
     exact b3.frame (sd @Nat.zero_add) ah fun x hx=>rfl⟩)
  ·have mM:k=ps.length:=ah
   subst mM
   rw[List.take_length]at a3
   (try((repeat(revert N;apply Pn.out));refine wk (tw @a15 (tw @a0 (tw @RY (tw @OK @hk)))) ?_;(repeat(apply Pn.mk;intro N Z))))
   exact fV (.inl rfl) (vs:=[env_a 3]) (sd @Nat.zero_add) ⟨aQ,fun x hx=>(eE x ah).trans (K2 x hx),by
    rcases a3 with h1|⟨u,h1,h2,h3,h4,h5⟩
    ·exact .inl h1
    ·exact .inr ⟨u,h1,h2,ah,aQ,h5⟩⟩
theorem Tz {σ:az} {c T O:Id} {s:aA} {l:List aa} (h:Jc σ.get σ.next c T O s l) (hT:1<=s.aD) (hS:iK s.aI) (hA:jf s.aI l):
  Call Tryz.prog 49 [.ptr c 0 0] σ (fun r σ'=>σ.next<=σ'.next/\(∀x:Id,x.bj<σ.next->σ'.get x=σ.get x)/\Li 49008005 σ.next (oj (dX s l) s.aI.au.length (gx l)) r σ'.get σ'.next):=TA ⟨h.o.row,h.o.cv,h.o.ov,h.op⟩ hT hS hA
end Go.Proofs.YtiabgllilcfheaaGreat.V

namespace Go.Proofs.YtiabgllilcfheaaGreat.V
open Go.RowKit
end Go.Proofs.YtiabgllilcfheaaGreat.V

namespace Go.Proofs.YtiabgllilcfheaaGreat.V
open Go.RowKit
attribute [local irreducible] eC wpOps gi Call
attribute [local go_sem] aM fP fa fX fW du upd cz K.av cP AV.cells AV.cell rowOf rowsOf part ld rowAt bL cu dK eb gK bP de eu fS fq dx ef db da dR dS bU bf cU bR cW cV dW eh ee cR bW dd ec bQ aL cY cH gJ bF cL bV aY dr bq dL AV.undef bJ bK dV dY dQ dU cK er ez cF ej ei cX cZ List.getD_cons_zero List.getD_cons_succ List.getD_nil List.all_cons List.all_nil Bool.and_true Bool.true_and Bool.and_self Bool.not_true Bool.not_false Option.map_some Option.map_none Option.bind_some Option.bind_none List.length_cons List.length_nil List.take_succ_cons List.take_zero List.take_nil List.drop_succ_cons List.drop_zero List.drop_nil List.head?_cons List.map_cons List.map_nil List.getElem?_cons_zero List.getElem?_cons_succ List.cons_append List.nil_append List.append_nil List.length_map List.set_cons_zero List.set_cons_succ Nat.reduceMul eq_self Int.toNat_natCast Int.natCast_nonneg and_self true_and and_true decide_true decide_false Bool.false_eq_true Nat.zero_add Nat.add_zero List.contains_cons List.contains_nil Bool.or_false Bool.false_or beq_self_eq_true Nat.reduceBEq ne_eq not_true_eq_false not_false_eq_true Id.mk.injEq false_and and_false Nat.reduceLT Int.reduceLE Int.reduceLT Int.reduceToNat Int.reduceNeg Int.reduceAdd Nat.le_refl List.length_append beq_true beq_false Bool.not_eq_eq_eq_not or_false false_or eL ar ax aW bp bZ cw aV bH aU bh cQ bI
def xf (p:aq->Bool) (l:List aq):List aq:=l.filter fun x=> !p x
theorem Tx {p:aq->Bool} {l:List aq} {j:Nat} (hj:j<l.length):xf p (l.take (j+1))=xf p (l.take j)++if p l[j]=true then[]else[l[j]]:=by
 unfold xf
 rw[List.take_succ_eq_append_getElem hj,List.filter_append]
 congr 1
 cases h:p l[j]<;>simp[h]
theorem Tw {p:aq->Bool} {l:List aq} (h:∀b∈l,p b=false):xf p l=l:=by
 unfold xf
 rw[List.filter_eq_self]
 intro b hb
 rw[h b hb];rfl
structure DlP (p:aq->Bool) (bs:List aq) (j:Nat) (R:List aq):Prop where
 len:R.length=bs.length
 pre:R.take (xf p (bs.take j)).length=xf p (bs.take j)
 post:∀x,j<=x->R[x]? =bs[x]?
 lt:(xf p (bs.take j)).length<j
theorem oJ (s:aA) (l:List aa) (hn:jh s.aI) (hm:DM s) (hl:l.length<=1048576):ay Tryz.prog 40 [.agg (bt s),.agg [.sl (l.map ai)]] (.int .i64 (if xu s l then 0 else 1)):=by
 refine ay.body fR rfl fun gZ n0=>?_
 clear gZ
 have h1:=Ad Sb s hn hm.s.g hm.s.t hm.s.s hm.a
 have h2:=pw s.aI l hn hm.s.g hm.s.t hm.s.s hl
 cases b1:kC s
 ·rw[b1]at h1
  rw[bt]at h1 ⊢
  (repeat(first|((repeat(revert N;apply Pn.out));refine wk @Nat.zero_add ?_;(repeat(apply Pn.mk;intro N Z)))|((try apply Or.inl);refine⟨_,ay.x (h1) (sd @Nat.zero_add),?_⟩;apply Z;clear Z N)))
  exact eJ (b:=1) (.inl rfl) (sd @Nat.zero_add) (by simp[xu,b1])
 have fx:tJ s.aI=true:=n9.2 (oc.1 b1).set
 rw[b1]at h1
 rw[fx,Bool.true_and]at h2
 rw[bt]at h1 ⊢
 rw[aj]at h2
 cases b2:rZ s.aI l
 ·rw[b2]at h2
  (repeat(first|((repeat(revert N;apply Pn.out));refine wk @Nat.zero_add ?_;(repeat(apply Pn.mk;intro N Z)))|((try apply Or.inl);refine⟨_,ay.x (h1) (sd @Nat.zero_add),?_⟩;apply Z;clear Z N)|((try apply Or.inl);refine⟨_,ay.x (h2) (sd @Nat.zero_add),?_⟩;apply Z;clear Z N)))
  exact eJ (b:=1) (.inl rfl) (sd @Nat.zero_add) (by simp[xu,b1,b2])
 ·rw[b2]at h2
  (repeat(first|((repeat(revert N;apply Pn.out));refine wk @Nat.zero_add ?_;(repeat(apply Pn.mk;intro N Z)))|((try apply Or.inl);refine⟨_,ay.x (h1) (sd @Nat.zero_add),?_⟩;apply Z;clear Z N)|((try apply Or.inl);refine⟨_,ay.x (h2) (sd @Nat.zero_add),?_⟩;apply Z;clear Z N)))
  exact eJ (b:=0) (.inl rfl) (sd @Nat.zero_add) (by simp[xu,b1,b2])
noncomputable def tR (s:aA) (l:List aa):Int:=if xu s l then 0 else 1
theorem yu {s:aA} {l:List aa}:tR s l=0↔ql s/\jf s.aI l:=by
 unfold tR
 rw[<-yq]
 cases xu s l<;>simp
noncomputable def uO (s:aA) (l:List aa):List aa×Int:=if tR s l=0 then(oj (dX s l) s.aI.au.length (gx l),0)else([],tR s l)
theorem uG (s:aA) (hP:ql s) (l:List aa) (hA:jf s.aI l):ay Tryz.prog 51 [.dF (bt s),.dF [.sl (l.map ai)]] (.sl ((oj (dX s l) s.aI.au.length (gx l)).map ai)):=by
 refine ay.body fR rfl fun gZ n0=>?_
 clear gZ
 have hS:=hP.set
 have F8:=hS.uY
 have Ew:=hA.1.wQ
 have hlen:=kT l l.length
 have uw:fD l l.length=gx l:=rfl
 rw[uw]at hlen
 have hnp:∀x∈gx l,DI l x:=fun x hx=>(Bw l x).1 hx
 have hnv:=fun σ=>Kb l hA.1 σ
 clear uw
 generalize gx l=ps at hlen hnp hnv ⊢
 (try((repeat(revert N;apply Pn.out));refine wk @Nat.zero_add ?_;(repeat(apply Pn.mk;intro N Z))))
 refine .inr (aE _ _ _ _ _ (fun r σ1 hq=>?_) (hnv _))
 obtain⟨g1,x1⟩:=σ1
 obtain⟨o0,rfl,q1,q2,q3,q4,q5⟩:=hq
 (try dsimp only at q1 q2 q3 q4 q5)
 have q6:=q5 ⟨51001000,n0+1⟩ aQ trivial
 simp only[go_sem, ↓reduceIte,Nat.reduceEqDiff,Nat.reduceAdd,Nat.reduceSub,Nat.reduceLeDiff,reduceCtorEq]at q6
 have on:n0+2<=o0.bj:=by rcases q4 with h|h;omega;exact absurd trivial h
 clear q4 q5
 apply Z
 clear Z N
 (try((repeat(revert N;apply Pn.out));refine wk (tw @q1 @q6) ?_;(repeat(apply Pn.mk;intro N Z))))
 refine bz (fun n env st=>∃k:Nat,n=(ps.length)-k/\k<=(ps.length)/\env 7=.int .i64 (k:Int)/\st.get o0=some ⟨true,2,ps.map ae⟩/\(∃o:Id,env 5=.own o 0 (oj (dX s l) s.aI.au.length (ps.take k)).length/\st.get o=some ⟨true,3,(oj (dX s l) s.aI.au.length (ps.take k)).map ai⟩/\o.bj<st.next/\o0.bj<st.next/\o≠o0)) (ps.length) ⟨0,ah,ah,sl (tw @q1 @q6),sl (tw @q1 @q6),by(try dsimp only);exact⟨⟨51001000,n0+1⟩,sl @Nat.zero_add,sl @q6,aQ,ah,fun e=>by rw[<-e]at on;(try dsimp only at on);omega⟩⟩ ?_
 rintro n_a env_a st_a ⟨k,rfl,ale,a7,ag0,nh⟩ eE
 have a0:=eE 0 (by kernel_rfl);have a1:=eE 1 (by kernel_rfl);have a6:=eE 6 (by kernel_rfl)
 simp only[go_sem, ↓reduceIte,Nat.reduceEqDiff,Nat.reduceAdd,Nat.reduceSub,Nat.reduceLeDiff,reduceCtorEq,q1,q6]at a0 a1 a6
 clear eE
 obtain⟨o,a5,ao,Jh,Q3,ZK⟩:=nh
 have vo:=dh Jh
 have v0:=dh Q3
 have Xo:=eq_false ZK
 have hoo2:=eq_false (fun e:o0=o=>ZK e.symm)
 have hB:(oj (dX s l) s.aI.au.length (ps.take k)).length<=10000*160:=by
  have h2:=xQ (dX s l) s.aI.au.length (ps.take k)
  have h3:(ps.take k).length*s.aI.au.length<=10000*160:=Nat.mul_le_mul (by rw[List.length_take];omega) F8
  omega
 by_cases hk:(k:Int)<(ps.length:Int)
 ·have dD:∀{e:Env} {gg:Rows} {nx:Nat},(e 7=.int .i64 (IntKind.i64.wrap ((k:Int)+1)))->(gg o0=some ⟨true,2,ps.map ae⟩)->(∃o:Id,e 5=.own o 0 (oj (dX s l) s.aI.au.length (ps.take (k+1))).length/\gg o=some ⟨true,3,(oj (dX s l) s.aI.au.length (ps.take (k+1))).map ai⟩/\o.bj<nx/\o0.bj<nx/\o≠o0)->∃m0,m0<(ps.length)-k/\∃k:Nat,m0=(ps.length)-k/\k<=(ps.length)/\e 7=.int .i64 (k:Int)/\gg o0=some ⟨true,2,ps.map ae⟩/\(∃o:Id,e 5=.own o 0 (oj (dX s l) s.aI.au.length (ps.take k)).length/\gg o=some ⟨true,3,(oj (dX s l) s.aI.au.length (ps.take k)).map ai⟩/\o.bj<nx/\o0.bj<nx/\o≠o0):=fun x1 x2 x3=>⟨_,ah,k+1,rfl,ah,(by rw[x1,aK ah]),x2,x3⟩
  have iO:k<ps.length:=ah
  have gL:=xn iO
  have th:=hnp _ (CY iO)
  obtain⟨hx,hy⟩:=tF th.1
  have tf:=(PW s.aI hS l hA (kz ps k) hx hy s.aD).cut mixed (.ptr _ [.sl (s.dm.au.map ai),.int .i64 s.aD] (.same _ (.same _ (.same _ .nil))))
  have hfu:lS (B9 s.aI l s.aD) (kz ps k) s.aI.au.length=jb s l (kz ps k):=A4 (fun t=>(OQ th hA t).symm) _
  rw[hfu]at tf
  have K1:=DV (B:=dX s l) (m:=s.aI.au.length) iO
  have gH:H5 (dX s l) (kz ps k) s.aI.au.length=(jb s l (kz ps k)).map fun t=>(⟨kz ps k,t⟩:aa):=vK _ _ _
  rw[gH,<-Fw]at K1
  have PE:(jb s l (kz ps k)).length<=160:=by
   have:=rq (dX s l) (kz ps k) s.aI.au.length
   unfold jb;omega
  have Pr:(ps.map ae).length=ps.length:=by simp
  generalize kz ps k=q at tf K1 gL PE
  generalize jb s l q=us at tf K1 PE
  generalize oj (dX s l) s.aI.au.length (ps.take k)=L at a5 ao hB K1
  rw[aj]at tf
  (have zF:=tw @a7 (tw @ag0 (tw @a0 (tw @a1 (tw @a6 (tw @hk (tw @gL (tw @v0 (tw @Pr (tw @bt.eq_1 @ae.eq_1)))))))));(repeat(first|((repeat(revert N;apply Pn.out));refine wk zF ?_;(repeat(apply Pn.mk;intro N Z)))|((try apply Or.inl);refine⟨_,ay.x (tf) (sd zF),?_⟩;apply Z;clear Z N)));try clear zF)
  refine bz (fun n env st=>∃j:Nat,n=(us.length)-j/\j<=(us.length)/\env 9=.int .i64 (j:Int)/\st.get o0=some ⟨true,2,ps.map ae⟩/\(∃o:Id,env 5=.own o 0 (L++kj q us j).length/\st.get o=some ⟨true,3,(L++kj q us j).map ai⟩/\o.bj<st.next/\o0.bj<st.next/\o≠o0)) (us.length) ⟨0,ah,ah,sl (tw @a7 (tw @ag0 (tw @a0 (tw @a1 @a6)))),sl (tw @a7 (tw @ag0 (tw @a0 (tw @a1 @a6)))),by(try dsimp only);exact⟨o,by rw[show kj q us 0=[]from rfl,List.append_nil];simp only[go_sem, ↓reduceIte,Nat.reduceEqDiff,Nat.reduceAdd,Nat.reduceSub,Nat.reduceLeDiff,reduceCtorEq,a5],by rw[show kj q us 0=[]from rfl,List.append_nil];simp only[go_sem, ↓reduceIte,Nat.reduceEqDiff,Nat.reduceAdd,Nat.reduceSub,Nat.reduceLeDiff,reduceCtorEq,ao,vo],ah,ah,ZK⟩⟩ ?_
  rintro n_b env_b st_b ⟨j,rfl,ble,b9,bg0,bI0⟩ fo
  have b0:=fo 0 (by kernel_rfl);have b1:=fo 1 (by kernel_rfl);have b6:=fo 6 (by kernel_rfl);have b7:=fo 7 (by kernel_rfl);have b8:=fo 8 (by kernel_rfl)
  simp only[go_sem, ↓reduceIte,Nat.reduceEqDiff,Nat.reduceAdd,Nat.reduceSub,Nat.reduceLeDiff,reduceCtorEq,a7,ag0,a0,a1,a6]at b0 b1 b6 b7 b8
  clear fo
  obtain⟨u,b5,bu,buv,Q4,ZP⟩:=bI0
  have kO:(L++kj q us j).length<=16777215:=by
   have:(kj q us j).length<=us.length:=by unfold kj;simp;omega
   rw[List.length_append];omega
  have vu:=dh buv
  have v0b:=dh Q4
  have hou:=eq_false ZP
  have Xp:=eq_false (fun e:o0=u=>ZP e.symm)
  by_cases hj:(j:Int)<(us.length:Int)
  ·have fN:∀{e:Env} {gg:Rows} {nx:Nat},(e 9=.int .i64 (IntKind.i64.wrap ((j:Int)+1)))->(gg o0=some ⟨true,2,ps.map ae⟩)->(∃o:Id,e 5=.own o 0 (L++kj q us (j+1)).length/\gg o=some ⟨true,3,(L++kj q us (j+1)).map ai⟩/\o.bj<nx/\o0.bj<nx/\o≠o0)->∃m0,m0<(us.length)-j/\∃j:Nat,m0=(us.length)-j/\j<=(us.length)/\e 9=.int .i64 (j:Int)/\gg o0=some ⟨true,2,ps.map ae⟩/\(∃o:Id,e 5=.own o 0 (L++kj q us j).length/\gg o=some ⟨true,3,(L++kj q us j).map ai⟩/\o.bj<nx/\o0.bj<nx/\o≠o0):=fun x1 x2 x3=>⟨_,ah,j+1,rfl,ah,(by rw[x1,aK ah]),x2,x3⟩
   have nk:j<us.length:=ah
   have uA:=BE (p:=q) nk
   have Cu:=IG nk
   have uj:L++kj q us (j+1)=(L++kj q us j)++[⟨q,us.getD j 0⟩]:=by rw[uA,List.append_assoc]
   generalize us.getD j 0=t at Cu uj
   generalize L++kj q us j=M at b5 bu kO uj
   have uw:(M++[(⟨q,t⟩:aa)]).length=M.length+1:=by simp
   have lV:(M++[(⟨q,t⟩:aa)]).map ai=M.map ai++[[.int .i64 q.fC,.int .i64 q.fu,.int .i64 t]]:=by rw[List.map_append];rfl
   have gU:(M.map ai).length=M.length:=by simp
   have hmu:(us.map aJ).length=us.length:=by simp
   (try((repeat(revert N;apply Pn.out));refine wk (tw @b9 (tw @bg0 (tw @b0 (tw @b1 (tw @b6 (tw @b7 (tw @b8 (tw @b5 (tw @bu (tw @hj (tw @hk (tw @Cu (tw @gL (tw @vu (tw @v0b (tw @hou (tw @Xp (tw @Pr (tw @gU (tw @hmu (tw @kO @ae.eq_1))))))))))))))))))))) ?_;(repeat(apply Pn.mk;intro N Z))))
   refine fN ?_ ?_ (by(try dsimp only);exact⟨⟨51010011,st_b.next+1⟩,by rw[uj,uw];simp only[go_sem, ↓reduceIte,Nat.reduceEqDiff,Nat.reduceAdd,Nat.reduceSub,Nat.reduceLeDiff,reduceCtorEq]<;>rfl,by rw[uj,lV];simp only[go_sem, ↓reduceIte,Nat.reduceEqDiff,Nat.reduceAdd,Nat.reduceSub,Nat.reduceLeDiff,reduceCtorEq]<;>rfl,aQ,aQ,fun e=>by rw[<-e]at Q4;(try dsimp only at Q4);omega⟩)
   all_goals simp only[go_sem, ↓reduceIte,Nat.reduceEqDiff,Nat.reduceAdd,Nat.reduceSub,Nat.reduceLeDiff,reduceCtorEq,b9,bg0,b0,b1,b6,b7,b8,v0b,Xp]
  ·have hju:j=us.length:=ah
   subst hju
   (try((repeat(revert N;apply Pn.out));refine wk (tw @b9 (tw @bg0 (tw @b0 (tw @b1 (tw @b6 (tw @b7 (tw @b8 @hj))))))) ?_;(repeat(apply Pn.mk;intro N Z))))
   refine dD ?_ ?_ (by(try dsimp only);exact⟨u,by rw[K1];simp only[go_sem, ↓reduceIte,Nat.reduceEqDiff,Nat.reduceAdd,Nat.reduceSub,Nat.reduceLeDiff,reduceCtorEq,b5],by rw[K1];simp only[go_sem, ↓reduceIte,Nat.reduceEqDiff,Nat.reduceAdd,Nat.reduceSub,Nat.reduceLeDiff,reduceCtorEq,bu],ah,ah,ZP⟩)
   all_goals simp only[go_sem, ↓reduceIte,Nat.reduceEqDiff,Nat.reduceAdd,Nat.reduceSub,Nat.reduceLeDiff,reduceCtorEq,a7,ag0,a0,a1,a6,b9,bg0,b0,b1,b6,b7,b8]
 ·have mM:k=ps.length:=ah
  subst mM
  rw[List.take_length]at a5 ao
  (try((repeat(revert N;apply Pn.out));refine wk (tw @a7 (tw @ag0 (tw @a0 (tw @a1 (tw @a6 (tw @hk @a5)))))) ?_;(repeat(apply Pn.mk;intro N Z))))
  exact jX (.inl rfl) (vs:=[.own o 0 (oj (dX s l) s.aI.au.length ps).length]) (sd @a5) (by
   simp only[fw]
   exact eP (e:=ai) (n:=5) ao rfl fun x=>Q8 _ 4 x)
theorem DK (s:aA) (l:List aa) (hn:jh s.aI) (hg:s.aI.bd.length<=1048576) (ht:s.aI.au.length<=1048576):∃w,VZ ai (uO s l).1 w/\AI Tryz.prog 17 [.agg (bt s),.agg [.sl (l.map ai)]] (.gM [w,.int .i64 (uO s l).2]):=by
 have h1:ay Tryz.prog 50 [.dF (bt s),.dF [.sl (l.map ai)]] (.int .i64 (tR s l)):=Hf s l hn hg ht
 by_cases h0:tR s l=0
 ·obtain⟨hP,hA⟩:=yu.1 h0
  have h2:=uG s hP l hA
  have hr:uO s l=(oj (dX s l) s.aI.au.length (gx l),0):=by rw[uO,if_pos h0]
  rw[h0]at h1
  rw[hr]
  refine⟨_,.inr rfl,?_⟩
  refine AI.body fR rfl fun gZ σ=>?_
  clear gZ
  generalize oj (dX s l) s.aI.au.length (gx l)=L at h2 ⊢
  rw[bt]at h1 h2 ⊢
  (repeat(first|((repeat(revert N;apply Pn.out));refine wk @Nat.zero_add ?_;(repeat(apply Pn.mk;intro N Z)))|((try apply Or.inl);refine⟨_,ay.x (h1) (sd @Nat.zero_add),?_⟩;apply Z;clear Z N)|((try apply Or.inl);refine⟨_,ay.x (h2) (sd @Nat.zero_add),?_⟩;apply Z;clear Z N)))
  exact Nl (.inl rfl) (vs:=[.sl (L.map ai),.int .i64 0]) (sd @Nat.zero_add) (by simp only[fw,bI,ar,ax,cw,aW,Option.map_some])
 ·have hd:decide (tR s l=0)=false:=decide_eq_false h0
  have hr:uO s l=([],tR s l):=by rw[uO,if_neg h0]
  rw[hr]
  refine⟨.br,.inl ⟨rfl,rfl⟩,?_⟩
  refine AI.body fR rfl fun gZ σ=>?_
  clear gZ
  rw[bt]at h1 ⊢
  (repeat(first|((repeat(revert N;apply Pn.out));refine wk @hd ?_;(repeat(apply Pn.mk;intro N Z)))|((try apply Or.inl);refine⟨_,ay.x (h1) (sd @hd),?_⟩;apply Z;clear Z N)))
  exact Nl (.inl rfl) (vs:=[.br,.int .i64 (tR s l)]) (sd @Nat.zero_add) (by simp only[fw,bI,ar,ax,aV,aW,Option.map_some])
theorem DJ (s:aA) (l:List aa) (hn:jh s.aI) (hm:DM s) (hl:l.length<=1048576):Gh Tryz.prog 16 [.agg (bt s),.agg [.sl (l.map ai)]] ai 3 (uO s l).1 (uO s l).2:=by
 intro n0
 refine hZ fR rfl fun gZ=>?_
 clear gZ
 have h1:ay Tryz.prog 40 [.agg (bt s),.agg [.sl (l.map ai)]] (.int .i64 (tR s l)):=oJ s l hn hm hl
 by_cases h0:tR s l=0
 ·obtain⟨hP,hA⟩:=yu.1 h0
  have hT:1<=s.aD:=(eT hP.FN).1
  have hr:uO s l=(oj (dX s l) s.aI.au.length (gx l),0):=by rw[uO,if_pos h0]
  rw[h0]at h1
  rw[hr]
  have hc:=fun σ=>o8 s hP.set hT l hA σ
  rw[bt]at h1 hc ⊢
  (repeat(first|((repeat(revert N;apply Pn.out));refine wk @Nat.zero_add ?_;(repeat(apply Pn.mk;intro N Z)))|((try apply Or.inl);refine⟨_,ay.x (h1) (sd @Nat.zero_add),?_⟩;apply Z;clear Z N)))
  refine .inr (aE _ _ _ _ _ (fun r σ1 hq=>?_) (hc _))
  obtain⟨g1,x1⟩:=σ1
  obtain⟨c,T,O,rfl,hC,Pk,SL,LZ,qb,jP⟩:=hq
  (try dsimp only at hC Pk SL LZ qb jP)
  apply Z
  clear Z N
  (try((repeat(revert N;apply Pn.out));refine wk @Nat.zero_add ?_;(repeat(apply Pn.mk;intro N Z))))
  refine .inr (aE _ _ _ _ _ (fun r σ2 hq=>?_) (Tz (σ:=⟨g1,_⟩) (hC.frame aQ fun x hx=>rfl) hT hP.set hA))
  obtain⟨g2,x2⟩:=σ2
  obtain⟨Pt,K2,hq⟩:=hq
  (try dsimp only at hq Pt K2)
  apply Z
  clear Z N
  (try((repeat(revert N;apply Pn.out));refine wk @Nat.zero_add ?_;(repeat(apply Pn.mk;intro N Z))))
  refine fV (.inl rfl) (vs:=[r,.int .i64 0]) (sd @Nat.zero_add) ?_
  (try dsimp only)
  rcases hq with⟨h2,h3⟩|⟨u,h2,h3,h4,h5,h6,h8⟩
  ·exact⟨r,[],rfl,.inl ⟨h2,h3,rfl⟩,⟨List.nodup_nil,fun i hi=>by cases hi⟩⟩
  ·(try dsimp only at h3 h4 h5)
   exact⟨r,[u],rfl,.inr ⟨u,h2,h3,rfl,h6⟩,⟨List.nodup_cons.2 ⟨by simp,List.nodup_nil⟩,fun i hi=>by rw[List.mem_singleton.1 hi];(try dsimp only);omega⟩⟩
 ·have hd:decide (tR s l=0)=false:=decide_eq_false h0
  have hr:uO s l=([],tR s l):=by rw[uO,if_neg h0]
  rw[hr]
  rw[bt]at h1 ⊢
  (repeat(first|((repeat(revert N;apply Pn.out));refine wk @hd ?_;(repeat(apply Pn.mk;intro N Z)))|((try apply Or.inl);refine⟨_,ay.x (h1) (sd @hd),?_⟩;apply Z;clear Z N)))
  exact fV (.inl rfl) (vs:=[.br,.int .i64 (tR s l)]) (sd @Nat.zero_add) ⟨.br,[],rfl,.inl ⟨rfl,rfl,rfl⟩,⟨List.nodup_nil,fun i hi=>by cases hi⟩⟩
end Go.Proofs.YtiabgllilcfheaaGreat.V

namespace Go.Proofs.YtiabgllilcfheaaGreat.V
open Go.RowKit Go.Shelf Go.Lib Go.Sort
instance:Inhabited aa:=⟨⟨⟨0,0⟩,0⟩⟩
variable {P:Program} {w:World} {D:Nat->Prop} {ι:Names}
end Go.Proofs.YtiabgllilcfheaaGreat.V

namespace Go.Proofs.YtiabgllilcfheaaGreat.V
open Go.RowKit
attribute [local irreducible] eC wpOps gi Call
attribute [local go_sem] aM fP fa fX fW du upd cz K.av cP AV.cells AV.cell rowOf rowsOf part ld rowAt bL cu dK eb gK bP de eu fS fq dx ef db da dR dS bU bf cU bR cW cV dW eh ee cR bW dd ec bQ aL cY cH gJ bF cL bV aY dr bq dL AV.undef bJ bK dV dY dQ dU cK er ez cF ej ei cX cZ List.getD_cons_zero List.getD_cons_succ List.getD_nil List.all_cons List.all_nil Bool.and_true Bool.true_and Bool.and_self Bool.not_true Bool.not_false Option.map_some Option.map_none Option.bind_some Option.bind_none List.length_cons List.length_nil List.take_succ_cons List.take_zero List.take_nil List.drop_succ_cons List.drop_zero List.drop_nil List.head?_cons List.map_cons List.map_nil List.getElem?_cons_zero List.getElem?_cons_succ List.cons_append List.nil_append List.append_nil List.length_map List.set_cons_zero List.set_cons_succ Nat.reduceMul eq_self Int.toNat_natCast Int.natCast_nonneg and_self true_and and_true decide_true decide_false Bool.false_eq_true Nat.zero_add Nat.add_zero List.contains_cons List.contains_nil Bool.or_false Bool.false_or beq_self_eq_true Nat.reduceBEq ne_eq not_true_eq_false not_false_eq_true Id.mk.injEq false_and and_false Nat.reduceLT Int.reduceLE Int.reduceLT Int.reduceToNat Int.reduceNeg Int.reduceAdd Nat.le_refl List.length_append beq_true beq_false Bool.not_eq_eq_eq_not or_false false_or eL ar ax aW bp bZ cw aV bH aU bh cQ bI
theorem E0:∀{es:List En},(es.map (·.1)).Nodup->∀{a b:En},a∈es->b∈es->a.1=b.1->a=b
 |[],_,_,_,ha,_,_=>by cases ha
 |x::es,h,a,b,ha,hb,e=>by
  simp only[List.map_cons,List.nodup_cons]at h
  have no:∀c:En,c∈es->c.1≠x.1:=fun c hc e=>h.1 (by rw[<-e];exact List.mem_map_of_mem (f:=(·.1)) hc)
  rcases List.mem_cons.1 ha with h1|h1
  ·rcases List.mem_cons.1 hb with h2|h2
   ·rw[h1,h2]
   ·exact absurd (by rw[<-e,h1]) (no b h2)
  ·rcases List.mem_cons.1 hb with h2|h2
   ·exact absurd (by rw[e,h2]) (no a h1)
   ·exact E0 h.2 h1 h2 e
theorem xN.entry {g:Rows} {n:Nat} {es:List En} {fs:aq->List Int} (h:xN g n es fs (fun _=>True)) {e:En} (he:e∈es):∃o:Id,e=(e.1,.own o 0 (fs e.1).length)/\fs e.1≠[]:=by
 rcases h.at_ e.1 trivial with⟨_,h2⟩|⟨h1,o,h2,_⟩
 ·exact absurd rfl (h2 e he)
 ·exact⟨o,E0 h.nodup he h2 rfl,h1⟩
theorem Qb {s:aA} (hT:1<=s.aD) {l:List aa} (hA:jf s.aI l) {g:Rows} {n:Nat} {es:List En} (h:xN g n es (jb s l) (fun _=>True)):es=[]↔oj (dX s l) s.aI.au.length (gx l)=[]:=by
 constructor
 ·intro e0
  rw[List.eq_nil_iff_forall_not_mem]
  intro x hx
  obtain⟨p,hp,hx⟩:=List.mem_flatMap.1 hx
  rw[vK]at hx
  have ig:jb s l p≠[]:=fun e=>by
   rw[show lS (dX s l) p s.aI.au.length=[]from e]at hx
   simp at hx
  rcases h.at_ p trivial with⟨h1,_⟩|⟨_,o,h2,_⟩
  ·exact ig h1
  ·rw[e0]at h2;cases h2
 ·intro e0
  rw[List.eq_nil_iff_forall_not_mem]
  intro e he
  obtain⟨o,_,ig⟩:=h.entry he
  have hq:=(oU hT hA e.1).2 ig
  have hn:e.1∈gx l:=(List.mem_filter.1 hq).1
  obtain⟨t,ht⟩:=List.exists_mem_of_ne_nil _ ig
  have hx:(⟨e.1,t⟩:aa)∈oj (dX s l) s.aI.au.length (gx l):=List.mem_flatMap.2 ⟨e.1,hn,by rw[vK];exact List.mem_map.2 ⟨t,ht,rfl⟩⟩
  rw[e0]at hx;cases hx
def CnI (σ:az) (O:Id) (es:List En) (pre:List (List AV)) (e0:Env) (s0:az):Prop:=
 ∃t:Nat,e0 3=.int .i64 (t:Int)/\t<=200*pre.length/\(t=0↔pre=[])/\σ.next<=s0.next/\(∀x:Id,x.bj<σ.next->x≠O->s0.get x=σ.get x)/\s0.get O=some ⟨false,mP.mY,es.map pC⟩
theorem OZ {σ:az} {c T O:Id} {s:aA} {l:List aa} (h:Jc σ.get σ.next c T O s l) (hT:1<=s.aD) (hS:iK s.aI) (hA:jf s.aI l):
  Call Tryz.prog 52 [.ptr c 0 0] σ (fun r σ'=>∃t:Nat,r=.int .i64 (t:Int)/\(t=0↔oj (dX s l) s.aI.au.length (gx l)=[])):=by
 obtain⟨es,hO,hE⟩:=h.op
 rw[<-Qb hT hA hE]
 have F8:=hS.uY
 have Ew:=hA.1.wQ
 have hes:es.length<=10000:=by
  have Pz:(kK s l).length<=10000:=by
   have h1:(kK s l).length<=(gx l).length:=List.length_filter_le _ _
   have h2:(gx l).length<=l.length*4:=kT l l.length
   omega
  have h1:=nV (ys:=kK s l) hE.nodup fun x hx=>by
   obtain⟨e,he,rfl⟩:=List.mem_map.1 hx
   obtain⟨o,_,ig⟩:=hE.entry he
   exact(oU hT hA e.1).2 ig
  rw[List.length_map]at h1
  omega
 refine XX rfl mP ?_
 have fy:=h.o.row
 have v1:=dh h.o.cv
 have v2:=dh h.o.ov
 unfold TP
 rw[NG]
 (try((repeat(revert N;apply Pn.out));refine wk (tw @fy @v1) ?_;(repeat(apply Pn.mk;intro N Z))))
 refine FV (Yc (id:=O) (r:=⟨true,mP.mY,es.map pC⟩) (CnI σ O es) (sd @NC.eq_1) (sd (tw @hO @v2)) rfl (by decide) ?_ ?_ ?_)
 ·exact⟨0,sl @Nat.zero_add,by simp,by simp,aQ,fun x hx hT=>by
   have h1:=dh hx
   have h2:=eq_false hT
   simp only[go_sem, ↓reduceIte,Nat.reduceEqDiff,Nat.reduceAdd,Nat.reduceSub,Nat.reduceLeDiff,reduceCtorEq,h1,h2],sd @Nat.zero_add⟩
 ·rintro pre cs rest e0 s0 kv vv hp ⟨t,e3,ht1,Xw,EE,jP,hO0⟩ hK hpart hvv
  have oM:cs∈es.map pC:=hp.subset (by simp)
  obtain⟨e,he,rfl⟩:=List.mem_map.1 oM
  have hlen:=hp.length_eq
  simp only[List.length_append,List.length_map,List.length_cons]at hlen
  obtain⟨o,heq,ig⟩:=hE.entry he
  have Ez:(jb s l e.1).length<=160:=Nat.le_trans (rq _ _ _) ah
  have hfp:0<(jb s l e.1).length:=List.length_pos_iff.2 ig
  generalize (jb s l e.1).length=z at heq Ez hfp
  obtain⟨ep,ev⟩:=e
  simp only[Prod.mk.injEq,true_and]at heq
  subst heq
  simp[part,pC,MK.ks]at hpart hvv
  subst hpart hvv
  rw[I3,I4]
  have LZ:=h.o.ov
  have vO:=dh (i:=O) (n:=s0.next) ah
  clear hp oM hK
  have hw:IntKind.i64.wrap ((t:Int)+(z:Int))=((t+z:Nat):Int):=by rw[cm ah];omega
  (try((repeat(revert N;apply Pn.out));refine wk (tw @e3 @hw) ?_;(repeat(apply Pn.mk;intro N Z))))
  exact⟨t+z,sd @hw,by simp only[List.length_append,List.length_cons,List.length_nil];omega,by simp;omega,aQ,fun y hy hyT=>by
   have h1:=dh (i:=y) (n:=s0.next) ah
   have h2:=jP y hy hyT
   simp only[go_sem, ↓reduceIte,Nat.reduceEqDiff,Nat.reduceAdd,Nat.reduceSub,Nat.reduceLeDiff,reduceCtorEq,h1,h2],sd (tw @vO @hO0)⟩
 ·rintro pre e0 s0 hpp ⟨t,e3,ht1,Xw,EE,jP,hO0⟩ hK
  clear hK
  have S5:=hpp.length_eq
  rw[List.length_map]at S5
  (try((repeat(revert N;apply Pn.out));refine wk (tw @NI.eq_1 (tw @NK.eq_1 @e3)) ?_;(repeat(apply Pn.mk;intro N Z))))
  exact fV (.inl rfl) (vs:=[.int .i64 (t:Int)]) (by rw[NK];simp only[gO,jq,go_sem, ↓reduceIte,Nat.reduceEqDiff,Nat.reduceAdd,Nat.reduceSub,Nat.reduceLeDiff,reduceCtorEq,e3]) ⟨t,rfl,Xw.trans ⟨fun e=>List.eq_nil_of_length_eq_zero (by rw[<-S5,e];rfl),fun e=>List.eq_nil_of_length_eq_zero (by rw[S5,e];rfl)⟩⟩
theorem B3 (s:aA) (l:List aa) (hn:jh s.aI) (hm:DM s) (hl:l.length<=1048576) (hP:ql s) (hA:jf s.aI l):
  ay Tryz.prog 18 [.agg (bt s),.agg [.sl (l.map ai)]] (.gM [.bool (decide (oj (dX s l) s.aI.au.length (gx l)=[])),.int .i64 0]):=by
 intro n0
 refine hZ fR rfl fun gZ=>?_
 clear gZ
 have h1:=oJ s l hn hm hl
 rw[yq.2 ⟨hP,hA⟩]at h1
 have hT:1<=s.aD:=(eT hP.FN).1
 have hc:=fun σ=>o8 s hP.set hT l hA σ
 rw[bt]at h1 hc ⊢
 simp only[if_true]at h1
 (repeat(first|((repeat(revert N;apply Pn.out));refine wk @Nat.zero_add ?_;(repeat(apply Pn.mk;intro N Z)))|((try apply Or.inl);refine⟨_,ay.x (h1) (sd @Nat.zero_add),?_⟩;apply Z;clear Z N)))
 refine .inr (aE _ _ _ _ _ (fun r σ1 hq=>?_) (hc _))
 obtain⟨g1,x1⟩:=σ1
 obtain⟨c,T,O,rfl,hC,Pk,SL,LZ,qb,jP⟩:=hq
 (try dsimp only at hC Pk SL LZ qb jP)
 apply Z
 clear Z N
 (try((repeat(revert N;apply Pn.out));refine wk @Nat.zero_add ?_;(repeat(apply Pn.mk;intro N Z))))
 refine .inr (aE _ _ _ _ _ (fun r σ2 hq=>?_) (OZ (σ:=⟨g1,_⟩) (hC.frame aQ fun x hx=>rfl) hT hP.set hA))
 obtain⟨t,rfl,ht⟩:=hq
 obtain⟨g2,x2⟩:=σ2
 apply Z
 clear Z N
 have hd:decide ((t:Int)=0)=decide (oj (dX s l) s.aI.au.length (gx l)=[]):=decide_eq_decide.2 ⟨fun e=>ht.1 ah,fun e=>by have:=ht.2 e;omega⟩
 (try((repeat(revert N;apply Pn.out));refine wk @hd ?_;(repeat(apply Pn.mk;intro N Z))))
 exact jX (.inl rfl) (vs:=[.bool (decide (oj (dX s l) s.aI.au.length (gx l)=[])),.int .i64 0]) (sd @Nat.zero_add) (by simp only[fw,eR,bc,bY,dG,fM,Option.map_some])
theorem CX {g:Rows} {X o:Id} {L:List aa} (hX:g X=some ⟨true,1,[[.own o 0 L.length]]⟩) (ho:g o=some ⟨true,3,L.map ai⟩):fz (eL g) 6 (.ptr X 0 0)=some (.dF [.sl (L.map ai)]):=by
 have h1:fz (eL g) 5 (.own o 0 L.length)=some (.sl (L.map ai)):=kM (e:=ai) (sz:=3) (by simp[eL,ho]) rfl fun x=>by simp[ai,ar,ax,aW]
 exact s9 (n:=5) (sz:=1) (rows:=[[.own o 0 L.length]]) (cs:=[.own o 0 L.length]) (by simp[eL,hX]) rfl (by simp[ar,ax,h1])
def InL (X:Id) (st:Gg) (e7:AV) (g:Rows) (n:Nat):Prop:=∃o u:Id,g X=some ⟨true,1,[[.own o 0 st.2.length]]⟩/\g o=some ⟨true,3,st.2.map ai⟩/\e7=.own u 0 st.1.length/\g u=some ⟨true,3,st.1.map ai⟩/\o.bj<u.bj/\X.bj<u.bj/\u.bj<n/\o≠X
theorem Ks (q:aa):∀l:List aa,(l++[q]).Perm (iu l q)
 |[]=>List.Perm.refl _
 |x::l=>by
  have ih:=Ks q l
  rw[iu]
  split
  ·exact List.perm_append_comm (l₁:=x::l) (l₂:=[q])
  ·exact ih.cons x
structure SameT (s:aA) (S:Gg):Prop where
 at_:∀q,fQ (s.dm.au++S.1) q=fQ S.2 q
 perm:(s.dm.au++S.1).Perm S.2
structure InR (σ:az) (m:Nat) (c T O:Id) (s:aA) (l:List aa) (S:Gg) (e7:AV) (g:Rows) (n:Nat):Prop where
 Si:qf g n c T O s (s.dm.au++S.1)
 u:(S.1=[]/\e7=.br)∨∃u:Id,e7=.own u 0 S.1.length/\g u=some ⟨true,3,S.1.map ai⟩/\m<=u.bj/\u.bj<n/\0<S.1.length
 lo:m<=n
 fr:∀x:Id,x.bj<m->x≠T->x≠O->x≠c->g x=σ.get x
def eG (s:aA) (es:List aa) (i:Nat):List aa:=(es.take i).foldl (fun n x=>iu n x) s.dm.au
noncomputable def Rz (s:aA) (es:List aa) (i:Nat):Bool:=eY s.aI (bw es i).ck&&dX s (eG s es i) (bw es i).bD (bw es i).ck
noncomputable def jg (s:aA) (es:List aa) (i:Nat):Bool:=Rz s es i&&decide ((eG s es i).length<500)
noncomputable def M5 (s:aA) (es:List aa):Int×Int:=match (List.range es.length).find? (fun i=> !jg s es i)with
 |none=>(0,0)
 |some i=>if Rz s es i then(0,4)else((i:Int),5)
theorem BH (s:aA) (es:List aa):eG s es 0=s.dm.au:=rfl
theorem rK (s:aA) (es:List aa) {i:Nat} (hi:i<es.length):eG s es (i+1)=iu (eG s es i) (bw es i):=by
 unfold eG
 rw[FM hi,List.foldl_append];rfl
theorem FA {s:aA} {es:List aa} {i:Nat} (hi:i<es.length) (h:∀j,j<i->jg s es j=true) (hb:jg s es i=false):M5 s es=if Rz s es i then(0,4)else((i:Int),5):=by
 rw[M5,Gz hi (by rw[hb];rfl) (fun j hj=>by rw[h j hj];rfl)]
theorem IS {s:aA} {es:List aa} (h:∀j,j<es.length->jg s es j=true):M5 s es=(0,0):=by
 rw[M5,xE (fun j hj=>by rw[h j hj];rfl)]
theorem OO {s:aA} {l:List aa} (hA:jf s.aI l) {x:aa} (hlen:l.length<500) (ht:eY s.aI x.ck=true) (hf:dX s l x.bD x.ck=true) (hs:s.aI.au.length<=160):jf s.aI (iu l x):=by
 have fZ:jm x.ck 0 159=true:=jn (by have h:=ht;unfold eY at h;have:=eT h;omega)
 have hp:z8 x.bD=true:=by simp[dX]at hf;exact hf.1.1
 have h0:fb l x.bD<0:=(vJ hA x.bD).1 (by simp[dX]at hf;exact hf.1.2)
 have hR:=Na hA.1.Kw h0
 refine⟨⟨by rw[mm];omega,fun i xY=>?_⟩,fun t Xw=>?_⟩
 ·rcases qK.1 (jc xY)with h|h
  ·rw[Gi,h]
   exact⟨hp,fZ,fun h1=>by have z:=hR (i-1) i ah xY;rw[h]at z;exact z⟩
  ·obtain⟨j,hj,iH⟩:=List.getElem_of_mem h
   have h1:=hA.1.ok j hj
   rw[Gi,gQ hj,iH]at h1
   exact⟨h1.1,h1.2.1,fun h0=>hR _ _ ah xY⟩
 ·rcases qK.1 Xw with rfl|h
  ·exact ht
  ·exact hA.2 t h
theorem nW {s:aA} (hP:ql s) {es:List aa}:∀i,i<=es.length->(∀j,j<i->jg s es j=true)->jf s.aI (eG s es i)
 |0,_,_=>hP.FH
 |i+1,hi,h=>by
  have ih:=nW hP (es:=es) i ah fun j hj=>h j ah
  have hg:=h i ah
  rw[jg,Bool.and_eq_true,Rz,Bool.and_eq_true]at hg
  rw[rK s es ah]
  exact OO ih (of_decide_eq_true hg.2) hg.1.1 hg.1.2 hP.set.uY
theorem MA (s:aA) (l:List aa) (p:aq) (t:Int) (ht:eY s.aI t=false):ay Tryz.prog 73 [.dF (bt s),.dF [.sl (l.map ai)],.agg [.int .i64 p.fC,.int .i64 p.fu,.int .i64 t]] (.bool false):=by
 refine ay.body fR rfl fun gZ n0=>?_
 clear gZ
 have h1:=oQ p
 have h2:=(tn s.aI t).cut mixed (.ptr _ [.sl (s.dm.au.map ai),.int .i64 s.aD] (.same _ .nil))
 rw[ht]at h2
 cases h0:z8 p
 ·rw[h0]at h1
  (have zF:=tw @bt.eq_1 (tw @aj.eq_1 @ae.eq_1);(repeat(first|((repeat(revert N;apply Pn.out));refine wk zF ?_;(repeat(apply Pn.mk;intro N Z)))|((try apply Or.inl);refine⟨_,ay.x (h1) (sd zF),?_⟩;apply Z;clear Z N)));try clear zF)
  exact cD (b:=false) (.inl rfl) (sd @Nat.zero_add) rfl
 ·rw[h0]at h1
  (have zF:=tw @bt.eq_1 (tw @aj.eq_1 @ae.eq_1);(repeat(first|((repeat(revert N;apply Pn.out));refine wk zF ?_;(repeat(apply Pn.mk;intro N Z)))|((try apply Or.inl);refine⟨_,ay.x (h1) (sd zF),?_⟩;apply Z;clear Z N)|((try apply Or.inl);refine⟨_,ay.x (h2) (sd zF),?_⟩;apply Z;clear Z N)));try clear zF)
  exact cD (b:=false) (.inl rfl) (sd @Nat.zero_add) rfl
theorem J9 (s:aA) (hP:ql s) (l:List aa) (hA:jf s.aI l) (p:aq) (t:Int):ay Tryz.prog 73 [.dF (bt s),.dF [.sl (l.map ai)],.agg [.int .i64 p.fC,.int .i64 p.fu,.int .i64 t]] (.bool (eY s.aI t&&dX s l p t)):=by
 cases ht:eY s.aI t
 ·exact MA s l p t ht
 ·exact MB s hP.w l hA p t ht
def AtK (n:Nat) (l:List aa) (x:aa) (r:AV) (σ':az):Prop:=(500<=l.length/\r=.gM [.agg [.br],.int .i64 4])∨(l.length<500/\∃o:Id,r=.gM [.agg [.own o 0 (iu l x).length],.int .i64 0]/\σ'.get o=some ⟨true,3,(iu l x).map ai⟩/\n<=o.bj/\o.bj<σ'.next)
theorem Fb (l:List aa) (hl:l.length<=1048576) (x:aa) (n0:Nat):Call Tryz.prog 64 [.dF [.sl (l.map ai)],.agg (ai x)] ⟨fun _=>none,n0⟩ (AtK n0 l x):=by
 refine hZ fR rfl fun gZ=>?_
 clear gZ
 by_cases h5:500<=l.length
 ·have hd:((500:Nat):Int)<=(l.length:Int):=ah
  have nA:(500:Int)<=(l.length:Int):=ah
  (try((repeat(revert N;apply Pn.out));refine wk (tw @ai.eq_1 (tw @hd @nA)) ?_;(repeat(apply Pn.mk;intro N Z))))
  exact fV (.inl rfl) (vs:=[.agg [.br],.int .i64 4]) (sd @Nat.zero_add) (.inl ⟨h5,rfl⟩)
 ·have nA:¬(500:Int)<=(l.length:Int):=ah
  (try((repeat(revert N;apply Pn.out));refine wk (tw @ai.eq_1 @nA) ?_;(repeat(apply Pn.mk;intro N Z))))
  refine .inr (aE _ _ _ _ _ (fun r σ1 hq=>?_) (QZ.val (fun n=>My l hl x.bD x.ck n) (by simp only[ar,ax,aU,bH,aW,Option.map_some];rfl)))
  obtain⟨⟨o,rfl,q1,q2,q3⟩,hK⟩:=hq
  obtain⟨g1,x1⟩:=σ1
  (try dsimp only at q1 q2 q3 hK)
  have hx:(⟨x.bD,x.ck⟩:aa)=x:=rfl
  rw[hx]at q1 ⊢
  have k4:=hK.2 ⟨64000001,n0⟩ aQ
  simp only[go_sem, ↓reduceIte,Nat.reduceEqDiff,Nat.reduceAdd,Nat.reduceSub,Nat.reduceLeDiff,reduceCtorEq]at k4
  have vo:=dP (a:=⟨64000001,n0⟩) (b:=o) (by(try dsimp only at q2);(try dsimp only);omega)
  apply Z
  clear Z N
  (try((repeat(revert N;apply Pn.out));refine wk @k4 ?_;(repeat(apply Pn.mk;intro N Z))))
  exact fV (.inl rfl) (vs:=[.agg [.own o 0 (iu l x).length],.int .i64 0]) (sd @Nat.zero_add) (.inr ⟨ah,o,rfl,sd (tw @vo @q1),by(try dsimp only at q2);omega,aQ⟩)
theorem DS {X o:Id} {l:List aa} {σ:az} (hl:l.length<=1048576) (x:aa) (hX:σ.get X=some ⟨true,1,[[.own o 0 l.length]]⟩) (ho:σ.get o=some ⟨true,3,l.map ai⟩):
  Call Tryz.prog 64 [.ptr X 0 0,.agg (ai x)] σ (fun r σ'=>AtK σ.next l x r σ'/\Kept σ σ'):=by
 refine DD mixed (args':=[.dF [.sl (l.map ai)],.agg (ai x)]) (by
  have hp:=CX hX ho
  simp only[ar,ax,hp,Option.map_some,ai,bH,aW]) (aE _ _ _ _ _ (fun r σ' hq=>?_) (AD mixed (Fb l hl x σ.next)))
 obtain⟨hq,hn⟩:=hq
 rcases hq with⟨h5,rfl⟩|⟨h5,o2,rfl,h2,h3,h4⟩
 ·exact⟨[],rfl,fun i hi=>by(cases hi),.inl ⟨h5,rfl⟩,hn,fun j hj=>oe (g':=σ'.get) (List.not_mem_nil)⟩
 ·refine⟨[o2],rfl,fun i hi=>?_,.inr ⟨h5,o2,rfl,(uX (by simp)).trans h2,h3,h4⟩,hn,fun j hj=>oe fun hc=>?_⟩
  ·rw[List.mem_singleton.1 hi]
   exact⟨_,h2,rfl,fun cs eD a ha=>by
    obtain⟨y,_,rfl⟩:=List.mem_map.1 eD
    simp[ai]at ha
    rcases ha with rfl|rfl|rfl<;>rfl⟩
  ·rw[List.mem_singleton.1 hc]at hj;omega
noncomputable def OF (s:aA) (es:List aa):AV:=if (M5 s es).2=0 then .sl ((eG s es es.length).map ai)else .br
theorem Kc (s:aA) (hP:ql s) (es:List aa) (hq:es.length<=500):ay Tryz.prog 47 [.dF (bt s),.sl (es.map ai)] (.gM [.agg [OF s es],.int .i64 (M5 s es).1,.int .i64 (M5 s es).2]):=by
 refine ay.body fR rfl fun gZ n0=>?_
 clear gZ
 have hsd:=hP.FH.1.wQ
 (try((repeat(revert N;apply Pn.out));refine wk @bt.eq_1 ?_;(repeat(apply Pn.mk;intro N Z))))
 refine .inr (aE _ _ _ _ _ (fun r σ1 F5=>?_) (QZ.val (fun n=>(E6 s.dm.au ah n).cut mixed (.ptr _ [.int .i64 s.aD] .nil)) (by simp only[ar,ax,aU,Option.map_some];rfl)))
 obtain⟨⟨o,rfl,q1,q2,q3⟩,hK⟩:=F5
 obtain⟨g1,x1⟩:=σ1
 (try dsimp only at q1 q2 q3 hK)
 have we:=hK.1
 (try dsimp only at we)
 have k4:=hK.2 ⟨47000000,n0⟩ aQ
 simp only[go_sem, ↓reduceIte,Nat.reduceEqDiff,Nat.reduceAdd,Nat.reduceSub,Nat.reduceLeDiff,reduceCtorEq]at k4
 apply Z
 clear Z N
 (try((repeat(revert N;apply Pn.out));refine wk (tw @k4 @bt.eq_1) ?_;(repeat(apply Pn.mk;intro N Z))))
 have hz:=BH s es
 refine bz (fun n env st=>∃i:Nat,n=(es.length)-i/\i<=(es.length)/\env 8=.int .i64 (i:Int)/\st.get ⟨47000000,n0⟩=some ⟨true,1,[[.br]]⟩/\(x1<st.next/\∃o:Id,st.get ⟨47001004,x1⟩=some ⟨true,1,[[.own o 0 (eG s es i).length]]⟩/\st.get o=some ⟨true,3,(eG s es i).map ai⟩/\o.bj<st.next/\o≠⟨47001004,x1⟩)/\(∀j:Nat,j<i->jg s es j=true)) (es.length) ⟨0,ah,ah,sl (tw @k4 @bt.eq_1),sl (tw @k4 @bt.eq_1),by(try dsimp only);exact⟨ah,o,by rw[hz];simp only[go_sem, ↓reduceIte,Nat.reduceEqDiff,Nat.reduceAdd,Nat.reduceSub,Nat.reduceLeDiff,reduceCtorEq],by(have vo:=dh (i:=o) (n:=x1) ah);rw[hz];simp only[go_sem, ↓reduceIte,Nat.reduceEqDiff,Nat.reduceAdd,Nat.reduceSub,Nat.reduceLeDiff,reduceCtorEq,vo,q1],ah,fun e=>by rw[e]at q3;(try dsimp only at q3);omega⟩,fun _ h=>absurd h (Nat.not_lt_zero _)⟩ ?_
 rintro n_a env_a st_a ⟨i,rfl,ale,a8,ag0,nh,oz⟩ eE
 have a0:=eE 0 (by kernel_rfl);have a1:=eE 1 (by kernel_rfl);have a4:=eE 4 (by kernel_rfl);have a7:=eE 7 (by kernel_rfl)
 simp only[go_sem, ↓reduceIte,Nat.reduceEqDiff,Nat.reduceAdd,Nat.reduceSub,Nat.reduceLeDiff,reduceCtorEq,k4,bt]at a0 a1 a4 a7
 clear eE
 obtain⟨an,o,aX,ao,Jh,aoX⟩:=nh
 have hAi:=nW hP (es:=es) i ah oz
 have GX:=hAi.1.wQ
 by_cases hi:(i:Int)<(es.length:Int)
 ·have dD:∀{e:Env} {gg:Rows} {nx:Nat},(e 8=.int .i64 (IntKind.i64.wrap ((i:Int)+1)))->(gg ⟨47000000,n0⟩=some ⟨true,1,[[.br]]⟩)->(x1<nx/\∃o:Id,gg ⟨47001004,x1⟩=some ⟨true,1,[[.own o 0 (eG s es (i+1)).length]]⟩/\gg o=some ⟨true,3,(eG s es (i+1)).map ai⟩/\o.bj<nx/\o≠⟨47001004,x1⟩)->(jg s es i=true)->∃m0,m0<(es.length)-i/\∃i:Nat,m0=(es.length)-i/\i<=(es.length)/\e 8=.int .i64 (i:Int)/\gg ⟨47000000,n0⟩=some ⟨true,1,[[.br]]⟩/\(x1<nx/\∃o:Id,gg ⟨47001004,x1⟩=some ⟨true,1,[[.own o 0 (eG s es i).length]]⟩/\gg o=some ⟨true,3,(eG s es i).map ai⟩/\o.bj<nx/\o≠⟨47001004,x1⟩)/\(∀j:Nat,j<i->jg s es j=true):=fun x1 x2 x3 x4=>⟨_,ah,i+1,rfl,ah,(by rw[x1,aK ah]),x2,x3,(all_succ oz x4)⟩
  have fZ:i<es.length:=ah
  have iZ:=gI fZ
  have uA:=rK s es fZ
  have hcan:=J9 s hP _ hAi (bw es i).bD (bw es i).ck
  have gU:(es.map ai).length=es.length:=by simp
  have v4:=dh (i:=⟨47000000,n0⟩) (n:=st_a.next) aQ
  have vX:=dh (i:=⟨47001004,x1⟩) (n:=st_a.next) an
  have vo:=dh Jh
  (try((repeat(revert N;apply Pn.out));refine wk (tw @a8 (tw @ag0 (tw @a0 (tw @a1 (tw @a4 (tw @a7 (tw @hi (tw @iZ (tw @gU @ai.eq_1))))))))) ?_;(repeat(apply Pn.mk;intro N Z))))
  refine .inl ⟨_,ay.x hcan (by
   have hp:=CX aX ao
   simp only[ar,ax,aU,hp,bH,aW,Option.map_some]
   rfl),?_⟩
  apply Z
  clear Z N
  have Oz:(eY s.aI (bw es i).ck&&dX s (eG s es i) (bw es i).bD (bw es i).ck)=Rz s es i:=rfl
  rw[Oz]
  cases hB:Rz s es i
  ·have hr:=FA fZ oz (by rw[jg,hB];rfl)
   rw[hB]at hr
   have hw:OF s es=.br:=by rw[OF,hr];rfl
   (try((repeat(revert N;apply Pn.out));refine wk (tw @a8 (tw @ag0 (tw @a0 (tw @a1 (tw @a4 (tw @a7 (tw @iZ (tw @gU @ai.eq_1)))))))) ?_;(repeat(apply Pn.mk;intro N Z))))
   exact jX (.inl rfl) (vs:=[.agg [.br],.int .i64 (i:Int),.int .i64 5]) (sd (tw @a8 (tw @ag0 (tw @a0 (tw @a1 (tw @a4 @a7)))))) (by
    rw[hw,hr];simp only[fw,eR,jL,bc,bY,iN,dG,Option.map_some];rfl)
  ·(try((repeat(revert N;apply Pn.out));refine wk (tw @a8 (tw @ag0 (tw @a0 (tw @a1 (tw @a4 (tw @a7 (tw @iZ (tw @gU (tw @hi @ai.eq_1))))))))) ?_;(repeat(apply Pn.mk;intro N Z))))
   refine .inr (aE _ _ _ _ _ (fun r σ2 JR=>?_) (DS (X:=⟨47001004,x1⟩) (o:=o) (l:=eG s es i) ah (bw es i) aX ao))
   obtain⟨tf,hK⟩:=JR
   obtain⟨g2,x2⟩:=σ2
   (try dsimp only at tf hK)
   have Pt:=hK.1
   (try dsimp only at Pt)
   have k4:=hK.2 ⟨47000000,n0⟩ aQ
   have kX:=hK.2 ⟨47001004,x1⟩ aQ
   simp only[go_sem, ↓reduceIte,Nat.reduceEqDiff,Nat.reduceAdd,Nat.reduceSub,Nat.reduceLeDiff,reduceCtorEq,v4,vX,ag0,aX]at k4 kX
   have w4:=dh (i:=⟨47000000,n0⟩) (n:=x2) aQ
   have wX:=dh (i:=⟨47001004,x1⟩) (n:=x2) aQ
   apply Z
   clear Z N
   rcases tf with⟨h5,rfl⟩|⟨h5,o2,rfl,p1,p2,p3⟩
   ·have hr:=FA fZ oz (by rw[jg,hB,Bool.true_and];exact decide_eq_false ah)
    rw[hB]at hr
    have hw:OF s es=.br:=by rw[OF,hr];rfl
    (try((repeat(revert N;apply Pn.out));refine wk (tw @a8 (tw @ag0 (tw @a0 (tw @a1 (tw @a4 (tw @a7 (tw @k4 (tw @kX (tw @w4 @wX))))))))) ?_;(repeat(apply Pn.mk;intro N Z))))
    exact jX (.inl rfl) (vs:=[.agg [.br],.int .i64 0,.int .i64 4]) (sd (tw @a8 (tw @ag0 (tw @a0 (tw @a1 (tw @a4 @a7)))))) (by
     rw[hw,hr];simp only[fw,eR,jL,bc,bY,iN,dG,Option.map_some];rfl)
   ·(try dsimp only at p1 p2 p3)
    have rz:jg s es i=true:=by rw[jg,hB,Bool.true_and];exact decide_eq_true h5
    have wo:=dh (i:=o2) (n:=x2) p3
    have oX:=dP (a:=⟨47001004,x1⟩) (b:=o2) (by(try dsimp only at p2);(try dsimp only);omega)
    (try((repeat(revert N;apply Pn.out));refine wk (tw @a8 (tw @ag0 (tw @a0 (tw @a1 (tw @a4 (tw @a7 (tw @k4 (tw @kX (tw @w4 @wX))))))))) ?_;(repeat(apply Pn.mk;intro N Z))))
    refine dD ?_ ?_ (by(try dsimp only);exact⟨ah,o2,by rw[uA];simp only[go_sem, ↓reduceIte,Nat.reduceEqDiff,Nat.reduceAdd,Nat.reduceSub,Nat.reduceLeDiff,reduceCtorEq,wX]<;>rfl,by rw[uA];simp only[go_sem, ↓reduceIte,Nat.reduceEqDiff,Nat.reduceAdd,Nat.reduceSub,Nat.reduceLeDiff,reduceCtorEq,wo,oX,p1],ah,fun e=>by rw[e]at p2;(try dsimp only at p2);omega⟩) (rz)
    all_goals simp only[go_sem, ↓reduceIte,Nat.reduceEqDiff,Nat.reduceAdd,Nat.reduceSub,Nat.reduceLeDiff,reduceCtorEq,a8,ag0,a0,a1,a4,a7,k4,w4]
 ·have lU:i=es.length:=ah
  subst lU
  have hr:=IS oz
  have hw:OF s es=.sl ((eG s es es.length).map ai):=by rw[OF,hr];rfl
  have v4:=dh (i:=⟨47000000,n0⟩) (n:=st_a.next) aQ
  have n4:(o=(⟨47000000,n0⟩:Id))=False:=eq_false fun e=>by rw[e,ag0]at ao;simp at ao
  (try((repeat(revert N;apply Pn.out));refine wk (tw @a8 (tw @ag0 (tw @a0 (tw @a1 (tw @a4 (tw @a7 (tw @hi @aX))))))) ?_;(repeat(apply Pn.mk;intro N Z))))
  exact jX (.inl rfl) (vs:=[.agg [.own o 0 (eG s es es.length).length],.int .i64 0,.int .i64 0]) (sd (tw @a8 (tw @ag0 (tw @a0 (tw @a1 (tw @a4 @a7)))))) (by
   rw[hw,hr]
   simp only[fw,eR,jL,bc,bY,dG]
   rw[eP (e:=ai) (l:=eG s es es.length) (sz:=3) (sd (tw @n4 @ao)) rfl (fun x=>Q8 _ 2 x)];rfl)
def xe (p:aa->Bool) (l:List aa):List aa:=l.filter fun x=> !p x
theorem Tu {p:aa->Bool} {l:List aa} {j:Nat} (hj:j<l.length):xe p (l.take (j+1))=xe p (l.take j)++if p l[j]=true then[]else[l[j]]:=by
 unfold xe
 rw[List.take_succ_eq_append_getElem hj,List.filter_append]
 congr 1
 cases h:p l[j]<;>simp[h]
theorem Tt {p:aa->Bool} {l:List aa} (h:∀b∈l,p b=false):xe p l=l:=by
 unfold xe
 rw[List.filter_eq_self]
 intro b hb
 rw[h b hb];rfl
structure DlL (p:aa->Bool) (bs:List aa) (j:Nat) (R:List aa):Prop where
 len:R.length=bs.length
 pre:R.take (xe p (bs.take j)).length=xe p (bs.take j)
 post:∀x,j<=x->R[x]? =bs[x]?
 lt:(xe p (bs.take j)).length<j
def MkT (n:Nat) (L:List aa) (r:AV) (σ':az):Prop:=∃(o:Id) (J:List aa),r=.agg [.own o 0 L.length]/\σ'.get o=some ⟨true,3,(L++J).map ai⟩/\n<=o.bj/\o.bj<σ'.next
end Go.Proofs.YtiabgllilcfheaaGreat.V

namespace Go.Proofs.YtiabgllilcfheaaGreat.V
open Go.RowKit
attribute [local irreducible] eC wpOps gi Call
attribute [local go_sem] aM fP fa fX fW du upd cz K.av cP AV.cells AV.cell rowOf rowsOf part ld rowAt bL cu dK eb gK bP de eu fS fq dx ef db da dR dS bU bf cU bR cW cV dW eh ee cR bW dd ec bQ aL cY cH gJ bF cL bV aY dr bq dL AV.undef bJ bK dV dY dQ dU cK er ez cF ej ei cX cZ List.getD_cons_zero List.getD_cons_succ List.getD_nil List.all_cons List.all_nil Bool.and_true Bool.true_and Bool.and_self Bool.not_true Bool.not_false Option.map_some Option.map_none Option.bind_some Option.bind_none List.length_cons List.length_nil List.take_succ_cons List.take_zero List.take_nil List.drop_succ_cons List.drop_zero List.drop_nil List.head?_cons List.map_cons List.map_nil List.getElem?_cons_zero List.getElem?_cons_succ List.cons_append List.nil_append List.append_nil List.length_map List.set_cons_zero List.set_cons_succ eq_self Int.toNat_natCast Int.natCast_nonneg and_self true_and and_true decide_true decide_false Bool.false_eq_true Nat.zero_add Nat.add_zero List.contains_cons List.contains_nil Bool.or_false Bool.false_or beq_self_eq_true ne_eq not_true_eq_false not_false_eq_true Id.mk.injEq false_and and_false Nat.le_refl List.length_append beq_true beq_false Bool.not_eq_eq_eq_not or_false false_or eL ar ax aW bp bZ cw aV bH aU bh cQ bI
end Go.Proofs.YtiabgllilcfheaaGreat.V

namespace Go.Proofs.YtiabgllilcfheaaGreat.V
open Go.RowKit
attribute [local irreducible] eC wpOps gi Call
attribute [local go_sem] aM fP fa fX fW du upd cz K.av cP AV.cells AV.cell rowOf rowsOf part ld rowAt bL cu dK eb gK bP de eu fS fq dx ef db da dR dS bU bf cU bR cW cV dW eh ee cR bW dd ec bQ aL cY cH gJ bF cL bV aY dr bq dL AV.undef bJ bK dV dY dQ dU cK er ez cF ej ei cX cZ List.getD_cons_zero List.getD_cons_succ List.getD_nil List.all_cons List.all_nil Bool.and_true Bool.true_and Bool.and_self Bool.not_true Bool.not_false Option.map_some Option.map_none Option.bind_some Option.bind_none List.length_cons List.length_nil List.take_succ_cons List.take_zero List.take_nil List.drop_succ_cons List.drop_zero List.drop_nil List.head?_cons List.map_cons List.map_nil List.getElem?_cons_zero List.getElem?_cons_succ List.cons_append List.nil_append List.append_nil List.length_map List.set_cons_zero List.set_cons_succ Nat.reduceMul eq_self Int.toNat_natCast Int.natCast_nonneg and_self true_and and_true decide_true decide_false Bool.false_eq_true Nat.zero_add Nat.add_zero List.contains_cons List.contains_nil Bool.or_false Bool.false_or beq_self_eq_true Nat.reduceBEq ne_eq not_true_eq_false not_false_eq_true Id.mk.injEq false_and and_false Nat.reduceLT Int.reduceLE Int.reduceLT Int.reduceToNat Int.reduceNeg Int.reduceAdd Nat.le_refl List.length_append beq_true beq_false Bool.not_eq_eq_eq_not or_false false_or eL ar ax aW bp bZ cw aV bH aU bh cQ bI
def resS (s:aA) (a:List aa):aA:=⟨s.aI,⟨a⟩,s.aD⟩
structure RepP (s:aA) (r a:List aa):Prop where
 sys:ql s
 right:jf s.aI r
 asm:jf s.aI a
 wr:I9 s.dm.au r=true
 wa:I9 s.dm.au a=true
def InM (X:Id) (st:Gg) (e7:AV) (g:Rows) (n:Nat):Prop:=∃o u:Id,g X=some ⟨true,1,[[.own o 0 st.2.length]]⟩/\g o=some ⟨true,3,st.2.map ai⟩/\e7=.own u 0 st.1.length/\g u=some ⟨true,3,st.1.map ai⟩/\(o=u->False)/\(X=u->False)/\u.bj<n/\(X=o->False)/\o.bj<n/\X.bj<n
end Go.Proofs.YtiabgllilcfheaaGreat.V

namespace Go.Proofs.YtiabgllilcfheaaGreat.V
open Go.RowKit
theorem G9 {a:List aa} (h:ny a) {i:Nat} (hi:i<a.length):fb a a[i].bD=i:=by
 have h0:0<=fb a a[i].bD:=by
  rcases Int.lt_or_le (fb a a[i].bD) 0 with h0|h0
  ·exact absurd rfl (y5.1 h0 a[i] (List.getElem_mem hi))
  ·exact h0
 obtain⟨h1,h2⟩:=ke h0
 have h3:(fb a a[i].bD).toNat=i:=by
  rcases Nat.lt_trichotomy (fb a a[i].bD).toNat i with h4|h4|h4
  ·have:=h _ _ h4 hi
   rw[h2,gQ hi,lW]at this;cases this
  ·exact h4
  ·have:=h _ _ h4 h1
   rw[h2,gQ hi,lW]at this;cases this
 omega
theorem sG {s:aH} (hS:iK s) {f g:aq->Int} (h:∀p,0<=f p->g p=f p) (p:aq) (t:Int):∀d,dp s f p t d<=dp s g p t d
 |0=>Int.le_refl _
 |d+1=>by
  have ih:=sG hS h p t d
  simp only[dp]
  by_cases h0:0<=f (cj p d)
  ·rw[if_pos h0,if_pos (by rw[h _ h0];exact h0),h _ h0];omega
  ·rw[if_neg h0]
   have:=tT hS t d (g (cj p d))
   split<;>omega
theorem at_mem {l:List aa} (hR:ny l) {x:aa} (hx:x∈l):fQ l x.bD=x.ck:=by
 obtain⟨j,hj,rfl⟩:=List.getElem_of_mem hx
 have:=G9 hR hj
 unfold fQ
 rw[this,if_pos ah,Int.toNat_natCast,gQ hj]
theorem TF {l:List aa} {p:aq} (h:0<=fQ l p):∃x∈l,x.bD=p/\x.ck=fQ l p:=by
 unfold fQ at h ⊢
 split at h
 ·rename_i h0
  obtain⟨h1,h2⟩:=ke h0
  exact⟨_,jc h1,h2,by rw[if_pos h0]⟩
 ·omega
theorem Zo {l:List aa} (hR:ny l) {x y:aa} (hx:x∈l) (hy:y∈l) (h:x.bD=y.bD):x=y:=by
 obtain⟨i,hi,rfl⟩:=List.getElem_of_mem hx
 obtain⟨j,hj,rfl⟩:=List.getElem_of_mem hy
 have h1:=G9 hR hi
 have h2:=G9 hR hj
 rw[h]at h1
 have:i=j:=ah
 subst this;rfl
theorem LO {s:aA} (hS:iK s.aI) {l l':List aa} (hR':ny l') (h:∀x∈l,x∈l') {p:aq} {t:Int} (hf:dX s l p t=true) (Bb:fQ l' p<0):dX s l' p t=true:=by
 have qI:∀q,0<=fQ l q->fQ l' q=fQ l q:=fun q hq=>by
  obtain⟨x,hx,rfl,e⟩:=TF hq
  rw[<-e];exact at_mem hR' (h x hx)
 have hm:=sG hS qI p t 4
 simp only[dX,Bool.and_eq_true,decide_eq_true_eq,mb]at hf ⊢
 refine⟨⟨hf.1.1,Bb⟩,?_⟩
 first
  |exact decide_eq_true (Int.le_trans (of_decide_eq_true hf.2) hm)
  |exact decide_eq_true (Int.le_trans hf.2 hm)
structure ShutA (s:aA) (K M:List aa):Prop where
 Kw:ny M
 sub:∀x∈M,x∈K
 no:∀x∈K,dX s M x.bD x.ck=false
theorem Fi {x:aa}:∀(es l:List aa),x∈es.foldl (fun n x=>iu n x) l↔x∈l∨x∈es
 |[],l=>by simp
 |e::es,l=>by
  rw[List.foldl_cons,Fi es,qK,List.mem_cons]
  constructor
  ·rintro((h|h)|h)<;>simp[h]
  ·rintro(h|h|h)<;>simp[h]
theorem zh {s:aA} {es:List aa} {i:Nat} {x:aa}:x∈eG s es i↔x∈s.dm.au∨x∈es.take i:=Fi _ _
theorem Cb {B:aq->Int->Bool} {p:aq}:∀{t:Nat} {x:aa},x∈H5 B p t->∃k:Nat,k<t/\x=⟨p,k⟩/\B p k=true
 |0,x,h=>by simp[H5]at h
 |t+1,x,h=>by
  rw[H5]at h
  split at h
  ·rename_i hb
   rcases List.mem_append.1 h with h|h
   ·obtain⟨k,hk,h1⟩:=Cb h
    exact⟨k,ah,h1⟩
   ·exact⟨t,ah,by simpa using h,hb⟩
  ·obtain⟨k,hk,h1⟩:=Cb h
   exact⟨k,ah,h1⟩
theorem OS {B:aq->Int->Bool} {m:Nat} {ps:List aq} {x:aa} (h:x∈oj B m ps):x.bD∈ps/\∃k:Nat,k<m/\x.ck=k/\B x.bD x.ck=true:=by
 obtain⟨p,hp,hx⟩:=List.mem_flatMap.1 h
 obtain⟨k,hk,rfl,hb⟩:=Cb hx
 exact⟨hp,k,hk,rfl,hb⟩
noncomputable def uN (s:aA) (l:List aa):List aa:=oj (dX s l) s.aI.au.length (gx l)
theorem MV {s:aA} {l:List aa} (hS:iK s.aI) (hA:jf s.aI l):(uN s l).length<=320000:=by
 have h1:=xQ (dX s l) s.aI.au.length (gx l)
 have h2:(gx l).length<=l.length*4:=kT l l.length
 have h3:=hA.1.wQ
 have h4:=hS.uY
 have h5:(gx l).length*s.aI.au.length<=2000*160:=Nat.mul_le_mul ah h4
 unfold uN;omega
def KB (gp:List Int) (d n:Nat):Nat:=if gp.length=0 then 0 else(gp.getD (d % gp.length) 0).toNat % n
theorem IX {gp:List Int} {d n:Nat} (h:0<n):KB gp d n<n:=by
 unfold KB
 split
 ·exact h
 ·exact Nat.mod_lt _ h
noncomputable def GM (s:aA) (gp:List Int) (steps:Nat):Nat->List aa->Option (List aa)
 |0,es=>some es
 |f+1,es=>if (uN s (eG s es es.length)).length=0 then some es else if steps<=es.length then some es else if 500<=(eG s es es.length).length then none else GM s gp steps f (es++[bw (uN s (eG s es es.length)) (KB gp es.length (uN s (eG s es es.length)).length)])
theorem zu {s:aA} {es ds:List aa} {i:Nat} (h:i<=es.length):eG s (es++ds) i=eG s es i:=by
 unfold eG
 rw[List.take_append_of_le_length h]
theorem M6 (s:aA) (es:List aa) (x:aa):eG s (es++[x]) (es.length+1)=iu (eG s es es.length) x:=by
 rw[rK s (es++[x]) (by simp),zu (Nat.le_refl _)]
 congr 1
 simp[bw]
theorem M4 {es ds:List aa} {i:Nat} (h:i<es.length):bw (es++ds) i=bw es i:=by
 simp[bw,List.getD_eq_getElem?_getD,List.getElem?_append_left h]
theorem zr {s:aA} {es ds:List aa} {i:Nat} (h:i<es.length):jg s (es++ds) i=jg s es i:=by
 unfold jg Rz
 rw[zu ah,M4 h]
theorem Fx {s:aA} {l:List aa} {x:aa} (h:x∈uN s l):eY s.aI x.ck=true/\dX s l x.bD x.ck=true:=by
 obtain⟨_,k,hk,e,hf⟩:=OS h
 refine⟨?_,hf⟩
 rw[e]
 exact jn ah
def l8 (s:aA) (es:List aa):Prop:=∀j,j<es.length->jg s es j=true
theorem l8.nil (s:aA):l8 s []:=fun j hj=>by simp at hj
theorem l8.add {s:aA} {es:List aa} (h:l8 s es) {x:aa} (hx:x∈uN s (eG s es es.length)) (hl:(eG s es es.length).length<500):l8 s (es++[x]):=fun j hj=>by
 rw[List.length_append,List.length_singleton]at hj
 by_cases h0:j<es.length
 ·rw[zr h0];exact h j h0
 ·have e:j=es.length:=ah
  subst e
  obtain⟨h1,h2⟩:=Fx hx
  unfold jg Rz
  rw[zu (Nat.le_refl _),show bw (es++[x]) es.length=x by simp[bw],h1,h2]
  simpa using hl
theorem zt (s:aA) (es:List aa):∀i,i<=es.length->(eG s es i).length=s.dm.au.length+i
 |0,_=>rfl
 |i+1,hi=>by rw[rK s es ah,mm,zt s es i ah];rfl
theorem A7 {s:aA} {gp:List Int} {steps:Nat}:∀(f:Nat) (es Og:List aa),l8 s es->es.length<=steps->GM s gp steps f es=some Og->l8 s Og/\Og.length<=steps
 |0,es,Og,h,hl,he=>by
  rw[GM]at he;injection he with he;subst he
  exact⟨h,hl⟩
 |f+1,es,Og,h,hl,he=>by
  rw[GM]at he
  split at he
  ·injection he with he;subst he;exact⟨h,hl⟩
  ·split at he
   ·injection he with he;subst he;exact⟨h,hl⟩
   ·split at he
    ·cases he
    ·refine A7 f _ _ (h.add (jc (IX ah)) ah) ?_ he
     rw[List.length_append,List.length_singleton];omega
noncomputable def Em (s:aA) (gp:List Int) (steps:Nat):Option (List aa):=GM s gp steps 501 []
theorem JG {s:aA} {gp:List Int} {steps:Nat} {es:List aa} (h:Em s gp steps=some es):l8 s es/\es.length<=steps:=A7 _ _ _ (l8.nil s) (Nat.zero_le _) h
noncomputable def sa (s:aA) (l:List aa) (x:aa):Int:=if eY s.aI x.ck=true/\dX s l x.bD x.ck=true then(if l.length<500 then 0 else 4)else 2
theorem Kp {s:aA} {es:List aa} {h:Nat}:eG s (es.take h) h=eG s es h:=by
 unfold eG
 rw[List.take_take,Nat.min_self]
theorem JF {s:aA} {es:List aa} (hG:l8 s es) (h:Nat):l8 s (es.take h):=fun j hj=>by
 have e:=zr (s:=s) (es:=es.take h) (ds:=es.drop h) hj
 rw[List.take_append_drop]at e
 rw[<-e]
 exact hG j (by simp at hj;omega)
theorem Hs {s:aA} {es:List aa} {i j:Nat} (EA:i<=j):∀x∈eG s es i,x∈eG s es j:=fun x hx=>by
 rcases zh.1 hx with h|h
 ·exact zh.2 (.inl h)
 ·refine zh.2 (.inr ?_)
  have e:es.take i=(es.take j).take i:=by rw[List.take_take,Nat.min_eq_left EA]
  rw[e]at h
  exact List.mem_of_mem_take h
theorem MN {s:aA} (hP:ql s) (h1:s.dm.au.length=1) {es:List aa} (hG:l8 s es) (hl:es.length<=12) {h:Nat} (hh:h<=es.length) {x:aa} (hx:x∈uN s (eG s es h)):(sa s (eG s es es.length) x=0↔¬0<=fQ (eG s es es.length) x.bD):=by
 obtain⟨ht,hf⟩:=Fx hx
 have hA:=nW hP (es:=es) es.length (Nat.le_refl _) hG
 have hz:=zt s es es.length (Nat.le_refl _)
 unfold sa
 by_cases Bb:fQ (eG s es es.length) x.bD<0
 ·have K2:=LO hP.set hA.1.Kw (Hs hh) hf Bb
  rw[if_pos ⟨ht,K2⟩,if_pos ah]
  exact⟨fun _=>ah,fun _=>rfl⟩
 ·have K2:¬dX s (eG s es es.length) x.bD x.ck=true:=fun e=>by
   simp only[dX,Bool.and_eq_true,decide_eq_true_eq]at e
   exact Bb e.1.2
  rw[if_neg fun e=>K2 e.2]
  exact⟨fun e=>(by cases e),fun e=>ah⟩
end Go.Proofs.YtiabgllilcfheaaGreat.V

namespace Go.Proofs.YtiabgllilcfheaaGreat
open Go.RowKit Go.Lib
variable {P:Program}
theorem pd (w:World) (dT sT ty elem:TypeId) (b o Aj LH:Nat) (a:Addr) (p9 C2 k:Nat) (cs:List Value)
  (hu:P.underlying dT=some (.slice elem)) (hs:(P.info? elem).map (·.size)=some k) (hn:cs.length=Nat.min p9 Aj*k)
  (JU:∀j v,cs[j]? =some v->w.cell? (a.add j)=some v) (hc:∀j,j<cs.length->(w.cell? ⟨b,o+j,none⟩).isSome=true) (hf:∀j,j<cs.length->w.frozen? ⟨b,o+j,none⟩=false) (h1:∀v∈cs,v.oneCell'=true):
  (Builtin.copy_ #[dT,sT] ty #[.slice (some ⟨b,o,none⟩) Aj LH,.slice (some a) p9 C2]).run P w=.ok (goInt (Nat.min p9 Aj)) (w.setCells b o cs):=by
 have hl:=run_loadCells_list (P:=P) w a cs JU
 have eA:=run_storeCells_cells (P:=P) b o cs 0 w (by simpa using hc) (by simpa using hf) h1
 cases hq:P.info? elem with
 |none=>simp[hq]at hs
 |some i=>
  have hi:i.size=k:=by simpa[hq]using hs
  simp[Builtin.copy_,run_underlying hu,Builtin.lenOf,Builtin.firstCells,sizeOf,typeInfo,hq,hi,<-hn,hl,eA]
theorem pM (w:World) {ops:Array Oper} {rest:List Oper} {o:Oper} {a:Act} {Q:Exit->Act->World->Prop} (rz:o.guard=none) (d s:Operand) (t t':TypeId)
  (ho:o.op=.call {callee:=.builtin .copy,args:= #[d,s],argTypes:= #[t,t']}) (v u:Value) (hd:a.eval d=v) (hs:a.eval s=u) {v':Value} {w':World}
  (hr:(Builtin.copy_ #[t,t'] o.type #[v,u]).run P w=.ok v' w') (h:wpList P ops Q rest (a.put o.dst v') w'):wpList P ops Q (o::rest) a w:=
 wpList_plain rz fun K hK=>by
  unfold Oper.wp execOp
  simp only[ho,resolve,invoke,builtin,Sem.run_bind,Sem.run_pure,Result.andThen_ok,List.map_toArray,List.map_cons,List.map_nil,hd,hs,hr]
  exact hK _ _ h
theorem sO {ops:Array Oper} {o:Oper} {a:Act} {w:World} {K:Act->World->Prop} {Q:Exit->Act->World->Prop} {E:Prop}
  (hg:o.guard=none) (d x:Operand) (dT sT:TypeId) (eS:o.op=Op.call {callee:=Callee.builtin Builtin.copy,args:= #[d,x],argTypes:= #[dT,sT]})
  (v u:Value) (hd:a.eval d=v) (hx:a.eval x=u) {v':Value} {w':World} (hr:(Builtin.copy_ #[dT,sT] o.type #[v,u]).run P w=.ok v' w') (hK:K (a.put o.dst v') w'):
  if Region.wanted o (yielded ops a.tmps)=true then Oper.wp P o a w K Q else E:=by
 have hw:Region.wanted o (yielded ops a.tmps)=true:=by simp[Region.wanted,hg]
 rw[if_pos hw]
 unfold Oper.wp
 simp[execOp,eS,resolve,invoke,builtin,hd,hx,hr,Result.andThen]
 exact hK
theorem y7 (b:Nat) (vs:List Value) (o:Nat) (w:World) (h:∀j,j<vs.length->(w.cell? ⟨b,o+j,none⟩).isSome=true) (k:Nat) (hk:(w.cell? ⟨b,k,none⟩).isSome=true):((w.setCells b o vs).cell? ⟨b,k,none⟩).isSome=true:=by
 by_cases fZ:o<=k/\k<o+vs.length
 ·have:=World.cell?_setCells_in b vs o w h (k-o) (by omega)
  rw[show o+(k-o)=k by omega]at this
  rw[this];rfl
 ·rw[World.cell?_setCells_out b vs o w ⟨b,k,none⟩ (fun _ _=>by show k<o∨o+vs.length<=k;omega)]
  exact hk
theorem EU (b n c i vb vc:Nat) (cs vs:List Value) (w:World) (hi:i<n) (fE:n+1<=c) (hc63:c<=9223372036854775807) (PG:vb≠b)
  (oK:cs.length=n*3) (pZ:vs.length=3)
  (eD:∀j v,cs[j]? =some v->w.cell? ⟨b,j,none⟩=some v) (Mq:∀j,j<(n+1)*3->(w.cell? ⟨b,j,none⟩).isSome=true) (K3:∀j,w.frozen? ⟨b,j,none⟩=false)
  (Iz:∀j v,vs[j]? =some v->w.cell? ⟨vb,j,none⟩=some v) (Ww:∀v∈cs,v.oneCell'=true) (Z1:∀v∈vs,v.oneCell'=true)
  (tA tB:TypeId) (kA kB:Nat) (hsa:w.shape? vb=some (tA,kA)) (hsb:w.shape? b=some (tB,kB)) (YX:kB≠0) (JN:w.frozen? ⟨vb,0,none⟩=false) (W5:w.frozen? ⟨vb,kA,none⟩=false):
  Calls Tryz.prog 91 #[.slice (some ⟨b,0,none⟩) n c,.int .i64 i,.slice (some ⟨vb,0,none⟩) 1 vc] w fun e w'=>
   e=.returned (.slice (some ⟨b,0,none⟩) (n+1) c)/\w'=(w.drew.setCells b ((i+1)*3) (cs.drop (i*3))).setCells b (i*3) vs:=by
 have hu:=Tryz.underlying28
 have eQ:(Tryz.prog.info? 70).map (·.size)=some 3:=by kernel_rfl
 have qJ:¬((i:Int)=(n:Int)):=by omega
 have vD:∀o lb cb,(callFunc 117 #[.slice (some ⟨vb,0,none⟩) 1 vc,.slice (some ⟨b,o,none⟩) lb cb]).run Tryz.prog w=.ok (.value (.bool false)) w:=fun o lb cb=>by
  rw[run_callFunc_extern Tryz.func117 (by kernel_rfl) (by kernel_rfl) (by kernel_rfl) (e:=Extern.SlicesOverlaps.overlaps #[28,28] #[4]) (by kernel_rfl),
   Lib.run_overlaps_apart w 28 4 70 hu 3 Tryz.sizeOf70 ⟨vb,0,none⟩ ⟨b,o,none⟩ 1 vc lb cb PG tA tB kA kB hsa hsb YX JN W5]
  rfl
 have oP:IntKind.i64.wrap ((i:Int)+1)=(i:Int)+1:=by rw[IntKind.wrap_i64];omega
 have KZ:(0:Int)<=(i:Int)+1:=by omega
 have Tm:((i:Int)+1).toNat=i+1:=by omega
 have fZ:i<=n:=by omega
 have Cs:¬(c=i+1):=by omega
 have hb3:(i:Int)<=(n:Int)+1:=by omega
 have hb4:¬(c=i):=by omega
 have F1:(cs.drop (i*3)).length=(n-i)*3:=by rw[List.length_drop,oK,<-Nat.sub_mul]
 have Me:Nat.min (n+1-i) (n-i)=n-i:=by simp only[Nat.min_def];split<;>omega
 have Ao:Nat.min 1 (n+1-i)=1:=by simp only[Nat.min_def];split<;>omega
 have WU:∀ty dc sc,(Builtin.copy_ #[28,28] ty #[.slice (some ⟨b,(i+1)*3,none⟩) (n-i) dc,.slice (some ⟨b,i*3,none⟩) (n+1-i) sc]).run Tryz.prog w.drew=.ok (goInt (n-i:Nat)) (w.drew.setCells b ((i+1)*3) (cs.drop (i*3))):=fun ty dc sc=>by
  have h:=pd (P:=Tryz.prog) w.drew 28 28 ty 70 b ((i+1)*3) (n-i) dc ⟨b,i*3,none⟩ (n+1-i) sc 3 (cs.drop (i*3)) hu eQ (by rw[F1,Me])
   (fun j v hj=>by rw[Addr.add_lit];exact eD (i*3+j) v (by rwa [List.getElem?_drop]at hj))
   (fun j hj=>Mq ((i+1)*3+j) (by rw[F1]at hj;omega)) (fun j hj=>K3 _) (fun v hv=>Ww v (List.mem_of_mem_drop hv))
  rw[Me]at h;exact h
 obtain⟨W1,KY⟩:∃W1,W1=w.drew.setCells b ((i+1)*3) (cs.drop (i*3)):=⟨_,rfl⟩
 have hsp1:∀k,k<(n+1)*3->(W1.cell? ⟨b,k,none⟩).isSome=true:=fun k hk=>by
  rw[KY]
  exact y7 b _ _ w.drew (fun j hj=>Mq ((i+1)*3+j) (by rw[F1]at hj;omega)) _ (Mq k hk)
 have hcp2:∀(W:World),(∀x,W.cell? x=W1.cell? x)->(∀x,W.frozen? x=W1.frozen? x)->∀ty dc,(Builtin.copy_ #[28,28] ty #[.slice (some ⟨b,i*3,none⟩) (n+1-i) dc,.slice (some ⟨vb,0,none⟩) 1 vc]).run Tryz.prog W=.ok (goInt (1:Nat)) (W.setCells b (i*3) vs):=fun W Re WK ty dc=>by
  have h:=pd (P:=Tryz.prog) W 28 28 ty 70 b (i*3) (n+1-i) dc ⟨vb,0,none⟩ 1 vc 3 vs hu eQ (by rw[pZ,Ao])
   (fun j v hj=>by
    rw[Addr.add_lit,Re,KY,World.cell?_setCells_out b _ _ _ _ (fun h _=>absurd h PG),Nat.zero_add]
    exact Iz j v hj)
   (fun j hj=>by rw[Re];exact hsp1 _ (by omega)) (fun j hj=>by rw[WK,KY,World.frozen?_setCells];exact K3 _) Z1
  rw[Ao]at h;exact h
 rw[<-KY]at WU ⊢
 have mixed:Tryz.prog.follows .mixedOrders=true:=by kernel_rfl
 go_enter Tryz.func91,Tryz.ntmps91
 go_wp2_with (simp only[vD])
 go_region_law_o (refine sO rfl _ _ 28 28 rfl _ _ (by simp[Act.eval,Act.put]) (by simp[Act.eval,Act.put]) (WU _ _ _) ?_)
 go_wp2_with (at_builtin;refine pM _ rfl _ _ 28 28 rfl _ _ rfl rfl (hcp2 _ (fun _=>rfl) (fun _=>rfl) _ _) ?_)
 go_ret
 exact⟨rfl,by rw[KY]⟩
theorem uE:(Tryz.prog.info? 70).map (fun i=>(i.zero,i.size,i.bytes))=some (some (.agg #[.int .i64 0,.int .i64 0,.int .i64 0]),3,24):=by kernel_rfl
theorem Hb (b n c i vb vc:Nat) (cs vs:List Value) (w:World) (hi:i<n) (hnc:n<=c) (fE:c<n+1) (hbig:n<=1000000)
  (oK:cs.length=n*3) (pZ:vs.length=3)
  (eD:∀j v,cs[j]? =some v->w.cell? ⟨b,j,none⟩=some v)
  (Iz:∀j v,vs[j]? =some v->w.cell? ⟨vb,j,none⟩=some v) (Ww:∀v∈cs,v.oneCell'=true) (Z1:∀v∈vs,v.oneCell'=true):
  Calls Tryz.prog 91 #[.slice (some ⟨b,0,none⟩) n c,.int .i64 i,.slice (some ⟨vb,0,none⟩) 1 vc] w fun e w'=>
   ∃G ym,n+1<=G/\G<=maxLen/\ym.size=G*3/\(∀j v,cs[j]? =some v->j<i*3->ym[j]? =some v)/\
   e=.returned (.slice (some ⟨w.heap.size,0,none⟩) (n+1) G)/\
   w'=(((w.alloc (.cells ym 70)).drew.setCells w.heap.size (i*3) vs).drew).setCells w.heap.size ((i+1)*3) (cs.drop (i*3)):=by
 have hu:=Tryz.underlying28
 obtain⟨i0,zZ,Dx,G7,Zj⟩:=info_parts uE
 have eQ:(Tryz.prog.info? 70).map (·.size)=some 3:=by rw[zZ];simp[G7]
 have qJ:¬((i:Int)=(n:Int)):=by omega
 have hz3:(c:Int)<(n:Int)+1:=by omega
 have hbw:b<w.heap.size:=World.block_lt_of_cell? _ _ (eD 0 _ (List.getElem?_eq_getElem (by omega)))
 have IA:vb<w.heap.size:=World.block_lt_of_cell? _ _ (Iz 0 _ (List.getElem?_eq_getElem (by omega)))
 have K6:(n:Int)+1-(i:Int)=((n+1-i:Nat):Int):=by omega
 have xZ:i+(n+1-i)=n+1:=by omega
 have hold:(Builtin.firstCells i0.size i (.slice (some ⟨b,0,none⟩) i c)).run Tryz.prog w.drew=.ok (cs.take (i*3)).toArray w.drew:=by
  rw[G7]
  exact run_firstCells_some w.drew 3 i ⟨b,0,none⟩ i c (cs.take (i*3)) (by rw[List.length_take];omega) (fun j v hj=>by
   rw[Addr.add_lit,Nat.zero_add]
   rw[List.getElem?_take]at hj
   split at hj
   ·exact eD j v hj
   ·cases hj)
 have Y8:∀ty,(Builtin.append_ #[28,3] ty #[.slice (some ⟨b,0,none⟩) i c,.int .i64 ((n:Int)+1-(i:Int))]).run Tryz.prog w=
   .ok (.slice (some ⟨w.heap.size,0,none⟩) (n+1) (grownCap w (n+1) c 70)) (w.drew.alloc (.cells ((cs.take (i*3)).toArray++Builtin.zeroCells (Value.agg #[.int .i64 0,.int .i64 0,.int .i64 0]).cells (n+1-i)++Builtin.zeroCells (Value.agg #[.int .i64 0,.int .i64 0,.int .i64 0]).cells (grownCap w (n+1) c 70-(n+1))) 70)):=fun ty=>by
  have h:=Lib.run_append_grow_zeros (P:=Tryz.prog) w 28 3 ty 70 i0 _ .i64 .i64 hu Tryz.underlying3 zZ Dx (some ⟨b,0,none⟩) i c (cs.take (i*3)) hold (n+1-i) (by omega) (by omega) (by omega) (by omega) (by rw[Zj];omega) (by rw[Zj,xZ];exact growslice_fits fE (by omega))
  rw[xZ]at h
  rw[K6]
  exact h
 obtain⟨G,hG⟩:∃G,G=grownCap w (n+1) c 70:=⟨_,rfl⟩
 obtain⟨ym,Pf⟩:∃ym:Array Value,ym=(cs.take (i*3)).toArray++Builtin.zeroCells (Value.agg #[.int .i64 0,.int .i64 0,.int .i64 0]).cells (n+1-i)++Builtin.zeroCells (Value.agg #[.int .i64 0,.int .i64 0,.int .i64 0]).cells (G-(n+1)):=⟨_,rfl⟩
 rw[<-hG]at Y8
 rw[<-Pf]at Y8
 have hGn:n+1<=G:=by rw[hG];exact grownCap_ge w _ _ _
 have Ra:G<=maxLen:=by rw[hG];exact grownCap_le_maxLen w (n+1) c 70 (by unfold maxLen;omega)
 have hG63:G<=9223372036854775807:=by have:=Ra;unfold maxLen at this;omega
 have hRs:ym.size=G*3:=by
  rw[Pf]
  simp[Builtin.zeroCells,Value.cells]
  omega
 have hRh:∀j v,cs[j]? =some v->j<i*3->ym[j]? =some v:=fun j v hj hl=>by
  have iH:=(List.getElem?_eq_some_iff.1 hj).1
  rw[Pf,Array.getElem?_append_left (by simp;omega),Array.getElem?_append_left (by simp;omega)]
  simp only[List.getElem?_toArray,List.getElem?_take,if_pos hl];exact hj
 obtain⟨W1,KY⟩:∃W1,W1=w.drew.alloc (.cells ym 70):=⟨_,rfl⟩
 rw[<-KY]at Y8
 have Z:∀j,j<(n+1)*3->(W1.cell? ⟨w.heap.size,j,none⟩).isSome=true:=fun j hj=>by
  rw[KY,World.cell?_alloc_at (w:=w.drew) ym _ w.heap.size j rfl,Array.getElem?_eq_getElem (by rw[hRs];omega)];rfl
 have hNf:∀j,W1.frozen? ⟨w.heap.size,j,none⟩=false:=fun j=>by rw[KY];exact World.frozen?_alloc_at (w:=w.drew) ym _ w.heap.size j rfl
 have hOb:∀j v,w.cell? ⟨b,j,none⟩=some v->W1.cell? ⟨b,j,none⟩=some v:=fun j v h=>by rw[KY,World.cell?_alloc_past (w:=w.drew) _ b j hbw];exact h
 have LZ:∀j v,w.cell? ⟨vb,j,none⟩=some v->W1.cell? ⟨vb,j,none⟩=some v:=fun j v h=>by rw[KY,World.cell?_alloc_past (w:=w.drew) _ vb j IA];exact h
 have Ao:Nat.min 1 (n+1-i)=1:=by simp only[Nat.min_def];split<;>omega
 have Me:Nat.min (n-i) (n-i)=n-i:=by simp
 have hcpA:∀(W:World),(∀x,W.cell? x=W1.cell? x)->(∀x,W.frozen? x=W1.frozen? x)->∀ty dc,(Builtin.copy_ #[28,28] ty #[.slice (some ⟨w.heap.size,i*3,none⟩) (n+1-i) dc,.slice (some ⟨vb,0,none⟩) 1 vc]).run Tryz.prog W=.ok (goInt (1:Nat)) (W.setCells w.heap.size (i*3) vs):=fun W Re WK ty dc=>by
  have h:=pd (P:=Tryz.prog) W 28 28 ty 70 w.heap.size (i*3) (n+1-i) dc ⟨vb,0,none⟩ 1 vc 3 vs hu eQ (by rw[pZ,Ao])
   (fun j v hj=>by rw[Addr.add_lit,Re,Nat.zero_add];exact LZ _ v (Iz j v hj))
   (fun j hj=>by rw[Re];exact Z _ (by omega)) (fun j hj=>by rw[WK];exact hNf _) Z1
  rw[Ao]at h;exact h
 have hbN:b≠w.heap.size:=by omega
 have F1:(cs.drop (i*3)).length=(n-i)*3:=by rw[List.length_drop,oK,<-Nat.sub_mul]
 have hcpB:∀(W:World),(∀x,W.cell? x=(W1.setCells w.heap.size (i*3) vs).cell? x)->(∀x,W.frozen? x=(W1.setCells w.heap.size (i*3) vs).frozen? x)->∀ty dc sc,(Builtin.copy_ #[28,28] ty #[.slice (some ⟨w.heap.size,(i+1)*3,none⟩) (n-i) dc,.slice (some ⟨b,i*3,none⟩) (n-i) sc]).run Tryz.prog W=.ok (goInt (n-i:Nat)) (W.setCells w.heap.size ((i+1)*3) (cs.drop (i*3))):=fun W Re WK ty dc sc=>by
  have h:=pd (P:=Tryz.prog) W 28 28 ty 70 w.heap.size ((i+1)*3) (n-i) dc ⟨b,i*3,none⟩ (n-i) sc 3 (cs.drop (i*3)) hu eQ (by rw[F1,Me])
   (fun j v hj=>by
    rw[Addr.add_lit,Re,World.cell?_setCells_out _ _ _ _ _ (fun h _=>absurd h hbN)]
    exact hOb _ v (eD (i*3+j) v (by rwa [List.getElem?_drop]at hj)))
   (fun j hj=>by rw[Re];exact y7 _ _ _ _ (fun t ht=>Z (i*3+t) (by omega)) _ (Z ((i+1)*3+j) (by rw[F1]at hj;omega)))
   (fun j hj=>by rw[WK,World.frozen?_setCells];exact hNf _) (fun v hv=>Ww v (List.mem_of_mem_drop hv))
  rw[Me]at h;exact h
 subst KY
 have hE1:∀x,((w.alloc (.cells ym 70)).drew).cell? x=(w.drew.alloc (.cells ym 70)).cell? x:=fun x=>rfl
 have hE2:∀x,((w.alloc (.cells ym 70)).drew).frozen? x=(w.drew.alloc (.cells ym 70)).frozen? x:=fun x=>rfl
 have hF1:∀x,(((w.alloc (.cells ym 70)).drew.setCells w.heap.size (i*3) vs).drew).cell? x=((w.drew.alloc (.cells ym 70)).setCells w.heap.size (i*3) vs).cell? x:=fun x=>rfl
 have Wy:∀x,(((w.alloc (.cells ym 70)).drew.setCells w.heap.size (i*3) vs).drew).frozen? x=((w.drew.alloc (.cells ym 70)).setCells w.heap.size (i*3) vs).frozen? x:=fun x=>rfl
 have oP:IntKind.i64.wrap ((i:Int)+1)=(i:Int)+1:=by rw[IntKind.wrap_i64];omega
 have KZ:(0:Int)<=(i:Int)+1:=by omega
 have Tm:((i:Int)+1).toNat=i+1:=by omega
 have fZ:i<=n:=by omega
 have hb3:(i:Int)<=(n:Int):=by omega
 have YA:¬(G=i):=by omega
 have hGim:¬(G=i+1):=by omega
 have YN:¬(c=i):=by omega
 have mixed:Tryz.prog.follows .mixedOrders=true:=by kernel_rfl
 clear K6 xZ hold Pf hG
 go_enter Tryz.func91,Tryz.ntmps91
 go_wp2_with (first
  |(at_builtin;refine Lib.wpList_append_run _ rfl _ _ _ _ rfl _ _ rfl rfl _ _ (Y8 _) ?_)
  |(at_builtin;refine pM _ rfl _ _ 28 28 rfl _ _ rfl rfl (hcpA _ hE1 hE2 _ _) ?_))
 go_region_law_o (refine sO rfl _ _ 28 28 rfl (.slice (some ⟨w.heap.size,(i+1)*3,none⟩) (n-i) (G-(i+1))) (.slice (some ⟨b,i*3,none⟩) (n-i) (c-i)) (by simp[Act.eval,Act.put]) (by simp[Act.eval,Act.put]) (hcpB _ hF1 Wy 3 (G-(i+1)) (c-i)) ?_)
 go_wp2
 go_ret
 exact⟨G,ym,hGn,Ra,hRs,hRh,rfl,rfl⟩
theorem Bj (A:Option Addr) (n c vb vc:Nat) (w w':World) (v':Value)
  (hr:∀ty,(Builtin.append_ #[28,28] ty #[.slice A n c,.slice (some ⟨vb,0,none⟩) 1 vc]).run Tryz.prog w=.ok v' w') (hn:n<=c):
  Calls Tryz.prog 91 #[.slice A n c,.int .i64 n,.slice (some ⟨vb,0,none⟩) 1 vc] w fun e w2=>e=.returned v'/\w2=w':=by
 have hu:=Tryz.underlying28
 cases A with
 |none=>
  go_enter Tryz.func91,Tryz.ntmps91
  go_wp2_with (at_builtin;refine Lib.wpList_append_run _ rfl _ _ _ _ rfl _ _ rfl rfl _ _ (hr _) ?_)
  all_goals (try go_ret)
  all_goals first|exact⟨rfl,rfl⟩|skip
 |some ad=>
  obtain⟨ab,ao,asp⟩:=ad
  go_enter Tryz.func91,Tryz.ntmps91
  go_wp2_with (at_builtin;refine Lib.wpList_append_run _ rfl _ _ _ _ rfl _ _ rfl rfl _ _ (hr _) ?_)
  all_goals (go_ret;exact⟨rfl,rfl⟩)
theorem HB {w:World} {b o:Nat} {v:Value} {cur:Array Value} {T:TypeId} {f:Nat×Nat} (h:w.heap[b]? =some (.cells cur T f)):∃cur',(w.setCell ⟨b,o,none⟩ v).heap[b]? =some (.cells cur' T f)/\cur'.size=cur.size/\(∀t,t≠o->cur'[t]? =cur[t]?)/\(o<cur.size->cur'[o]? =some v):=by
 refine⟨_,by simp[World.setCell,Array.getElem?_modify,h];rfl,?_,fun t ht=>?_,fun ho=>?_⟩
 ·simp
 ·rw[Array.getElem?_setIfInBounds_ne (fun e=>ht e.symm)]
 ·rw[Array.getElem?_setIfInBounds_self_of_lt ho]
theorem lE {b:Nat} {T:TypeId} {f:Nat×Nat}:∀(vs:List Value) (o:Nat) (w:World) (cur:Array Value),w.heap[b]? =some (.cells cur T f)->∃cur',(w.setCells b o vs).heap[b]? =some (.cells cur' T f)/\cur'.size=cur.size/\(∀t,t<o∨o+vs.length<=t->cur'[t]? =cur[t]?)/\∀(j:Nat) (v:Value),vs[j]? =some v->o+j<cur.size->cur'[o+j]? =some v
 |[],o,w,cur,h=>⟨cur,h,rfl,fun _ _=>rfl,fun j v hj=>by simp at hj⟩
 |v::r,o,w,cur,h=>by
  obtain⟨c1,h1,h2,h3,h4⟩:=HB (o:=o) (v:=v) h
  obtain⟨c2,k1,k2,k3,k4⟩:=lE r (o+1) _ c1 h1
  refine⟨c2,k1,k2.trans h2,fun t ht=>?_,fun j u hj hl=>?_⟩
  ·rw[k3 t (by simp only[List.length_cons]at ht;omega)]
   refine h3 t fun e=>?_
   simp only[List.length_cons]at ht;omega
  ·cases j with
   |zero=>
    simp at hj;subst hj
    rw[Nat.add_zero,k3 o (.inl (by omega))]
    exact h4 (by omega)
   |succ j=>
    have:=k4 j u (by simpa using hj) (by omega)
    rwa [show o+1+j=o+(j+1) by omega]at this
theorem jH {b k:Nat} (hk:k≠b):∀(vs:List Value) (o:Nat) (w:World),(w.setCells b o vs).heap[k]? =w.heap[k]?
 |[],_,_=>rfl
 |v::r,o,w=>(jH hk r (o+1) _).trans (Below.heap_setCell _ _ _ _ hk)
theorem jJ (b:Nat):∀(vs:List Value) (o:Nat) (w:World),(w.setCells b o vs).heap.size=w.heap.size
 |[],_,_=>rfl
 |v::r,o,w=>(jJ b r (o+1) _).trans (size_set _ _ _)
theorem jI (b:Nat):∀(vs:List Value) (o:Nat) (w:World),(w.setCells b o vs).os=w.os/\(w.setCells b o vs).tape=w.tape/\(w.setCells b o vs).output=w.output
 |[],_,_=>⟨rfl,rfl,rfl⟩
 |v::r,o,w=>jI b r (o+1) _
structure vG (w w':World) (b C:Nat) (T:TypeId) (cells:List Value):Prop where
 xR:∃cur,w'.heap[b]? =some (.cells cur T (0,0))/\cur.size=C/\∀(t:Nat) (v:Value),cells[t]? =some v->cur[t]? =some v
 other:∀k,k≠b->k<w.heap.size->w'.heap[k]? =w.heap[k]?
 size:w.heap.size<=w'.heap.size
 rest:w'.os=w.os/\w'.tape=w.tape/\w'.output=w.output
theorem FP {w w0:World} {b i k:Nat} {cur:Array Value} {T:TypeId} {cs vs:List Value} (h:w.heap[b]? =some (.cells cur T (0,0))) (h0:∀k,k≠b->k<w0.heap.size->w.heap[k]? =w0.heap[k]?) (hz:w0.heap.size<=w.heap.size) (hr:w.os=w0.os/\w.tape=w0.tape/\w.output=w0.output)
  (pZ:vs.length=k) (Xc:∀j v,cs[j]? =some v->j<i*k->cur[j]? =some v) (wc:cs.length+k<=cur.size) (hi:i*k<=cs.length):
  ∀(flip:Bool),vG w0 (if flip then(w.setCells b ((i+1)*k) (cs.drop (i*k))).setCells b (i*k) vs else((w.setCells b (i*k) vs).drew).setCells b ((i+1)*k) (cs.drop (i*k))) b cur.size T (cs.take (i*k)++vs++cs.drop (i*k)):=by
 have tg:(i+1)*k=i*k+k:=Nat.succ_mul i k
 have F1:(cs.drop (i*k)).length=cs.length-i*k:=List.length_drop ..
 have lv:∀(c2:Array Value),(∀t:Nat,t<i*k->c2[t]? =cur[t]?)->(∀(j:Nat) (v:Value),vs[j]? =some v->c2[i*k+j]? =some v)->(∀(j:Nat) (v:Value),(cs.drop (i*k))[j]? =some v->c2[(i+1)*k+j]? =some v)->∀(t:Nat) (v:Value),(cs.take (i*k)++vs++cs.drop (i*k))[t]? =some v->c2[t]? =some v:=by
  intro c2 a1 a2 a3 t v ht
  have F8:(cs.take (i*k)).length=i*k:=by rw[List.length_take];omega
  by_cases h1:t<i*k
  ·rw[List.append_assoc,List.getElem?_append_left (by omega),List.getElem?_take,if_pos h1]at ht
   rw[a1 t h1];exact Xc t v ht h1
  ·by_cases h2:t<i*k+k
   ·rw[List.getElem?_append_left (by rw[List.length_append];omega),List.getElem?_append_right (by omega),F8]at ht
    have:=a2 _ v ht
    rwa [show i*k+(t-i*k)=t by omega]at this
   ·rw[List.getElem?_append_right (by rw[List.length_append];omega),List.length_append,F8,pZ]at ht
    have:=a3 _ v ht
    rwa [show(i+1)*k+(t-(i*k+k))=t by omega]at this
 intro flip
 cases flip with
 |true=>
  obtain⟨c1,g1,g2,g3,g4⟩:=lE (cs.drop (i*k)) ((i+1)*k) w cur h
  obtain⟨c2,e1,e2,e3,e4⟩:=lE vs (i*k) _ c1 g1
  simp only[if_true]
  refine⟨⟨c2,e1,e2.trans g2,lv c2 (fun t ht=>?_) (fun j v hj=>e4 j v hj (by have:=(List.getElem?_eq_some_iff.1 hj).1;omega)) (fun j v hj=>?_)⟩,fun q hq Pz=>?_,?_,?_⟩
  ·rw[e3 t (.inl ht),g3 t (.inl (by omega))]
  ·have:=(List.getElem?_eq_some_iff.1 hj).1
   rw[e3 _ (.inr (by omega))];exact g4 j v hj (by omega)
  ·rw[jH hq,jH hq];exact h0 q hq Pz
  ·rw[jJ,jJ];exact hz
  ·have r1:=jI b vs (i*k) (w.setCells b ((i+1)*k) (cs.drop (i*k)))
   have r2:=jI b (cs.drop (i*k)) ((i+1)*k) w
   exact⟨(r1.1.trans r2.1).trans hr.1,(r1.2.1.trans r2.2.1).trans hr.2.1,(r1.2.2.trans r2.2.2).trans hr.2.2⟩
 |false=>
  obtain⟨c1,g1,g2,g3,g4⟩:=lE vs (i*k) w cur h
  obtain⟨c2,e1,e2,e3,e4⟩:=lE (cs.drop (i*k)) ((i+1)*k) ((w.setCells b (i*k) vs).drew) c1 g1
  simp only[Bool.false_eq_true,if_false]
  refine⟨⟨c2,e1,e2.trans g2,lv c2 (fun t ht=>?_) (fun j v hj=>?_) (fun j v hj=>e4 j v hj (by have:=(List.getElem?_eq_some_iff.1 hj).1;omega))⟩,fun q hq Pz=>?_,?_,?_⟩
  ·rw[e3 t (.inl (by omega)),g3 t (.inl ht)]
  ·have:=(List.getElem?_eq_some_iff.1 hj).1
   rw[e3 _ (.inl (by omega))];exact g4 j v hj (by omega)
  ·rw[jH hq]
   exact(jH hq vs (i*k) w).trans (h0 q hq Pz)
  ·rw[jJ]
   exact Nat.le_trans hz (Nat.le_of_eq (jJ b vs (i*k) w).symm)
  ·have r1:=jI b (cs.drop (i*k)) ((i+1)*k) ((w.setCells b (i*k) vs).drew)
   have r2:=jI b vs (i*k) w
   exact⟨(r1.1.trans r2.1).trans hr.1,(r1.2.1.trans r2.2.1).trans hr.2.1,(r1.2.2.trans r2.2.2).trans hr.2.2⟩
end Go.Proofs.YtiabgllilcfheaaGreat

namespace Go.Proofs.YtiabgllilcfheaaGreat.V
open Go.RowKit
variable {P:Program} {w w':World} {D:Nat->Prop} {ι:Names} {hs:Nat} {g:Rows}
theorem Nd {vs:Array Value} (h:fK P w D ι [] vs):vs= #[]:=Array.eq_empty_of_size_eq_zero h.1
theorem wC {a:AV} {r:List AV} {vs:Array Value} (h:fK P w D ι (a::r) vs):∃u us,vs=(u::us).toArray/\dy P w D ι a u/\fK P w D ι r us.toArray:=by
 obtain⟨h1,h2⟩:=h
 obtain⟨l⟩:=vs
 cases l with
 |nil=>simp at h1
 |cons u us=>
  obtain⟨u',hu,hr⟩:=h2 0 a rfl
  simp at hu;subst hu
  exact⟨u,us,rfl,hr,by simpa using h1,fun j b hj=>by
   obtain⟨v,hv,mN⟩:=h2 (j+1) b (by simpa using hj)
   exact⟨v,by simpa using hv,mN⟩⟩
theorem Tr (S:ik P hs D ι g w) {id:Id} {r r':Row} {B:tM} {cells:List Value} {cur:Array Value} {T:TypeId} (hid:g id=some r) (hw:r.w=true) (hB:ι id=some B) (hblk:w.heap[B.b]? =some (.cells cur T (0,0))) (hC:cur.size=B.C) (I:vG w w' B.b B.C T cells)
  (h0:r'.w=true) (h1:r'.sz=r.sz) (h2:r'.rows.length*r'.sz<=B.C) (h3:∀cs∈r'.rows,cs.length=r'.sz) (h4:∀cs∈r'.rows,∀a∈cs,a.cell=true) (hc:fK P w D ι r'.rows.flatten cells.toArray):
  ik P hs D ι (bL g id r') w'/\Step hs D ι w D ι w':=by
 obtain⟨cur',Ir,ui,GV⟩:=I.xR
 obtain⟨S1,T1⟩:=S.put (r':=r') (cur':=cur') hid hw hB hblk (by rw[ui,hC]) h0 h1 h2 h3 h4 (fun i j cs a hi hj=>by
  obtain⟨u,hu,hr⟩:=hc.2 _ _ (flat_get h3 hi hj)
  refine⟨u,GV _ _ ?_,hr⟩
  rw[<-h1];simpa using hu)
 have hz:(w.setRow B.b cur').heap.size=w.heap.size:=by simp
 have hh:∀k,k<(w.setRow B.b cur').heap.size->w'.heap[k]? =(w.setRow B.b cur').heap[k]? :=fun k hk=>by
  by_cases Ov:k=B.b
  ·subst Ov
   rw[Ir,setRow_heap w B.b cur cur' T _ hblk]
  ·rw[setRow_other w B.b k cur' Ov]
   exact I.other k Ov (by rw[hz]at hk;exact hk)
 have XF:(w.setRow B.b cur').heap.size<=w'.heap.size:=by rw[hz];exact I.size
 refine⟨S1.stay hh XF (fun _ h=>h) (fun b hb=>Nat.lt_of_lt_of_le (S1.dead b hb) XF) (fun _ h=>.inl h) (fun _ _ h=>h),T1.trans (Step.stay S1 hh XF ?_ ?_ ?_ (fun _ h=>h) (fun _ h=>.inl h) (fun _ _ h=>h))⟩
 ·rw[I.rest.1];simp[World.setRow]
 ·rw[I.rest.2.1];simp[World.setRow]
 ·rw[I.rest.2.2];simp[World.setRow]
theorem PQ (S:ik P hs D ι g w) {id:Id} {r':Row} {C:Nat} {cells:List Value} {T:TypeId} (hn:ι id=none) (I:vG w w' w.heap.size C T cells)
  (h2:r'.rows.length*r'.sz<=C) (h3:∀cs∈r'.rows,cs.length=r'.sz) (h4:∀cs∈r'.rows,∀a∈cs,a.cell=true) (hc:fK P w D ι r'.rows.flatten cells.toArray):
  ik P hs D (kD ι id ⟨w.heap.size,r'.sz,C,none⟩) (bL g id r') w'/\Step hs D ι w D (kD ι id ⟨w.heap.size,r'.sz,C,none⟩) w':=by
 obtain⟨cur',Ir,ui,GV⟩:=I.xR
 have hh:∀k,k<w.heap.size->w'.heap[k]? =w.heap[k]? :=fun k hk=>I.other k ah hk
 have S':=S.stay (D':=D) (ι':=ι) hh I.size (fun _ h=>h) (fun b hb=>Nat.lt_of_lt_of_le (S.dead b hb) I.size) (fun _ h=>.inl h) (fun _ _ h=>h)
 refine⟨S.add S' hn (Nat.le_refl _) (lQ.obj ⟨rfl,⟨cur',T,Ir,ui⟩,h2,h3,h4,fun i j cs a hi hj=>?_⟩ rfl),Step.stay S hh I.size I.rest.1 I.rest.2.1 I.rest.2.2 (fun _ h=>h) (fun _ h=>.inl h) (fG hn)⟩
 obtain⟨u,hu,hr⟩:=hc.2 _ _ (flat_get h3 hi hj)
 refine⟨u,?_,hr.frame (fun b hb=>hh b (S.dead b hb)) (fun _ h=>h) (fG hn)⟩
 have hcu:=GV _ _ (show cells[i*r'.sz+j]? =some u by simpa using hu)
 simp only[World.cell?,Ir]
 exact hcu
theorem LS {rows:List (List AV)} {vr:List AV} {k i:Nat} (h:∀c∈rows,c.length=k) (hi:i<=rows.length):(rows.take i++vr::rows.drop i).flatten=rows.flatten.take (i*k)++vr++rows.flatten.drop (i*k):=by
 have e:rows.flatten=(rows.take i).flatten++(rows.drop i).flatten:=by rw[<-List.flatten_append,List.take_append_drop]
 have hl:(rows.take i).flatten.length=i*k:=by
  rw[yN fun c hc=>h c (List.mem_of_mem_take hc),List.length_take];congr 1;omega
 rw[List.flatten_append,List.flatten_cons,e,List.take_left' hl,List.drop_left' hl,List.append_assoc]
theorem fK.ins {xs vr:List AV} {cs vs:List Value} {m:Nat} (h:fK P w D ι xs cs.toArray) (hv:fK P w D ι vr vs.toArray) (hm:m<=xs.length):fK P w D ι (xs.take m++vr++xs.drop m) (cs.take m++vs++cs.drop m).toArray:=by
 have h1:cs.length=xs.length:=by simpa using h.1
 have h2:vs.length=vr.length:=by simpa using hv.1
 refine⟨by simp;omega,fun j a hj=>?_⟩
 have t1:(xs.take m).length=m:=by rw[List.length_take];omega
 have t2:(cs.take m).length=m:=by rw[List.length_take];omega
 simp only[List.getElem?_toArray]
 by_cases c1:j<m
 ·rw[List.append_assoc,List.getElem?_append_left ah,List.getElem?_take,if_pos c1]at hj
  obtain⟨u,hu,hr⟩:=h.2 j a hj
  refine⟨u,?_,hr⟩
  rw[List.append_assoc,List.getElem?_append_left ah,List.getElem?_take,if_pos c1];simpa using hu
 ·by_cases c2:j<m+vr.length
  ·rw[List.getElem?_append_left (by rw[List.length_append];omega),List.getElem?_append_right ah,t1]at hj
   obtain⟨u,hu,hr⟩:=hv.2 _ a hj
   refine⟨u,?_,hr⟩
   rw[List.getElem?_append_left (by rw[List.length_append];omega),List.getElem?_append_right ah,t2];simpa using hu
  ·rw[List.getElem?_append_right (by rw[List.length_append];omega),List.length_append,t1,List.getElem?_drop]at hj
   obtain⟨u,hu,hr⟩:=h.2 _ a hj
   refine⟨u,?_,hr⟩
   rw[List.getElem?_append_right (by rw[List.length_append];omega),List.length_append,t2,h2,List.getElem?_drop];simpa using hu
theorem wi (σ:az) (Jg qZ:Id) (rows:List (List AV)) (vr:List AV) (i:Nat) (hg:σ.get Jg=some ⟨true,3,rows⟩) (hvg:σ.get qZ=some ⟨true,3,[vr]⟩) (ig:¬Jg=qZ) (hi:i<=rows.length) (EE:0<rows.length) (hn:rows.length<=1000):
  Call Tryz.prog 91 [.own Jg 0 rows.length,.int .i64 i,.own qZ 0 1] σ fun r σ'=>∃Fv,r=.own Fv 0 (rows.length+1)/\σ'.get Fv=some ⟨true,3,rows.take i++vr::rows.drop i⟩/\(Fv=Jg∨(σ.next<=Fv.bj/\Fv.bj<σ'.next))/\σ.next<=σ'.next/\∀j:Id,j.bj<σ.next->j≠Jg->σ'.get j=σ.get j:=by
 refine gG fun hs D ι w vs S U A=>?_
 obtain⟨u1,us1,rfl,h1,h2⟩:=wC A
 obtain⟨u2,us2,h3,h4,h5⟩:=wC h2
 simp at h3;subst h3
 obtain⟨u3,us3,h6,h7,h8⟩:=wC h5
 simp at h6;subst h6
 have:=Nd h8
 simp at this;subst this
 have e2:=eB h4
 subst e2
 obtain⟨B,hB,RO,kH,pU⟩:=S.row Jg _ hg
 obtain⟨Bv,Yy,RvO,hlov,hndv⟩:=S.row qZ _ hvg
 have YX:=RO.cells (by(show(3:Nat)<sr);decide)
 have hkBv:=RvO.cells (by(show(3:Nat)<sr);decide)
 have R:=RO.row YX
 have Rv:=RvO.row hkBv
 obtain⟨cur,T,hblk,hC,_⟩:=R.cur
 obtain⟨ZU,Tv,Rf,hCv,_⟩:=Rv.cur
 have hlen:∀c∈rows,c.length=3:=R.len
 have L7:∀c∈rows,∀a∈c,a.cell=true:=R.flat
 have pZ:∀c∈[vr],c.length=3:=Rv.len
 have hvf:∀c∈[vr],∀a∈c,a.cell=true:=Rv.flat
 obtain⟨o,cap,B',rfl,eH,q1,q2,q3,q4,hkA⟩:=jj h1
 rw[hB]at eH;injection eH with eH;subst eH
 obtain⟨ov,cv,Bv',rfl,Pd,v1,v2,v3,v4,hkV⟩:=jj h7
 rw[Yy]at Pd;injection Pd with Pd;subst Pd
 have JH:B.sz=3:=R.sz
 have hBvs:Bv.sz=3:=Rv.sz
 have ho:o=0:=by rcases q2 with h|h<;>omega
 have vD:ov=0:=by rcases v2 with h|h<;>omega
 subst ho;subst vD
 have Vy:Bv.b≠B.b:=fun e=>ig (S.inj Jg qZ _ _ B Bv hg hvg rfl hB Yy e.symm)
 obtain⟨A1,c1,e1,k1⟩:=pb (sz:=3) S h1 (ys:=rows) (by simp[bF,hg]) hlen L7
 obtain⟨A2,c2,e3,k2⟩:=pb (sz:=3) S h7 (ys:=[vr]) (by simp[bF,hvg]) pZ hvf
 rcases k1 with k1|⟨b1,o1,cs,rfl,cl,cc,cr,c1'⟩
 ·subst k1;simp at EE
 rcases k2 with k2|⟨b2,o2,vls,rfl,vl,vc,vrp,v1'⟩
 ·cases k2
 simp only[Value.slice.injEq,Option.some.injEq,Addr.mk.injEq]at e1 e3
 obtain⟨⟨rfl,rfl,_⟩,_,rfl⟩:=e1
 obtain⟨⟨rfl,rfl,_⟩,_,rfl⟩:=e3
 simp only[List.flatten_cons,List.flatten_nil,List.append_nil]at vrp
 simp only[List.length_cons,List.length_nil,Nat.zero_add,Nat.one_mul]at vl
 simp only[Nat.zero_add]at cc vc
 have ur:∀id:Id,ι id=none->ι id=none:=fun _ h=>h
 have yT:ι ⟨91000000,σ.next⟩=none:=by
  cases hq:ι ⟨91000000,σ.next⟩with
  |none=>rfl
  |some B0=>
   rcases U ⟨91000000,σ.next⟩ (by rw[hq];simp)with h|⟨_,h⟩
   ·simp at h
   ·exact h.elim
 have Ez:=LS (vr:=vr) hlen hi
 have sI:∀c∈rows.take i++vr::rows.drop i,c.length=3:=fun c hc=>by
  rcases List.mem_append.1 hc with hc|hc
  ·exact hlen c (List.mem_of_mem_take hc)
  ·rcases List.mem_cons.1 hc with rfl|hc
   ·exact pZ _ (by simp)
   ·exact hlen c (List.mem_of_mem_drop hc)
 have L8:∀c∈rows.take i++vr::rows.drop i,∀a∈c,a.cell=true:=fun c hc=>by
  rcases List.mem_append.1 hc with hc|hc
  ·exact L7 c (List.mem_of_mem_take hc)
  ·rcases List.mem_cons.1 hc with rfl|hc
   ·exact hvf _ (by simp)
   ·exact L7 c (List.mem_of_mem_drop hc)
 have JP:(rows.take i++vr::rows.drop i).length=rows.length+1:=by simp;omega
 have hfll:rows.flatten.length=rows.length*3:=yN hlen
 have iF:fK Tryz.prog w D ι (rows.take i++vr::rows.drop i).flatten (cs.take (i*3)++vls++cs.drop (i*3)).toArray:=by
  rw[Ez];exact cr.ins vrp ah
 have SO:(rows.length+1)<=cap->(rows.length+1)*3<=cur.size:=fun h=>by rw[hC];rw[JH]at q3;omega
 have CB:∀w',vG w w' B.b B.C T (cs.take (i*3)++vls++cs.drop (i*3))->rows.length+1<=cap->∃r g' n' D' ι' u,Ending.returned (.slice (some ⟨B.b,0,none⟩) (rows.length+1) cap)=.returned u/\(∃Fv,r=.own Fv 0 (rows.length+1)/\g' Fv=some ⟨true,3,rows.take i++vr::rows.drop i⟩/\(Fv=Jg∨(σ.next<=Fv.bj/\Fv.bj<n'))/\σ.next<=n'/\∀j:Id,j.bj<σ.next->j≠Jg->g' j=σ.get j)/\Step hs D ι w D' ι' w'/\ik Tryz.prog hs D' ι' g' w'/\Used ι' n' (fun _=>False)/\σ.next<=n'/\dy Tryz.prog w' D' ι' r u:=fun w' I fE=>by
  obtain⟨S1,T1⟩:=Tr (r':=⟨true,3,rows.take i++vr::rows.drop i⟩) S hg rfl hB hblk hC I rfl rfl (by rw[JP];have:=SO fE;rw[hC]at this;exact this) sI L8 iF
  exact⟨.own Jg 0 (rows.length+1),_,σ.next,D,ι,_,rfl,⟨Jg,rfl,by simp[bL],.inl rfl,Nat.le_refl _,fun j _ hj=>by simp[bL,hj]⟩,T1,S1,U,Nat.le_refl _,.own _ _ _ _ _ B hB YX fE (.inr (Nat.zero_mul _).symm) q3 q4⟩
 have R4:∀w' G T2,vG w w' w.heap.size (G*3) T2 (cs.take (i*3)++vls++cs.drop (i*3))->rows.length+1<=G->G<=maxLen->∃r g' n' D' ι' u,Ending.returned (.slice (some ⟨w.heap.size,0,none⟩) (rows.length+1) G)=.returned u/\(∃Fv,r=.own Fv 0 (rows.length+1)/\g' Fv=some ⟨true,3,rows.take i++vr::rows.drop i⟩/\(Fv=Jg∨(σ.next<=Fv.bj/\Fv.bj<n'))/\σ.next<=n'/\∀j:Id,j.bj<σ.next->j≠Jg->g' j=σ.get j)/\Step hs D ι w D' ι' w'/\ik Tryz.prog hs D' ι' g' w'/\Used ι' n' (fun _=>False)/\σ.next<=n'/\dy Tryz.prog w' D' ι' r u:=fun w' G T2 I hG hGm=>by
  obtain⟨S1,T1⟩:=PQ (id:=⟨91000000,σ.next⟩) (r':=⟨true,3,rows.take i++vr::rows.drop i⟩) S yT I (by show(rows.take i++vr::rows.drop i).length*3<=G*3;rw[JP];omega) sI L8 iF
  refine⟨.own ⟨91000000,σ.next⟩ 0 (rows.length+1),_,σ.next+1,D,_,_,rfl,⟨_,rfl,by simp[bL],.inr ⟨Nat.le_refl _,Nat.lt_succ_self _⟩,Nat.le_succ _,fun j hj _=>?_⟩,T1,S1,U.upd.next,Nat.le_succ _,.own _ _ _ _ _ _ (eU _ _ _) rfl hG (.inr (Nat.zero_mul _).symm) (by simp) hGm⟩
  have:¬j=⟨91000000,σ.next⟩:=fun e=>by subst e;simp at hj
  simp[bL,this]
 have uq:∀(j:Nat) (v:Value),cs[j]? =some v->cur[j]? =some v:=fun j v hj=>by
  have:=cc j v hj
  rwa [cell_of_row w B.b j cur T (0,0) hblk]at this
 have fz:∀j,w.frozen? ⟨B.b,j,none⟩=false:=fun j=>by simp only[World.frozen?,hblk];simp
 have fzv:∀j,w.frozen? ⟨Bv.b,j,none⟩=false:=fun j=>by simp only[World.frozen?,Rf];simp
 obtain⟨i0,zZ,Dx,G7,Zj⟩:=info_parts uE
 have hu:=Tryz.underlying28
 have iD:B.b<w.heap.size:=(Array.getElem?_eq_some_iff.1 hblk).1
 by_cases fZ:i=rows.length
 ·subst fZ
  have et:cs.take (rows.length*3)=cs:=List.take_of_length_le ah
  have ed:cs.drop (rows.length*3)=[]:=List.drop_of_length_le ah
  rw[et,ed,List.append_nil]at CB R4
  by_cases fE:rows.length+1<=cap
  ·have wc:=SO fE
   have gm:=fun ty=>sL (P:=Tryz.prog) (w:=w) (ty:=ty) hu zZ B.b rows.length cap cur hblk ⟨Bv.b,0,none⟩ 1 cv vls (by rw[G7];omega) (fun j v hj=>by rw[Addr.add_lit,Nat.zero_add];exact vc j v hj) v1' fE (by rw[G7];omega)
   simp only[G7]at gm
   refine(Bj (some ⟨B.b,0,none⟩) rows.length cap Bv.b cv w _ _ gm ah).mono ?_
   rintro e w' ⟨rfl,rfl⟩
   have eQ:(cur.toList.take (rows.length*3)++vls++cur.toList.drop (rows.length*3+vls.length)).toArray.size=cur.size:=by simp;omega
   have I:vG w (w.setRow B.b (cur.toList.take (rows.length*3)++vls++cur.toList.drop (rows.length*3+vls.length)).toArray) B.b B.C T (cs++vls):=by
    refine⟨⟨_,setRow_heap w B.b cur _ T _ hblk,by rw[eQ,hC],fun t v ht=>?_⟩,fun k hk _=>setRow_other w B.b k _ hk,by simp,by simp[World.setRow],by simp[World.setRow],by simp[World.setRow]⟩
    simp only[List.getElem?_toArray]
    have F8:(cur.toList.take (rows.length*3)).length=rows.length*3:=by simp;omega
    by_cases h1:t<rows.length*3
    ·rw[List.getElem?_append_left ah]at ht
     rw[List.append_assoc,List.getElem?_append_left ah,List.getElem?_take,if_pos h1]
     have:=uq t v ht
     simpa using this
    ·rw[List.getElem?_append_right ah,cl]at ht
     have:=(List.getElem?_eq_some_iff.1 ht).1
     rw[List.getElem?_append_left (by rw[List.length_append];omega),List.getElem?_append_right ah,F8];exact ht
   exact CB _ I fE
  ·have gm:=fun ty=>run_append_grow (P:=Tryz.prog) w 28 ty 70 i0 _ hu zZ Dx ⟨B.b,0,none⟩ rows.length cap cs (by rw[G7];omega) (fun j v hj=>by rw[Addr.add_lit,Nat.zero_add];exact cc j v hj) ⟨Bv.b,0,none⟩ 1 cv vls (by rw[G7];omega) (fun j v hj=>by rw[Addr.add_lit,Nat.zero_add];exact vc j v hj) ah ah (growslice_fits ah (by rw[Zj];omega))
   refine(Bj (some ⟨B.b,0,none⟩) rows.length cap Bv.b cv w _ _ gm ah).mono ?_
   rintro e w' ⟨rfl,rfl⟩
   have g1:=grownCap_ge w (rows.length+1) cap 70
   have g2:=grownCap_le_maxLen w (rows.length+1) cap 70 (by unfold maxLen;omega)
   refine R4 _ _ _ ⟨⟨_,heap_alloc_new w.drew _,?_,fun t v ht=>?_⟩,fun k _ hk=>Below.heap_alloc w.drew _ _ hk,by simp,rfl,rfl,rfl⟩ g1 g2
   ·simp[Builtin.zeroCells,Value.cells]
    omega
   ·rw[Array.getElem?_append_left (by have:=(List.getElem?_eq_some_iff.1 ht).1;simpa using this)]
    simpa using ht
 ·have lU:i<rows.length:=ah
  by_cases fE:rows.length+1<=cap
  ·have wc:=SO fE
   refine(EU B.b rows.length cap i Bv.b cv cs vls w lU fE (by unfold maxLen at q4;omega) Vy ah vl cc (fun j hj=>by rw[cell_of_row w B.b j cur T (0,0) hblk,Array.getElem?_eq_getElem ah];rfl) fz vc c1' v1' Tv T ZU.size cur.size (by simp[World.shape?,Rf]) (by simp[World.shape?,hblk]) ah (fzv _) (fzv _)).mono ?_
   rintro e w' ⟨rfl,rfl⟩
   have I:=FP (w0:=w) (w:=w.drew) (b:=B.b) (i:=i) (k:=3) (cur:=cur) (T:=T) (cs:=cs) (vs:=vls) hblk (fun _ _ _=>rfl) (Nat.le_refl _) ⟨rfl,rfl,rfl⟩ vl (fun j v hj _=>uq j v hj) ah ah true
   rw[if_pos rfl,hC]at I
   exact CB _ I fE
  ·refine(Hb B.b rows.length cap i Bv.b cv cs vls w lU q1 ah ah ah vl cc vc c1' v1').mono ?_
   rintro e w' ⟨G,ym,g1,g2,g3,g4,rfl,rfl⟩
   have I:=FP (w0:=w) (w:=(w.alloc (.cells ym 70)).drew) (b:=w.heap.size) (i:=i) (k:=3) (cur:=ym) (T:=70) (cs:=cs) (vs:=vls) (heap_alloc_new w _) (fun k _ hk=>Below.heap_alloc w _ _ hk) (by simp) ⟨rfl,rfl,rfl⟩ vl g4 ah ah false
   rw[if_neg (by simp),g3]at I
   exact R4 _ G _ I g1 g2
end Go.Proofs.YtiabgllilcfheaaGreat.V

namespace Go.Proofs.YtiabgllilcfheaaGreat.V
open Go.RowKit
attribute [local irreducible] eC wpOps gi Call
attribute [local go_sem] aM fP fa fX fW du upd cz K.av cP AV.cells AV.cell rowOf rowsOf part ld rowAt bL cu dK eb gK bP de eu fS fq dx ef db da dR dS bU bf cU bR cW cV dW eh ee cR bW dd ec bQ aL cY cH gJ bF cL bV aY dr bq dL AV.undef bJ bK dV dY dQ dU cK er ez cF ej ei cX cZ List.getD_cons_zero List.getD_cons_succ List.getD_nil List.all_cons List.all_nil Bool.and_true Bool.true_and Bool.and_self Bool.not_true Bool.not_false Option.map_some Option.map_none Option.bind_some Option.bind_none List.length_cons List.length_nil List.take_succ_cons List.take_zero List.take_nil List.drop_succ_cons List.drop_zero List.drop_nil List.head?_cons List.map_cons List.map_nil List.getElem?_cons_zero List.getElem?_cons_succ List.cons_append List.nil_append List.append_nil List.length_map List.set_cons_zero List.set_cons_succ Nat.reduceMul eq_self Int.toNat_natCast Int.natCast_nonneg and_self true_and and_true decide_true decide_false Bool.false_eq_true Nat.zero_add Nat.add_zero List.contains_cons List.contains_nil Bool.or_false Bool.false_or beq_self_eq_true Nat.reduceBEq ne_eq not_true_eq_false not_false_eq_true Id.mk.injEq false_and and_false Nat.reduceLT Int.reduceLE Int.reduceLT Int.reduceToNat Int.reduceNeg Int.reduceAdd Nat.le_refl List.length_append beq_true beq_false Bool.not_eq_eq_eq_not or_false false_or eL ar ax aW bp bZ cw aV bH aU bh cQ bI
theorem M9 {q:aa}:∀{l:List aa},ny l->fb l q.bD<0->iu l q=l.take (lz l q.bD)++q::l.drop (lz l q.bD):=by
 intro l
 rw[uR,IF]
 induction l with
 |nil=>intro _ _;simp[iu,lz]
 |cons y r ih=>
  intro h hn
  obtain⟨h1,h2⟩:=List.pairwise_cons.1 h
  have ig:y.bD≠q.bD:=hn y (by simp)
  rw[iu]
  unfold lz
  rw[List.findIdx_cons]
  cases hl:jM q.bD y.bD
  ·have h3:=yc hl fun e=>ig e.symm
   have h4:=ih h2 fun t ht=>hn t (by simp[ht])
   unfold lz at h4
   simp[h3,h4]
  ·have h3:=Ff hl
   simp[h3]
theorem PZ (l:List aa) (p:aq):lz l p<=l.length:=List.findIdx_le_length
theorem sW (ps:List aa) (h0:ps≠[]) (hlen:ps.length<=1048576) (σ:az):
  Call Tryz.prog 33 [.sl (ps.map ai)] σ fun a σ'=>∃o:Id,a=.own o 0 ps.length/\σ'.get o=some ⟨true,3,ps.map ai⟩/\σ.next<=o.bj/\o.bj<σ'.next/\∀x:Id,x.bj<σ.next->σ'.get x=σ.get x:=by
 obtain⟨z,r,rfl⟩:=List.exists_cons_of_ne_nil h0
 have hc:(z::r).map ai=ai z::r.map ai:=rfl
 have hz:(z::r).length=r.length+1:=rfl
 rw[hc,hz]
 rw[hz]at hlen
 refine hZ fR rfl fun hl=>?_
 clear hl
 have h2:r.length+1<=16777216:=ah
 have h3:r.length<=16777215:=ah
 have hm:(r.map ai).length=r.length:=by simp
 have ha:(r.map ai).all (fun c=>c.length==3&&c.all AV.cell)=true:=all_map fun x=>by simp[ai,AV.cell]
 (try((repeat(revert N;apply Pn.out));refine wk (tw @h2 (tw @h3 (tw @hm (tw @ha @ai.eq_1)))) ?_;(repeat(apply Pn.mk;intro N Z))))
 exact fV (vs:=[.own ⟨33003002,σ.next+2⟩ 0 (r.length+1)]) (.inl rfl) (sd @Nat.zero_add) ⟨_,rfl,sl @Nat.zero_add,aQ,aQ,fun x hx=>by
  have:=dh hx
  simp only[go_sem, ↓reduceIte,Nat.reduceEqDiff,Nat.reduceAdd,Nat.reduceSub,Nat.reduceLeDiff,reduceCtorEq,this]⟩
theorem Uc (l:List aa) (h0:l≠[]) (hl:l.length<=500) (hR:ny l) (p:aq) (t:Int) (hi:fb l p<0) (σ:az):
  Call Tryz.prog 57 [.agg [.sl (l.map ai)],.agg (ae p),.int .i64 t] σ fun r σ'=>∃o:Id,r=.agg [.own o 0 (iu l ⟨p,t⟩).length]/\σ'.get o=some ⟨true,3,(iu l ⟨p,t⟩).map ai⟩/\σ.next<=o.bj/\o.bj<σ'.next/\∀x:Id,x.bj<σ.next->σ'.get x=σ.get x:=by
 refine qd Wh rfl fun gZ=>?_
 simp only[QN,UE,UF,UG,UH,UI]
 try simp only[q]
 clear gZ
 have hb:=AP l p hR ah
 have yV:=PZ l p
 have nK:=M9 (q:=⟨p,t⟩) hR hi
 have kd:0<l.length:=List.length_pos_iff.2 h0
 have Xr:(iu l ⟨p,t⟩).length=l.length+1:=mm _ _
 have F7:(l.map ai).take (lz l p)++[.int .i64 p.fC,.int .i64 p.fu,.int .i64 t]::(l.map ai).drop (lz l p)=(iu l ⟨p,t⟩).map ai:=by
  rw[nK,List.map_append,List.map_cons,List.map_take,List.map_drop];rfl
 rw[Xr]
 have yS:(0:Int)<=(lz l p:Int):=ah
 generalize (iu l ⟨p,t⟩).map ai=M at F7 ⊢
 rw[ae]at hb
 (repeat(first|((repeat(revert N;apply Pn.out));refine wk @ae.eq_1 ?_;(repeat(apply Pn.mk;intro N Z)))|((try apply Or.inl);refine⟨_,ay.x (hb) (sd @ae.eq_1),?_⟩;apply Z;clear Z N)))
 refine dv ?_ ?_
 ·(try((repeat(revert N;apply Pn.out));refine wk (tw @ae.eq_1 @yS) ?_;(repeat(apply Pn.mk;intro N Z))))
  refine .inr (aE _ _ _ _ _ (fun r σ1 hq=>?_) (sW l h0 ah _))
  obtain⟨g1,x1⟩:=σ1
  obtain⟨o,rfl,q1,q2,q3,q4⟩:=hq
  (try dsimp only at q1 q2 q3 q4)
  have k3:=q4 ⟨57000000,σ.next⟩ aQ
  have k4:=q4 ⟨57000001,σ.next⟩ aQ
  have k6:=q4 ⟨57000002,σ.next⟩ aQ
  simp only[go_sem, ↓reduceIte,Nat.reduceEqDiff,Nat.reduceAdd,Nat.reduceSub,Nat.reduceLeDiff,reduceCtorEq,ae]at k3 k4 k6
  have vo:=dh q3
  apply Z
  clear Z N
  (try((repeat(revert N;apply Pn.out));refine wk (tw @k3 (tw @k4 (tw @k6 (tw @yS @ae.eq_1)))) ?_;(repeat(apply Pn.mk;intro N Z))))
  have EB:=wi ⟨bL g1 ⟨57002007,x1⟩ ⟨true,3,[[.int .i64 p.fC,.int .i64 p.fu,.int .i64 t]]⟩,x1+1⟩ o ⟨57002007,x1⟩ (l.map ai) [.int .i64 p.fC,.int .i64 p.fu,.int .i64 t] (lz l p) (sd (tw @vo @q1)) (sd @Nat.zero_add) (by simp only[go_sem, ↓reduceIte,Nat.reduceEqDiff,Nat.reduceAdd,Nat.reduceSub,Nat.reduceLeDiff,reduceCtorEq,vo]<;>simp) (by rw[List.length_map];exact yV) (by rw[List.length_map];exact kd) (by rw[List.length_map];omega)
  rw[List.length_map,F7]at EB
  refine .inr (aE _ _ _ _ _ (fun r σ2 hq=>?_) EB)
  obtain⟨g2,x2⟩:=σ2
  obtain⟨u,rfl,u1,u2,u3,u4⟩:=hq
  (try dsimp only at u1 u2 u3 u4)
  have w6:g2 ⟨57000002,σ.next⟩=some ⟨true,1,[[.br]]⟩:=by
   have h1:=u4 ⟨57000002,σ.next⟩ aQ (fun e=>by rw[<-e]at q2;(try dsimp only at q2);omega)
   have h2:=dh (i:=⟨57000002,σ.next⟩) (n:=x1) aQ
   simp only[go_sem, ↓reduceIte,Nat.reduceEqDiff,Nat.reduceAdd,Nat.reduceSub,Nat.reduceLeDiff,reduceCtorEq,h2,k6]at h1
   exact h1
  have Mr:u.bj<x2/\σ.next<u.bj:=by
   rcases u2 with rfl|h
   ·exact⟨ah,by(try dsimp only at q2);omega⟩
   ·exact⟨h.2,ah⟩
  have u6:=dP (a:=⟨57000002,σ.next⟩) (b:=u) aQ
  apply Z
  clear Z N
  (try((repeat(revert N;apply Pn.out));refine wk @w6 ?_;(repeat(apply Pn.mk;intro N Z))))
  exact fV (.inl rfl) (vs:=[.agg [.own u 0 (l.length+1)]]) (sd @Nat.zero_add) ⟨u,rfl,sd (tw @u6 @u1),ah,aQ,fun x hx=>by
   have h1:=dh hx
   have h2:=u4 x ah (fun e=>by rw[e]at hx;omega)
   have h3:=q4 x aQ
   have h4:=dh (i:=x) (n:=x1) ah
   simp only[go_sem, ↓reduceIte,Nat.reduceEqDiff,Nat.reduceAdd,Nat.reduceSub,Nat.reduceLeDiff,reduceCtorEq,h1]at h3
   simp only[go_sem, ↓reduceIte,Nat.reduceEqDiff,Nat.reduceAdd,Nat.reduceSub,Nat.reduceLeDiff,reduceCtorEq,h1,h2,h3,h4]⟩
 ·(try((repeat(revert N;apply Pn.out));refine wk (tw @ae.eq_1 @yS) ?_;(repeat(apply Pn.mk;intro N Z))))
  refine dv ?_ ?_
  ·(try((repeat(revert N;apply Pn.out));refine wk (tw @ae.eq_1 @yS) ?_;(repeat(apply Pn.mk;intro N Z))))
   refine .inr (aE _ _ _ _ _ (fun r σ1 hq=>?_) (sW l h0 ah _))
   obtain⟨g1,x1⟩:=σ1
   obtain⟨o,rfl,q1,q2,q3,q4⟩:=hq
   (try dsimp only at q1 q2 q3 q4)
   have k3:=q4 ⟨57000000,σ.next⟩ aQ
   have k4:=q4 ⟨57000001,σ.next⟩ aQ
   have k6:=q4 ⟨57000002,σ.next⟩ aQ
   simp only[go_sem, ↓reduceIte,Nat.reduceEqDiff,Nat.reduceAdd,Nat.reduceSub,Nat.reduceLeDiff,reduceCtorEq,ae]at k3 k4 k6
   have vo:=dh q3
   apply Z
   clear Z N
   (try((repeat(revert N;apply Pn.out));refine wk (tw @k3 (tw @k4 (tw @k6 (tw @yS @ae.eq_1)))) ?_;(repeat(apply Pn.mk;intro N Z))))
   have EB:=wi ⟨bL g1 ⟨57002007,x1⟩ ⟨true,3,[[.int .i64 p.fC,.int .i64 p.fu,.int .i64 t]]⟩,x1+1⟩ o ⟨57002007,x1⟩ (l.map ai) [.int .i64 p.fC,.int .i64 p.fu,.int .i64 t] (lz l p) (sd (tw @vo @q1)) (sd @Nat.zero_add) (by simp only[go_sem, ↓reduceIte,Nat.reduceEqDiff,Nat.reduceAdd,Nat.reduceSub,Nat.reduceLeDiff,reduceCtorEq,vo]<;>simp) (by rw[List.length_map];exact yV) (by rw[List.length_map];exact kd) (by rw[List.length_map];omega)
   rw[List.length_map,F7]at EB
   refine .inr (aE _ _ _ _ _ (fun r σ2 hq=>?_) EB)
   obtain⟨g2,x2⟩:=σ2
   obtain⟨u,rfl,u1,u2,u3,u4⟩:=hq
   (try dsimp only at u1 u2 u3 u4)
   have w6:g2 ⟨57000002,σ.next⟩=some ⟨true,1,[[.br]]⟩:=by
    have h1:=u4 ⟨57000002,σ.next⟩ aQ (fun e=>by rw[<-e]at q2;(try dsimp only at q2);omega)
    have h2:=dh (i:=⟨57000002,σ.next⟩) (n:=x1) aQ
    simp only[go_sem, ↓reduceIte,Nat.reduceEqDiff,Nat.reduceAdd,Nat.reduceSub,Nat.reduceLeDiff,reduceCtorEq,h2,k6]at h1
    exact h1
   have Mr:u.bj<x2/\σ.next<u.bj:=by
    rcases u2 with rfl|h
    ·exact⟨ah,by(try dsimp only at q2);omega⟩
    ·exact⟨h.2,ah⟩
   have u6:=dP (a:=⟨57000002,σ.next⟩) (b:=u) aQ
   apply Z
   clear Z N
   (try((repeat(revert N;apply Pn.out));refine wk @w6 ?_;(repeat(apply Pn.mk;intro N Z))))
   exact fV (.inl rfl) (vs:=[.agg [.own u 0 (l.length+1)]]) (sd @Nat.zero_add) ⟨u,rfl,sd (tw @u6 @u1),ah,aQ,fun x hx=>by
    have h1:=dh hx
    have h2:=u4 x ah (fun e=>by rw[e]at hx;omega)
    have h3:=q4 x aQ
    have h4:=dh (i:=x) (n:=x1) ah
    simp only[go_sem, ↓reduceIte,Nat.reduceEqDiff,Nat.reduceAdd,Nat.reduceSub,Nat.reduceLeDiff,reduceCtorEq,h1]at h3
    simp only[go_sem, ↓reduceIte,Nat.reduceEqDiff,Nat.reduceAdd,Nat.reduceSub,Nat.reduceLeDiff,reduceCtorEq,h1,h2,h3,h4]⟩
  ·(try((repeat(revert N;apply Pn.out));refine wk (tw @ae.eq_1 @yS) ?_;(repeat(apply Pn.mk;intro N Z))))
   refine .inr (aE _ _ _ _ _ (fun r σ1 hq=>?_) (sW l h0 ah _))
   obtain⟨g1,x1⟩:=σ1
   obtain⟨o,rfl,q1,q2,q3,q4⟩:=hq
   (try dsimp only at q1 q2 q3 q4)
   have k3:=q4 ⟨57000000,σ.next⟩ aQ
   have k4:=q4 ⟨57000001,σ.next⟩ aQ
   have k6:=q4 ⟨57000002,σ.next⟩ aQ
   have k7:=q4 ⟨57002007,σ.next+1+1⟩ aQ
   simp only[go_sem, ↓reduceIte,Nat.reduceEqDiff,Nat.reduceAdd,Nat.reduceSub,Nat.reduceLeDiff,reduceCtorEq,ae]at k3 k4 k6 k7
   have vo:=dh q3
   apply Z
   clear Z N
   (try((repeat(revert N;apply Pn.out));refine wk (tw @k3 (tw @k4 (tw @k6 (tw @k7 (tw @yS @ae.eq_1))))) ?_;(repeat(apply Pn.mk;intro N Z))))
   have EB:=wi ⟨g1,x1+1⟩ o ⟨57002007,σ.next+1+1⟩ (l.map ai) [.int .i64 p.fC,.int .i64 p.fu,.int .i64 t] (lz l p) (sd (tw @vo @q1)) (sd @k7) (fun e=>by rw[e]at q2;(try dsimp only at q2);omega) (by rw[List.length_map];exact yV) (by rw[List.length_map];exact kd) (by rw[List.length_map];omega)
   rw[List.length_map,F7]at EB
   refine .inr (aE _ _ _ _ _ (fun r σ2 hq=>?_) EB)
   obtain⟨g2,x2⟩:=σ2
   obtain⟨u,rfl,u1,u2,u3,u4⟩:=hq
   (try dsimp only at u1 u2 u3 u4)
   have w6:g2 ⟨57000002,σ.next⟩=some ⟨true,1,[[.br]]⟩:=by
    have h1:=u4 ⟨57000002,σ.next⟩ aQ (fun e=>by rw[<-e]at q2;(try dsimp only at q2);omega)
    simp only[go_sem, ↓reduceIte,Nat.reduceEqDiff,Nat.reduceAdd,Nat.reduceSub,Nat.reduceLeDiff,reduceCtorEq,k6]at h1
    exact h1
   have Mr:u.bj<x2/\σ.next<u.bj:=by
    rcases u2 with rfl|h
    ·exact⟨ah,by(try dsimp only at q2);omega⟩
    ·exact⟨h.2,ah⟩
   have u6:=dP (a:=⟨57000002,σ.next⟩) (b:=u) aQ
   apply Z
   clear Z N
   (try((repeat(revert N;apply Pn.out));refine wk @w6 ?_;(repeat(apply Pn.mk;intro N Z))))
   exact fV (.inl rfl) (vs:=[.agg [.own u 0 (l.length+1)]]) (sd @Nat.zero_add) ⟨u,rfl,sd (tw @u6 @u1),ah,aQ,fun x hx=>by
    have h1:=dh hx
    have h2:=u4 x ah (fun e=>by rw[e]at hx;omega)
    have h3:=q4 x aQ
    simp only[go_sem, ↓reduceIte,Nat.reduceEqDiff,Nat.reduceAdd,Nat.reduceSub,Nat.reduceLeDiff,reduceCtorEq,h1]at h3
    simp only[go_sem, ↓reduceIte,Nat.reduceEqDiff,Nat.reduceAdd,Nat.reduceSub,Nat.reduceLeDiff,reduceCtorEq,h1,h2,h3]⟩
noncomputable def xw (s:aA) (l:List aa) (x:aa):AV:=if sa s l x=0 then .sl ((iu l x).map ai)else .br
theorem Le (s:aA) (l:List aa) (x:aa) (hn:jh s.aI) (hm:DM s) (hP:ql s) (hA:jf s.aI l) (h0:l≠[]):
  ay Tryz.prog 20 [.agg (bt s),.agg [.sl (l.map ai)],.agg (ai x)] (.gM [.agg [xw s l x],.int .i64 (sa s l x)]):=by
 intro n0
 refine qd We rfl fun gZ=>?_
 simp only[N4,N5,QL,QM,UC,UD]
 try simp only[q]
 clear gZ
 have Ew:=hA.1.wQ
 have h1:=oJ s l hn hm ah
 rw[yq.2 ⟨hP,hA⟩]at h1
 have hT:1<=s.aD:=(eT hP.FN).1
 have hc:=fun σ=>o8 s hP.set hT l hA σ
 have ht:=EX s.aI x.ck
 rw[aj]at ht
 rw[bt]at h1 hc ⊢
 rw[ai]
 simp only[if_true]at h1
 cases PA:eY s.aI x.ck
 ·rw[PA]at ht
  have uo:sa s l x=2:=by unfold sa;rw[if_neg fun e=>by rw[PA]at e;cases e.1]
  rw[xw,uo,if_neg (by decide)]
  (repeat(first|((repeat(revert N;apply Pn.out));refine wk @Nat.zero_add ?_;(repeat(apply Pn.mk;intro N Z)))|((try apply Or.inl);refine⟨_,ay.x (h1) (sd @Nat.zero_add),?_⟩;apply Z;clear Z N)|((try apply Or.inl);refine⟨_,ay.x (ht) (sd @Nat.zero_add),?_⟩;apply Z;clear Z N)))
  refine dv ?_ ?_<;>(repeat(first|((repeat(revert N;apply Pn.out));refine wk @Nat.zero_add ?_;(repeat(apply Pn.mk;intro N Z)))|((try apply Or.inl);refine⟨_,ay.x (h1) (sd @Nat.zero_add),?_⟩;apply Z;clear Z N)|((try apply Or.inl);refine⟨_,ay.x (ht) (sd @Nat.zero_add),?_⟩;apply Z;clear Z N)))<;>(try refine dv ?_ ?_)<;>(repeat(first|((repeat(revert N;apply Pn.out));refine wk @Nat.zero_add ?_;(repeat(apply Pn.mk;intro N Z)))|((try apply Or.inl);refine⟨_,ay.x (h1) (sd @Nat.zero_add),?_⟩;apply Z;clear Z N)|((try apply Or.inl);refine⟨_,ay.x (ht) (sd @Nat.zero_add),?_⟩;apply Z;clear Z N)))<;>(try refine dv ?_ ?_)<;>(repeat(first|((repeat(revert N;apply Pn.out));refine wk @Nat.zero_add ?_;(repeat(apply Pn.mk;intro N Z)))|((try apply Or.inl);refine⟨_,ay.x (h1) (sd @Nat.zero_add),?_⟩;apply Z;clear Z N)|((try apply Or.inl);refine⟨_,ay.x (ht) (sd @Nat.zero_add),?_⟩;apply Z;clear Z N)))
  all_goals exact jX (.inl rfl) (vs:=[.agg [.br],.int .i64 2]) (by simp only[gO,jq,go_sem, ↓reduceIte,Nat.reduceEqDiff,Nat.reduceAdd,Nat.reduceSub,Nat.reduceLeDiff,reduceCtorEq]<;>rfl) (by simp only[fw,eR,jL,bc,bY,dG,iN,Option.map_some])
 rw[PA]at ht
 (repeat(first|((repeat(revert N;apply Pn.out));refine wk @Nat.zero_add ?_;(repeat(apply Pn.mk;intro N Z)))|((try apply Or.inl);refine⟨_,ay.x (h1) (sd @Nat.zero_add),?_⟩;apply Z;clear Z N)|((try apply Or.inl);refine⟨_,ay.x (ht) (sd @Nat.zero_add),?_⟩;apply Z;clear Z N)))
 refine dv ?_ ?_<;>(repeat(first|((repeat(revert N;apply Pn.out));refine wk @Nat.zero_add ?_;(repeat(apply Pn.mk;intro N Z)))|((try apply Or.inl);refine⟨_,ay.x (h1) (sd @Nat.zero_add),?_⟩;apply Z;clear Z N)|((try apply Or.inl);refine⟨_,ay.x (ht) (sd @Nat.zero_add),?_⟩;apply Z;clear Z N)))<;>(try refine dv ?_ ?_)<;>(repeat(first|((repeat(revert N;apply Pn.out));refine wk @Nat.zero_add ?_;(repeat(apply Pn.mk;intro N Z)))|((try apply Or.inl);refine⟨_,ay.x (h1) (sd @Nat.zero_add),?_⟩;apply Z;clear Z N)|((try apply Or.inl);refine⟨_,ay.x (ht) (sd @Nat.zero_add),?_⟩;apply Z;clear Z N)))<;>(try refine dv ?_ ?_)<;>(repeat(first|((repeat(revert N;apply Pn.out));refine wk @Nat.zero_add ?_;(repeat(apply Pn.mk;intro N Z)))|((try apply Or.inl);refine⟨_,ay.x (h1) (sd @Nat.zero_add),?_⟩;apply Z;clear Z N)|((try apply Or.inl);refine⟨_,ay.x (ht) (sd @Nat.zero_add),?_⟩;apply Z;clear Z N)))
 all_goals
  refine .inr (aE _ _ _ _ _ (fun r σ1 hq=>?_) (hc _))
  obtain⟨g1,x1⟩:=σ1
  obtain⟨c,T,O,rfl,hC,Pk,SL,LZ,qb,jP⟩:=hq
  (try dsimp only at hC Pk SL LZ qb jP)
  have k4:=jP ⟨20000001,n0⟩ aQ
  have k5:=jP ⟨20000002,n0⟩ aQ
  have k6:=jP ⟨20000003,n0⟩ aQ
  simp only[go_sem, ↓reduceIte,Nat.reduceEqDiff,Nat.reduceAdd,Nat.reduceSub,Nat.reduceLeDiff,reduceCtorEq]at k4 k5 k6
  clear jP
  apply Z
  clear Z N
  (try((repeat(revert N;apply Pn.out));refine wk (tw @k4 (tw @k5 @k6)) ?_;(repeat(apply Pn.mk;intro N Z))))
  refine .inl ⟨_,LQ (hC.o.Si.frame aQ (by(have:=dh hC.o.cv);simp only[go_sem, ↓reduceIte,Nat.reduceEqDiff,Nat.reduceAdd,Nat.reduceSub,Nat.reduceLeDiff,reduceCtorEq,this]) (by(have:=dh hC.o.tv);simp only[go_sem, ↓reduceIte,Nat.reduceEqDiff,Nat.reduceAdd,Nat.reduceSub,Nat.reduceLeDiff,reduceCtorEq,this])) hP.set (fun q hq=>iK.Ls hA q hq) x.bD x.ck PA,?_⟩
  apply Z
  clear Z N
  cases hf:dX s l x.bD x.ck
  ·have uo:sa s l x=2:=by unfold sa;rw[if_neg fun e=>by rw[hf]at e;cases e.2]
   have Cy:AV.gM [.agg [xw s l x],.int .i64 (sa s l x)]=.gM [.agg [.br],.int .i64 2]:=by rw[xw,uo,if_neg (by decide)]
   (try((repeat(revert N;apply Pn.out));refine wk (tw @k4 (tw @k5 @k6)) ?_;(repeat(apply Pn.mk;intro N Z))))
   exact jX (.inl rfl) (vs:=[.agg [.br],.int .i64 2]) (by simp only[gO,jq,go_sem, ↓reduceIte,Nat.reduceEqDiff,Nat.reduceAdd,Nat.reduceSub,Nat.reduceLeDiff,reduceCtorEq]<;>rfl) (by rw[Cy];simp only[fw,eR,jL,bc,bY,dG,iN,Option.map_some])
  ·have gU:(l.map ai).length=l.length:=by simp
   by_cases hlen:l.length<500
   ·have uo:sa s l x=0:=by unfold sa;rw[if_pos ⟨PA,hf⟩,if_pos hlen]
    have hlz:¬(500:Int)<=(l.length:Int):=ah
    have Bb:fb l x.bD<0:=(vJ hA _).1 (by simp[dX]at hf;exact hf.1.2)
    have hw:=fun σ=>Uc l h0 ah hA.1.Kw x.bD x.ck Bb σ
    rw[ae]at hw
    generalize hPL:iu l ⟨x.bD,x.ck⟩=PL at hw
    have Cy:AV.gM [.agg [xw s l x],.int .i64 (sa s l x)]=.gM [.agg [.sl (PL.map ai)],.int .i64 0]:=by rw[xw,uo,if_pos rfl,<-hPL]
    (try((repeat(revert N;apply Pn.out));refine wk (tw @k4 (tw @k5 (tw @k6 (tw @gU @hlz)))) ?_;(repeat(apply Pn.mk;intro N Z))))
    refine .inr (aE _ _ _ _ _ (fun r σ2 hq=>?_) (hw _))
    obtain⟨g2,x2⟩:=σ2
    obtain⟨o,rfl,q1,q2,q3,q4⟩:=hq
    (try dsimp only at q1 q2 q3 q4)
    have m6:=(q4 ⟨20000003,n0⟩ aQ).trans k6
    clear q4
    apply Z
    clear Z N
    have vo:∀z,(o=(⟨z,n0⟩:Id))=False:=fun z=>eq_false fun e=>by rw[e]at q2;(try dsimp only at q2);omega
    (try((repeat(revert N;apply Pn.out));refine wk @m6 ?_;(repeat(apply Pn.mk;intro N Z))))
    have hz:=eP (n:=3) (e:=ai) (l:=PL) (sz:=3) (len:=PL.length) (id:=o) (g:=bL g2 ⟨20000003,n0⟩ ⟨true,1,[[.own o 0 PL.length]]⟩) (by simp only[go_sem, ↓reduceIte,Nat.reduceEqDiff,Nat.reduceAdd,Nat.reduceSub,Nat.reduceLeDiff,reduceCtorEq,vo];exact q1) rfl fun b=>by simp[ai,bc,bY,dG]
    exact jX (.inl rfl) (vs:=[.agg [.own o 0 PL.length],.int .i64 0]) (by simp only[gO,jq,go_sem, ↓reduceIte,Nat.reduceEqDiff,Nat.reduceAdd,Nat.reduceSub,Nat.reduceLeDiff,reduceCtorEq]<;>rfl) (by rw[Cy];simp only[fw,eR,jL,bc,bY,dG,hz,Option.map_some])
   ·have uo:sa s l x=4:=by unfold sa;rw[if_pos ⟨PA,hf⟩,if_neg hlen]
    have Cy:AV.gM [.agg [xw s l x],.int .i64 (sa s l x)]=.gM [.agg [.br],.int .i64 4]:=by rw[xw,uo,if_neg (by decide)]
    have hlz:(500:Int)<=(l.length:Int):=ah
    (try((repeat(revert N;apply Pn.out));refine wk (tw @k4 (tw @k5 (tw @k6 (tw @gU @hlz)))) ?_;(repeat(apply Pn.mk;intro N Z))))
    exact jX (.inl rfl) (vs:=[.agg [.br],.int .i64 4]) (by simp only[gO,jq,go_sem, ↓reduceIte,Nat.reduceEqDiff,Nat.reduceAdd,Nat.reduceSub,Nat.reduceLeDiff,reduceCtorEq]<;>rfl) (by rw[Cy];simp only[fw,eR,jL,bc,bY,dG,iN,Option.map_some])
def lr (b:Int):List AV:=[.int .u8 b]
def e9 (g:Rows) (X:Id) (bs:List Int) (A:Nat):Prop:=∃(a:Nat) (z:Int),a<=A/\g X=some ⟨true,3,[[.sl (bs.map lr),.int .i64 (a:Int),.int .u64 z]]⟩
theorem e9.mono {g:Rows} {X:Id} {bs:List Int} {A B:Nat} (h:e9 g X bs A) (k:A<=B):e9 g X bs B:=by
 obtain⟨a,z,h1,h2⟩:=h
 exact⟨a,z,ah,h2⟩
def lp (X:Id) (σ σ':az):Prop:=σ.next<=σ'.next/\∀i,i≠X->i.bj<σ.next->σ'.get i=σ.get i
theorem wrap_u64 (n:Int):IntKind.u64.wrap n=n % 18446744073709551616:=by
 rw[IntKind.wrap];simp[IntKind.bits,IntKind.signed]
theorem OM (z:Int):0<=IntKind.u64.wrap ((BitVec.ofInt 64 z&&& BitVec.ofInt 64 255).toNat:Int)/\IntKind.u64.wrap ((BitVec.ofInt 64 z&&& BitVec.ofInt 64 255).toNat:Int)<=255:=by
 have h:(BitVec.ofInt 64 z&&& BitVec.ofInt 64 255).toNat<=255:=by
  rw[BitVec.toNat_and]
  exact Nat.and_le_right
 rw[wrap_u64];omega
theorem DP (z:Int):0<=IntKind.i64.wrap (IntKind.u64.wrap ((BitVec.ofInt 64 z&&& BitVec.ofInt 64 255).toNat:Int))/\IntKind.i64.wrap (IntKind.u64.wrap ((BitVec.ofInt 64 z&&& BitVec.ofInt 64 255).toNat:Int))<=255:=by
 obtain⟨h0,h1⟩:=OM z
 rw[cm ah]
 exact⟨h0,h1⟩
theorem Dd {v n:Int} (hv:0<=v) (hn:0<n):0<=v.tmod n/\(v.tmod n=0∨v.tmod n<n):=by
 rw[Int.tmod_eq_emod_of_nonneg hv]
 exact⟨Int.emod_nonneg _ ah,.inr (Int.emod_lt_of_pos _ hn)⟩
theorem MP (bs:List Int) (hb:∀b∈bs,0<=b/\b<=255) (iD:bs.length<=4096) (X:Id) (A:Nat) (ha:A<=1073741824) (σ:az) (h:e9 σ.get X bs A):
  Call Tryz.prog 65 [.ptr X 0 0] σ fun r σ'=>∃v:Int,r=.int .i64 v/\0<=v/\v<=255/\e9 σ'.get X bs (A+1)/\lp X σ σ':=by
 obtain⟨a,z,haA,hg⟩:=h
 refine hZ fR rfl fun gZ=>?_
 clear gZ
 have gU:(bs.map lr).length=bs.length:=by simp
 have w1:IntKind.i64.wrap ((a:Int)+1)=((a+1:Nat):Int):=(cm ah).trans ah
 by_cases ha:(a:Int)<(bs.length:Int)
 ·have On:(bs.map lr)[a]? =some [.int .u8 (bs.getD a 0)]:=getD_map lr ah
  have K0:=hb (bs.getD a 0) (by rw[List.getD_eq_getElem?_getD,List.getElem?_eq_getElem (by omega:a<bs.length)];exact List.getElem_mem ah)
  generalize bs.getD a 0=b at On K0
  have w2:IntKind.i64.wrap b=b:=cm ah
  have hle:((a+1:Nat):Int)<=(bs.length:Int):=ah
  (try((repeat(revert N;apply Pn.out));refine wk (tw @hg (tw @gU (tw @ha (tw @On (tw @w1 (tw @w2 @hle)))))) ?_;(repeat(apply Pn.mk;intro N Z))))
  exact fV (.inl rfl) (vs:=[.int .i64 b]) (sd @Nat.zero_add) ⟨b,rfl,K0.1,K0.2,⟨a+1,_,ah,sl @Nat.zero_add⟩,aQ,fun i hi _=>sd @hi⟩
 ·have hle:decide (((a+1:Nat):Int)<=(bs.length:Int))=false:=decide_eq_false ah
  (try((repeat(revert N;apply Pn.out));refine wk (tw @hg (tw @gU (tw @ha (tw @w1 @hle)))) ?_;(repeat(apply Pn.mk;intro N Z))))
  exact fV (.inl rfl) (vs:=[.int .i64 _]) (by simp only[gO,jq,go_sem, ↓reduceIte,Nat.reduceEqDiff,Nat.reduceAdd,Nat.reduceSub,Nat.reduceLeDiff,reduceCtorEq]<;>rfl) ⟨_,rfl,(DP _).1,(DP _).2,⟨a+1,_,ah,sl @Nat.zero_add⟩,aQ,fun i hi _=>sd @hi⟩
theorem lp.to {X:Id} {g g':Rows} {n n1 n' m':Nat} (h:lp X ⟨g,n1⟩ ⟨g',n'⟩) (h1:n<=n1) (h2:n'<=m'):lp X ⟨g,n⟩ ⟨g',m'⟩:=
 ⟨Nat.le_trans h1 (Nat.le_trans h.1 h2),fun i hi hv=>h.2 i hi (Nat.lt_of_lt_of_le hv h1)⟩
theorem lp.trans {X:Id} {σ1 σ2 σ3:az} (h:lp X σ1 σ2) (k:lp X σ2 σ3):lp X σ1 σ3:=⟨Nat.le_trans h.1 k.1,fun i hi hv=>(k.2 i hi (Nat.lt_of_lt_of_le hv h.1)).trans (h.2 i hi hv)⟩
theorem gP (bs:List Int) (hb:∀b∈bs,0<=b/\b<=255) (iD:bs.length<=4096) (X:Id) (n:Int) (A:Nat) (ha:A<=1073741000) (σ:az) (h:e9 σ.get X bs A):
  Call Tryz.prog 30 [.ptr X 0 0,.int .i64 n] σ fun r σ'=>∃v:Int,r=.int .i64 v/\0<=v/\(v=0∨v<n)/\e9 σ'.get X bs (A+2)/\lp X σ σ':=by
 refine hZ fR rfl fun gZ=>?_
 clear gZ
 by_cases we:n<=1
 ·(try((repeat(revert N;apply Pn.out));refine wk @we ?_;(repeat(apply Pn.mk;intro N Z))))
  exact fV (.inl rfl) (vs:=[.int .i64 0]) (sd @Nat.zero_add) ⟨0,rfl,ah,.inl rfl,h.mono ah,aQ,fun i hi _=>rfl⟩
 ·have EE:(n=0)=False:=eq_false ah
  (try((repeat(revert N;apply Pn.out));refine wk @we ?_;(repeat(apply Pn.mk;intro N Z))))
  refine .inr (aE _ _ _ _ _ (fun r σ1 hq=>?_) (MP bs hb iD X A ah _ h))
  obtain⟨v,rfl,v0,v1,h1,k1⟩:=hq
  apply Z
  clear Z N
  by_cases h2:(200:Int)<n
  ·(try((repeat(revert N;apply Pn.out));refine wk @h2 ?_;(repeat(apply Pn.mk;intro N Z))))
   refine .inr (aE _ _ _ _ _ (fun r σ2 hq=>?_) (MP bs hb iD X (A+1) ah _ h1))
   obtain⟨u,rfl,u0,u1,A8,k2⟩:=hq
   apply Z
   clear Z N
   have w1:IntKind.i64.wrap (v*256)=v*256:=cm ah
   have w2:IntKind.i64.wrap (v*256+u)=v*256+u:=cm ah
   (try((repeat(revert N;apply Pn.out));refine wk (tw @EE (tw @w1 @w2)) ?_;(repeat(apply Pn.mk;intro N Z))))
   exact fV (.inl rfl) (vs:=[.int .i64 ((v*256+u).tmod n)]) (sd @Nat.zero_add) ⟨_,rfl,(Dd ah ah).1,(Dd ah ah).2,A8,(lp.to (k1.trans (lp.to (n:=σ1.next) k2 ah (Nat.le_refl _))) ah aQ:lp X ⟨σ.get,σ.next⟩ ⟨σ2.get,_⟩)⟩
  ·(try((repeat(revert N;apply Pn.out));refine wk (tw @h2 @EE) ?_;(repeat(apply Pn.mk;intro N Z))))
   exact fV (.inl rfl) (vs:=[.int .i64 (v.tmod n)]) (sd @Nat.zero_add) ⟨_,rfl,(Dd v0 ah).1,(Dd v0 ah).2,h1.mono ah,(lp.to k1 ah aQ:lp X ⟨σ.get,σ.next⟩ ⟨σ1.get,_⟩)⟩
theorem BD (bs:List Int) (hb:∀b∈bs,0<=b/\b<=255) (iD:bs.length<=4096) (X:Id) (n:Int) (A:Nat) (ha:A<=1073741000) (σ:az) (h:e9 σ.get X bs A):
  Call Tryz.prog 22 [.ptr X 0 0,.int .i64 n] σ fun r σ'=>∃b:Bool,r=.bool b/\e9 σ'.get X bs (A+2)/\lp X σ σ':=by
 refine hZ fR rfl fun gZ=>?_
 clear gZ
 (try((repeat(revert N;apply Pn.out));refine wk @Nat.zero_add ?_;(repeat(apply Pn.mk;intro N Z))))
 refine .inr (aE _ _ _ _ _ (fun r σ1 hq=>?_) (gP bs hb iD X n A ha _ h))
 obtain⟨v,rfl,v0,v1,h1,k1⟩:=hq
 apply Z
 clear Z N
 (try((repeat(revert N;apply Pn.out));refine wk @Nat.zero_add ?_;(repeat(apply Pn.mk;intro N Z))))
 exact fV (.inl rfl) (vs:=[.bool _]) (by simp only[gO,jq,go_sem, ↓reduceIte,Nat.reduceEqDiff,Nat.reduceAdd,Nat.reduceSub,Nat.reduceLeDiff,reduceCtorEq]<;>rfl) ⟨_,rfl,h1,(lp.to k1 ah aQ:lp X ⟨σ.get,σ.next⟩ ⟨σ1.get,_⟩)⟩
theorem Bn (bs:List Int) (σ:az):
  Call Tryz.prog 21 [.sl (bs.map lr)] σ fun r σ'=>∃X:Id,r=.ptr X 0 0/\σ.next<=X.bj/\X.bj<σ'.next/\e9 σ'.get X bs 0/\∀i:Id,i.bj<σ.next->σ'.get i=σ.get i:=by
 refine hZ fR rfl fun gZ=>?_
 clear gZ
 (try((repeat(revert N;apply Pn.out));refine wk @Nat.zero_add ?_;(repeat(apply Pn.mk;intro N Z))))
 exact fV (.inl rfl) (vs:=[.ptr ⟨21001002,_⟩ 0 0]) (by simp only[gO,jq,go_sem, ↓reduceIte,Nat.reduceEqDiff,Nat.reduceAdd,Nat.reduceSub,Nat.reduceLeDiff,reduceCtorEq]<;>rfl) ⟨_,rfl,aQ,aQ,⟨0,0,Nat.le_refl _,sl @Nat.zero_add⟩,fun i hi=>by have hv:=dh hi;simp only[go_sem, ↓reduceIte,Nat.reduceEqDiff,Nat.reduceAdd,Nat.reduceSub,Nat.reduceLeDiff,reduceCtorEq,hv]⟩
theorem Ab (bs:List Int) (hb:∀b∈bs,0<=b/\b<=255) (iD:bs.length<=4096):
  ja Tryz.prog 8 [.sl (bs.map lr)] fun r=>∃gp:List Int,r=.sl (gp.map aJ)/\(∀x∈gp,0<=x/\x<=19)/\gp.length<=6:=by
 refine ja.body fR rfl fun gZ n0=>?_
 clear gZ
 (try((repeat(revert N;apply Pn.out));refine wk @Nat.zero_add ?_;(repeat(apply Pn.mk;intro N Z))))
 refine .inr (aE _ _ _ _ _ (fun r σ1 hq=>?_) (Bn bs _))
 obtain⟨X,rfl,x0,x1,hs,hK⟩:=hq
 clear hK
 apply Z
 clear Z N
 have vX:=dh x1
 have K8:e9 (bL σ1.get ⟨8002000,σ1.next+1⟩ ⟨true,1,[]⟩) X bs 0:=by
  obtain⟨a,z,h1,h2⟩:=hs
  exact⟨a,z,h1,by simp only[go_sem, ↓reduceIte,Nat.reduceEqDiff,Nat.reduceAdd,Nat.reduceSub,Nat.reduceLeDiff,reduceCtorEq,vX]<;>exact h2⟩
 (try((repeat(revert N;apply Pn.out));refine wk @Nat.zero_add ?_;(repeat(apply Pn.mk;intro N Z))))
 refine .inr (aE _ _ _ _ _ (fun r σ2 hq=>?_) (gP bs hb iD X 7 0 ah _ K8))
 obtain⟨v,rfl,v0,v1,h2,k2⟩:=hq
 have hw:=k2.2 ⟨8002000,σ1.next+1⟩ (fun e=>by rw[<-e]at x1;(try dsimp only at x1);omega) aQ
 have Pt:=k2.1
 (try dsimp only at Pt)
 simp only[go_sem, ↓reduceIte,Nat.reduceEqDiff,Nat.reduceAdd,Nat.reduceSub,Nat.reduceLeDiff,reduceCtorEq]at hw
 obtain⟨m,rfl⟩:=Int.eq_ofNat_of_zero_le v0
 clear vX hs K8 k2
 apply Z
 clear Z N
 (try((repeat(revert N;apply Pn.out));refine wk @Nat.zero_add ?_;(repeat(apply Pn.mk;intro N Z))))
 refine bz (fun m env st=>∃(gp:List Int) (w:Id),env 5=.int .i64 (m:Int)/\env 4=.own w 0 gp.length/\st.get w=some ⟨true,1,gp.map aJ⟩/\e9 st.get X bs (2+2*gp.length)/\m+gp.length<=6/\(∀x∈gp,0<=x/\x<=19)/\w.bj<st.next/\X.bj<st.next/\w≠X) m ⟨[],⟨8002000,σ1.next+1⟩,sd @Nat.zero_add,sl @Nat.zero_add,hw,h2,by simp only[List.length_nil];omega,fun x hx=>(by cases hx),aQ,aQ,fun e=>by rw[<-e]at x1;(try dsimp only at x1);omega⟩ ?_
 rintro m env_b st_b ⟨gp,w,b5,b4,gw,hs,hl,hr,vw,vx,ig⟩ fo
 have b3:=fo 3 (by kernel_rfl)
 simp only[go_sem, ↓reduceIte,Nat.reduceEqDiff,Nat.reduceAdd,Nat.reduceSub,Nat.reduceLeDiff,reduceCtorEq]at b3
 clear fo
 by_cases hm:(0:Int)<(m:Int)
 ·(try((repeat(revert N;apply Pn.out));refine wk (tw @b3 (tw @b4 (tw @b5 @hm))) ?_;(repeat(apply Pn.mk;intro N Z))))
  refine .inr (aE _ _ _ _ _ (fun r σ3 hq=>?_) (gP bs hb iD X 20 (2+2*gp.length) ah _ hs))
  obtain⟨u,rfl,u0,u1,h3,k3⟩:=hq
  have gw3:=(k3.2 w ig aQ).trans gw
  have Xj:=k3.1
  (try dsimp only at Xj)
  clear k3
  have vw3:=dh (i:=w) (n:=σ3.next) ah
  have vx3:=dh (i:=X) (n:=σ3.next) ah
  have wm:IntKind.i64.wrap ((m:Int)-1)=((m-1:Nat):Int):=(cm ah).trans ah
  apply Z
  clear Z N
  have S5:gp.length<=16777215:=ah
  have e1:(X=w)=False/\(w=X)=False:=⟨eq_false fun e=>ig e.symm,eq_false ig⟩
  have Ps:(gp++[u]).map aJ=gp.map aJ++[aJ u]:=by simp
  have K7:(gp++[u]).length=gp.length+1:=by simp
  rw[aJ]at Ps
  obtain⟨a,z,hz,gX⟩:=h3
  (try((repeat(revert N;apply Pn.out));refine wk (tw @b3 (tw @b4 (tw @b5 (tw @gw3 (tw @vw3 (tw @wm @S5)))))) ?_;(repeat(apply Pn.mk;intro N Z))))
  refine⟨m-1,ah,gp++[u],⟨8006004,σ3.next⟩,sl @Nat.zero_add,sl @K7,sl @Ps,⟨a,z,by rw[K7];omega,by simp only[go_sem, ↓reduceIte,Nat.reduceEqDiff,Nat.reduceAdd,Nat.reduceSub,Nat.reduceLeDiff,reduceCtorEq,vx3,e1]<;>exact gX⟩,by rw[K7];omega,fun x hx=>?_,aQ,aQ,fun e=>by have:=congrArg Id.bj e;(try dsimp only at this);omega⟩
  rcases List.mem_append.1 hx with h|h
  ·exact hr x h
  ·rw[List.mem_singleton.1 h];omega
 ·(try((repeat(revert N;apply Pn.out));refine wk (tw @b3 (tw @b4 (tw @b5 @hm))) ?_;(repeat(apply Pn.mk;intro N Z))))
  exact⟨[.own w 0 gp.length],sd @b4,_,by simp only[fw];exact eP (e:=aJ) gw rfl fun x=>Sr _ _ _,gp,rfl,hr,ah⟩
end Go.Proofs.YtiabgllilcfheaaGreat.V

namespace Go.Proofs.YtiabgllilcfheaaGreat
open Go.RowKit
def ji (k:Int):ByteArray:=if k=0 then⟨#[48]⟩else⟨(vV k.toNat).toArray⟩
theorem Ec (w:World) (k:Int) (h0:0<=k) (h1:k<=4611686018427387904):
  Calls Tryz.prog 58 #[.int .i64 k] w fun e w'=>e=.returned (.string (ji k))/\Below w.heap.size w w':=by
 go_enter Tryz.func58,Tryz.ntmps58
 go_wp2_with fail
 go_loopw [4,3] (fun a s wr=>∃(j:Int) (l:ByteArray),a=.int .i64 j/\s=.string l/\0<=j/\j<=4611686018427387904/\Hid (vV j.toNat++l.data.toList=vV k.toNat)/\Below w.heap.size w wr) (fun a _ _=>(intOf a).toNat)
 case atStart=>exact⟨k,⟨#[]⟩,rfl,rfl,h0,h1,Lib.hid (by simp),Below.refl _ _⟩
 case round=>
  obtain⟨j,l,rfl,rfl,Rn,hj1,hd,hb⟩:=hrel
  have fE:l.size<=19:=by
   have h1:=congrArg List.length hd.out
   have h2:=yI 19 k.toNat (by omega)
   rw[List.length_append]at h1
   have:l.data.toList.length=l.size:=by rw[Array.length_toList];rfl
   omega
  by_cases hj:j=0
  ·subst hj
   by_cases hk:k=0
   ·go_wp2_with fail
    go_ret
    exact⟨by simp[ji,hk],hb⟩
   ·have Iu:¬k<0:=by omega
    go_wp2_with fail
    go_ret
    refine⟨?_,hb⟩
    have h1:=hd.out
    rw[show(0:Int).toNat=0 by rfl,Jv,List.nil_append]at h1
    have h2:l=ji k:=by
     rw[ji,if_neg hk]
     refine ByteArray.ext (Array.ext' ?_)
     rw[h1]
    rw[h2];rfl
  ·have Pk:∀v:Int,(convert 22 9 (.slice (some ⟨wr.heap.size,0,none⟩) 1 1)).run Tryz.prog (wr.alloc (.cells #[.int .u8 v] 5))=.ok (.string ⟨#[UInt8.ofNat v.toNat]⟩) (wr.alloc (.cells #[.int .u8 v] 5)):=by
    intro v
    rw[run_convert_bytes_string _ _ _ 5 _ _ _ Tryz.underlying22 Tryz.underlying5 Tryz.underlying9,run_bytesToString _ _ _ _ [v] (by simp[loadCells,loadCellsFrom,go_sem])]
    rfl
   have hr:=fE
   go_wp2_with fail
   refine⟨⟨_,_,rfl,rfl,by omega,by omega,Lib.hid ?_,hb.alloc hb.size _⟩,by simp[intOf];omega⟩
   rw[<-hd.out,Jp,LI (show j.toNat≠0 by omega),show(j / 10).toNat=j.toNat / 10 by omega,show(48+j % 10).toNat=48+j.toNat % 10 by omega]
   simp
end Go.Proofs.YtiabgllilcfheaaGreat
namespace Go.Proofs.YtiabgllilcfheaaGreat.V
open Go.RowKit
theorem lZ (k:Int) (h0:0<=k) (h1:k<=4611686018427387904):ay Tryz.prog 58 [.int .i64 k] (.str (ji k)):=
 nF (vs0:= #[.int .i64 k]) (u0:=.string (ji k)) (fun _ _ _ _=>Qj) (fun w D ι=>.fF _ _ (.str _)) (fun g=>Cn g 5 _) fun w=>Ec w k h0 h1
theorem js (k:Int) (h1:k<=4611686018427387904):(ji k).size<=20:=by
 unfold ji
 split
 ·decide
 ·have h2:=yI 20 k.toNat ah
  show(vV k.toNat).toArray.size<=20
  simpa using h2
theorem iw (a b:ByteArray):(a++b).size=a.size+b.size:=ByteArray.size_append
def nw (E:Nat->Prop) (n0:Nat) (g:Rows) (n:Nat) (e:Id) (c:Nat):Prop:=E e.site/\n0<=e.bj/\e.bj<n/\∃l:List Int,l.length=c/\g e=some ⟨true,1,l.map aJ⟩
theorem nw.frame {E:Nat->Prop} {n0:Nat} {g g':Rows} {n n':Nat} {e:Id} {c:Nat} (h:nw E n0 g n e c) (hn:n<=n') (hf:∀i:Id,E i.site->n0<=i.bj->i.bj<n->g' i=g i):nw E n0 g' n' e c:=by
 obtain⟨h1,h2,h3,l,h4,h5⟩:=h
 exact⟨h1,h2,ah,l,h4,(hf e h1 h2 h3).trans h5⟩
def iT (E:Nat->Prop) (n0:Nat) (g:Rows) (n:Nat) (rows:List (List AV)):Prop:=∀row∈rows,∃(nm:ByteArray) (e:Id),row=[.str nm,.own e 0 4]/\nm.size<=64/\nw E n0 g n e 4
theorem iT.frame {E:Nat->Prop} {n0:Nat} {g g':Rows} {n n':Nat} {rows:List (List AV)} (h:iT E n0 g n rows) (hn:n<=n') (hf:∀i:Id,E i.site->n0<=i.bj->i.bj<n->g' i=g i):iT E n0 g' n' rows:=fun row hr=>by
 obtain⟨nm,e,h1,h2,h3⟩:=h row hr
 exact⟨nm,e,h1,h2,h3.frame hn hf⟩
theorem iT.snoc {E:Nat->Prop} {n0:Nat} {g:Rows} {n:Nat} {rows:List (List AV)} (h:iT E n0 g n rows) {nm:ByteArray} {e:Id} (hs:nm.size<=64) (he:nw E n0 g n e 4):iT E n0 g n (rows++[[.str nm,.own e 0 4]]):=fun row hr=>by
 rcases List.mem_append.1 hr with h1|h1
 ·exact h row h1
 ·exact⟨nm,e,List.mem_singleton.1 h1,hs,he⟩
theorem iT.fz {E:Nat->Prop} {n0:Nat} {g:Rows} {n:Nat}:∀{rows:List (List AV)},iT E n0 g n rows->∃L:List jB,L.length=rows.length/\(∀t∈L,t.cI.size<=64)/\∀k,iz g (k+2) rows=some (L.map dw)
 |[],_=>⟨[],rfl,(fun t ht=>nomatch ht),fun k=>by(try simp only[List.map_nil]);rw[iz.eq_def]⟩
 |row::rows,h=>by
  obtain⟨L,h1,h2,h3⟩:=iT.fz (rows:=rows) fun r hr=>h r (List.mem_cons_of_mem _ hr)
  obtain⟨nm,e,h4,h5,h6⟩:=h row List.mem_cons_self
  obtain⟨_,_,_,l,h7,h8⟩:=h6
  subst h4
  refine⟨⟨nm,l⟩::L,by simp[h1],fun t ht=>?_,fun k=>?_⟩
  ·rcases List.mem_cons.1 ht with rfl|ht
   ·exact h5
   ·exact h2 t ht
  ·have h9:iq g (k+2) (.own e 0 4)=some (.sl (l.map aJ)):=by
    rw[<-h7];exact eP (e:=aJ) h8 rfl fun x=>Sr g k x
   rw[iz,bc,Cn,bc,h9,bY,h3 k]
   rfl
theorem nw.write {E:Nat->Prop} {n0:Nat} {g:Rows} {n:Nat} {e u:Id} {l:List Int} (h:nw E n0 g n u 4) (hl:l.length=4):nw E n0 (bL g e ⟨true,1,l.map aJ⟩) n u 4:=by
 obtain⟨h1,h2,h3,k,h4,h5⟩:=h
 by_cases hu:u=e
 ·subst hu;exact⟨h1,h2,h3,l,hl,by simp[bL]⟩
 ·exact⟨h1,h2,h3,k,h4,by simp[bL,hu,h5]⟩
theorem iT.write {E:Nat->Prop} {n0:Nat} {g:Rows} {n:Nat} {rows:List (List AV)} {e:Id} {l:List Int} (h:iT E n0 g n rows) (hl:l.length=4):iT E n0 (bL g e ⟨true,1,l.map aJ⟩) n rows:=fun row hr=>by
 obtain⟨nm,u,h1,h2,h3⟩:=h row hr
 exact⟨nm,u,h1,h2,h3.write hl⟩
theorem iT.get {E:Nat->Prop} {n0:Nat} {g:Rows} {n:Nat} {rows:List (List AV)} (h:iT E n0 g n rows) {k:Nat} (hk:k<rows.length):∃(nm:ByteArray) (e:Id),rows[k]? =some [.str nm,.own e 0 4]/\nw E n0 g n e 4:=by
 obtain⟨nm,e,h1,_,h3⟩:=h _ (List.getElem_mem hk)
 exact⟨nm,e,by rw[List.getElem?_eq_getElem hk,h1],h3⟩
def gq (n0:Nat) (g:Rows) (n:Nat) (v:AV) (k:Nat):Prop:=(k=0/\v=.br)∨(0<k/\∃(o:Id) (L:List kJ),v=.own o 0 k/\L.length=k/\g o=some ⟨true,2,L.map ek⟩/\(∀x∈L,x.cI.size<=64)/\n0<=o.bj/\o.bj<n)
def gy (E:Nat->Prop) (n0:Nat) (g:Rows) (n:Nat) (v:AV) (k:Nat):Prop:=(k=0/\v=.br)∨(0<k/\∃(o:Id) (rows:List (List AV)),v=.own o 0 k/\rows.length=k/\g o=some ⟨true,2,rows⟩/\iT E n0 g n rows/\¬E o.site/\n0<=o.bj/\o.bj<n)
theorem gq.frame {n0:Nat} {g g':Rows} {n n':Nat} {v:AV} {k:Nat} (h:gq n0 g n v k) (hn:n<=n') (hf:∀i:Id,n0<=i.bj->i.bj<n->g' i=g i):gq n0 g' n' v k:=by
 rcases h with h|⟨h0,o,L,h1,h2,h3,h4,h5,h6⟩
 ·exact .inl h
 ·exact .inr ⟨h0,o,L,h1,h2,(hf o h5 h6).trans h3,h4,h5,ah⟩
theorem gy.frame {E:Nat->Prop} {n0:Nat} {g g':Rows} {n n':Nat} {v:AV} {k:Nat} (h:gy E n0 g n v k) (hn:n<=n') (hf:∀i:Id,n0<=i.bj->i.bj<n->g' i=g i):gy E n0 g' n' v k:=by
 rcases h with h|⟨h0,o,L,h1,h2,h3,h4,h5,h6,h7⟩
 ·exact .inl h
 ·exact .inr ⟨h0,o,L,h1,h2,(hf o h6 h7).trans h3,h4.frame hn fun i _ a b=>hf i a b,h5,h6,ah⟩
theorem gq.fz {n0:Nat} {g:Rows} {n:Nat} {v:AV} {k:Nat} (h:gq n0 g n v k) (hk:0<k):∃L:List kJ,L.length=k/\(∀x∈L,x.cI.size<=64)/\∀j,iq g (j+2) v=some (.sl (L.map ek)):=by
 rcases h with h|⟨h0,o,L,h1,h2,h3,h4,h5,h6⟩
 ·omega
 ·subst h1 h2
  exact⟨L,rfl,h4,fun j=>eP (e:=ek) h3 rfl fun x=>by simp[ek,bc,bY,Cn,dG]⟩
theorem gy.fz {E:Nat->Prop} {n0:Nat} {g:Rows} {n:Nat} {v:AV} {k:Nat} (h:gy E n0 g n v k) (hk:0<k):∃L:List jB,L.length=k/\(∀x∈L,x.cI.size<=64)/\∀j,iq g (j+3) v=some (.sl (L.map dw)):=by
 rcases h with h|⟨h0,o,rows,h1,h2,h3,h4,h5,h6⟩
 ·omega
 ·obtain⟨L,q1,q2,q3⟩:=h4.fz
  subst h1
  refine⟨L,ah,q2,fun j=>ug h3 ah ?_⟩
  rw[List.drop_zero,List.take_of_length_le ah]
  exact q3 j
theorem gq.cell {n0:Nat} {g:Rows} {n:Nat} {v:AV} {k:Nat} (h:gq n0 g n v k):v.cells=[v]/\v.cell=true:=by
 rcases h with⟨_,rfl⟩|⟨_,o,L,rfl,_⟩<;>exact⟨rfl,rfl⟩
theorem gy.cell {E:Nat->Prop} {n0:Nat} {g:Rows} {n:Nat} {v:AV} {k:Nat} (h:gy E n0 g n v k):v.cells=[v]/\v.cell=true:=by
 rcases h with⟨_,rfl⟩|⟨_,o,L,rfl,_⟩<;>exact⟨rfl,rfl⟩
theorem gq.since {n0 n1:Nat} {g:Rows} {n:Nat} {v:AV} {k:Nat} (h:gq n1 g n v k) (hn:n0<=n1):gq n0 g n v k:=by
 rcases h with h|⟨h0,o,L,h1,h2,h3,h4,h5,h6⟩
 ·exact .inl h
 ·exact .inr ⟨h0,o,L,h1,h2,h3,h4,ah,h6⟩
theorem gy.since {E:Nat->Prop} {n0 n1:Nat} {g:Rows} {n:Nat} {v:AV} {k:Nat} (h:gy E n1 g n v k) (hn:n0<=n1):gy E n0 g n v k:=by
 rcases h with h|⟨h0,o,L,h1,h2,h3,h4,h5,h6⟩
 ·exact .inl h
 ·exact .inr ⟨h0,o,L,h1,h2,h3,fun row hr=>(by
   obtain⟨nm,e,q1,q2,q3,q4,q5⟩:=h4 row hr
   exact⟨nm,e,q1,q2,q3,ah,q5⟩),h5,ah,h6.2⟩
def BZ (E:Nat->Prop) (n0:Nat) (g:Rows) (n:Nat) (v:AV) (k:Nat):Prop:=(k=0/\v=.br)∨(0<k/\∃e:Id,v=.own e 0 k/\nw E n0 g n e k)
def nM (n0:Nat) (g:Rows) (n:Nat) (r:AV):Prop:=∃(E:Nat->Prop) (vg vt:AV) (kg kt:Nat) (o:Id) (p:aa) (m:Int),r=.agg [vg,vt,.own o 0 1,.int .i64 m]/\gq n0 g n vg kg/\gy E n0 g n vt kt/\0<kg/\0<kt/\kg<=1000/\kt<=1000/\g o=some ⟨true,3,[ai p]⟩/\n0<=o.bj/\o.bj<n
theorem nM.frame {n0:Nat} {g g':Rows} {n n':Nat} {r:AV} (h:nM n0 g n r) (hn:n<=n') (hf:∀i:Id,n0<=i.bj->i.bj<n->g' i=g i):nM n0 g' n' r:=by
 obtain⟨E,vg,vt,kg,kt,o,p,m,h1,h2,h3,h4,h5,h6,h7,h8,h9,Er⟩:=h
 exact⟨E,vg,vt,kg,kt,o,p,m,h1,h2.frame hn hf,h3.frame hn hf,h4,h5,h6,h7,(hf o h9 Er).trans h8,h9,ah⟩
theorem nM.since {n0 n1:Nat} {g:Rows} {n:Nat} {r:AV} (h:nM n1 g n r) (k:n0<=n1):nM n0 g n r:=by
 obtain⟨E,vg,vt,kg,kt,o,p,m,h1,h2,h3,h4,h5,h6,h7,h8,h9,Er⟩:=h
 exact⟨E,vg,vt,kg,kt,o,p,m,h1,h2.since k,h3.since k,h4,h5,h6,h7,h8,ah,Er⟩
def V3 (s:aA):Prop:=jh s.aI/\s.aI.bd.length<=1048576/\s.aI.au.length<=1048576/\s.dm.au.length=1
theorem nM.fz {n0:Nat} {g:Rows} {n:Nat} {r:AV} (h:nM n0 g n r):∃s:aA,V3 s/\iq g 6 r=some (.agg (bt s)):=by
 obtain⟨E,vg,vt,kg,kt,o,p,m,h1,h2,h3,h4,h5,h6,h7,h8,h9,Er⟩:=h
 obtain⟨L,a1,a2,a3⟩:=h2.fz h4
 obtain⟨T,b1,b2,b3⟩:=h3.fz h5
 subst h1
 refine⟨⟨⟨L,T⟩,⟨[p]⟩,m⟩,⟨⟨fun x hx=>Nat.le_trans (a2 x hx) (by decide),fun x hx=>Nat.le_trans (b2 x hx) (by decide)⟩,aQ,aQ,rfl⟩,?_⟩
 have Wv:iq g 5 (.own o 0 1)=some (.sl [ai p]):=eP (e:=ai) (l:=[p]) h8 rfl fun x=>by simp[ai,bc,bY,dG]
 rw[jL,bc,a3 3,bc,b3 2,bc,Wv,bc,dG,bY]
 rfl
end Go.Proofs.YtiabgllilcfheaaGreat.V

namespace Go.Proofs.YtiabgllilcfheaaGreat.V
open Go.RowKit
attribute [local irreducible] eC wpOps gi Call
attribute [local go_sem] aM fP fa fX fW du upd cz K.av cP AV.cells AV.cell rowOf rowsOf part ld rowAt bL cu dK eb gK bP de eu fS fq dx ef db da dR dS bU bf cU bR cW cV dW eh ee cR bW dd ec bQ aL cY cH gJ bF cL bV aY dr bq dL AV.undef bJ bK dV dY dQ dU cK er ez cF ej ei cX cZ List.getD_cons_zero List.getD_cons_succ List.getD_nil List.all_cons List.all_nil Bool.and_true Bool.true_and Bool.and_self Bool.not_true Bool.not_false Option.map_some Option.map_none Option.bind_some Option.bind_none List.length_cons List.length_nil List.take_succ_cons List.take_zero List.take_nil List.drop_succ_cons List.drop_zero List.drop_nil List.head?_cons List.map_cons List.map_nil List.getElem?_cons_zero List.getElem?_cons_succ List.cons_append List.nil_append List.append_nil List.length_map List.set_cons_zero List.set_cons_succ Nat.reduceMul eq_self Int.toNat_natCast Int.natCast_nonneg and_self true_and and_true decide_true decide_false Bool.false_eq_true Nat.zero_add Nat.add_zero List.contains_cons List.contains_nil Bool.or_false Bool.false_or beq_self_eq_true Nat.reduceBEq ne_eq not_true_eq_false not_false_eq_true Id.mk.injEq false_and and_false Nat.reduceLT Int.reduceLE Int.reduceLT Int.reduceToNat Int.reduceNeg Int.reduceAdd Nat.le_refl List.length_append beq_true beq_false Bool.not_eq_eq_eq_not or_false false_or eL ar ax aW bp bZ cw aV bH aU bh cQ bI
def nR (s:Nat):Prop:=s=105015003∨s=105016007
theorem J4 (bs:List Int) (hb:∀b∈bs,0<=b/\b<=255) (iD:bs.length<=4096) (X:Id) (m:Nat) (hm:m<=20) (A:Nat) (ha:A<=1000000) (σ:az) (h:e9 σ.get X bs A) (hX:X.bj<σ.next):
  Call Tryz.prog 105 [.ptr X 0 0,.int .i64 (m:Int)] σ fun r σ'=>∃vg vt kg,r=.agg [vg,vt]/\gq σ.next σ'.get σ'.next vg kg/\gy nR σ.next σ'.get σ'.next vt m/\0<kg/\kg<=5/\e9 σ'.get X bs (A+400)/\lp X σ σ':=by
 refine qd Se rfl fun gZ=>?_
 simp only[AB,QO,UJ,UK,UL,UM,UN,HS,UO,UP,UQ]
 try simp only[q]
 clear gZ
 have vX:=dh hX
 (try((repeat(revert N;apply Pn.out));refine wk @Nat.zero_add ?_;(repeat(apply Pn.mk;intro N Z))))
 refine .inr (aE _ _ _ _ _ (fun r σ1 hq=>?_) (gP bs hb iD X 5 A ah _ (by
  obtain⟨a,z,q1,q2⟩:=h
  exact⟨a,z,q1,by simp only[go_sem, ↓reduceIte,Nat.reduceEqDiff,Nat.reduceAdd,Nat.reduceSub,Nat.reduceLeDiff,reduceCtorEq,vX]<;>exact q2⟩)))
 obtain⟨v,rfl,v0,v1,h1,hK⟩:=hq
 obtain⟨g1,x1⟩:=σ1
 (try dsimp only at h1)
 apply Z
 clear Z N
 have F9:=hK.1
 (try dsimp only at F9)
 have Yw:=hK.2 ⟨105000000,σ.next⟩ (fun e=>by rw[<-e]at hX;(try dsimp only at hX);omega) aQ
 have hB5:=hK.2 ⟨105001001,σ.next+1⟩ (fun e=>by rw[<-e]at hX;(try dsimp only at hX);omega) aQ
 have uk:∀i:Id,i≠X->i.bj<σ.next->g1 i=σ.get i:=fun i hi hv=>(hK.2 i hi aQ).trans (by have hv:=dh hv;simp only[go_sem, ↓reduceIte,Nat.reduceEqDiff,Nat.reduceAdd,Nat.reduceSub,Nat.reduceLeDiff,reduceCtorEq,hv])
 simp only[go_sem, ↓reduceIte,Nat.reduceEqDiff,Nat.reduceAdd,Nat.reduceSub,Nat.reduceLeDiff,reduceCtorEq]at Yw hB5
 clear hK h
 obtain⟨kg,hkg⟩:∃kg:Nat,IntKind.i64.wrap (1+v)=(kg:Int):=⟨(1+v).toNat,by rw[cm ah];omega⟩
 have Ov:1<=kg/\kg<=5:=by
  rw[cm ah]at hkg
  omega
 (try((repeat(revert N;apply Pn.out));refine wk @hkg ?_;(repeat(apply Pn.mk;intro N Z))))
 refine bz (fun n env st=>∃k:Nat,n=(kg)-k/\k<=(kg)/\env 7=.int .i64 (k:Int)/\((e9 st.get X bs (A+2+2*k)/\st.get ⟨105000000,σ.next⟩=some ⟨true,2,[[.br,.br]]⟩/\σ.next+2<=st.next/\(∀i:Id,i≠X->i.bj<σ.next->st.get i=σ.get i)/\∃vg,st.get ⟨105001001,σ.next+1⟩=some ⟨true,2,[[vg,.br]]⟩/\gq (σ.next+2) st.get st.next vg k))) (kg) ⟨0,ah,ah,sl @Nat.zero_add,by(try dsimp only);exact⟨h1,Yw,ah,uk,.br,hB5,.inl ⟨rfl,rfl⟩⟩⟩ ?_
 rintro n_a env_a st_a ⟨k,rfl,ale,a7,nh⟩ eE
 have a0:=eE 0 (by kernel_rfl);have a1:=eE 1 (by kernel_rfl);have a4:=eE 4 (by kernel_rfl);have a5:=eE 5 (by kernel_rfl);have a6:=eE 6 (by kernel_rfl)
 simp only[go_sem, ↓reduceIte,Nat.reduceEqDiff,Nat.reduceAdd,Nat.reduceSub,Nat.reduceLeDiff,reduceCtorEq]at a0 a1 a4 a5 a6
 clear eE
 obtain⟨aS,Gl,aN,aO,vg,Of,aG⟩:=nh
 by_cases hk:(k:Int)<(kg:Int)
 ·have dD:∀{e:Env} {gg:Rows} {nx:Nat},(e 7=.int .i64 (IntKind.i64.wrap ((k:Int)+1)))->((e9 gg X bs (A+2+2*(k+1))/\gg ⟨105000000,σ.next⟩=some ⟨true,2,[[.br,.br]]⟩/\σ.next+2<=nx/\(∀i:Id,i≠X->i.bj<σ.next->gg i=σ.get i)/\∃vg,gg ⟨105001001,σ.next+1⟩=some ⟨true,2,[[vg,.br]]⟩/\gq (σ.next+2) gg nx vg (k+1)))->∃m0,m0<(kg)-k/\∃k:Nat,m0=(kg)-k/\k<=(kg)/\e 7=.int .i64 (k:Int)/\((e9 gg X bs (A+2+2*k)/\gg ⟨105000000,σ.next⟩=some ⟨true,2,[[.br,.br]]⟩/\σ.next+2<=nx/\(∀i:Id,i≠X->i.bj<σ.next->gg i=σ.get i)/\∃vg,gg ⟨105001001,σ.next+1⟩=some ⟨true,2,[[vg,.br]]⟩/\gq (σ.next+2) gg nx vg k)):=fun x1 x2=>⟨_,ah,k+1,rfl,ah,(by rw[x1,aK ah]),x2⟩
  have qG:=lZ (k:Int) ah ah
  have Eu:=js (k:Int) ah
  have iO:k<=16777215:=ah
  generalize ji (k:Int)=dt at qG Eu
  (try((repeat(revert N;apply Pn.out));refine wk (tw @a7 (tw @a0 (tw @a1 (tw @a4 (tw @a5 (tw @a6 @hk)))))) ?_;(repeat(apply Pn.mk;intro N Z))))
  refine Di (fun e st=>∃x,st=x/\e 0=.ptr X 0 0/\e 1=.int .i64 (m:Int)/\e 4=.ptr ⟨105000000,σ.next⟩ 0 0/\e 5=.ptr ⟨105001001,σ.next+1⟩ 0 0/\e 6=.int .i64 (kg:Int)/\e 7=.int .i64 (k:Int)/\e9 st.get X bs (A+2+2*(k+1))/\st.get ⟨105000000,σ.next⟩=some ⟨true,2,[[.br,.br]]⟩/\σ.next+2<=st.next/\(∀i:Id,i≠X->i.bj<σ.next->st.get i=σ.get i)/\∃vg,st.get ⟨105001001,σ.next+1⟩=some ⟨true,2,[[vg,.br]]⟩/\gq (σ.next+2) st.get st.next vg (k+1)) ?_ ?_
  ·rintro e st ⟨x,rfl,c0,c1,c4,c5,c6,c7,cS,cB4,cN,cO,cG⟩
   apply Z
   clear Z N
   (try((repeat(revert N;apply Pn.out));refine wk (tw @a7 (tw @a0 (tw @a1 (tw @a4 (tw @a5 (tw @a6 @c7)))))) ?_;(repeat(apply Pn.mk;intro N Z))))
   exact dD (sd (tw @a7 (tw @a0 (tw @a1 (tw @a4 (tw @a5 (tw @a6 @c7))))))) (by(try dsimp only);exact⟨cS,cB4,ah,cO,(by
    obtain⟨vg,d1,d2⟩:=cG
    exact⟨vg,d1,d2.frame ah fun _ _ _=>rfl⟩)⟩)
  ·intro N Z
   have eQ:(#[103]:Array UInt8).size+dt.size<=9223372036854775807:=by
    have:(#[103]:Array UInt8).size=1:=rfl
    omega
   have lV:((⟨#[103]⟩:ByteArray)++dt).size<=64:=by
    rw[iw]
    have:(⟨#[103]⟩:ByteArray).size=1:=rfl
    omega
   rcases aG with⟨k0,rfl⟩|⟨k0,o,L,rfl,hL,go,hs,j5,pJ⟩
   ·refine dv ?_ ?_<;>(have zF:=tw @a7 (tw @a0 (tw @a1 (tw @a4 (tw @a5 (tw @a6 (tw @Of @eQ))))));(repeat(first|((repeat(revert N;apply Pn.out));refine wk zF ?_;(repeat(apply Pn.mk;intro N Z)))|((try apply Or.inl);refine⟨_,ay.x (qG) (sd zF),?_⟩;apply Z;clear Z N)));try clear zF)<;>(try refine dv ?_ ?_)<;>(try((repeat(revert N;apply Pn.out));refine wk (tw @a7 (tw @a0 (tw @a1 (tw @a4 (tw @a5 (tw @a6 (tw @Of @eQ))))))) ?_;(repeat(apply Pn.mk;intro N Z))))
    all_goals
     refine .inr (aE _ _ _ _ _ (fun r σ3 hq=>?_) (gP bs hb iD X 2 (A+2+2*k) ah _ aS))
     obtain⟨u,rfl,u0,u1,h3,k3⟩:=hq
     obtain⟨g3,x3⟩:=σ3
     (try dsimp only at h3)
     have n3:=k3.1
     (try dsimp only at n3)
     have GI:=(k3.2 ⟨105000000,σ.next⟩ (fun e=>by rw[<-e]at hX;(try dsimp only at hX);omega) aQ).trans Gl
     have LW:=(k3.2 ⟨105001001,σ.next+1⟩ (fun e=>by rw[<-e]at hX;(try dsimp only at hX);omega) aQ).trans Of
     have Io:∀i:Id,i≠X->i.bj<σ.next->g3 i=σ.get i:=fun i hi hv=>(k3.2 i hi aQ).trans (aO i hi hv)
     (try dsimp only at GI LW)
     clear k3
     apply Z
     clear Z N
     (try((repeat(revert N;apply Pn.out));refine wk (tw @a7 (tw @a0 (tw @a1 (tw @a4 (tw @a5 (tw @a6 (tw @GI @LW))))))) ?_;(repeat(apply Pn.mk;intro N Z))))
     obtain⟨za,zz,hz,gX⟩:=h3
     have FQ:=dh (i:=X) (n:=x3) ah
     exact⟨_,rfl,sd (tw @a7 (tw @a0 (tw @a1 (tw @a4 (tw @a5 @a6))))),sd (tw @a7 (tw @a0 (tw @a1 (tw @a4 (tw @a5 @a6))))),sd (tw @a7 (tw @a0 (tw @a1 (tw @a4 (tw @a5 @a6))))),sd (tw @a7 (tw @a0 (tw @a1 (tw @a4 (tw @a5 @a6))))),sd (tw @a7 (tw @a0 (tw @a1 (tw @a4 (tw @a5 @a6))))),sd (tw @a7 (tw @a0 (tw @a1 (tw @a4 (tw @a5 @a6))))),⟨za,zz,ah,by simp only[go_sem, ↓reduceIte,Nat.reduceEqDiff,Nat.reduceAdd,Nat.reduceSub,Nat.reduceLeDiff,reduceCtorEq,FQ,vX]<;>exact gX⟩,sd @GI,aQ,fun i hi hv=>(by
      have h8:=dh hv
      have h9:=dh (i:=i) (n:=x3) ah
      simp only[go_sem, ↓reduceIte,Nat.reduceEqDiff,Nat.reduceAdd,Nat.reduceSub,Nat.reduceLeDiff,reduceCtorEq,h8,h9]<;>exact Io i hi hv),_,sl @Nat.zero_add,.inr ⟨ah,⟨105006010,x3⟩,[⟨(⟨#[103]⟩:ByteArray)++dt,IntKind.i64.wrap (1+u)⟩],by rw[k0],by rw[k0];rfl,sl @Nat.zero_add,fun x hx=>(by rw[List.mem_singleton.1 hx];exact lV),aQ,aQ⟩⟩
   ·have hoX:o≠X:=fun e=>by rw[e]at j5;omega
    have hX1:(o=X)=False/\(X=o)=False:=⟨eq_false hoX,eq_false fun e=>hoX e.symm⟩
    have e1:∀s,((o=⟨s,σ.next⟩)=False/\((⟨s,σ.next⟩:Id)=o)=False)/\(o=⟨s,σ.next+1⟩)=False/\((⟨s,σ.next+1⟩:Id)=o)=False:=fun s=>⟨⟨eq_false fun e=>by rw[e]at j5;(try dsimp only at j5);omega,eq_false fun e=>by rw[<-e]at j5;(try dsimp only at j5);omega⟩,eq_false fun e=>by rw[e]at j5;(try dsimp only at j5);omega,eq_false fun e=>by rw[<-e]at j5;(try dsimp only at j5);omega⟩
    have kO:(L.map ek).length=k:=by rw[List.length_map,hL]
    refine dv ?_ ?_<;>(have zF:=tw @a7 (tw @a0 (tw @a1 (tw @a4 (tw @a5 (tw @a6 (tw @Of @eQ))))));(repeat(first|((repeat(revert N;apply Pn.out));refine wk zF ?_;(repeat(apply Pn.mk;intro N Z)))|((try apply Or.inl);refine⟨_,ay.x (qG) (sd zF),?_⟩;apply Z;clear Z N)));try clear zF)<;>(try refine dv ?_ ?_)<;>(try((repeat(revert N;apply Pn.out));refine wk (tw @a7 (tw @a0 (tw @a1 (tw @a4 (tw @a5 (tw @a6 (tw @Of @eQ))))))) ?_;(repeat(apply Pn.mk;intro N Z))))
    all_goals
     refine .inr (aE _ _ _ _ _ (fun r σ3 hq=>?_) (gP bs hb iD X 2 (A+2+2*k) ah _ aS))
     obtain⟨u,rfl,u0,u1,h3,k3⟩:=hq
     obtain⟨g3,x3⟩:=σ3
     (try dsimp only at h3)
     have n3:=k3.1
     (try dsimp only at n3)
     have GI:=(k3.2 ⟨105000000,σ.next⟩ (fun e=>by rw[<-e]at hX;(try dsimp only at hX);omega) aQ).trans Gl
     have LW:=(k3.2 ⟨105001001,σ.next+1⟩ (fun e=>by rw[<-e]at hX;(try dsimp only at hX);omega) aQ).trans Of
     have Io:∀i:Id,i≠X->i.bj<σ.next->g3 i=σ.get i:=fun i hi hv=>(k3.2 i hi aQ).trans (aO i hi hv)
     (try dsimp only at GI LW)
     have g3o:=(k3.2 o hoX aQ).trans go
     (try dsimp only at g3o)
     clear k3
     apply Z
     clear Z N
     have T7:=dh (i:=o) (n:=x3) ah
     (try((repeat(revert N;apply Pn.out));refine wk (tw @a7 (tw @a0 (tw @a1 (tw @a4 (tw @a5 (tw @a6 (tw @GI (tw @LW (tw @g3o (tw @e1 (tw @T7 (tw @iO @kO)))))))))))) ?_;(repeat(apply Pn.mk;intro N Z))))
     obtain⟨za,zz,hz,gX⟩:=h3
     have FQ:=dh (i:=X) (n:=x3) ah
     exact⟨_,rfl,sd (tw @a7 (tw @a0 (tw @a1 (tw @a4 (tw @a5 @a6))))),sd (tw @a7 (tw @a0 (tw @a1 (tw @a4 (tw @a5 @a6))))),sd (tw @a7 (tw @a0 (tw @a1 (tw @a4 (tw @a5 @a6))))),sd (tw @a7 (tw @a0 (tw @a1 (tw @a4 (tw @a5 @a6))))),sd (tw @a7 (tw @a0 (tw @a1 (tw @a4 (tw @a5 @a6))))),sd (tw @a7 (tw @a0 (tw @a1 (tw @a4 (tw @a5 @a6))))),⟨za,zz,ah,by simp only[go_sem, ↓reduceIte,Nat.reduceEqDiff,Nat.reduceAdd,Nat.reduceSub,Nat.reduceLeDiff,reduceCtorEq,FQ,vX,hX1]<;>exact gX⟩,sd (tw @GI @e1),aQ,fun i hi hv=>(by
      have h8:=dh hv
      have h9:=dh (i:=i) (n:=x3) ah
      have h7:(i=o)=False:=eq_false fun e=>by rw[e]at hv;omega
      simp only[go_sem, ↓reduceIte,Nat.reduceEqDiff,Nat.reduceAdd,Nat.reduceSub,Nat.reduceLeDiff,reduceCtorEq,h8,h9,h7]<;>exact Io i hi hv),_,sl @Nat.zero_add,.inr ⟨ah,⟨105006010,x3⟩,L++[⟨(⟨#[103]⟩:ByteArray)++dt,IntKind.i64.wrap (1+u)⟩],rfl,by simp[hL],by rw[List.map_append];simp only[go_sem, ↓reduceIte,Nat.reduceEqDiff,Nat.reduceAdd,Nat.reduceSub,Nat.reduceLeDiff,reduceCtorEq]<;>rfl,fun x hx=>(by
       rcases List.mem_append.1 hx with h9|h9
       ·exact hs x h9
       ·rw[List.mem_singleton.1 h9];exact lV),aQ,aQ⟩⟩
 ·have hke:k=kg:=ah
  subst hke
  (try((repeat(revert N;apply Pn.out));refine wk (tw @a7 (tw @a0 (tw @a1 (tw @a4 (tw @a5 (tw @a6 @hk)))))) ?_;(repeat(apply Pn.mk;intro N Z))))
  obtain⟨ga,na⟩:=st_a
  (try dsimp only at aS Gl aN aO Of aG)
  refine bz (fun n env st=>∃j:Nat,n=(m)-j/\j<=(m)/\env 8=.int .i64 (j:Int)/\((e9 st.get X bs (A+20+16*j)/\na<=st.next/\(∀i:Id,i≠X->i≠⟨105001001,σ.next+1⟩->i.bj<na->st.get i=ga i)/\∃vt,st.get ⟨105001001,σ.next+1⟩=some ⟨true,2,[[vg,vt]]⟩/\gy nR na st.get st.next vt j))) (m) ⟨0,ah,ah,sl (tw @a7 (tw @a0 (tw @a1 (tw @a4 (tw @a5 @a6))))),by(try dsimp only);exact⟨aS.mono ah,ah,fun i _ _ _=>rfl,.br,Of,.inl ⟨rfl,rfl⟩⟩⟩ ?_
  rintro n_b env_b st_b ⟨j,rfl,ble,b8,bI0⟩ fo
  have b0:=fo 0 (by kernel_rfl);have b1:=fo 1 (by kernel_rfl);have b4:=fo 4 (by kernel_rfl);have b5:=fo 5 (by kernel_rfl);have b6:=fo 6 (by kernel_rfl)
  simp only[go_sem, ↓reduceIte,Nat.reduceEqDiff,Nat.reduceAdd,Nat.reduceSub,Nat.reduceLeDiff,reduceCtorEq,a7,a0,a1,a4,a5,a6]at b0 b1 b4 b5 b6
  clear fo
  obtain⟨bS,bN,bO,vt,ZN,bT⟩:=bI0
  by_cases hj:(j:Int)<(m:Int)
  ·have fN:∀{e:Env} {gg:Rows} {nx:Nat},(e 8=.int .i64 (IntKind.i64.wrap ((j:Int)+1)))->((e9 gg X bs (A+20+16*(j+1))/\na<=nx/\(∀i:Id,i≠X->i≠⟨105001001,σ.next+1⟩->i.bj<na->gg i=ga i)/\∃vt,gg ⟨105001001,σ.next+1⟩=some ⟨true,2,[[vg,vt]]⟩/\gy nR na gg nx vt (j+1)))->∃m0,m0<(m)-j/\∃j:Nat,m0=(m)-j/\j<=(m)/\e 8=.int .i64 (j:Int)/\((e9 gg X bs (A+20+16*j)/\na<=nx/\(∀i:Id,i≠X->i≠⟨105001001,σ.next+1⟩->i.bj<na->gg i=ga i)/\∃vt,gg ⟨105001001,σ.next+1⟩=some ⟨true,2,[[vg,vt]]⟩/\gy nR na gg nx vt j)):=fun x1 x2=>⟨_,ah,j+1,rfl,ah,(by rw[x1,aK ah]),x2⟩
   have qG:=lZ (j:Int) ah ah
   have Eu:=js (j:Int) ah
   have nk:j<=16777215:=ah
   generalize ji (j:Int)=dt at qG Eu
   have eQ:(#[116]:Array UInt8).size+dt.size<=9223372036854775807:=by
    have:(#[116]:Array UInt8).size=1:=rfl
    omega
   have lV:((⟨#[116]⟩:ByteArray)++dt).size<=64:=by
    rw[iw]
    have:(⟨#[116]⟩:ByteArray).size=1:=rfl
    omega
   (have zF:=tw @b8 (tw @b0 (tw @b1 (tw @b4 (tw @b5 (tw @b6 (tw @hj @eQ))))));(repeat(first|((repeat(revert N;apply Pn.out));refine wk zF ?_;(repeat(apply Pn.mk;intro N Z)))|((try apply Or.inl);refine⟨_,ay.x (qG) (sd zF),?_⟩;apply Z;clear Z N)));try clear zF)
   obtain⟨gb,nb⟩:=st_b
   (try dsimp only at bS bN bO ZN bT)
   have Qy:=dh (i:=X) (n:=nb) ah
   refine bz (fun n env st=>∃i:Nat,n=(4)-i/\i<=(4)/\env 10=.int .i64 (i:Int)/\((e9 st.get X bs (A+20+16*j+4*i)/\nb+2<=st.next/\(∀u:Id,u≠X->u.bj<nb+1->st.get u=gb u)/\∃ve,st.get ⟨105010004,nb+1⟩=some ⟨true,2,[[.str ((⟨#[116]⟩:ByteArray)++dt),ve]]⟩/\BZ nR (nb+1) st.get st.next ve i))) (4) ⟨0,ah,ah,sl (tw @b8 (tw @b0 (tw @b1 (tw @b4 (tw @b5 @b6))))),by(try dsimp only);exact⟨(by
    obtain⟨za,zz,hz,gX⟩:=bS
    exact⟨za,zz,ah,by simp only[go_sem, ↓reduceIte,Nat.reduceEqDiff,Nat.reduceAdd,Nat.reduceSub,Nat.reduceLeDiff,reduceCtorEq,Qy]<;>exact gX⟩),ah,fun u h1 h2=>(by have hu:=dh h2;simp only[go_sem, ↓reduceIte,Nat.reduceEqDiff,Nat.reduceAdd,Nat.reduceSub,Nat.reduceLeDiff,reduceCtorEq,hu]),.br,sl @Nat.zero_add,.inl ⟨rfl,rfl⟩⟩⟩ ?_
   rintro n_c env_c st_c ⟨i,rfl,cle,gz,cI0⟩ il
   have c0:=il 0 (by kernel_rfl);have c1:=il 1 (by kernel_rfl);have c4:=il 4 (by kernel_rfl);have c5:=il 5 (by kernel_rfl);have c6:=il 6 (by kernel_rfl);have c8:=il 8 (by kernel_rfl);have c9:=il 9 (by kernel_rfl)
   simp only[go_sem, ↓reduceIte,Nat.reduceEqDiff,Nat.reduceAdd,Nat.reduceSub,Nat.reduceLeDiff,reduceCtorEq,b8,b0,b1,b4,b5,b6]at c0 c1 c4 c5 c6 c8 c9
   clear il
   obtain⟨cS,cN,cO,ve,Yq,cE⟩:=cI0
   by_cases hi:(i:Int)<4
   ·have fJ:∀{e:Env} {gg:Rows} {nx:Nat},(e 10=.int .i64 (IntKind.i64.wrap ((i:Int)+1)))->((e9 gg X bs (A+20+16*j+4*(i+1))/\nb+2<=nx/\(∀u:Id,u≠X->u.bj<nb+1->gg u=gb u)/\∃ve,gg ⟨105010004,nb+1⟩=some ⟨true,2,[[.str ((⟨#[116]⟩:ByteArray)++dt),ve]]⟩/\BZ nR (nb+1) gg nx ve (i+1)))->∃m0,m0<(4)-i/\∃i:Nat,m0=(4)-i/\i<=(4)/\e 10=.int .i64 (i:Int)/\((e9 gg X bs (A+20+16*j+4*i)/\nb+2<=nx/\(∀u:Id,u≠X->u.bj<nb+1->gg u=gb u)/\∃ve,gg ⟨105010004,nb+1⟩=some ⟨true,2,[[.str ((⟨#[116]⟩:ByteArray)++dt),ve]]⟩/\BZ nR (nb+1) gg nx ve i)):=fun x1 x2=>⟨_,ah,i+1,rfl,ah,(by rw[x1,aK ah]),x2⟩
    (try((repeat(revert N;apply Pn.out));refine wk (tw @gz (tw @c0 (tw @c1 (tw @c4 (tw @c5 (tw @c6 (tw @c8 (tw @c9 @hi)))))))) ?_;(repeat(apply Pn.mk;intro N Z))))
    refine .inr (aE _ _ _ _ _ (fun r σ3 hq=>?_) (BD bs hb iD X 3 _ ah _ cS))
    obtain⟨b,rfl,h3,k3⟩:=hq
    obtain⟨g3,x3⟩:=σ3
    (try dsimp only at h3)
    have n3:=k3.1
    (try dsimp only at n3)
    have GJ:=(k3.2 ⟨105010004,nb+1⟩ (fun e=>by rw[<-e]at hX;(try dsimp only at hX);omega) aQ).trans Yq
    have Io:∀u:Id,u≠X->u.bj<nb+1->g3 u=gb u:=fun u h1 h2=>(k3.2 u h1 aQ).trans (cO u h1 h2)
    have g3E:BZ nR (nb+1) g3 x3 ve i:=by
     rcases cE with h|⟨i0,e,rfl,q1,q2,q3,l,q4,q5⟩
     ·exact .inl h
     ·exact .inr ⟨i0,e,rfl,q1,q2,ah,l,q4,(k3.2 e (fun h=>by rw[h]at q2;omega) aQ).trans q5⟩
    (try dsimp only at GJ)
    clear k3
    apply Z
    clear Z N
    cases b
    ·rcases g3E with⟨i0,rfl⟩|⟨i0,e,rfl,q1,q2,q3,l,q4,q5⟩
     ·(try((repeat(revert N;apply Pn.out));refine wk (tw @gz (tw @c0 (tw @c1 (tw @c4 (tw @c5 (tw @c6 (tw @c8 @c9))))))) ?_;(repeat(apply Pn.mk;intro N Z))))
      refine dv ?_ ?_<;>(try((repeat(revert N;apply Pn.out));refine wk (tw @gz (tw @c0 (tw @c1 (tw @c4 (tw @c5 (tw @c6 (tw @c8 (tw @c9 @GJ)))))))) ?_;(repeat(apply Pn.mk;intro N Z))))
      all_goals
       refine .inr (aE _ _ _ _ _ (fun r σ4 hq=>?_) (gP bs hb iD X (k:Int) _ ah _ h3))
       obtain⟨z,rfl,z0,z1,h4,k4⟩:=hq
       obtain⟨g4,x4⟩:=σ4
       (try dsimp only at h4)
       have n4:=k4.1
       (try dsimp only at n4)
       have LX:=(k4.2 ⟨105010004,nb+1⟩ (fun e=>by rw[<-e]at hX;(try dsimp only at hX);omega) aQ).trans GJ
       have GK:∀u:Id,u≠X->u.bj<nb+1->g4 u=gb u:=fun u h1 h2=>(k4.2 u h1 aQ).trans (Io u h1 h2)
       (try dsimp only at LX)
       clear k4
       apply Z
       clear Z N
       (try((repeat(revert N;apply Pn.out));refine wk (tw @gz (tw @c0 (tw @c1 (tw @c4 (tw @c5 (tw @c6 (tw @c8 (tw @c9 @LX)))))))) ?_;(repeat(apply Pn.mk;intro N Z))))
       obtain⟨za,zz,hz,gX⟩:=h4
       have FQ:=dh (i:=X) (n:=x4) ah
       have Qy:=dh (i:=X) (n:=nb) ah
       exact fJ (sd (tw @gz (tw @c0 (tw @c1 (tw @c4 (tw @c5 (tw @c6 (tw @c8 @c9)))))))) (by(try dsimp only);exact⟨⟨za,zz,ah,by simp only[go_sem, ↓reduceIte,Nat.reduceEqDiff,Nat.reduceAdd,Nat.reduceSub,Nat.reduceLeDiff,reduceCtorEq,FQ,Qy]<;>exact gX⟩,ah,fun u h1 h2=>(by
        have h8:=dh (i:=u) (n:=x4) ah
        have h9:∀s,(u=⟨s,nb+1⟩)=False:=fun s=>eq_false fun e=>by rw[e]at h2;(try dsimp only at h2);omega
        simp only[go_sem, ↓reduceIte,Nat.reduceEqDiff,Nat.reduceAdd,Nat.reduceSub,Nat.reduceLeDiff,reduceCtorEq,h8,h9]<;>exact GK u h1 h2),.own ⟨105016007,x4⟩ 0 1,sl @Nat.zero_add,.inr ⟨ah,_,by rw[i0],.inr rfl,aQ,aQ,[IntKind.i64.wrap (1+z)],by rw[i0];rfl,sl @Nat.zero_add⟩⟩)
     ·have SV:i<=16777215:=ah
      have q7:(l.map aJ).length=i:=by simp[q4]
      have nB9:(e=⟨105010004,nb+1⟩)=False/\((⟨105010004,nb+1⟩:Id)=e)=False:=by
       have:e≠⟨105010004,nb+1⟩:=fun h=>by rw[h]at q1;simp[nR]at q1
       exact⟨eq_false this,eq_false fun h=>this h.symm⟩
      (try((repeat(revert N;apply Pn.out));refine wk (tw @gz (tw @c0 (tw @c1 (tw @c4 (tw @c5 (tw @c6 (tw @c8 @c9))))))) ?_;(repeat(apply Pn.mk;intro N Z))))
      refine dv ?_ ?_<;>(try((repeat(revert N;apply Pn.out));refine wk (tw @gz (tw @c0 (tw @c1 (tw @c4 (tw @c5 (tw @c6 (tw @c8 (tw @c9 @GJ)))))))) ?_;(repeat(apply Pn.mk;intro N Z))))
      all_goals
       refine .inr (aE _ _ _ _ _ (fun r σ4 hq=>?_) (gP bs hb iD X (k:Int) _ ah _ h3))
       obtain⟨z,rfl,z0,z1,h4,k4⟩:=hq
       obtain⟨g4,x4⟩:=σ4
       (try dsimp only at h4)
       have n4:=k4.1
       (try dsimp only at n4)
       have LX:=(k4.2 ⟨105010004,nb+1⟩ (fun e=>by rw[<-e]at hX;(try dsimp only at hX);omega) aQ).trans GJ
       have GK:∀u:Id,u≠X->u.bj<nb+1->g4 u=gb u:=fun u h1 h2=>(k4.2 u h1 aQ).trans (Io u h1 h2)
       (try dsimp only at LX)
       have q8:=(k4.2 e (fun h=>by rw[h]at q2;omega) aQ).trans q5
       (try dsimp only at q8)
       clear k4
       apply Z
       clear Z N
       have ve4:=dh (i:=e) (n:=x4) ah
       (try((repeat(revert N;apply Pn.out));refine wk (tw @gz (tw @c0 (tw @c1 (tw @c4 (tw @c5 (tw @c6 (tw @c8 (tw @c9 (tw @LX (tw @q8 (tw @q7 (tw @SV (tw @ve4 @nB9))))))))))))) ?_;(repeat(apply Pn.mk;intro N Z))))
       obtain⟨za,zz,hz,gX⟩:=h4
       have FQ:=dh (i:=X) (n:=x4) ah
       have Qy:=dh (i:=X) (n:=nb) ah
       have hXe:(X=e)=False/\(e=X)=False:=⟨eq_false fun h=>by rw[<-h]at q2;omega,eq_false fun h=>by rw[h]at q2;omega⟩
       exact fJ (sd (tw @gz (tw @c0 (tw @c1 (tw @c4 (tw @c5 (tw @c6 (tw @c8 @c9)))))))) (by(try dsimp only);exact⟨⟨za,zz,ah,by simp only[go_sem, ↓reduceIte,Nat.reduceEqDiff,Nat.reduceAdd,Nat.reduceSub,Nat.reduceLeDiff,reduceCtorEq,FQ,Qy,hXe]<;>exact gX⟩,ah,fun u h1 h2=>(by
        have h8:=dh (i:=u) (n:=x4) ah
        have h9:∀s,(u=⟨s,nb+1⟩)=False:=fun s=>eq_false fun e=>by rw[e]at h2;(try dsimp only at h2);omega
        have h7:(u=e)=False:=eq_false fun h=>by rw[h]at h2;omega
        simp only[go_sem, ↓reduceIte,Nat.reduceEqDiff,Nat.reduceAdd,Nat.reduceSub,Nat.reduceLeDiff,reduceCtorEq,h8,h9,h7]<;>exact GK u h1 h2),.own ⟨105016007,x4⟩ 0 (i+1),sl @Nat.zero_add,.inr ⟨ah,_,rfl,.inr rfl,aQ,aQ,l++[IntKind.i64.wrap (1+z)],by simp[q4],by rw[List.map_append];simp only[go_sem, ↓reduceIte,Nat.reduceEqDiff,Nat.reduceAdd,Nat.reduceSub,Nat.reduceLeDiff,reduceCtorEq]<;>rfl⟩⟩)
    ·rcases g3E with⟨i0,rfl⟩|⟨i0,e,rfl,q1,q2,q3,l,q4,q5⟩
     ·(try((repeat(revert N;apply Pn.out));refine wk (tw @gz (tw @c0 (tw @c1 (tw @c4 (tw @c5 (tw @c6 (tw @c8 (tw @c9 @GJ)))))))) ?_;(repeat(apply Pn.mk;intro N Z))))
      obtain⟨za,zz,hz,gX⟩:=h3
      have FQ:=dh (i:=X) (n:=x3) ah
      have Qy:=dh (i:=X) (n:=nb) ah
      exact fJ (sd (tw @gz (tw @c0 (tw @c1 (tw @c4 (tw @c5 (tw @c6 (tw @c8 @c9)))))))) (by(try dsimp only);exact⟨⟨za,zz,ah,by simp only[go_sem, ↓reduceIte,Nat.reduceEqDiff,Nat.reduceAdd,Nat.reduceSub,Nat.reduceLeDiff,reduceCtorEq,FQ,Qy]<;>exact gX⟩,ah,fun u h1 h2=>(by
       have h8:=dh (i:=u) (n:=x3) ah
       have h9:∀s,(u=⟨s,nb+1⟩)=False:=fun s=>eq_false fun e=>by rw[e]at h2;(try dsimp only at h2);omega
       simp only[go_sem, ↓reduceIte,Nat.reduceEqDiff,Nat.reduceAdd,Nat.reduceSub,Nat.reduceLeDiff,reduceCtorEq,h8,h9]<;>exact Io u h1 h2),.own ⟨105015003,x3+1⟩ 0 1,sl @Nat.zero_add,.inr ⟨ah,_,by rw[i0],.inl rfl,aQ,aQ,[0],by rw[i0];rfl,sl @Nat.zero_add⟩⟩)
     ·have SV:i<=16777215:=ah
      have q7:(l.map aJ).length=i:=by simp[q4]
      have ve3:=dh q3
      have nB9:(e=⟨105010004,nb+1⟩)=False/\((⟨105010004,nb+1⟩:Id)=e)=False:=by
       have:e≠⟨105010004,nb+1⟩:=fun h=>by rw[h]at q1;simp[nR]at q1
       exact⟨eq_false this,eq_false fun h=>this h.symm⟩
      (try((repeat(revert N;apply Pn.out));refine wk (tw @gz (tw @c0 (tw @c1 (tw @c4 (tw @c5 (tw @c6 (tw @c8 (tw @c9 (tw @GJ (tw @q5 (tw @q7 (tw @SV (tw @ve3 @nB9))))))))))))) ?_;(repeat(apply Pn.mk;intro N Z))))
      obtain⟨za,zz,hz,gX⟩:=h3
      have FQ:=dh (i:=X) (n:=x3) ah
      have Qy:=dh (i:=X) (n:=nb) ah
      have hXe:(X=e)=False/\(e=X)=False:=⟨eq_false fun h=>by rw[<-h]at q2;omega,eq_false fun h=>by rw[h]at q2;omega⟩
      exact fJ (sd (tw @gz (tw @c0 (tw @c1 (tw @c4 (tw @c5 (tw @c6 (tw @c8 @c9)))))))) (by(try dsimp only);exact⟨⟨za,zz,ah,by simp only[go_sem, ↓reduceIte,Nat.reduceEqDiff,Nat.reduceAdd,Nat.reduceSub,Nat.reduceLeDiff,reduceCtorEq,FQ,Qy,hXe]<;>exact gX⟩,ah,fun u h1 h2=>(by
       have h8:=dh (i:=u) (n:=x3) ah
       have h9:∀s,(u=⟨s,nb+1⟩)=False:=fun s=>eq_false fun e=>by rw[e]at h2;(try dsimp only at h2);omega
       have h7:(u=e)=False:=eq_false fun h=>by rw[h]at h2;omega
       simp only[go_sem, ↓reduceIte,Nat.reduceEqDiff,Nat.reduceAdd,Nat.reduceSub,Nat.reduceLeDiff,reduceCtorEq,h8,h9,h7]<;>exact Io u h1 h2),.own ⟨105015003,x3+1⟩ 0 (i+1),sl @Nat.zero_add,.inr ⟨ah,_,rfl,.inl rfl,aQ,aQ,l++[0],by simp[q4],by rw[List.map_append];simp only[go_sem, ↓reduceIte,Nat.reduceEqDiff,Nat.reduceAdd,Nat.reduceSub,Nat.reduceLeDiff,reduceCtorEq]<;>rfl⟩⟩)
   ·have YW:i=4:=ah
    subst YW
    obtain⟨gc,nc⟩:=st_c
    (try dsimp only at cS cN cO Yq cE)
    rcases cE with⟨h,_⟩|⟨_,e,rfl,ce⟩
    ·omega
    have cB5:=(cO ⟨105001001,σ.next+1⟩ (fun e=>by rw[<-e]at hX;(try dsimp only at hX);omega) aQ).trans ZN
    rcases bT with⟨j0,rfl⟩|⟨j0,o,rows,rfl,hr,go,hT,hs,j5,pJ⟩
    ·(try((repeat(revert N;apply Pn.out));refine wk (tw @b8 (tw @b0 (tw @b1 (tw @b4 (tw @b5 (tw @b6 (tw @gz (tw @c0 (tw @c1 (tw @c4 (tw @c5 (tw @c6 (tw @c8 (tw @c9 (tw @hi (tw @cB5 @Yq)))))))))))))))) ?_;(repeat(apply Pn.mk;intro N Z))))
     obtain⟨za,zz,hz,gX⟩:=cS
     have RK:=dh (i:=X) (n:=nc) ah
     obtain⟨d1,d2,d3,l,d4,d5⟩:=ce
     have ve:=dh (i:=e) (n:=nc) d3
     have n5:∀s,(e=⟨s,σ.next+1⟩)=False:=fun s=>eq_false fun h=>by rw[h]at d2;(try dsimp only at d2);omega
     exact fN (sd (tw @b8 (tw @b0 (tw @b1 (tw @b4 (tw @b5 (tw @b6 (tw @gz (tw @c0 (tw @c1 (tw @c4 (tw @c5 (tw @c6 (tw @c8 @c9)))))))))))))) (by(try dsimp only);exact⟨⟨za,zz,ah,by simp only[go_sem, ↓reduceIte,Nat.reduceEqDiff,Nat.reduceAdd,Nat.reduceSub,Nat.reduceLeDiff,reduceCtorEq,RK,vX]<;>exact gX⟩,ah,fun u h1 h2 h3=>(by
      have h8:=dh (i:=u) (n:=nc) ah
      have h9:=eq_false h2
      simp only[go_sem, ↓reduceIte,Nat.reduceEqDiff,Nat.reduceAdd,Nat.reduceSub,Nat.reduceLeDiff,reduceCtorEq,h8,h9]<;>exact(cO u h1 ah).trans (bO u h1 h2 h3)),.own ⟨105017004,nc+1⟩ 0 1,sl @Nat.zero_add,.inr ⟨ah,⟨105017004,nc+1⟩,[[.str ((⟨#[116]⟩:ByteArray)++dt),.own e 0 4]],by rw[j0],by rw[j0];rfl,sl @Nat.zero_add,fun row fy=>⟨_,e,List.mem_singleton.1 fy,lV,d1,ah,ah,l,d4,by simp only[go_sem, ↓reduceIte,Nat.reduceEqDiff,Nat.reduceAdd,Nat.reduceSub,Nat.reduceLeDiff,reduceCtorEq,ve,n5]<;>exact d5⟩,by simp[nR],aQ,aQ⟩⟩)
    ·have Z0:=(cO o (fun h=>by rw[h]at j5;omega) ah).trans go
     have vo:=dh (i:=o) (n:=nc) ah
     have o5:∀s,(o=⟨s,σ.next+1⟩)=False/\((⟨s,σ.next+1⟩:Id)=o)=False:=fun s=>⟨eq_false fun e=>by rw[e]at j5;(try dsimp only at j5);omega,eq_false fun e=>by rw[<-e]at j5;(try dsimp only at j5);omega⟩
     (try((repeat(revert N;apply Pn.out));refine wk (tw @b8 (tw @b0 (tw @b1 (tw @b4 (tw @b5 (tw @b6 (tw @gz (tw @c0 (tw @c1 (tw @c4 (tw @c5 (tw @c6 (tw @c8 (tw @c9 (tw @hi (tw @cB5 (tw @Yq (tw @Z0 (tw @vo (tw @o5 (tw @hr @nk))))))))))))))))))))) ?_;(repeat(apply Pn.mk;intro N Z))))
     obtain⟨za,zz,hz,gX⟩:=cS
     have RK:=dh (i:=X) (n:=nc) ah
     obtain⟨d1,d2,d3,l,d4,d5⟩:=ce
     have ve:=dh (i:=e) (n:=nc) d3
     have n5:∀s,(e=⟨s,σ.next+1⟩)=False:=fun s=>eq_false fun h=>by rw[h]at d2;(try dsimp only at d2);omega
     have ne:(e=o)=False:=eq_false fun h=>hs (by rw[<-h];exact d1)
     have nX:(X=o)=False:=eq_false fun h=>by rw[<-h]at j5;omega
     have hT2:=hT.frame (g':=gc) (n':=nc) ah fun u h1 h2 h3=>cO u (fun h=>by rw[h]at h2;omega) ah
     exact fN (sd (tw @b8 (tw @b0 (tw @b1 (tw @b4 (tw @b5 (tw @b6 (tw @gz (tw @c0 (tw @c1 (tw @c4 (tw @c5 (tw @c6 (tw @c8 @c9)))))))))))))) (by(try dsimp only);exact⟨⟨za,zz,ah,by simp only[go_sem, ↓reduceIte,Nat.reduceEqDiff,Nat.reduceAdd,Nat.reduceSub,Nat.reduceLeDiff,reduceCtorEq,RK,vX,nX]<;>exact gX⟩,ah,fun u h1 h2 h3=>(by
      have h8:=dh (i:=u) (n:=nc) ah
      have h9:=eq_false h2
      have h7:(u=o)=False:=eq_false fun h=>by rw[h]at h3;omega
      simp only[go_sem, ↓reduceIte,Nat.reduceEqDiff,Nat.reduceAdd,Nat.reduceSub,Nat.reduceLeDiff,reduceCtorEq,h8,h9,h7]<;>exact(cO u h1 ah).trans (bO u h1 h2 h3)),.own ⟨105017004,nc+1⟩ 0 (j+1),sl @Nat.zero_add,.inr ⟨ah,⟨105017004,nc+1⟩,rows++[[.str ((⟨#[116]⟩:ByteArray)++dt),.own e 0 4]],rfl,by simp[hr],sl @Nat.zero_add,(hT2.frame (n':=nc+1+1+1) ah fun u h1 h2 h3=>(by
       have h8:=dh h3
       have h9:∀s,(u=⟨s,σ.next+1⟩)=False:=fun s=>eq_false fun h=>by rw[h]at h2;(try dsimp only at h2);omega
       have h7:(u=o)=False:=eq_false fun h=>hs (by rw[<-h];exact h1)
       simp only[go_sem, ↓reduceIte,Nat.reduceEqDiff,Nat.reduceAdd,Nat.reduceSub,Nat.reduceLeDiff,reduceCtorEq,h8,h9,h7])).snoc lV ⟨d1,ah,ah,l,d4,by simp only[go_sem, ↓reduceIte,Nat.reduceEqDiff,Nat.reduceAdd,Nat.reduceSub,Nat.reduceLeDiff,reduceCtorEq,ve,n5,ne]<;>exact d5⟩,by simp[nR],aQ,aQ⟩⟩)
  ·have hjm:j=m:=ah
   subst hjm
   have bB4:=(bO ⟨105000000,σ.next⟩ (fun e=>by rw[<-e]at hX;(try dsimp only at hX);omega) (fun e=>by injection e with e1 _;revert e1;decide) aQ).trans Gl
   have bG:=aG.frame (g':=st_b.get) (n':=st_b.next) bN fun u h1 h2=>bO u (fun e=>by rw[e]at h1;omega) (fun e=>by rw[e]at h1;(try dsimp only at h1);omega) h2
   obtain⟨c1,c2⟩:=bG.cell
   obtain⟨c3,c4⟩:=bT.cell
   unfold AV.cells at c1 c3
   unfold AV.cell at c2 c4
   (try((repeat(revert N;apply Pn.out));refine wk (tw @b8 (tw @b0 (tw @b1 (tw @b4 (tw @b5 (tw @b6 (tw @hj (tw @bB4 (tw @ZN (tw @c1 (tw @c2 (tw @c3 @c4)))))))))))) ?_;(repeat(apply Pn.mk;intro N Z))))
   obtain⟨za,zz,hz,gX⟩:=bS
   exact fV (.inl rfl) (vs:=[.agg [vg,vt]]) (sd (tw @b8 (tw @b0 (tw @b1 (tw @b4 (tw @b5 (tw @b6 (tw @c1 (tw @c2 (tw @c3 @c4)))))))))) ⟨vg,vt,_,rfl,(bG.frame aQ fun u h1 h2=>(by
    have h8:∀s,(u=⟨s,σ.next⟩)=False:=fun s=>eq_false fun e=>by rw[e]at h1;(try dsimp only at h1);omega
    simp only[go_sem, ↓reduceIte,Nat.reduceEqDiff,Nat.reduceAdd,Nat.reduceSub,Nat.reduceLeDiff,reduceCtorEq,h8])).since ah,(bT.frame aQ fun u h1 h2=>(by
    have h8:∀s,(u=⟨s,σ.next⟩)=False:=fun s=>eq_false fun e=>by rw[e]at h1;(try dsimp only at h1);omega
    simp only[go_sem, ↓reduceIte,Nat.reduceEqDiff,Nat.reduceAdd,Nat.reduceSub,Nat.reduceLeDiff,reduceCtorEq,h8])).since ah,Ov.1,Ov.2,⟨za,zz,ah,by simp only[go_sem, ↓reduceIte,Nat.reduceEqDiff,Nat.reduceAdd,Nat.reduceSub,Nat.reduceLeDiff,reduceCtorEq,vX]<;>exact gX⟩,aQ,fun u h1 h2=>(by
    have h8:=dh h2
    simp only[go_sem, ↓reduceIte,Nat.reduceEqDiff,Nat.reduceAdd,Nat.reduceSub,Nat.reduceLeDiff,reduceCtorEq,h8]<;>exact(bO u h1 (fun e=>by rw[e]at h2;(try dsimp only at h2);omega) ah).trans (aO u h1 h2))⟩
end Go.Proofs.YtiabgllilcfheaaGreat.V
