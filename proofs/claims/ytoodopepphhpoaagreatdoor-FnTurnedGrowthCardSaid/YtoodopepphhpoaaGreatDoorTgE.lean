/-
 DERIVED: THE SHELF's CONTRACTS AT THIS DUMP, IN PLAIN WORDS (tools/lay-plain.mjs out of 'YtoodopepphhpoaaGreatDoorVShelfSrc.lean', which tools/lay-shelf.mjs wrote): THE SAME DECLARATIONS UNDER THE SAME NAMES: 'import', 'namespace', 'open', 'def', 'theorem' AND NOTHING ELSE: no command of the shelf's: FOR A HAND-IN. Each laying: the table of numbers ('.._ren') and one theorem, a field a fact of the dump's own or the kernel's comparison; each contract: ONE APPLICATION.
-/
import Derived.Shelf.SlSortCmp.NoneTotal
import Derived.Ground.SlsfProg
import Derived.Test.YtoodopepphhpoaaGreatDoorProg
import Derived.Test.YtoodopepphhpoaaGreatDoorTgD
import Derived.Test.YtoodopepphhpoaaGreatDoorTgB
import Derived.Maps.RangeRun
import Derived.Test.YtoodopepphhpoaaGreatDoorChecked
import Derived.RangeFuncNested
import Derived.RangeFuncBound
import Derived.RangeFuncCalls
import Derived.RangeFuncLeaves
import Derived.Shelf.Abstract
import Derived.Shelf.RegionOpen
import Derived.WalkKit
import Derived.OwnWalkIn
import Derived.TacticsInMore
import Derived.LoopNIn
import Derived.LoopIn
import Derived.BigQuiet
import Derived.Test.YtoodopepphhpoaaGreatDoorTgC
import Derived.RangeFuncBox
import Derived.RangeFuncWrites
import Derived.Maps.AppendAt
set_option linter.unusedVariables false
set_option linter.unusedSimpArgs false
set_option maxRecDepth 100000
set_option maxHeartbeats 16000000
namespace Go.Proofs
open Go.Shelf
def Tryz.IP:Go.Shelf.Ren:=⟨fun|6=>156|15=>166|14=>175|28=>186|29=>187|20=>198|21=>199|22=>200|23=>201|24=>202|25=>203|26=>204|27=>205|46=>217|47=>208|48=>209|49=>218|50=>219|57=>224|n=>n,fun|22=>46|24=>41|25=>182|3=>3|39=>168|0=>0|53=>238|55=>100|4=>4|46=>232|45=>231|50=>148|5=>5|9=>9|66=>260|70=>264|76=>279|77=>280|n=>n,fun|n=>n⟩
theorem Tryz.Pk:Go.Proofs.SlLaysF0.n6 Tryz.prog Tryz.IP:={
 mixed:=by kernel_rfl
 f6:=⟨Tryz.f156.name,by decide,Tryz.func156.trans (congrArg some (by kernel_rfl))⟩
 f14:=⟨Tryz.f175.name,by decide,Tryz.func175.trans (congrArg some (by kernel_rfl))⟩
 f15:=Tryz.func166.trans (congrArg some (by kernel_rfl))
 f20:=⟨Tryz.f198.name,by decide,Tryz.func198.trans (congrArg some (by kernel_rfl))⟩
 f21:=⟨Tryz.f199.name,by decide,Tryz.func199.trans (congrArg some (by kernel_rfl))⟩
 f22:=⟨Tryz.f200.name,by decide,Tryz.func200.trans (congrArg some (by kernel_rfl))⟩
 f23:=⟨Tryz.f201.name,by decide,Tryz.func201.trans (congrArg some (by kernel_rfl))⟩
 f24:=⟨Tryz.f202.name,by decide,Tryz.func202.trans (congrArg some (by kernel_rfl))⟩
 f25:=⟨Tryz.f203.name,by decide,Tryz.func203.trans (congrArg some (by kernel_rfl))⟩
 f26:=⟨Tryz.f204.name,by decide,Tryz.func204.trans (congrArg some (by kernel_rfl))⟩
 f27:=⟨Tryz.f205.name,by decide,Tryz.func205.trans (congrArg some (by kernel_rfl))⟩
 f28:=Tryz.func186.trans (congrArg some (by kernel_rfl))
 f29:=Tryz.func187.trans (congrArg some (by kernel_rfl))
 f46:=⟨Tryz.f217.name,by decide,Tryz.func217.trans (congrArg some (by kernel_rfl))⟩
 f47:=Tryz.func208.trans (congrArg some (by kernel_rfl))
 f48:=Tryz.func209.trans (congrArg some (by kernel_rfl))
 f49:=⟨Tryz.f218.name,by decide,Tryz.func218.trans (congrArg some (by kernel_rfl))⟩
 f50:=⟨Tryz.f219.name,by decide,Tryz.func219.trans (congrArg some (by kernel_rfl))⟩
 f57:=⟨Tryz.f224.name,by decide,Tryz.func224.trans (congrArg some (by kernel_rfl))⟩
 t0:=Tryz.underlying0
 a0:=Tryz.isAgg0
 z0:=Tryz.sizeOf0
 v0:=Tryz.zeroValue0
 t3:=Tryz.underlying3
 a3:=Tryz.isAgg3
 z3:=Tryz.sizeOf3
 v3:=Tryz.zeroValue3
 t4:=Tryz.underlying4
 a4:=Tryz.isAgg4
 z4:=Tryz.sizeOf4
 v4:=Tryz.zeroValue4
 t5:=Tryz.underlying5
 a5:=Tryz.isAgg5
 z5:=Tryz.sizeOf5
 v5:=Tryz.zeroValue5
 t9:=Tryz.underlying9
 a9:=Tryz.isAgg9
 z9:=Tryz.sizeOf9
 v9:=Tryz.zeroValue9
 t22:=Tryz.underlying46
 a22:=Tryz.isAgg46
 z22:=Tryz.sizeOf46
 v22:=Tryz.zeroValue46
 t25:=Tryz.underlying182
 a25:=Tryz.isAgg182
 z25:=Tryz.sizeOf182
 v25:=Tryz.zeroValue182
 t39:=Tryz.underlying168
 a39:=Tryz.isAgg168
 z39:=Tryz.sizeOf168
 v39:=Tryz.zeroValue168
 t45:=Tryz.underlying231
 a45:=Tryz.isAgg231
 z45:=Tryz.sizeOf231
 v45:=Tryz.zeroValue231
 t46:=Tryz.underlying232
 a46:=Tryz.isAgg232
 z46:=Tryz.sizeOf232
 v46:=Tryz.zeroValue232
 t50:=Tryz.underlying148
 a50:=Tryz.isAgg148
 z50:=Tryz.sizeOf148
 v50:=Tryz.zeroValue148
 t53:=Tryz.underlying238
 a53:=Tryz.isAgg238
 z53:=Tryz.sizeOf238
 v53:=Tryz.zeroValue238
 t55:=Tryz.underlying100
 a55:=Tryz.isAgg100
 z55:=Tryz.sizeOf100
 v55:=Tryz.zeroValue100
 t66:=Tryz.underlying260
 a66:=Tryz.isAgg260
 z66:=Tryz.sizeOf260
 v66:=Tryz.zeroValue260
 t70:=Tryz.underlying264
 a70:=Tryz.isAgg264
 z70:=Tryz.sizeOf264
 v70:=Tryz.zeroValue264
 t76:=Tryz.underlying279
 a76:=Tryz.isAgg279
 z76:=Tryz.sizeOf279
 v76:=Tryz.zeroValue279
 t77:=Tryz.underlying280
 a77:=Tryz.isAgg280
 z77:=Tryz.sizeOf280
 v77:=Tryz.zeroValue280}
def Tryz.IM:Go.Shelf.Ren:=⟨fun|6=>139|15=>166|14=>165|28=>186|29=>187|20=>178|21=>179|22=>180|23=>181|24=>182|25=>183|26=>184|27=>185|46=>207|47=>208|48=>209|49=>210|50=>211|57=>220|n=>n,fun|22=>28|24=>59|25=>183|3=>3|39=>168|0=>0|53=>238|55=>100|4=>4|46=>232|45=>231|50=>148|5=>5|9=>9|66=>260|70=>264|76=>279|77=>280|n=>n,fun|n=>n⟩
theorem Tryz.Pj:Go.Proofs.SlLaysF0.n6 Tryz.prog Tryz.IM:={
 mixed:=by kernel_rfl
 f6:=⟨Tryz.f139.name,by decide,Tryz.func139.trans (congrArg some (by kernel_rfl))⟩
 f14:=⟨Tryz.f165.name,by decide,Tryz.func165.trans (congrArg some (by kernel_rfl))⟩
 f15:=Tryz.func166.trans (congrArg some (by kernel_rfl))
 f20:=⟨Tryz.f178.name,by decide,Tryz.func178.trans (congrArg some (by kernel_rfl))⟩
 f21:=⟨Tryz.f179.name,by decide,Tryz.func179.trans (congrArg some (by kernel_rfl))⟩
 f22:=⟨Tryz.f180.name,by decide,Tryz.func180.trans (congrArg some (by kernel_rfl))⟩
 f23:=⟨Tryz.f181.name,by decide,Tryz.func181.trans (congrArg some (by kernel_rfl))⟩
 f24:=⟨Tryz.f182.name,by decide,Tryz.func182.trans (congrArg some (by kernel_rfl))⟩
 f25:=⟨Tryz.f183.name,by decide,Tryz.func183.trans (congrArg some (by kernel_rfl))⟩
 f26:=⟨Tryz.f184.name,by decide,Tryz.func184.trans (congrArg some (by kernel_rfl))⟩
 f27:=⟨Tryz.f185.name,by decide,Tryz.func185.trans (congrArg some (by kernel_rfl))⟩
 f28:=Tryz.func186.trans (congrArg some (by kernel_rfl))
 f29:=Tryz.func187.trans (congrArg some (by kernel_rfl))
 f46:=⟨Tryz.f207.name,by decide,Tryz.func207.trans (congrArg some (by kernel_rfl))⟩
 f47:=Tryz.func208.trans (congrArg some (by kernel_rfl))
 f48:=Tryz.func209.trans (congrArg some (by kernel_rfl))
 f49:=⟨Tryz.f210.name,by decide,Tryz.func210.trans (congrArg some (by kernel_rfl))⟩
 f50:=⟨Tryz.f211.name,by decide,Tryz.func211.trans (congrArg some (by kernel_rfl))⟩
 f57:=⟨Tryz.f220.name,by decide,Tryz.func220.trans (congrArg some (by kernel_rfl))⟩
 t0:=Tryz.underlying0
 a0:=Tryz.isAgg0
 z0:=Tryz.sizeOf0
 v0:=Tryz.zeroValue0
 t3:=Tryz.underlying3
 a3:=Tryz.isAgg3
 z3:=Tryz.sizeOf3
 v3:=Tryz.zeroValue3
 t4:=Tryz.underlying4
 a4:=Tryz.isAgg4
 z4:=Tryz.sizeOf4
 v4:=Tryz.zeroValue4
 t5:=Tryz.underlying5
 a5:=Tryz.isAgg5
 z5:=Tryz.sizeOf5
 v5:=Tryz.zeroValue5
 t9:=Tryz.underlying9
 a9:=Tryz.isAgg9
 z9:=Tryz.sizeOf9
 v9:=Tryz.zeroValue9
 t22:=Tryz.underlying28
 a22:=Tryz.isAgg28
 z22:=Tryz.sizeOf28
 v22:=Tryz.zeroValue28
 t25:=Tryz.underlying183
 a25:=Tryz.isAgg183
 z25:=Tryz.sizeOf183
 v25:=Tryz.zeroValue183
 t39:=Tryz.underlying168
 a39:=Tryz.isAgg168
 z39:=Tryz.sizeOf168
 v39:=Tryz.zeroValue168
 t45:=Tryz.underlying231
 a45:=Tryz.isAgg231
 z45:=Tryz.sizeOf231
 v45:=Tryz.zeroValue231
 t46:=Tryz.underlying232
 a46:=Tryz.isAgg232
 z46:=Tryz.sizeOf232
 v46:=Tryz.zeroValue232
 t50:=Tryz.underlying148
 a50:=Tryz.isAgg148
 z50:=Tryz.sizeOf148
 v50:=Tryz.zeroValue148
 t53:=Tryz.underlying238
 a53:=Tryz.isAgg238
 z53:=Tryz.sizeOf238
 v53:=Tryz.zeroValue238
 t55:=Tryz.underlying100
 a55:=Tryz.isAgg100
 z55:=Tryz.sizeOf100
 v55:=Tryz.zeroValue100
 t66:=Tryz.underlying260
 a66:=Tryz.isAgg260
 z66:=Tryz.sizeOf260
 v66:=Tryz.zeroValue260
 t70:=Tryz.underlying264
 a70:=Tryz.isAgg264
 z70:=Tryz.sizeOf264
 v70:=Tryz.zeroValue264
 t76:=Tryz.underlying279
 a76:=Tryz.isAgg279
 z76:=Tryz.sizeOf279
 v76:=Tryz.zeroValue279
 t77:=Tryz.underlying280
 a77:=Tryz.isAgg280
 z77:=Tryz.sizeOf280
 v77:=Tryz.zeroValue280}
end Go.Proofs

namespace Go.Proofs.YtoodopepphhpoaaGreatDoor.V
open Go.RowKit Go.Shelf Go.Lib Go.Sort
theorem Fm (w:World) (a b:Int):Calls Tryz.prog 168 #[.int .i64 a,.int .i64 b] w fun e w'=>e=.returned (.int .i64 (uR a b))/\w=w':=by
 go_enter Tryz.func168,Tryz.ntmps168
 go_wp2_with go_in
 all_goals
  go_ret
  exact⟨J7 (by unfold uR;split<;>(try split)<;>omega),rfl⟩
theorem RP (w:World) (a b:Int) (g:Nat) (ha:w.cell? ⟨g,0,none⟩=some (.int .i64 a)) (hb:w.cell? ⟨g,1,none⟩=some (.int .i64 b)):Calls Tryz.prog 167 #[.slice (some ⟨g,0,none⟩) 2 2] w fun e w'=>e=.returned (.int .i64 (RQ a b))/\w=w':=by
 go_enter Tryz.func167,Tryz.ntmps167
 go_wp2_with fail
 go_loop [8] (fun i=>∃k:Nat,k<=2/\i=.int .i64 k/\Hid ((1<=k->a=0)/\(2<=k->b=0))) (fun i=>2-(intOf i).toNat)
 case atStart=>exact⟨0,ad,rfl,Lib.hid ⟨fun h=>ad,fun h=>ad⟩⟩
 case round=>
  obtain⟨k,hk,rfl,hz⟩:=hrel
  have h3:k=0∨k=1∨k=2:=ad
  rcases h3 with rfl|rfl|rfl
  ·go_wp2_with fail
   ·rename_i h
    go_ret
    exact⟨J7 (by unfold RQ;simp_all),rfl⟩
   ·rename_i h
    go_round
    case rel=>exact⟨1,ad,rfl,Lib.hid ⟨fun _=>by simpa using h,fun h=>ad⟩⟩
    case measure=>simp[intOf]
  ·have h0:=hz.out.1 ad
   replace h0:=Lib.hid h0
   go_wp2_with fail
   ·go_ret
    exact⟨J7 (by unfold RQ;rw[if_pos h0.out]),rfl⟩
   ·rename_i h
    go_round
    case rel=>exact⟨2,ad,rfl,Lib.hid ⟨fun _=>h0.out,fun _=>by simpa using h⟩⟩
    case measure=>simp[intOf]
  ·have h0:=Lib.hid (hz.out.1 ad)
   have h1:=Lib.hid (hz.out.2 ad)
   go_wp2_with fail
   go_ret
   exact⟨J7 (by unfold RQ;rw[if_pos h0.out,h1.out]),rfl⟩
def Grown (w w':World):Prop:=∃(q:Nat) (os:Array Obj),w'=Go.Sort.grow (w.drewN q) os
theorem Grown.refl (w:World):Grown w w:=⟨0, #[],by rw[grow_empty];rfl⟩
theorem Grown.alloc {w w':World} (h:Grown w w') (o:Obj):Grown w (w'.alloc o):=by
 obtain⟨q,os,rfl⟩:=h
 exact⟨q,os++ #[o],by rw[alloc_eq_grow,grow_grow]⟩
theorem Grown.drew {w w':World} (h:Grown w w'):Grown w w'.drew:=by
 obtain⟨q,os,rfl⟩:=h
 exact⟨q+1,os,by rw[drew_grow];rfl⟩
theorem Grown.dN {w w':World} (h:Grown w w') (n:Nat):Grown w (w'.drewN n):=by
 obtain⟨q,os,rfl⟩:=h
 exact⟨q+n,os,by
  show Go.Sort.grow ((w.drewN q).drewN n) os=Go.Sort.grow (w.drewN (q+n)) os
  simp[World.drewN,Nat.add_assoc]⟩
theorem qe (w:World) (a b:aq):Calls Tryz.prog 141 #[.agg #[.int .i64 a.fE,.int .i64 a.fw],.agg #[.int .i64 b.fE,.int .i64 b.fw]] w fun e w'=>e=.returned (.int .i64 (qV a b))/\Grown w w':=by
 go_enter Tryz.func141,Tryz.ntmps141
 go_wp2_with fail
 go_region_held3 (fun w'=>w'.cell? ⟨w.heap.size,0,none⟩=some (.int .i64 a.fE)/\w'.cell? ⟨w.heap.size,1,none⟩=some (.int .i64 a.fw)/\
   w'.cell? ⟨w.heap.size+1,0,none⟩=some (.int .i64 b.fE)/\w'.cell? ⟨w.heap.size+1,1,none⟩=some (.int .i64 b.fw))
  (first|go_keep)
  (first|(go_at_call 168;refine(Fm _ _ _).mono ?_;rintro e w' ⟨rfl,rfl⟩)|(go_at_call 167;refine(RP _ (uR a.fw b.fw) (uR a.fE b.fE) _ (by simp[go_sem]) (by simp[go_sem])).mono ?_;rintro e w' ⟨rfl,rfl⟩))
 go_wp2_with fail
 go_ret
 refine⟨rfl,?_⟩
 repeat(first|(with_reducible exact Grown.refl _)|(refine Grown.alloc ?_ _)|(refine Grown.drew ?_)|(refine Grown.dN ?_ _))
theorem swoP:SWO (ltOf qV) where
 irrefl x:=by rw[ltOf,n9];exact iU
 trans x y z h1 h2:=by rw[ltOf,n9]at *;exact iX h1 h2
 ntrans x y z h1 h2:=by rw[ltOf,n9]at *;rw[pe]at *;omega
theorem aag:SM:=fun wE off cap d w hH hblk eY=>by
 have eg:∀args w,(callFunc 141 args).run Tryz.prog w=.ok (.enter 141 args) w:=enters_of Tryz.func141 (by kernel_rfl) rfl
 have h:=AnyQ.slices_SortFunc Tryz.Pk 2 Tryz.isAgg41 Tryz.sizeOf41 iu (fun _=>rfl) (fun x v hv=>by simp[iu]at hv;rcases hv with rfl|rfl<;>rfl) qV swoP 141 #[] wE off cap d w eg (fun m os dk _ x y=>(qe _ x y).mono fun _ _ ⟨he,q,os',hw⟩=>⟨he,q,os',hw⟩) hH hblk eY
 exact h
theorem Tz:SN:=fun p cap fv w=>AnyF.slices_SortFunc_none Tryz.Pk p cap fv w
instance:Inhabited aa:=⟨⟨⟨0,0⟩,0⟩⟩
variable {P:Program} {w:World} {D:Nat->Prop} {ι:Names}
def KF (a b:aa):Int:=qV a.bf b.bf
theorem y5 (a b:aa):ltOf KF a b=jN a.bf b.bf:=by rw[ltOf,KF,n9]
def MS:Prop:=∀(wE off cap:Nat) (d:Array aa) (w:World),HoldsK gJ 3 w wE off d->wE<w.heap.size->d.size<4611686018427387904->
 Calls Tryz.prog 139 #[.slice (some ⟨wE,off,none⟩) d.size cap,.func (.func 140) #[] #[]] w fun e w'=>e=.returned (.tuple #[])/\∃d' n os,PermIn 0 d.size d d'/\SortedIn (ltOf KF) 0 d.size d'/\w'=sortWorldK gJ 3 w wE off n d' os
def MT:Prop:=∀(p:Option Addr) (cap:Nat) (fv:Value) (w:World),Calls Tryz.prog 139 #[.slice p 0 cap,fv] w fun e w'=>e=.returned (.tuple #[])/\w'=w
theorem Nr (p:aa) (j:Nat) (a:AV) (h:(ab p)[j]? =some a) (P:Program) (w:World) (D:Nat->Prop) (ι:Names):dZ P w D ι a (gJ p)[j]! :=by
 match j,h with
 |0,h=>simp[ab]at h;subst h;exact .fq _ _ (.int _ _)
 |1,h=>simp[ab]at h;subst h;exact .fq _ _ (.int _ _)
 |2,h=>simp[ab]at h;subst h;exact .fq _ _ (.int _ _)
 |j+3,h=>simp[ab]at h
theorem LX (hC:MS) (hN:MT) (ps:List aa) (hlen:ps.length<=1048576) (σ:aw) (id:Id) (hg:σ.get id=some ⟨true,3,ps.map ab⟩):
  Call Tryz.prog 139 [.own id 0 ps.length,.fn 140 []] σ fun r σ'=>σ'.next=σ.next/\(∀x,x≠id->σ'.get x=σ.get x)/\∃qs,σ'.get id=some ⟨true,3,qs.map ab⟩/\qs.length=ps.length/\qs.Perm ps/\∀i j:Nat,i<j->j<qs.length->jN (bh qs j).bf (bh qs i).bf=false:=by
 refine fH fun hs D ι w vs S U A=>?_
 obtain⟨u1,us1,rfl,h1,h2⟩:=kj A
 obtain⟨u2,us2,h3,h4,h5⟩:=kj h2
 simp at h3;subst h3
 have:=vQ h5
 simp at this;subst this
 obtain⟨o,cap,B,rfl,hB,FO,ho,xg,hmax,hk⟩:=jH h1
 obtain⟨vs',gf,rfl,_,hz,_,_⟩:=xC h4
 have hz':vs'= #[]:=Array.eq_empty_of_size_eq_zero (by simpa using hz)
 subst hz'
 by_cases h0:ps=[]
 ·subst h0
  refine(hN _ _ _ w).mono ?_
  rintro e w' ⟨rfl,rfl⟩
  exact⟨.fX [],σ.get,σ.next,D,ι,_,rfl,⟨rfl,fun _ _=>rfl,[],hg,rfl,List.Perm.refl _,fun i j _ hj=>by simp at hj⟩,Step.refl _ _ _ _,S,U,Nat.le_refl _,.fX [] #[] (fun _=>Go.undef) rfl (fun j hj=>by simp at hj) (fun j a h=>by simp at h)⟩
 have lX:0<ps.length:=List.length_pos_iff.2 h0
 obtain⟨B',eE,R,kN,qm⟩:=S.row id _ hg
 rw[hB]at eE;injection eE with eE;subst eE
 replace R:=R.row hk
 have eY:B.sz=3:=R.sz
 have EN:o=0:=by rcases ho with h|h<;>omega
 subst EN
 obtain⟨cur,T,hblk,eD,pb⟩:=R.cur
 have Ac:ps.length*3<=B.C:=by simpa using R.fits
 have hH:HoldsK gJ 3 w B.b 0 ps.toArray:=by
  intro t ht
  rw[size_flatK]at ht
  have Zy:t<ps.length*3:=by simpa using ht
  have hi:t / 3<ps.length:=ad
  have NT:w.frozen? ⟨B.b,0+t,none⟩=false:=by
   simp only[World.frozen?,hblk];simp
  refine⟨?_,NT⟩
  rw[get_flatK _ _ _ _ ht]
  have hd:(ps.toArray)[t / 3]! =ps[t / 3]:=by simp[getElem!_pos,hi]
  rw[hd]
  have hj:t % 3=0∨t % 3=1∨t % 3=2:=ad
  have ht3:0+t=(t / 3)*3+t % 3:=ad
  rw[ht3]
  rcases hj with hj|hj|hj
  ·obtain⟨v,hv,hr⟩:=R.at_ (t / 3) 0 (ab ps[t / 3]) _ (by simp[hi]) rfl
   rw[ev hr]at hv
   rw[hj];exact hv
  ·obtain⟨v,hv,hr⟩:=R.at_ (t / 3) 1 (ab ps[t / 3]) _ (by simp[hi]) rfl
   rw[ev hr]at hv
   rw[hj];exact hv
  ·obtain⟨v,hv,hr⟩:=R.at_ (t / 3) 2 (ab ps[t / 3]) _ (by simp[hi]) rfl
   rw[ev hr]at hv
   rw[hj];exact hv
 have kq:B.b<w.heap.size:=(Array.getElem?_eq_some_iff.1 hblk).1
 have NN:=hC B.b 0 cap ps.toArray w hH kq (by simp;omega)
 rw[show ps.toArray.size=ps.length from by simp]at NN
 refine NN.mono ?_
 rintro e w' ⟨rfl,d',m,os,⟨Ai,_,tj⟩,hsort,rfl⟩
 have DI:d'.size=ps.length:=by rw[Ai];simp
 have XN:d'.toList.length=ps.length:=by simpa using DI
 have hP:d'.toList.Perm ps:=by
  have e1:d'.extract 0 ps.length=d':=by rw[<-DI];exact Array.extract_size
  have e2:ps.toArray.extract 0 ps.length=ps.toArray:=by
   have:ps.length=ps.toArray.size:=by simp
   rw[this];exact Array.extract_size
  rw[e1,e2]at tj
  simpa using tj
 have hF:∀t,t<ps.length*3->(flatK gJ 3 d')[t]! =(gJ d'[t / 3]!)[t % 3]! :=fun t ht=>get_flatK _ _ _ _ (by rw[DI];exact ht)
 have YD:(flatK gJ 3 d').size=ps.length*3:=by rw[size_flatK,DI]
 have hw:sortWorldK gJ 3 w B.b 0 m d' os=Go.Sort.grow (Go.Sort.putRow (fun v:Value=>v) (Go.Sort.ahead w m) B.b 0 (flatK gJ 3 d')) os:=rfl
 rw[hw]
 clear hw hH
 generalize flatK gJ 3 d'=Fl at hF YD ⊢
 have s4:=S.put (r':=⟨true,3,d'.toList.map ab⟩) (cur':=Go.Sort.putCells (fun v:Value=>v) 0 Fl cur) hg rfl hB hblk (by simp[Go.Sort.putCells]) rfl rfl (by simpa[DI]using Ac) (fun cs eD=>by
   obtain⟨x,_,rfl⟩:=List.mem_map.1 eD;rfl) (fun cs eD a ha=>by
   obtain⟨x,_,rfl⟩:=List.mem_map.1 eD
   simp[ab]at ha;rcases ha with rfl|rfl|rfl<;>rfl) (fun i j cs a hi hj=>by
   have th:i<d'.toList.length:=by
    have:=(List.getElem?_eq_some_iff.1 hi).1
    simpa using this
   have QY:j<3:=by
    have:=List.mem_of_getElem? hi
    obtain⟨x,_,rfl⟩:=List.mem_map.1 this
    exact(List.getElem?_eq_some_iff.1 hj).1
   have UW:cs=ab d'[i]! :=by
    rw[List.getElem?_map,List.getElem?_eq_getElem th]at hi
    simp at hi
    rw[<-hi,getElem!_pos d' i (by simpa using th)]
   subst UW
   have Hh:i*3+j<ps.length*3:=ad
   refine⟨(gJ d'[i]!)[j]!,?_,Nr _ _ _ hj _ _ _ _⟩
   have oR:i*3+j<cur.size:=by rw[eD];omega
   show(Go.Sort.putCells (fun v:Value=>v) 0 Fl cur)[i*3+j]? = _
   simp only[Go.Sort.putCells,Array.getElem?_mapIdx,Array.getElem?_eq_getElem oR,Option.map_some]
   rw[if_pos ⟨Nat.zero_le _,by rw[YD];omega⟩,Nat.sub_zero,hF _ Hh,show(i*3+j) / 3=i from by omega,show(i*3+j) % 3=j from by omega])
 obtain⟨S1,uG⟩:=s4
 have iV:(Go.Sort.putRow (fun v:Value=>v) (Go.Sort.ahead w m) B.b 0 Fl).heap.size=w.heap.size:=by simp
 have FT:∀k,k<(w.setRow B.b (Go.Sort.putCells (fun v:Value=>v) 0 Fl cur)).heap.size->(Go.Sort.grow (Go.Sort.putRow (fun v:Value=>v) (Go.Sort.ahead w m) B.b 0 Fl) os).heap[k]? =(w.setRow B.b (Go.Sort.putCells (fun v:Value=>v) 0 Fl cur)).heap[k]? :=fun k hk=>by
  have Hf:k<w.heap.size:=by simpa using hk
  rw[heap_grow_old _ _ (by rw[iV];exact Hf)]
  simp only[Go.Sort.putRow,Go.Sort.mapBlock,heap_ahead,Array.getElem?_modify]
  by_cases U9:B.b=k
  ·subst U9
   rw[setRow_heap w B.b cur _ T _ hblk,if_pos rfl,hblk];rfl
  ·rw[if_neg U9,setRow_other w B.b k _ (fun h=>U9 h.symm)]
 have qH:(w.setRow B.b (Go.Sort.putCells (fun v:Value=>v) 0 Fl cur)).heap.size<=(Go.Sort.grow (Go.Sort.putRow (fun v:Value=>v) (Go.Sort.ahead w m) B.b 0 Fl) os).heap.size:=by
  rw[size_grow,iV];simp
 have S2:=S1.stay (D':=D) (ι':=ι) FT qH (fun _ h=>h) (fun b hb=>Nat.lt_of_lt_of_le (S1.dead b hb) qH) (fun _ h=>.inl h) (fun _ _ h=>h)
 have Qn:=uG.trans (Step.stay (D':=D) (ι':=ι) S1 FT qH (by simp[Go.Sort.grow,Go.Sort.putRow,Go.Sort.mapBlock,Go.Sort.ahead]) (by simp[Go.Sort.grow,Go.Sort.putRow,Go.Sort.mapBlock,Go.Sort.ahead]) (by simp[Go.Sort.grow,Go.Sort.putRow,Go.Sort.mapBlock,Go.Sort.ahead]) (fun _ h=>h) (fun _ h=>.inl h) (fun _ _ h=>h))
 refine⟨.fX [],ck σ.get id ⟨true,3,d'.toList.map ab⟩,σ.next,D,ι,_,rfl,⟨rfl,fun x hx=>by simp[ck,hx],d'.toList,by simp[ck],XN,hP,fun i j Ct hj=>?_⟩,Qn,S2,U,Nat.le_refl _,.fX [] #[] (fun _=>Go.undef) rfl (fun j hj=>by simp at hj) (fun j a h=>by simp at h)⟩
 have h:=hsort i j (Nat.zero_le _) Ct ad
 rw[y5]at h
 have e1:d'[j]! =bh d'.toList j:=by rw[gn hj,getElem!_pos d' j (by simpa using hj)];rfl
 have hi:i<d'.toList.length:=ad
 have e2:d'[i]! =bh d'.toList i:=by rw[gn hi,getElem!_pos d' i (by simpa using hi)];rfl
 rw[<-e1,<-e2];exact h
theorem TQ {w w':World} (h:Grown w w') (os:Array Obj):Grown w (Go.Sort.grow w' os):=by
 obtain⟨q,os0,rfl⟩:=h
 exact⟨q,os0++os,by rw[grow_grow]⟩
theorem QB (w:World) (a b:aa):Calls Tryz.prog 140 #[.agg #[.int .i64 a.bf.fE,.int .i64 a.bf.fw,.int .i64 a.bc],.agg #[.int .i64 b.bf.fE,.int .i64 b.bf.fw,.int .i64 b.bc]] w fun e w'=>e=.returned (.int .i64 (KF a b))/\Grown w w':=by
 go_enter Tryz.func140,Tryz.ntmps140
 go_wp2_with (first|(go_at_call 141;refine(qe _ a.bf b.bf).mono ?_;rintro e w' ⟨rfl,hG⟩))
 obtain⟨q,os,rfl⟩:=hG
 go_ret
 refine⟨rfl,TQ (Grown.dN ?_ q) os⟩
 repeat(first|(with_reducible exact Grown.refl _)|(refine Grown.alloc ?_ _)|(refine Grown.drew ?_)|(refine Grown.dN ?_ _))
theorem swoA:SWO (ltOf KF) where
 irrefl x:=by rw[y5];exact iU
 trans x y z h1 h2:=by rw[y5]at *;exact iX h1 h2
 ntrans x y z h1 h2:=by rw[y5]at *;rw[pe]at *;omega
theorem Wc:MS:=fun wE off cap d w hH hblk eY=>by
 have eg:∀args w,(callFunc 140 args).run Tryz.prog w=.ok (.enter 140 args) w:=enters_of Tryz.func140 (by kernel_rfl) rfl
 have h:=AnyQ.slices_SortFunc Tryz.Pj 3 Tryz.isAgg59 Tryz.sizeOf59 gJ (fun _=>rfl) (fun x v hv=>by simp[gJ]at hv;rcases hv with rfl|rfl|rfl<;>rfl) KF swoA 140 #[] wE off cap d w eg (fun m os dk _ x y=>(QB _ x y).mono fun _ _ ⟨he,q,os',hw⟩=>⟨he,q,os',hw⟩) hH hblk eY
 exact h
theorem Wd:MT:=fun p cap fv w=>AnyF.slices_SortFunc_none Tryz.Pj p cap fv w
end Go.Proofs.YtoodopepphhpoaaGreatDoor.V

namespace Go.Proofs.YtoodopepphhpoaaGreatDoor.V
open Go.RowKit
attribute [local irreducible] eu wpOps fB Call
end Go.Proofs.YtoodopepphhpoaaGreatDoor.V

namespace Go.Proofs.YtoodopepphhpoaaGreatDoor.V
open Go.RowKit
def GN (m:MK) (it nx ok en:Nat) (id:Id) (B:(Ex->Env->aw->Prop)->Env->aw->Prop) (b b1:Nat) (Q:Ex->Env->aw->Prop):Nat->List (List AV)->Env->aw->Prop
 |0,_,env,σ=>env it=.ptr id 0 0/\Q .normal (upd (upd env (some nx) (.fX [.bool false])) (some ok) (.bool false)) ⟨σ.get,σ.next+1⟩
 |n+1,left,env,σ=>env it=.ptr id 0 0/\∀i cs kv vv,left[i]? =some cs->part m.ka m.ks cs=some kv->cs[m.ks]? =some vv->
   B (bd b1 (dr (GN m it nx ok en id B b b1 Q n (left.eraseIdx i)) (bd b Q))) (upd (upd (upd env (some nx) (.fX [.bool true,kv,vv])) (some ok) (.bool true)) (some en) (.fX [kv,vv])) ⟨σ.get,σ.next+1⟩
def LQ (m:MK) (tm:O) (site it nx ok en:Nat) (B:(Ex->Env->aw->Prop)->Env->aw->Prop) (b b1:Nat) (Q:Ex->Env->aw->Prop) (env:Env) (σ:aw):Prop:=
 ∃id r,dz env tm=.map id m/\σ.get id=some r/\r.w=true/\GN m it nx ok en ⟨site,σ.next⟩ B b b1 Q r.rows.length r.rows (upd env (some it) (.ptr ⟨site,σ.next⟩ 0 0)) ⟨ck σ.get id {r with w:=false},σ.next+1⟩
variable {P:Program} {w w':World} {D D':Nat->Prop} {ι ι':Names} {hs:Nat} {g:Rows}
theorem lO.HO (hc:∀b x,D b->w'.cell? ⟨b,x,none⟩=w.cell? ⟨b,x,none⟩) (hz:∀(b:Nat) c ty z,w.heap[b]? =some (.cells c ty z)->w'.heap[b]? =w.heap[b]?) {a:AV} {v:Value} (h:lO P w D a v):lO P w' D a v:=by
 induction h with
 |int k n=>exact .int k n
 |bool b=>exact .bool b
 |str s=>exact .str s
 |cr=>exact .cr
 |jn=>exact .jn
 |j9=>exact .j9
 |kC=>exact .kC
 |jS=>exact .jS
 |err g t s a c ty h1 h2 h3 h4 h5=>exact .err g t s a c ty h1 ((hc g 0 h1).trans h2) h3 ((hz _ _ _ _ h4).trans h4) ((World.cell?_of_block (hz _ _ _ _ h4)).trans h5)
 |ES a c h=>exact .ES a c h
 |sl rows b o n c sz vs h1 h2 h3 h4 h5 h5' h6 _ ih=>exact .sl rows b o n c sz vs h1 h2 h3 h4 h5 h5' (fun i j hi hj=>(hc b _ h4).trans (h6 i j hi hj)) ih
 |er cs b o vs h1 UC h2 _ ih=>exact .er cs b o vs h1 UC (fun j hj=>(hc b _ h1).trans (h2 j hj)) ih
 |agg cs vs f h1 h2 h3 _ ih=>exact .agg cs vs f h1 h2 h3 ih
 |fn f ek vs g h1 h2 h3 _ ih=>exact .fn f ek vs g h1 h2 h3 ih
theorem dZ.HO (hc:∀b x,D b->w'.cell? ⟨b,x,none⟩=w.cell? ⟨b,x,none⟩) (hz:∀(b:Nat) c ty z,w.heap[b]? =some (.cells c ty z)->w'.heap[b]? =w.heap[b]?) {a:AV} {v:Value} (h:dZ P w D ι a v):dZ P w' D ι a v:=by
 induction h with
 |fq a v h=>exact .fq a v (h.HO hc hz)
 |map id m B h1 h2=>exact .map id m B h1 h2
 |uQ id c B h1 h2=>exact .uQ id c B h1 h2
 |own id off len o cap B h1 h2 h3 h4 h5 h6=>exact .own id off len o cap B h1 h2 h3 h4 h5 h6
 |ptr id i off B h1 h2=>exact .ptr id i off B h1 h2
 |agg cs vs f h1 h2 h3 _ ih=>exact .agg cs vs f h1 h2 h3 ih
 |fX cs vs f h1 h2 _ ih=>exact .fX cs vs f h1 h2 ih
 |fn f ek vs g h1 h2 h3 _ ih=>exact .fn f ek vs g h1 h2 h3 ih
 |yh f ek vs g h1 h2 h3 _ ih=>exact .yh f ek vs g h1 h2 h3 ih
def pE (w:World) (rr:Nat):Prop:=∃m s seen c,w.heap[rr]? =some (.mapIter m s seen c)
theorem pE.cell {rr:Nat} (h:pE w rr) (x:Nat):w.cell? ⟨rr,x,none⟩=none:=by
 obtain⟨m,s,seen,c,h⟩:=h
 simp[World.cell?,h]
theorem jg.OK {B:wL} {r:Row} (R:jg P w D ι B r):¬pE w B.b:=by
 rintro⟨m,s,seen,c,h⟩
 cases hk:B.k with
 |none=>obtain⟨c',T,h3,_⟩:=(R.row hk).wE;rw[h]at h3;cases h3
 |some k=>
  cases k with
  |map m=>obtain⟨_,es,c',h3,_⟩:=R.map m hk;rw[h]at h3;cases h3
  |chan c=>obtain⟨_,buf,s',q,h3,_⟩:=R.chan c hk;rw[h]at h3;cases h3
theorem CB {rr:Nat} (h:pE w rr) (h':pE w' rr) (ho:∀b,b≠rr->w'.heap[b]? =w.heap[b]?):(∀{a v},dZ P w D ι a v->dZ P w' D ι a v):=fun hr=>hr.HO (fun b x _=>by
 by_cases hb:b=rr
 ·subst hb;rw[h.cell,h'.cell]
 ·exact World.cell?_of_block (ho b hb)) (fun b c ty z hb=>ho b fun e=>by
  subst e;obtain⟨m,s,seen,cc,h⟩:=h;rw[h]at hb;cases hb)
theorem iD.iter {rr:Nat} (S:iD P hs D ι g w) (h:pE w rr) (h':pE w' rr) (ho:∀b,b≠rr->w'.heap[b]? =w.heap[b]?) (hz:w'.heap.size=w.heap.size):iD P hs D ι g w':=
 ⟨by rw[hz];exact S.lo,fun b hb=>by rw[hz];exact S.dead b hb,fun id r hg=>by
  obtain⟨B,hB,R,k1,k2⟩:=S.row id r hg
  exact⟨B,hB,R.frame (ho _ fun e=>R.OK (e▸h)) fun a v hr=>CB h h' ho hr,k1,k2⟩,S.inj⟩
theorem pA {ops:Array Oper} {Q:Exit->Act->World->Prop} {a:Act} {o:Oper} {l:List Oper} {v:Value} (hg:o.guard=none) (gU:(execOp a.eval o).run P w=.ok (.value v) w') (h:wpList P ops Q l (a.put o.dst v) w'):wpList P ops Q (o::l) a w:=by
 unfold wpList
 rw[if_pos (by simp[Region.wanted,hg])]
 exact .inl (by unfold Oper.wp;rw[gU];exact h)
theorem O5 {x y:AV} {u v:Value} (h1:dZ P w D ι x u) (h2:dZ P w D ι y v):dZ P w D ι (.fX [x,y]) (.tuple #[u,v]):=
 .fX _ _ (fun j=>if j=0 then u else v) rfl (fun j hj=>by match j,hj with|0,_=>rfl|1,_=>rfl|j+2,hj=>simp at hj;omega) (fun j a ha=>by match j,ha with|0,ha=>simp at ha;subst ha;exact h1|1,ha=>simp at ha;subst ha;exact h2|j+2,ha=>simp at ha)
theorem O6 {x y z:AV} {u v t:Value} (h1:dZ P w D ι x u) (h2:dZ P w D ι y v) (h3:dZ P w D ι z t):dZ P w D ι (.fX [x,y,z]) (.tuple #[u,v,t]):=
 .fX _ _ (fun j=>if j=0 then u else if j=1 then v else t) rfl (fun j hj=>by match j,hj with|0,_=>rfl|1,_=>rfl|2,_=>rfl|j+3,hj=>simp at hj;omega) (fun j a ha=>by match j,ha with|0,ha=>simp at ha;subst ha;exact h1|1,ha=>simp at ha;subst ha;exact h2|2,ha=>simp at ha;subst ha;exact h3|j+3,ha=>simp at ha)
theorem O4 {x:AV} {u:Value} (h1:dZ P w D ι x u):dZ P w D ι (.fX [x]) (.tuple #[u]):=
 .fX _ _ (fun _=>u) rfl (fun j hj=>by match j,hj with|0,_=>rfl|j+1,hj=>simp at hj) (fun j a ha=>by match j,ha with|0,ha=>simp at ha;subst ha;exact h1|j+1,ha=>simp at ha)
structure SI (P:Program) (w:World) (D:Nat->Prop) (ι:Names) (m:MK) (L:List MapEntry) (left:List (List AV)):Prop where
 len:left.length=L.length
 at_:∀(i:Nat) (cs:List AV),left[i]? =some cs->∃(e:MapEntry) (kv vv:AV),L[i]? =some e/\part m.ka m.ks cs=some kv/\cs[m.ks]? =some vv/\dZ P w D ι kv e.key/\dZ P w D ι vv e.val
theorem SI.rep {m:MK} {L:List MapEntry} {left:List (List AV)} (h:SI P w D ι m L left) (hr:∀{a v},dZ P w D ι a v->dZ P w' D' ι' a v):SI P w' D' ι' m L left:=⟨h.len,fun i cs hi=>by
 obtain⟨e,kv,vv,h1,h2,h3,h4,h5⟩:=h.at_ i cs hi
 exact⟨e,kv,vv,h1,h2,h3,hr h4,hr h5⟩⟩
theorem pK {α β:Type} {l:List α} {k:List β} {i j:Nat} {x:α} (hl:l.length=k.length) (h:(l.eraseIdx i)[j]? =some x):∃q:Nat,l[q]? =some x/\(k.eraseIdx i)[j]? =k[q]? :=by
 rw[List.getElem?_eraseIdx]at h
 split at h
 ·rename_i hj;exact⟨j,h,by rw[List.getElem?_eraseIdx,if_pos hj]⟩
 ·rename_i hj;exact⟨j+1,h,by rw[List.getElem?_eraseIdx,if_neg hj]⟩
theorem SI.erase {m:MK} {L:List MapEntry} {left:List (List AV)} (h:SI P w D ι m L left) {i:Nat} (hi:i<L.length):SI P w D ι m (L.eraseIdx i) (left.eraseIdx i):=⟨by
 rw[List.length_eraseIdx,List.length_eraseIdx,h.len],fun j cs hj=>by
 obtain⟨q,hq,he⟩:=pK h.len hj
 obtain⟨e,kv,vv,h1,h2⟩:=h.at_ q cs hq
 exact⟨e,kv,vv,he.trans h1,h2⟩⟩
theorem qi:∀{l:List MapEntry} {i:Nat} {e:MapEntry},(l.map (·.born)).Nodup->l[i]? =some e->l.filter (fun x=>x.born !=e.born)=l.eraseIdx i
 |x::l,0,e,hn,h=>by
  simp at h;subst h
  obtain⟨h1,h2⟩:=List.nodup_cons.1 (show(x.born::l.map (·.born)).Nodup from hn)
  rw[List.filter_cons,if_neg (by simp),List.eraseIdx_cons_zero]
  refine List.filter_eq_self.2 fun y hy=>?_
  have:y.born≠x.born:=fun hc=>h1 (by rw[<-hc];exact List.mem_map_of_mem hy)
  simpa using this
 |x::l,i+1,e,hn,h=>by
  obtain⟨h1,h2⟩:=List.nodup_cons.1 (show(x.born::l.map (·.born)).Nodup from hn)
  simp only[List.getElem?_cons_succ]at h
  have hx:x.born≠e.born:=fun hc=>h1 (by rw[hc];exact List.mem_map_of_mem (List.mem_of_getElem? h))
  rw[List.filter_cons,if_pos (by simpa using hx),List.eraseIdx_cons_succ,qi h2 h]
theorem As {es:Array MapEntry} {clock:Nat} {seen:Array Nat} {i:Nat} {e:MapEntry} (hs:Jp es clock) (h:(leftOf es seen).toList[i]? =some e):(leftOf es (seen.push e.born)).toList=(leftOf es seen).toList.eraseIdx i:=by
 have hn:((leftOf es seen).toList.map (·.born)).Nodup:=by
  unfold leftOf
  rw[Array.toList_filter]
  exact((List.filter_sublist (p:=fun e=> !seen.contains e.born) (l:=es.toList)).map MapEntry.born).nodup hs.2
 rw[<-qi hn h]
 unfold leftOf
 rw[Array.toList_filter,Array.toList_filter,List.filter_filter]
 refine List.filter_congr fun x _=>?_
 rw[contains_push]
 cases seen.contains x.born<;>cases hb:(x.born==e.born)<;>simp_all
theorem eval_put {a:Act} {d:Nat} {v:Value} (h:d<a.tmps.size):(a.put (some d) v).eval (.tmp d)=v:=by
 simp[Act.put,Act.eval,h]
def Pb (ix ie b b1 ok:Nat) (Iy LH Ix:Oper) (vL:List Oper) (qh:Code):Code:=
 .seq (.region ix #[Iy,LH] false) (.seq (.cond (.tmp ok) .skip (.exit b)) (.block b1 (.seq (.region ie (Ix::vL).toArray false) qh)))
structure MO (P:Program) (md:List (Nat×Nat)) (nt fid s0 it nx ok en:Nat) (Iy LH Ix:Oper) (vL:List Oper) (qh:Code) (vE:List bY) (wC:VC):Prop where
 h1:Iy.op=.next (.tmp it) false
 h2:Iy.dst=some nx
 h3:Iy.guard=none
 h4:LH.op=.extract (.tmp nx) 0
 h5:LH.dst=some ok
 h6:LH.guard=none
 h7:Ix.op=.entry (.tmp it)
 h8:Ix.dst=some en
 h9:Ix.guard=none
 lt1:nx<nt
 lt2:ok<nt
 lt3:en<nt
 ne1:it≠nx
 ne2:it≠ok
 hE:allM (mY P (Ix::vL).toArray nt s0 false false #[] []) vL 1=some vE
 hR:jL P md nt fid qh=some wC
theorem IF (hm:P.follows .mixedOrders=true) {md:List (Nat×Nat)} {nt fid s0 ix ie b b1 it nx ok en:Nat} {m:MK} {id:Id} {Iy LH Ix:Oper} {vL:List Oper} {qh:Code} {vE:List bY} {wC:VC}
  (O:MO P md nt fid s0 it nx ok en Iy LH Ix vL qh vE wC) {rr bm:Nat} {es:Array MapEntry} {clock:Nat} (F6:Jp es clock) {ds:List Deferred} {n0:Nat} {D0:Nat->Prop} {ι0:Names} {w0:World} {Q:Ex->Env->aw->Prop} {Q':Exit->Act->World->Prop}
  (hQ:xN P hs nt ds Q n0 D0 ι0 w0 Q') (hD0:¬D0 rr) (hrr:hs<=rr) (hZ:bm≠rr):
  ∀(n:Nat) (left:List (List AV)) (env:Env) (σ:aw) (a:Act) (w:World) (D:Nat->Prop) (ι:Names) (seen:Array Nat),
   GN m it nx ok en id (eu (Sound P) (.seq (.ib false vE) wC)) b b1 Q n left env σ->St P hs nt D ι env σ a w->a.defers=ds->n0<=σ.next->Step hs D0 ι0 w0 D ι w->
   (∃sz C,ι id=some ⟨rr,sz,C,none⟩)->D rr->D bm->w.heap[rr]? =some (.mapIter (some bm) clock seen clock)->w.heap[bm]? =some (.map es clock)->left.length=n->SI P w D ι m (leftOf es seen).toList left->
   sC P (Pb ix ie b b1 ok Iy LH Ix vL qh) (Exit.inBlock b Q') (n+1) a w:=by
 intro n
 induction n with
 |zero=>
  intro left env σ a w D ι seen hv eA hd H7 T hid hDr hDb hr hb hlen hL
  obtain⟨Mv,hq⟩:=hv
  have ha:a.tmps.getD it undef=.pointer (some ⟨rr,0,none⟩):=by
   have:=eA.env it
   rw[Mv]at this
   obtain⟨B,e,hB,_⟩:=jw this
   obtain⟨sz,C,hid⟩:=hid
   rw[hid]at hB;injection hB with hB;subst hB
   simpa using e
  have hae:a.eval (.tmp it)=.pointer (some ⟨rr,0,none⟩):=ha
  rcases run_next_at (P:=P) w Iy.type rr bm clock clock seen es clock hr hb F6.1 (Nat.le_refl _)with⟨_,gU⟩|⟨e,he,_⟩
  rotate_left
  ·have h0:(leftOf es seen).toList=[]:=List.eq_nil_of_length_eq_zero (by rw[<-hL.len,hlen])
   rw[h0]at he;simp at he
  have Ai:nx<a.tmps.size:=by rw[eA.size];exact O.lt1
  have E2:=jF (jF eA.env (O4 (.fq _ _ (.bool false))) (dst:=some nx) (fun d h=>by cases h;exact O.lt1) eA.size) (.fq _ _ (.bool false)) (dst:=some ok) (fun d h=>by cases h;exact O.lt2) (by rw[gp];exact eA.size)
  show B3 P (.seq _ _) _ a w
  refine oE (lG (wp_region_list ?_))
  refine pA (v:=.tuple #[.bool false]) (w':=w) O.h3 (by simp[execOp,O.h1,hae,gU,Result.andThen]) ?_
  refine pA (v:=.bool false) (w':=w) O.h6 (by rw[O.h2];simp[execOp,O.h4,eval_put Ai,Instr.extract]) ?_
  rw[O.h2,O.h5]
  refine oE (AG (t:=false) (eval_put (by rw[gp,eA.size];exact O.lt2)) (lG (wp_exit ?_)))
  show Exit.inBlock b Q' (.exit b) _ _
  simp only[Exit.inBlock,if_true]
  exact hQ .normal _ ⟨σ.get,σ.next+1⟩ _ w D ι hq T ⟨eA.xE,eA.used.next,E2,by rw[gp,gp];exact eA.size⟩ (by rw[put_defers,put_defers];exact hd) (Nat.le_succ_of_le H7)
 |succ n ih=>
  intro left env σ a w D ι seen hv eA hd H7 T hid hDr hDb hr hb hlen hL
  obtain⟨Mv,hq⟩:=hv
  have ha:a.tmps.getD it undef=.pointer (some ⟨rr,0,none⟩):=by
   have:=eA.env it
   rw[Mv]at this
   obtain⟨B,e,hB,_⟩:=jw this
   obtain⟨sz,C,hid⟩:=hid
   rw[hid]at hB;injection hB with hB;subst hB
   simpa using e
  have hae:a.eval (.tmp it)=.pointer (some ⟨rr,0,none⟩):=ha
  rcases run_next_at (P:=P) w Iy.type rr bm clock clock seen es clock hr hb F6.1 (Nat.le_refl _)with⟨h0,_⟩|⟨e,he,w1,tk,gU⟩
  ·have:=hL.len
   rw[hlen,Array.length_toList]at this;omega
  obtain⟨i,hi,FU⟩:=List.getElem_of_mem he
  have Zd:(leftOf es seen).toList[i]? =some e:=by rw[List.getElem?_eq_getElem hi,FU]
  have oj:i<left.length:=by rw[hL.len];exact hi
  obtain⟨e',kv,vv,q1,q2,q3,q4,q5⟩:=hL.at_ i left[i] (List.getElem?_eq_getElem oj)
  rw[Zd]at q1;injection q1 with q1;subst q1
  replace hq:=hq i left[i] kv vv (List.getElem?_eq_getElem oj) q2 q3
  have Vm:w1.heap[rr]? =some (.mapIter (some bm) clock seen clock):=by rcases tk with rfl|rfl<;>exact hr
  have fU:=MapKept.heap_set (o':=.mapIter (some bm) clock (seen.push e.born) clock) Vm
  obtain⟨w2,sn⟩:∃w2,ChangeMaps.setBlock w1 rr (.mapIter (some bm) clock (seen.push e.born) clock)=w2:=⟨_,rfl⟩
  have ho:∀k,k≠rr->w2.heap[k]? =w.heap[k]? :=fun k hk=>by
   rw[<-sn]
   refine(fU.2 k hk).trans ?_
   rcases tk with rfl|rfl<;>rfl
  have hz:w2.heap.size=w.heap.size:=by
   rw[<-sn]
   rcases tk with rfl|rfl<;>simp[ChangeMaps.setBlock]
  have Hg:w2.heap[rr]? =some (.mapIter (some bm) clock (seen.push e.born) clock):=by rw[<-sn];exact fU.1
  have yL:w2.os=w.os/\w2.tape=w.tape/\w2.output=w.output:=by
   rw[<-sn]
   rcases tk with rfl|rfl<;>exact⟨rfl,rfl,rfl⟩
  rw[sn]at gU
  clear sn fU
  have I1:pE w rr:=⟨_,_,_,_,hr⟩
  have I2:pE w2 rr:=⟨_,_,_,_,Hg⟩
  have rt:∀{a v},dZ P w D ι a v->dZ P w2 D ι a v:=CB I1 I2 ho
  have S2:=eA.xE.iter I1 I2 ho hz
  have T2:Step hs D0 ι0 w0 D ι w2:=⟨⟨yL.1.trans T.below.os,yL.2.1.trans T.below.tape,yL.2.2.trans T.below.output,by rw[hz];exact T.below.size,fun k hk=>(ho k ad).trans (T.below.block k hk)⟩,fun k hk=>(ho k (fun hc=>hD0 (hc▸hk))).trans (T.s7 k hk),T.dead,T.names,T.new⟩
  have EK:w2.heap[bm]? =some (.map es clock):=(ho bm hZ).trans hb
  have Ai:nx<a.tmps.size:=by rw[eA.size];exact O.lt1
  have E1:dy P w2 D ι env a:=fun t=>rt (eA.env t)
  have E2:=jF (jF E1 (O6 (.fq _ _ (.bool true)) (rt q4) (rt q5)) (dst:=some nx) (fun d h=>by cases h;exact O.lt1) eA.size) (.fq _ _ (.bool true)) (dst:=some ok) (fun d h=>by cases h;exact O.lt2) (by rw[gp];exact eA.size)
  have E3:=jF E2 (O5 (rt q4) (rt q5)) (dst:=some en) (fun d h=>by cases h;exact O.lt3) (by rw[gp,gp];exact eA.size)
  have S7:=run_entry_at (P:=P) w2 rr bm clock seen es clock e Hg EK (mem_left he).1 F6.2
  show B3 P (.seq _ _) _ a w
  refine oE (lG (wp_region_list ?_))
  refine pA (v:=.tuple #[.bool true,e.key,e.val]) (w':=w2) O.h3 (by simp[execOp,O.h1,hae,gU,Result.andThen]) ?_
  refine pA (v:=.bool true) (w':=w2) O.h6 (by rw[O.h2];simp[execOp,O.h4,eval_put Ai,Instr.extract]) ?_
  rw[O.h2,O.h5]
  refine oE (AG (t:=true) (eval_put (by rw[gp,eA.size];exact O.lt2)) (lG (wp_skip ?_)))
  refine xu (oE (lG (wp_region_list ?_)))
  show wpList P _ _ (Ix::vL) _ _
  have ha3:(((a.put (some nx) (.tuple #[.bool true,e.key,e.val])).put (some ok) (.bool true)).eval (.tmp it))=.pointer (some ⟨rr,0,none⟩):=by
   have n1:=O.ne1
   have n2:=O.ne2
   rw[<-hae]
   simp[Act.put,Act.eval,Array.getD_eq_getD_getElem?,Array.getElem?_setIfInBounds,Ne.symm n1,Ne.symm n2]
  refine pA (v:=.tuple #[e.key,e.val]) (w':=w2) O.h9 (by simp[execOp,O.h7,ha3,S7,Result.andThen]) ?_
  rw[O.h8]
  refine CK vL vE 1 _ ⟨σ.get,σ.next+1⟩ _ w2 D ι (fun _=>False) O.hE hq S2 eA.used.next (fun _ h=>h.elim) E3 (by rw[gp,gp,gp];exact eA.size) fun env3 σ3 a3 w3 D3 ι3 hk T3 St3 YW hle3=>?_
  refine tG hm qh wC O.hR _ env3 σ3 a3 w3 D3 ι3 _ hk St3 fun ex Ns σ4 a4 w4 D4 ι4 N4 T4 St4 UY hle4=>?_
  have hdd:a4.defers=ds:=by rw[UY,YW,put_defers,put_defers,put_defers];exact hd
  have hnn:n0<=σ4.next:=Nat.le_trans H7 (Nat.le_trans (Nat.le_succ _) (Nat.le_trans hle3 hle4))
  have TW:=T3.trans T4
  have TT:=T2.trans TW
  have yj:GN m it nx ok en id (eu (Sound P) (.seq (.ib false vE) wC)) b b1 Q n (left.eraseIdx i) Ns σ4->sC P (Pb ix ie b b1 ok Iy LH Ix vL qh) (Exit.inBlock b Q') (n+1) a4 w4:=fun hq5=>by
   refine ih (left.eraseIdx i) Ns σ4 a4 w4 D4 ι4 (seen.push e.born) hq5 St4 hdd hnn TT ?_ (TW.dead _ hDr) (TW.dead _ hDb) ((TW.s7 _ hDr).trans Hg) ((TW.s7 _ hDb).trans EK) ?_ ?_
   ·obtain⟨sz,C,hid⟩:=hid;exact⟨sz,C,TW.names _ _ hid⟩
   ·rw[List.length_eraseIdx,if_pos oj,hlen];rfl
   ·rw[As F6 Zd]
    exact(hL.erase hi).rep fun hr=>TW.rep (rt hr)
  have out:∀ex,ex≠.normal->Q ex Ns σ4->Q' (exO ex) a4 w4:=fun ex _ h=>hQ ex Ns σ4 a4 w4 D4 ι4 h TT St4 hdd hnn
  cases ex with
  |normal=>exact yj N4
  |ret=>exact out .ret (by simp) N4
  |exit lz=>
   simp only[bd]at N4
   simp only[exO,Exit.inBlock]
   by_cases h1:lz=b1
   ·rw[if_pos h1]at N4 ⊢
    exact yj N4
   ·rw[if_neg h1]at N4 ⊢
    simp only[dr,bd]at N4
    show Exit.inBlock b Q' (.exit lz) a4 w4
    simp only[Exit.inBlock]
    by_cases h2:lz=b
    ·rw[if_pos h2]at N4 ⊢
     exact hQ .normal Ns σ4 a4 w4 D4 ι4 N4 TT St4 hdd hnn
    ·rw[if_neg h2]at N4 ⊢
     exact out (.exit lz) (by simp) N4
def CS (P:Program) (nt:Nat) (c:Code) (W:(Ex->Env->aw->Prop)->Env->aw->Prop):Prop:=
 ∀(hs:Nat) (Q:Ex->Env->aw->Prop) (env:Env) (σ:aw) (a:Act) (w:World) (D:Nat->Prop) (ι:Names) (Q':Exit->Act->World->Prop),W Q env σ->St P hs nt D ι env σ a w->xN P hs nt a.defers Q σ.next D ι w Q'->B3 P c Q' a w
theorem CS.code (hm:P.follows .mixedOrders=true) {md:List (Nat×Nat)} {nt fid:Nat} {c:Code} {vc:VC} (h:jL P md nt fid c=some vc):CS P nt c (eu (Sound P) vc):=
 fun _ Q env σ a w D ι Q' hv eA hQ=>tG hm c vc h Q env σ a w D ι Q' hv eA hQ
theorem CS.seq {nt:Nat} {x y:Code} {V W:(Ex->Env->aw->Prop)->Env->aw->Prop} (h:CS P nt x V) (k:CS P nt y W):CS P nt (.seq x y) (fun Q=>V (dr (W Q) Q)):=fun hs Q env σ a w D ι Q' hv eA hQ=>by
 refine oE (h hs _ env σ a w D ι _ hv eA fun ex jT σ1 a1 w1 D1 ι1 hq T lp hd hle=>?_)
 cases ex with
 |normal=>exact k hs Q jT σ1 a1 w1 D1 ι1 Q' hq lp (by rw[hd];exact hQ.later T hle)
 |exit id=>exact hQ (.exit id) jT σ1 a1 w1 D1 ι1 hq T lp hd hle
 |ret=>exact hQ .ret jT σ1 a1 w1 D1 ι1 hq T lp hd hle
theorem CS.rng (hm:P.follows .mixedOrders=true) {md:List (Nat×Nat)} {nt fid s0 sA site ia ix ie b b1 it nx ok en:Nat} {m:MK} {Iy LH Ix IB:Oper} {OX vL:List Oper} {qh:Code} {vA vE:List bY} {wC:VC} {t k e:TypeId} {tm:Operand} {tm':O}
  (O:MO P md nt fid s0 it nx ok en Iy LH Ix vL qh vE wC) (h1:IB.op=.range t tm) (h2:IB.dst=some it) (h3:IB.guard=none) (eP:it<nt) (ht:P.underlying t=some (.map k e)) (ZA:cO P tm=some tm') (hA:allM (mY P (OX++[IB]).toArray nt sA false false #[] []) OX 0=some vA):
  CS P nt (.seq (.region ia (OX++[IB]).toArray false) (.block b (.loop (Pb ix ie b b1 ok Iy LH Ix vL qh))))
   (fun Q=>wpOps (Sound P) false vA (LQ m tm' site it nx ok en (eu (Sound P) (.seq (.ib false vE) wC)) b b1 Q)):=fun hs Q env σ a w D ι Q' hv eA hQ=>by
 refine oE (lG (wp_region_list ?_))
 show wpList P _ _ (OX++[IB]) a w
 refine AH [IB] OX vA 0 env σ a w D ι (fun _=>False) hA hv eA.xE eA.used (fun _ h=>h.elim) eA.env eA.size fun jT σ1 a1 w1 D1 ι1 hk T uG uw K6=>?_
 obtain⟨id,r,hid,hg,hw,hr⟩:=hk
 have je:=ew uG.env ZA
 rw[hid]at je
 obtain⟨B,hv,hB,hk⟩:=Ef je
 obtain⟨B',eE,R,kN,qm⟩:=uG.xE.row id r hg
 rw[hB]at eE;injection eE with eE;subst eE
 obtain⟨hrsz,es,clock,hb,eY,⟨hlen,F6⟩,hM⟩:=R.map m hk
 have JK:=R.lt
 have gU:=run_range_map (P:=P) w1 t k e B.b es clock ht hb
 refine pA (v:=.pointer (some ⟨w1.heap.size,0,none⟩)) (w':=w1.alloc (.mapIter (some B.b) clock #[] clock)) h3 (by simp[execOp,h1,hv,gU,Result.andThen]) ?_
 rw[h2]
 obtain⟨w2,sn⟩:∃w2,w1.alloc (.mapIter (some B.b) clock #[] clock)=w2:=⟨_,rfl⟩
 have hblk:∀b,b<w1.heap.size->w2.heap[b]? =w1.heap[b]? :=fun b hb=>by rw[<-sn];exact Below.heap_alloc _ _ _ hb
 have mi:w2.heap[w1.heap.size]? =some (.mapIter (some B.b) clock #[] clock):=by rw[<-sn];exact heap_alloc_new _ _
 have hz:w2.heap.size=w1.heap.size+1:=by rw[<-sn];simp
 have yL:w2.os=w1.os/\w2.tape=w1.tape/\w2.output=w1.output:=by rw[<-sn];exact⟨rfl,rfl,rfl⟩
 rw[sn]
 clear sn gU
 let D2:Nat->Prop:=fun x=>D1 x∨x=B.b∨x=w1.heap.size
 let ι2:Names:=l8 ι1 ⟨site,σ1.next⟩ ⟨w1.heap.size,1,0,none⟩
 have jx:ι1 ⟨site,σ1.next⟩=none:=fresh uG.used (fun h=>h)
 have hrT:∀{a v},dZ P w1 D1 ι1 a v->dZ P w2 D2 ι2 a v:=fun h=>h.frame (fun b hd=>hblk b (uG.xE.dead b hd)) (fun _ h=>.inl h) (gq jx)
 have zh:∀{j q C},σ1.get j=some q->ι2 j=some C->ι1 j=some C:=fun {j q C} hj hC=>by
  obtain⟨C',yJ,_⟩:=uG.xE.row j q hj
  have:=gq (B:=⟨w1.heap.size,1,0,none⟩) jx j C' yJ
  have e:=this.symm.trans hC
  injection e with e;rw[<-e];exact yJ
 have lt:∀{j q C},σ1.get j=some q->ι1 j=some C->C.b<w1.heap.size:=fun {j q C} hj hC=>by
  obtain⟨C',yJ,R',_⟩:=uG.xE.row j q hj
  rw[hC]at yJ;injection yJ with yJ;subst yJ
  exact R'.lt
 have Uy:∀{j q},ck σ1.get id {r with w:=false} j=some q->∃q0,σ1.get j=some q0/\(q.w=true->q=q0/\j≠id)/\(j=id->q={r with w:=false}/\q0=r)/\(j≠id->q=q0):=fun {j q} h=>by
  unfold ck at h
  split at h
  ·rename_i e
   injection h with h;subst h
   exact⟨r,e▸hg,fun h=>(by cases h),fun _=>⟨rfl,rfl⟩,fun hc=>absurd e hc⟩
  ·rename_i e
   exact⟨q,h,fun _=>⟨rfl,e⟩,fun hc=>absurd hc e,fun _=>rfl⟩
 have S2:iD P hs D2 ι2 (ck σ1.get id {r with w:=false}) w2:=by
  refine⟨by rw[hz];exact Nat.le_succ_of_le uG.xE.lo,fun b hb=>?_,fun j q h=>?_,fun j j' q q' C C' h h' N5 hC yJ he=>?_⟩
  ·rw[hz]
   rcases hb with hb|rfl|rfl
   ·exact Nat.lt_succ_of_lt (uG.xE.dead b hb)
   ·exact Nat.lt_succ_of_lt JK
   ·exact Nat.lt_succ_self _
  ·obtain⟨q0,Th,N5,DL,hZ⟩:=Uy h
   obtain⟨C,hC,RC,k1,k2⟩:=uG.xE.row j q0 Th
   have hCl:=lt Th hC
   refine⟨C,gq jx j C hC,?_,fun XS=>k1 ((N5 XS).1▸XS),fun XS hD=>?_⟩
   ·have RF:jg P w2 D2 ι2 C q0:=RC.frame (hblk _ hCl) fun a v h=>hrT h
    by_cases hj:j=id
    ·obtain⟨e1,e2⟩:=DL hj
     rw[e1,<-e2];exact RF.flag false
    ·rw[hZ hj];exact RF
   ·obtain⟨e1,e2⟩:=N5 XS
    rcases hD with hD|hD|hD
    ·exact k2 (e1▸XS) hD
    ·exact e2 (uG.xE.inj j id q0 r C B Th hg (e1▸XS) hC hB hD)
    ·omega
  ·obtain⟨q0,Th,hqw0,_⟩:=Uy h
   obtain⟨q0',Zs,_⟩:=Uy h'
   exact uG.xE.inj j j' q0 q0' C C' Th Zs ((hqw0 N5).1▸N5) (zh Th hC) (zh Zs yJ) he
 have T2:Step hs D1 ι1 w1 D2 ι2 w2:=⟨⟨yL.1,yL.2.1,yL.2.2,ad,fun k hk=>hblk k (Nat.lt_of_lt_of_le hk uG.xE.lo)⟩,fun b hb=>hblk b (uG.xE.dead b hb),fun _ h=>.inl h,gq jx,fun b hb=>by
  rcases hb with hb|rfl|rfl
  ·exact .inl hb
  ·exact .inr (kN hw)
  ·exact .inr uG.xE.lo⟩
 have E2:dy P w2 D2 ι2 (upd jT (some it) (.ptr ⟨site,σ1.next⟩ 0 0)) (a1.put (some it) (.pointer (some ⟨w1.heap.size,0,none⟩))):=
  jF (fun t=>hrT (uG.env t)) (by have:=dZ.ptr (P:=P) (w:=w2) (D:=D2) (ι:=ι2) ⟨site,σ1.next⟩ 0 0 ⟨w1.heap.size,1,0,none⟩ (eW _ _ _) rfl;simpa using this) (fun d h=>by cases h;exact eP) uG.size
 have L2:SI P w2 D2 ι2 m (leftOf es #[]).toList r.rows:=by
  have he:(leftOf es #[]).toList=es.toList:=by simp[leftOf]
  rw[he]
  refine⟨by simpa using eY.symm,fun i cs hi=>?_⟩
  obtain⟨Yq,kv,vv,q1,q2,q3,q4,q5⟩:=hM i cs hi
  exact⟨Yq,kv,vv,by simpa using q1,q2,q3,hrT q4,hrT q5⟩
 show B3 P (.block b (.loop (Pb ix ie b b1 ok Iy LH Ix vL qh))) Q' _ w2
 exact xu (GC (r.rows.length+1) (IF hm O F6 (ds:=a.defers) (n0:=σ.next) (D0:=D) (ι0:=ι) (w0:=w) hQ
  (fun hc=>by have:=eA.xE.dead _ hc;have:=T.below.size;omega) uG.xE.lo ad r.rows.length r.rows _ ⟨ck σ1.get id {r with w:=false},σ1.next+1⟩ _ w2 D2 ι2 #[] hr
  ⟨S2,uG.used.upd.next,E2,by rw[gp];exact uG.size⟩ (by rw[put_defers];exact uw) (Nat.le_succ_of_le K6) (T.trans T2) ⟨1,0,eW _ _ _⟩ (.inr (.inr rfl)) (.inr (.inl rfl)) mi ((hblk _ JK).trans hb) rfl L2))
theorem CS.fn {f:Nat} {fn:Func} {c:Code} {args:List AV} {σ:aw} {K:AV->aw->Prop} {vr:List sV} {W:(Ex->Env->aw->Prop)->Env->aw->Prop} (S8:P.funcs[f]? =some fn) (hc:fn.body=some c) (hr:fn.results.toList.mapM (HF P)=some vr) (ha:fn.params.size+fn.nfree=args.length) (hle:fn.params.size+fn.nfree<=fn.ntmps)
  (h:CS P fn.ntmps c W) (hv:W (oM vr K) (cw args) σ):Call P f args σ K:=
 fH (zD S8 hc hr ha hle fun hs w D ι a Q' eA hQ=>h hs (oM vr K) (cw args) σ a w D ι Q' hv eA hQ)
theorem wD (hm:P.follows .mixedOrders=true) {c:VC} {Q Q':Ex->Env->aw->Prop} {env:Env} {σ:aw} (hQ:∀x e s,Q x e s->Q' x e s) (h:eu (Call P) c Q env σ):eu (Sound P) c Q' env σ:=
 lj (fun _ _ _ _ h=>iv hm h) mU c Q Q' env σ hQ h
theorem CX {m:MK} {it nx ok en:Nat} {id:Id} {B B':(Ex->Env->aw->Prop)->Env->aw->Prop} {b b1:Nat} {Q Q':Ex->Env->aw->Prop} (hB:∀R R' e s,(∀x e s,R x e s->R' x e s)->B R e s->B' R' e s) (hQ:∀x e s,Q x e s->Q' x e s):
  ∀(n:Nat) (left:List (List AV)) (env:Env) (σ:aw),GN m it nx ok en id B b b1 Q n left env σ->GN m it nx ok en id B' b b1 Q' n left env σ
 |0,_,env,σ,h=>⟨h.1,hQ _ _ _ h.2⟩
 |n+1,left,env,σ,h=>⟨h.1,fun i cs kv vv h1 h2 h3=>hB _ _ _ _ (fun x e s hx=>by
  have hn:=CX (id:=id) (m:=m) (it:=it) (nx:=nx) (ok:=ok) (en:=en) (b:=b) (b1:=b1) hB hQ n (left.eraseIdx i) e s
  cases x with
  |normal=>exact hn hx
  |ret=>exact hQ _ _ _ hx
  |exit lz=>
   simp only[bd]at hx ⊢
   split at hx
   ·rename_i h1;rw[if_pos h1];exact hn hx
   ·rename_i h1
    rw[if_neg h1]
    simp only[dr,bd]at hx ⊢
    split at hx
    ·rename_i h2;rw[if_pos h2];exact hQ _ _ _ hx
    ·rename_i h2;rw[if_neg h2];exact hQ _ _ _ hx) (h.2 i cs kv vv h1 h2 h3)⟩
theorem LR (hm:P.follows .mixedOrders=true) {m:MK} {tm:O} {site it nx ok en:Nat} {c:VC} {b b1:Nat} {Q Q':Ex->Env->aw->Prop} {env:Env} {σ:aw} (hQ:∀x e s,Q x e s->Q' x e s) (h:LQ m tm site it nx ok en (eu (Call P) c) b b1 Q env σ):LQ m tm site it nx ok en (eu (Sound P) c) b b1 Q' env σ:=by
 obtain⟨id,r,h1,h2,h3,h4⟩:=h
 exact⟨id,r,h1,h2,h3,CX (B':=eu (Sound P) c) (fun R R' e s hR hb=>wD hm hR hb) hQ _ _ _ _ h4⟩
theorem ui {α:Type}:∀{l:List α} {i:Nat} {x:α},l[i]? =some x->(x::l.eraseIdx i).Perm l
 |y::l,0,x,h=>by simp at h;subst h;exact List.Perm.refl _
 |y::l,i+1,x,h=>by
  simp only[List.getElem?_cons_succ]at h
  rw[List.eraseIdx_cons_succ]
  exact(List.Perm.swap _ _ _).trans ((ui h).cons _)
theorem aap {m:MK} {tm:O} {site it nx ok en:Nat} {c:VC} {b b1:Nat} {Q:Ex->Env->aw->Prop} {env:Env} {σ:aw} {id:Id} {r:Row} (I:List (List AV)->Env->aw->Prop) (h1:dz env tm=.map id m) (h2:σ.get id=some r) (h3:r.w=true) (Mv:([nx,ok,en]++B6 c).contains it=false)
  (h0:I [] (upd env (some it) (.ptr ⟨site,σ.next⟩ 0 0)) ⟨ck σ.get id {r with w:=false},σ.next+1⟩)
  (step:∀pre cs rest e s kv vv,(pre++cs::rest).Perm r.rows->I pre e s->kc ([nx,ok,en]++B6 c) (upd env (some it) (.ptr ⟨site,σ.next⟩ 0 0)) e->part m.ka m.ks cs=some kv->cs[m.ks]? =some vv->
   eu (Call P) c (bd b1 (dr (I (pre++[cs])) (bd b Q))) (upd (upd (upd e (some nx) (.fX [.bool true,kv,vv])) (some ok) (.bool true)) (some en) (.fX [kv,vv])) ⟨s.get,s.next+1⟩)
  (fin:∀pre e s,pre.Perm r.rows->I pre e s->kc ([nx,ok,en]++B6 c) (upd env (some it) (.ptr ⟨site,σ.next⟩ 0 0)) e->Q .normal (upd (upd e (some nx) (.fX [.bool false])) (some ok) (.bool false)) ⟨s.get,s.next+1⟩):
  LQ m tm site it nx ok en (eu (Call P) c) b b1 Q env σ:=by
 refine⟨id,r,h1,h2,h3,?_⟩
 have YX:∀e,kc ([nx,ok,en]++B6 c) (upd env (some it) (.ptr ⟨site,σ.next⟩ 0 0)) e->e it=.ptr ⟨site,σ.next⟩ 0 0:=fun e h=>by
  rw[h it Mv];simp[upd]
 have key:∀n left pre e s,(pre++left).Perm r.rows->left.length=n->I pre e s->kc ([nx,ok,en]++B6 c) (upd env (some it) (.ptr ⟨site,σ.next⟩ 0 0)) e->GN m it nx ok en ⟨site,σ.next⟩ (eu (Call P) c) b b1 Q n left e s:=by
  intro n
  induction n with
  |zero=>
   intro left pre e s hp hl hI hK
   have:left=[]:=List.eq_nil_of_length_eq_zero hl
   subst this
   rw[List.append_nil]at hp
   exact⟨YX e hK,fin pre e s hp hI hK⟩
  |succ n ih=>
   intro left pre e s hp hl hI hK
   refine⟨YX e hK,fun i cs kv vv hi hk hv=>?_⟩
   have oj:=(List.getElem?_eq_some_iff.1 hi).1
   have tj:(cs::left.eraseIdx i).Perm left:=by
    exact ui hi
   have EO:(pre++cs::left.eraseIdx i).Perm r.rows:=(tj.append_left pre).trans hp
   have UO:kc ([nx,ok,en]++B6 c) (upd env (some it) (.ptr ⟨site,σ.next⟩ 0 0)) (upd (upd (upd e (some nx) (.fX [.bool true,kv,vv])) (some ok) (.bool true)) (some en) (.fX [kv,vv])):=
    ((hK.upd (fun t h=>by cases h;simp)).upd (fun t h=>by cases h;simp)).upd (fun t h=>by cases h;simp)
   refine lj (fun _ _ _ _ h=>h) aH c _ _ _ _ (fun x e' s' hx=>?_) (C6 c _ _ _ (fun t ht=>List.mem_append_right _ ht) UO (step pre cs (left.eraseIdx i) e s kv vv EO hI hK hk hv))
   obtain⟨hx,Hf⟩:=hx
   have yj:I (pre++[cs]) e' s'->GN m it nx ok en ⟨site,σ.next⟩ (eu (Call P) c) b b1 Q n (left.eraseIdx i) e' s':=fun hI'=>
    ih (left.eraseIdx i) (pre++[cs]) e' s' (by rw[List.append_assoc];exact EO) (by rw[List.length_eraseIdx,if_pos oj];omega) hI' Hf
   cases x with
   |normal=>exact yj hx
   |ret=>exact hx
   |exit lz=>
    simp only[bd]at hx ⊢
    split at hx
    ·rename_i h1;rw[if_pos h1];exact yj hx
    ·rename_i h1;rw[if_neg h1];exact hx
 exact key _ r.rows [] _ _ (List.Perm.refl _) rfl h0 (kc.refl _ _)
end Go.Proofs.YtoodopepphhpoaaGreatDoor.V

namespace Go.Proofs.YtoodopepphhpoaaGreatDoor.V
open Go.RowKit
def TL:Code->Code
 | .seq a _=>a
 |c=>c
def MB:Code->Code
 | .seq _ b=>b
 |c=>c
def zsB:Code->Code
 | .block _ c=>c
 |c=>c
def zsLp:Code->Code
 | .loop c=>c
 |c=>c
def zsO:Code->List Oper
 | .region _ o _=>o.toList
 |_=>[]
def rg2 (k:Code):Code:=TL (TL (MB (MB k)))
def rgBl (k:Code):Code:=MB (TL (MB (MB k)))
def rgL (k:Code):Code:=zsLp (zsB (rgBl k))
def V3 (k:Code):Code:=MB (MB (rgL k))
def WI:Oper:={dst:=none,op:=.nilCheck (.tmp 0),type:=0,pos:= "",after:= #[],guard:=none}
def rgP (k:Code):List Oper:=(zsO (rg2 k)).dropLast
def rgO (k:Code):Oper:=(zsO (rg2 k)).getLastD WI
def rgX (k:Code) (i:Nat):Oper:=(zsO (TL (rgL k))).getD i WI
def Z7 (k:Code):Oper:=(zsO (TL (zsB (V3 k)))).headD WI
def Z8 (k:Code):List Oper:=(zsO (TL (zsB (V3 k)))).tail
def rgR (k:Code):Code:=MB (zsB (V3 k))
def Z9 (P:Program) (v0 v1:VC) (vA:List bY) (m:MK) (tm:O) (site it nx ok en:Nat) (vE:List bY) (vR:VC) (b b1:Nat) (vT:VC) (Q:Ex->Env->aw->Prop):Env->aw->Prop:=
 eu (Sound P) v0 (dr (eu (Sound P) v1 (dr (wpOps (Sound P) false vA (LQ m tm site it nx ok en (eu (Sound P) (.seq (.ib false vE) vR)) b b1 (dr (eu (Sound P) vT Q) Q))) Q)) Q)
def V4 (P:Program) (v0 v1:VC) (vA:List bY) (m:MK) (tm:O) (site it nx ok en:Nat) (vE:List bY) (vR:VC) (b b1:Nat) (vT:VC) (Q:Ex->Env->aw->Prop):Env->aw->Prop:=
 eu (Call P) v0 (dr (eu (Call P) v1 (dr (wpOps (Call P) false vA (LQ m tm site it nx ok en (eu (Call P) (.seq (.ib false vE) vR)) b b1 (dr (eu (Call P) vT Q) Q))) Q)) Q)
theorem A6 {F F':Env->aw->Prop} {Q:Ex->Env->aw->Prop} (h:∀e s,F e s->F' e s):∀x e s,dr F Q x e s->dr F' Q x e s:=fun x e s hx=>by
 cases x with
 |normal=>exact h e s hx
 |ret=>exact hx
 |exit id=>exact hx
theorem Pc {P:Program} (hm:P.follows .mixedOrders=true) {v0 v1:VC} {vA:List bY} {m:MK} {tm:O} {site it nx ok en:Nat} {vE:List bY} {vR:VC} {b b1:Nat} {vT:VC} {Q:Ex->Env->aw->Prop} {env:Env} {σ:aw}
  (h:V4 P v0 v1 vA m tm site it nx ok en vE vR b b1 vT Q env σ):Z9 P v0 v1 vA m tm site it nx ok en vE vR b b1 vT Q env σ:=
 wD hm (A6 fun _ _ h=>wD hm (A6 fun _ _ h=>nM (fun _ _ _ _ h=>iv hm h) mU (fun _ _ h=>LR hm (A6 fun _ _ h=>wD hm (fun _ _ _ h=>h) h) h) _ _ _ h) h) h
noncomputable def k73:Go.Code:=Tryz.f73.body.getD .skip
noncomputable def Gf:Go.Code:=Tryz.f47.body.getD .skip
def PF:VC:=(.ib false [⟨(some 2),(.new [.cr]),none,47000000,[]⟩])
def TF:VC:=(.ib false [⟨(some 3),(.fe (.k .cr)),none,47001000,[]⟩])
def TG:List bY:=[⟨(some 6),(.fe (.t 0)),none,47002000,[]⟩,⟨(some 7),(.EH (.t 6)),none,47002001,[]⟩,⟨(some 8),(.ft 4 (.t 7)),none,47002002,[]⟩,⟨(some 9),(.load false 1 (.t 8)),none,47002003,[]⟩]
def Kk:List bY:=[⟨(some 14),(.extract 0 (.t 13)),none,47004001,[]⟩,⟨(some 15),(.extract 1 (.t 13)),none,47004002,[]⟩,⟨(some 4),(.new [(.int .i64 0),(.int .i64 0)]),none,47004003,[]⟩,⟨none,(.store 2 (.t 4) (.t 14)),none,47004004,[]⟩,⟨(some 5),(.fe (.t 15)),none,47004005,[]⟩]
def Kl:VC:=(.ib false [⟨(some 16),(.fe (.t 3)),none,47005000,[]⟩,⟨(some 17),(.load true 2 (.t 4)),none,47005001,[]⟩,⟨(some 18),(.fe (.t 5)),none,47005002,[]⟩,⟨(some 19),(.build [(.int .i64 0),(.int .i64 0),(.int .i64 0)] [(0,(2,(.t 17))),(2,(1,(.t 18)))]),none,47005003,[]⟩,⟨(some 20),(.ij 3 1 [(.t 19)]),none,47005004,[]⟩,⟨(some 21),(.append 3 (.t 16) (.t 20)),none,47005005,[]⟩,⟨(some 3),(.fe (.t 21)),none,47005006,[]⟩])
def Km:VC:=(.seq (.ib false [⟨(some 22),(.fe (.t 3)),none,47006000,[]⟩,⟨(some 23),(.call 97 [(.t 22)]),none,47006001,[]⟩,⟨none,(.store 1 (.t 2) (.t 23)),none,47006002,[]⟩]) .ret)
def Ko:List sV:=[(.cell true 1 2)]
def Pz:O:=(.t 9)
theorem ZZ:MO Tryz.prog [] Tryz.f47.ntmps 47 47004000 10 11 12 13 (rgX Gf 0) (rgX Gf 1) (Z7 Gf) (Z8 Gf) (rgR Gf) Kk Kl:=⟨by kernel_rfl,by kernel_rfl,by kernel_rfl,by kernel_rfl,by kernel_rfl,by kernel_rfl,by kernel_rfl,by kernel_rfl,by kernel_rfl,by decide,by decide,by decide,by decide,by decide,by kernel_rfl,by kernel_rfl⟩
theorem aaf:Gf=.seq (TL Gf) (.seq (TL (MB Gf)) (.seq (.seq (.region 2 (rgP Gf++[rgO Gf]).toArray false) (.block 0 (.loop (Pb 3 4 0 1 12 (rgX Gf 0) (rgX Gf 1) (Z7 Gf) (Z8 Gf) (rgR Gf))))) (MB (MB (MB Gf))))):=by kernel_rfl
theorem Ym (m:MK):CS Tryz.prog Tryz.f47.ntmps Gf (Z9 Tryz.prog PF TF TG m Pz 47002999 10 11 12 13 Kk Kl 0 1 Km):=by
 rw[aaf]
 exact CS.seq (CS.code (md:=[]) (fid:=47) mixed (by kernel_rfl)) (CS.seq (CS.code (md:=[]) (fid:=47) mixed (by kernel_rfl)) (CS.seq (CS.rng (tm:=.tmp 9) (sA:=47002000) (t:=124) (k:=41) (e:=2) mixed ZZ (by kernel_rfl) (by kernel_rfl) (by kernel_rfl) (by decide) (by kernel_rfl) (by kernel_rfl) (by kernel_rfl)) (CS.code (md:=[]) (fid:=47) mixed (by kernel_rfl))))
theorem Z6 {args:List AV} {σ:aw} {K:AV->aw->Prop} (ha:args.length=Tryz.f47.params.size) (m:MK) (h:V4 Tryz.prog PF TF TG m Pz 47002999 10 11 12 13 Kk Kl 0 1 Km (oM Ko K) (cw args) σ):Call Tryz.prog 47 args σ K:=
 CS.fn Tryz.func47 (by kernel_rfl) (by kernel_rfl) ha.symm (by decide) (Ym m) (Pc mixed h)
end Go.Proofs.YtoodopepphhpoaaGreatDoor.V

namespace Go.Proofs.YtoodopepphhpoaaGreatDoor.V
open Go.RowKit
attribute [local irreducible] eu wpOps fB Call
def dd (L:List aq):Nat->List aq
 |0=>[]
 |j+1=>if 0<j/\kD L j=kD L (j-1)then dd L j else dd L j++[kD L j]
theorem CW:∀{ps qs:List aa},(ps.Pairwise fun a b=>jN a.bf b.bf=true)->(qs.Pairwise fun a b=>jN a.bf b.bf=true)->(∀x,x∈ps↔x∈qs)->ps=qs
 |[],[],_,_,_=>rfl
 |[],q::qs,_,_,h=>absurd ((h q).2 (by simp)) (by simp)
 |p::ps,[],_,_,h=>absurd ((h p).1 (by simp)) (by simp)
 |p::ps,q::qs,hp,hq,h=>by
  obtain⟨p1,p2⟩:=List.pairwise_cons.1 hp
  obtain⟨q1,q2⟩:=List.pairwise_cons.1 hq
  have e:p=q:=by
   rcases List.mem_cons.1 ((h p).1 (by simp))with e|e
   ·exact e
   ·rcases List.mem_cons.1 ((h q).2 (by simp))with e'|e'
    ·exact e'.symm
    ·have:=Gr (q1 p e)
     rw[p1 q e']at this;cases this
  subst e
  congr 1
  refine CW p2 q2 fun x=>⟨fun hx=>?_,fun hx=>?_⟩
  ·rcases List.mem_cons.1 ((h x).1 (List.mem_cons_of_mem _ hx))with e|e
   ·subst e;have:=p1 x hx;rw[iU]at this;cases this
   ·exact e
  ·rcases List.mem_cons.1 ((h x).2 (List.mem_cons_of_mem _ hx))with e|e
   ·subst e;have:=q1 x hx;rw[iU]at this;cases this
   ·exact e
theorem IQ {L qs:List aa} (hR:mD L) (hp:qs.Perm L) (hs:∀i j:Nat,i<j->j<qs.length->jN (bh qs j).bf (bh qs i).bf=false):qs=L:=by
 rw[rQ]at hR
 have hd:L.Pairwise fun a b=>a.bf≠b.bf:=hR.imp fun {a b} h e=>by rw[e,iU]at h;cases h
 have hdq:qs.Pairwise fun a b=>a.bf≠b.bf:=hp.symm.pairwise hd fun {a b} h e=>h e.symm
 refine CW ?_ hR fun x=>hp.mem_iff
 rw[List.pairwise_iff_getElem]at hdq ⊢
 intro i j hi hj Ct
 have h1:=hs i j Ct hj
 rw[gn hj,gn hi]at h1
 exact zf h1 fun e=>hdq i j hi hj Ct e.symm
theorem HG (ps:List aa) (h0:ps≠[]) (hlen:ps.length<=1048576) (σ:aw) (id:Id) (hv:id.bt<σ.next) (hg:σ.get id=some ⟨true,3,ps.map ab⟩):
  Call Tryz.prog 91 [.own id 0 ps.length] σ fun a σ'=>∃o:Id,a=.own o 0 ps.length/\σ'.get o=some ⟨true,3,ps.map ab⟩/\σ.next<=o.bt/\o.bt<σ'.next/\∀x:Id,x.bt<σ.next->σ'.get x=σ.get x:=by
 refine fV fW rfl fun hl=>?_
 clear hl
 have h2:ps.length<=16777216:=ad
 have hm:(ps.map ab).length=ps.length:=by simp
 have v1:=dp hv
 have ht:(ps.map ab).take ps.length=ps.map ab:=by rw[<-hm,List.take_length]
 have ha:(ps.map ab).all (fun c=>c.length==3&&c.all AV.cell)=true:=all_map fun x=>by simp[ab,AV.cell]
 (try((repeat(revert N;apply Pn.out));refine wk (tw @hg (tw @h2 (tw @hm (tw @v1 (tw @ht @ha))))) ?_;(repeat(apply Pn.mk;intro N hN))))
 exact fc (vs:=[.own ⟨91003002,σ.next+2⟩ 0 ps.length]) (.inl rfl) (sd @Nat.zero_add) ⟨_,rfl,sd @Nat.zero_add,bp,bp,fun x hx=>by
  have:=dp hx
  simp only[go_sem, ↓reduceIte,Nat.reduceEqDiff,Nat.reduceAdd,Nat.reduceSub,Nat.reduceLeDiff,reduceCtorEq,this]⟩
theorem Dd (ps L:List aa) (hlen:ps.length<=1000000) (h0:ps≠[]) (hR:mD L) (hp:ps.Perm L) (σ:aw) (id:Id) (hv:id.bt<σ.next) (hg:σ.get id=some ⟨true,3,ps.map ab⟩):
  Call Tryz.prog 97 [.own id 0 ps.length] σ fun a σ'=>∃o:Id,a=.agg [.own o 0 L.length]/\σ'.get o=some ⟨true,3,L.map ab⟩/\σ.next<=o.bt/\o.bt<σ'.next/\∀x:Id,x.bt<σ.next->σ'.get x=σ.get x:=by
 refine fV fW rfl fun hl=>?_
 clear hl
 have v1:=dp hv
 (try((repeat(revert N;apply Pn.out));refine wk (tw @hg @v1) ?_;(repeat(apply Pn.mk;intro N hN))))
 refine .inr (aH _ _ _ _ _ (fun r σ1 hq=>?_) (HG ps h0 ad ⟨_,_⟩ id bp (sd (tw @v1 @hg))))
 obtain⟨g1,x1⟩:=σ1
 obtain⟨o,rfl,q1,q2,q3,q4⟩:=hq
 (try dsimp only at q1 q2 q3 q4)
 have k2:=q4 ⟨97000000,σ.next⟩ bp
 simp only[go_sem, ↓reduceIte,Nat.reduceEqDiff,Nat.reduceAdd,Nat.reduceSub,Nat.reduceLeDiff,reduceCtorEq]at k2
 apply hN
 clear hN N
 (try((repeat(revert N;apply Pn.out));refine wk @Nat.zero_add ?_;(repeat(apply Pn.mk;intro N hN))))
 refine .inr (aH _ _ _ _ _ (fun r σ2 hq=>?_) (LX Wc Wd ps ad ⟨g1,_⟩ o q1))
 obtain⟨g2,x2⟩:=σ2
 obtain⟨u1,u2,ss,u3,u4,u5,u6⟩:=hq
 (try dsimp only at u1 u2 u3)
 have hss:ss=L:=IQ hR (u5.trans hp) u6
 rw[hss]at u3 u4
 have o2:(⟨97000000,σ.next⟩:Id)≠o:=fun e=>by rw[<-e]at q2;(try dsimp only at q2);omega
 have k3:=(u2 _ o2).trans k2
 have of:=eq_false (fun e:o=(⟨97000000,σ.next⟩:Id)=>o2 e.symm)
 apply hN
 clear hN N
 (try((repeat(revert N;apply Pn.out));refine wk @k3 ?_;(repeat(apply Pn.mk;intro N hN))))
 exact fc (.inl rfl) (vs:=[.agg [.own o 0 ps.length]]) (sd @Nat.zero_add) ⟨o,by rw[u4];rfl,sd (tw @of @u3),ad,bp,fun x hx=>by
  have h1:x≠o:=fun e=>by rw[e]at hx;omega
  have h2:=u2 x h1
  have h3:=q4 x bp
  have h4:=dp hx
  simp only[go_sem, ↓reduceIte,Nat.reduceEqDiff,Nat.reduceAdd,Nat.reduceSub,Nat.reduceLeDiff,reduceCtorEq,h4]at h3
  simp only[go_sem, ↓reduceIte,Nat.reduceEqDiff,Nat.reduceAdd,Nat.reduceSub,Nat.reduceLeDiff,reduceCtorEq,h4,h2,h3]⟩
def AsI (σ:aw) (T:Id) (ts:List aa) (pre:List (List AV)) (e0:Env) (s0:aw):Prop:=
 ∃l':List aa,pre=l'.map ab/\((l'=[]/\e0 3=.cr)∨∃o:Id,e0 3=.own o 0 l'.length/\s0.get o=some ⟨true,3,l'.map ab⟩/\σ.next<o.bt/\o.bt<s0.next)/\σ.next<s0.next/\(∀x:Id,x.bt<σ.next->x≠T->s0.get x=σ.get x)/\s0.get T=some ⟨false,mP.mC,ts.map ab⟩/\s0.get ⟨47000000,σ.next⟩=some ⟨true,1,[[.cr]]⟩/\e0 2=.ptr ⟨47000000,σ.next⟩ 0 0
theorem Lx (L:List aa) (x:aa):(L++[x]).length=L.length+1:=by rw[List.length_append];rfl
theorem Ht {σ:aw} {c T O:Id} {s:au} {ts L:List aa} (h:nQ σ.get σ.next c T O s ts) (hlen:ts.length<=100000) (h0:ts≠[]) (hR:mD L) (hp:ts.Perm L):
  Call Tryz.prog 47 [.ptr c 0 0] σ (fun r σ'=>∃o:Id,r=.agg [.own o 0 L.length]/\σ'.get o=some ⟨true,3,L.map ab⟩/\σ.next<=o.bt/\o.bt<σ'.next/\σ.next<=σ'.next/\∀x:Id,x.bt<σ.next->x≠T->σ'.get x=σ.get x):=by
 refine Z6 rfl mP ?_
 have fC:=h.row
 have Hh:=h.tl
 have v1:=dp h.cv
 have v2:=dp h.tv
 unfold V4
 rw[PF]
 (try((repeat(revert N;apply Pn.out));refine wk (tw @fC @v1) ?_;(repeat(apply Pn.mk;intro N hN))))
 refine G3 (aap (id:=T) (r:=⟨true,mP.mC,ts.map ab⟩) (AsI σ T ts) (sd @Pz.eq_1) (sd (tw @Hh @v2)) rfl (by decide) ?_ ?_ ?_)
 ·have vT:(T=(⟨47000000,σ.next⟩:Id))=False:=eq_false fun e=>by have:=h.tv;rw[e]at this;(try dsimp only at this);omega
  have vT2:((⟨47000000,σ.next⟩:Id)=T)=False:=eq_false fun e=>by have:=h.tv;rw[<-e]at this;(try dsimp only at this);omega
  exact⟨[],rfl,.inl ⟨rfl,sd @Nat.zero_add⟩,bp,fun x hx hT=>by
   have h1:=dp hx
   have h2:=eq_false hT
   simp only[go_sem, ↓reduceIte,Nat.reduceEqDiff,Nat.reduceAdd,Nat.reduceSub,Nat.reduceLeDiff,reduceCtorEq,h1,h2],sd @Nat.zero_add,sd @vT2,sd @Nat.zero_add⟩
 ·rintro pre cs rest e0 s0 kv vv hpp ⟨l',rfl,hout,H7,jx,hT,h5,e2⟩ hK hpart hvv
  have pN:cs∈ts.map ab:=hpp.subset (by simp)
  obtain⟨tl,hx,rfl⟩:=List.mem_map.1 pN
  have Mw:=hpp.length_eq
  simp only[List.length_append,List.length_map,List.length_cons]at Mw
  simp[part,ab,MK.ks]at hpart hvv
  subst hpart hvv
  rw[Kk,Kl]
  have FN:=h.tv
  have vT:=dp (i:=T) (n:=s0.next) ad
  have v5:=dp (i:=⟨47000000,σ.next⟩) (n:=s0.next) bp
  clear hpp pN hK
  have Q2:l'.map ab++[ab tl]=(l'++[tl]).map ab:=by simp
  have tR:=Lx l' tl
  have np:(l'++[tl]).map ab=l'.map ab++[[.int .i64 tl.bf.fE,.int .i64 tl.bf.fw,.int .i64 tl.bc]]:=by rw[List.map_append];rfl
  rcases hout with⟨Qa,e3⟩|⟨o,e3,og,on,ov⟩
  ·subst Qa
   (try((repeat(revert N;apply Pn.out));refine wk (tw @e3 @e2) ?_;(repeat(apply Pn.mk;intro N hN))))
   exact⟨[]++[tl],Q2,.inr ⟨⟨47005005,s0.next+1+1⟩,sl @Nat.zero_add,sl @Nat.zero_add,bp,bp⟩,bp,fun y hy VA=>by
    have h1:=dp (i:=y) (n:=s0.next) ad
    have h2:=jx y hy VA
    simp only[go_sem, ↓reduceIte,Nat.reduceEqDiff,Nat.reduceAdd,Nat.reduceSub,Nat.reduceLeDiff,reduceCtorEq,h1,h2],sd (tw @vT @hT),sd (tw @v5 @h5),sd @e2⟩
  ·have vo:=dp ov
   have oT:=ei (a:=T) (b:=o) ad
   have o5:=ei (a:=⟨47000000,σ.next⟩) (b:=o) bp
   have gy:(l'.map ab).length=l'.length:=by simp
   have e1:l'.length<=16777215:=ad
   (try((repeat(revert N;apply Pn.out));refine wk (tw @e3 (tw @e2 (tw @og (tw @vo (tw @gy @e1))))) ?_;(repeat(apply Pn.mk;intro N hN))))
   exact⟨l'++[tl],Q2,.inr ⟨⟨47005005,s0.next+1+1⟩,by rw[tR];simp only[go_sem, ↓reduceIte,Nat.reduceEqDiff,Nat.reduceAdd,Nat.reduceSub,Nat.reduceLeDiff,reduceCtorEq]<;>rfl,by rw[np];simp only[go_sem, ↓reduceIte,Nat.reduceEqDiff,Nat.reduceAdd,Nat.reduceSub,Nat.reduceLeDiff,reduceCtorEq]<;>rfl,bp,bp⟩,bp,fun y hy VA=>by
    have h1:=dp (i:=y) (n:=s0.next) ad
    have h2:=jx y hy VA
    have h3:=ei (a:=y) (b:=o) ad
    simp only[go_sem, ↓reduceIte,Nat.reduceEqDiff,Nat.reduceAdd,Nat.reduceSub,Nat.reduceLeDiff,reduceCtorEq,h1,h2,h3],sd (tw @vT (tw @oT @hT)),sd (tw @v5 (tw @o5 @h5)),sd @e2⟩
 ·rintro pre e0 s0 hpp ⟨l',rfl,hout,H7,jx,hT,h5,e2⟩ hK
  clear hK
  have mN:l'.Perm ts:=by
   have:∀{a b:List aa},(a.map ab).Perm (b.map ab)->a.Perm b:=fun {a b} pB=>by
    have h2:=pB.map (fun cs:List AV=>match cs with|[.int _ x,.int _ y,.int _ t]=>(⟨⟨x,y⟩,t⟩:aa)|_=>default)
    simpa[List.map_map,Function.comp_def,ab]using h2
   exact this hpp
  have Q0:=mN.length_eq
  rcases hout with⟨Qa,e3⟩|⟨o,e3,og,on,ov⟩
  ·exfalso
   subst Qa
   exact h0 (List.eq_nil_of_length_eq_zero Q0.symm)
  have hZ:l'≠[]:=fun e=>h0 (List.eq_nil_of_length_eq_zero (by rw[<-Q0,e];rfl))
  (try((repeat(revert N;apply Pn.out));refine wk (tw @Km.eq_1 (tw @Ko.eq_1 (tw @e3 @e2))) ?_;(repeat(apply Pn.mk;intro N hN))))
  refine .inr (aH _ _ _ _ _ (fun r σ1 hq=>?_) (Dd l' L ad hZ hR (mN.trans hp) ⟨s0.get,_⟩ o bp og))
  obtain⟨g1,x1⟩:=σ1
  obtain⟨o2,rfl,q1,q2,q3,q4⟩:=hq
  (try dsimp only at q1 q2 q3 q4)
  have k5:=(q4 ⟨47000000,σ.next⟩ bp).trans h5
  have o25:=ei (a:=⟨47000000,σ.next⟩) (b:=o2) bp
  apply hN
  clear hN N
  (try((repeat(revert N;apply Pn.out));refine wk (tw @Km.eq_1 (tw @Ko.eq_1 (tw @e2 @k5))) ?_;(repeat(apply Pn.mk;intro N hN))))
  exact fc (.inl rfl) (vs:=[.agg [.own o2 0 L.length]]) (by rw[Ko];simp only[iA,jP,go_sem, ↓reduceIte,Nat.reduceEqDiff,Nat.reduceAdd,Nat.reduceSub,Nat.reduceLeDiff,reduceCtorEq,e2]) ⟨o2,rfl,sd (tw @o25 @q1),ad,bp,bp,fun y hy VA=>by
   have h1:=dp (i:=y) (n:=σ.next) hy
   simp only[go_sem, ↓reduceIte,Nat.reduceEqDiff,Nat.reduceAdd,Nat.reduceSub,Nat.reduceLeDiff,reduceCtorEq,h1]
   exact(q4 y ad).trans (jx y hy VA)⟩
theorem nQ.three {g g':Rows} {n n':Nat} {c T O:Id} {s:au} {ts:List aa} (h:nQ g n c T O s ts) (hn:n<=n') (hc:g' c=g c) (hT:g' T=g T) (hO:g' O=g O):nQ g' n' c T O s ts:=
 ⟨hc.trans h.row,hT.trans h.tl,by rw[hO];exact h.op,Nat.lt_of_lt_of_le h.cv hn,Nat.lt_of_lt_of_le h.tv hn,Nat.lt_of_lt_of_le h.ov hn,h.cT,h.cO,h.TO⟩
theorem CR (q:aa):∀l:List aa,(l++[q]).Perm (jq l q)
 |[]=>List.Perm.refl _
 |x::l=>by
  have ih:=CR q l
  rw[jq]
  split
  ·exact List.perm_append_comm (l₁:=x::l) (l₂:=[q])
  ·exact ih.cons x
structure uF (s:au) (S:tu):Prop where
 at_:∀q,fy (s.dc.ai++S.1) q=fy S.2 q
 perm:(s.dc.ai++S.1).Perm S.2
theorem uF.fit {s:au} {S:tu} (h:uF s S) (p:aq) (t:Int):eB s (s.dc.ai++S.1) p t=eB s S.2 p t:=by
 have e:fy (s.dc.ai++S.1)=fy S.2:=funext h.at_
 unfold eB
 rw[e]
theorem uF.no {s:au} {S:tu} (h:uF s S) {p:aq} (h0:eO S.2 p<0):eO (s.dc.ai++S.1) p<0:=oy.2 fun t ht=>oy.1 h0 t (h.perm.subset ht)
theorem uF.put {s:au} {S:tu} (h:uF s S) {x:aa} (h0:eO S.2 x.bf<0):uF s (S.1++[x],jq S.2 x) where
 at_ q:=by
  show fy (s.dc.ai++(S.1++[x])) q=fy (jq S.2 x) q
  rw[<-List.append_assoc,uJ q (oy.1 (h.no h0)),E7 q (oy.1 h0),h.at_]
 perm:=by
  show(s.dc.ai++(S.1++[x])).Perm (jq S.2 x)
  rw[<-List.append_assoc]
  exact(h.perm.append_right [x]).trans (CR x S.2)
structure InR (σ:aw) (m:Nat) (c T O:Id) (s:au) (l:List aa) (S:tu) (e7:AV) (g:Rows) (n:Nat):Prop where
 Uj:nQ g n c T O s (s.dc.ai++S.1)
 u:(S.1=[]/\e7=.cr)∨∃u:Id,e7=.own u 0 S.1.length/\g u=some ⟨true,3,S.1.map ab⟩/\m<=u.bt/\u.bt<n/\0<S.1.length
 lo:m<=n
 fr:∀x:Id,x.bt<m->x≠T->x≠O->x≠c->g x=σ.get x
def kR (l:List aa) (ps:List aq) (q:aq):List aq:=if yQ q=true/\eO l q<0 then s8 ps q else ps
def gC (l:List aa) (ps:List aq) (p:aq):Nat->List aq
 |0=>ps
 |d+1=>kR l (gC l ps p d) (cj p d)
def fJ (l:List aa):Nat->List aq
 |0=>[]
 |i+1=>gC l (fJ l i) (bh l i).bf 4
def jU (l:List aa):List aq:=fJ l l.length
theorem D7 {l:List aa} {ps:List aq} (h:pH ps) (q:aq):pH (kR l ps q):=by
 unfold kR;split
 ·exact O2 h q
 ·exact h
theorem uf {l:List aa} {ps:List aq} (h:pH ps) (p:aq):∀d,pH (gC l ps p d)
 |0=>h
 |d+1=>D7 (uf h p d) _
theorem ug (l:List aa):∀i,pH (fJ l i)
 |0=>List.Pairwise.nil
 |i+1=>uf (ug l i) _ 4
theorem D6 (l:List aa) (ps:List aq) (q:aq):(kR l ps q).length<=ps.length+1:=by
 unfold kR;split
 ·exact O1 ps q
 ·omega
theorem ue (l:List aa) (ps:List aq) (p:aq):∀d,(gC l ps p d).length<=ps.length+d
 |0=>Nat.le_refl _
 |d+1=>by
  have:=ue l ps p d
  have:=D6 l (gC l ps p d) (cj p d)
  simp only[gC];omega
theorem nw (l:List aa):∀i,(fJ l i).length<=i*4
 |0=>Nat.le_refl _
 |i+1=>by
  have:=nw l i
  have:=ue l (fJ l i) (bh l i).bf 4
  simp only[fJ];omega
theorem Ax (l:List aa) (ps:List aq) (p:aq) (x:aq):∀d,x∈gC l ps p d↔x∈ps∨∃k,k<d/\x=cj p (k:Nat)/\yQ x=true/\eO l x<0
 |0=>⟨.inl,fun h=>h.elim id fun⟨_,h,_⟩=>absurd h (Nat.not_lt_zero _)⟩
 |d+1=>by
  simp only[gC,kR]
  have ih:=Ax l ps p x d
  split
  ·rename_i h
   rw[OC,ih]
   constructor
   ·rintro(rfl|h1|⟨k,h1,h2⟩)
    ·exact .inr ⟨d,Nat.lt_succ_self _,rfl,h⟩
    ·exact .inl h1
    ·exact .inr ⟨k,ad,h2⟩
   ·rintro(h1|⟨k,h1,h2⟩)
    ·exact .inr (.inl h1)
    ·by_cases hk:k=d
     ·subst hk;exact .inl h2.1
     ·exact .inr (.inr ⟨k,ad,h2⟩)
  ·rename_i h
   rw[ih]
   constructor
   ·rintro(h1|⟨k,h1,h2⟩)
    ·exact .inl h1
    ·exact .inr ⟨k,ad,h2⟩
   ·rintro(h1|⟨k,h1,h2⟩)
    ·exact .inl h1
    ·by_cases hk:k=d
     ·subst hk;rw[h2.1]at h2;exact absurd h2.2 h
     ·exact .inr ⟨k,ad,h2⟩
def EX (l:List aa) (x:aq):Prop:=yQ x=true/\eO l x<0/\∃i d:Nat,i<l.length/\d<4/\x=cj (bh l i).bf d
theorem Ay (l:List aa) (x:aq):∀i,x∈fJ l i↔∃j d:Nat,j<i/\d<4/\x=cj (bh l j).bf d/\yQ x=true/\eO l x<0
 |0=>⟨fun h=>(by cases h),fun⟨_,_,h,_⟩=>absurd h (Nat.not_lt_zero _)⟩
 |i+1=>by
  simp only[fJ]
  rw[Ax,Ay l x i]
  constructor
  ·rintro(⟨j,d,h1,h2⟩|⟨d,h1,h2⟩)
   ·exact⟨j,d,ad,h2⟩
   ·exact⟨i,d,Nat.lt_succ_self _,h1,h2⟩
  ·rintro⟨j,d,h1,h2,h3⟩
   by_cases hj:j=i
   ·subst hj;exact .inr ⟨d,h2,h3⟩
   ·exact .inl ⟨j,d,ad,h2,h3⟩
theorem xn (l:List aa) (x:aq):x∈jU l↔EX l x:=by
 unfold jU EX
 rw[Ay]
 exact⟨fun⟨j,d,h1,h2,h3,h4,h5⟩=>⟨h4,h5,j,d,h1,h2,h3⟩,fun⟨h4,h5,j,d,h1,h2,h3⟩=>⟨j,d,h1,h2,h3,h4,h5⟩⟩
theorem Lr (l:List aa) (hF:mm l) (σ:aw):Call Tryz.prog 116 [.er [.sl (l.map ab)]] σ (X7 σ (fun _=>True) (jU l)):=by
 refine fV fW rfl fun jd=>?_
 clear jd
 have hR:=hF.Br
 have Ab:=hF.xR
 (try((repeat(revert N;apply Pn.out));refine wk @Nat.zero_add ?_;(repeat(apply Pn.mk;intro N hN))))
 refine cm (fun n env st=>∃i:Nat,n=(l.length)-i/\i<=(l.length)/\env 4=.int .i64 (i:Int)/\(∃o:Id,env 3=.own o 0 (fJ l i).length/\st.get o=some ⟨true,2,(fJ l i).map ah⟩/\o.bt<st.next/\σ.next<=o.bt/\∀x:Id,x.bt<σ.next->st.get x=σ.get x)) (l.length) ⟨0,ad,ad,sl @Nat.zero_add,⟨⟨116001000,σ.next+1⟩,by simp only[go_sem, ↓reduceIte,Nat.reduceEqDiff,Nat.reduceAdd,Nat.reduceSub,Nat.reduceLeDiff,reduceCtorEq];rfl,by simp only[go_sem, ↓reduceIte,Nat.reduceEqDiff,Nat.reduceAdd,Nat.reduceSub,Nat.reduceLeDiff,reduceCtorEq];rfl,bp,bp,fun x hx=>by
  have:=dp (i:=x) (n:=σ.next+1) ad
  simp only[go_sem, ↓reduceIte,Nat.reduceEqDiff,Nat.reduceAdd,Nat.reduceSub,Nat.reduceLeDiff,reduceCtorEq,this]⟩⟩ ?_
 rintro n_a env_a st_a ⟨i,rfl,ale,a4,oI⟩ eJ
 have a0:=eJ 0 (by kernel_rfl)
 simp only[go_sem, ↓reduceIte,Nat.reduceEqDiff,Nat.reduceAdd,Nat.reduceSub,Nat.reduceLeDiff,reduceCtorEq]at a0
 clear eJ
 obtain⟨o,a3,ag,M3,SP,eJ⟩:=oI
 by_cases hi:(i:Int)<(l.length:Int)
 ·have eh:∀{e:Env} {gg:Rows} {nx:Nat},(e 4=.int .i64 (IntKind.i64.wrap ((i:Int)+1)))->(∃o:Id,e 3=.own o 0 (fJ l (i+1)).length/\gg o=some ⟨true,2,(fJ l (i+1)).map ah⟩/\o.bt<nx/\σ.next<=o.bt/\∀x:Id,x.bt<σ.next->gg x=σ.get x)->∃m0,m0<(l.length)-i/\∃i:Nat,m0=(l.length)-i/\i<=(l.length)/\e 4=.int .i64 (i:Int)/\(∃o:Id,e 3=.own o 0 (fJ l i).length/\gg o=some ⟨true,2,(fJ l i).map ah⟩/\o.bt<nx/\σ.next<=o.bt/\∀x:Id,x.bt<σ.next->gg x=σ.get x):=fun x1 x2=>⟨_,ad,i+1,rfl,ad,(by rw[x1,aX ad]),x2⟩
  have gS:i<l.length:=ad
  (try((repeat(revert N;apply Pn.out));refine wk (tw @a4 (tw @a0 (tw @a3 @hi))) ?_;(repeat(apply Pn.mk;intro N hN))))
  refine cm (fun n env st=>∃d:Nat,n=(4)-d/\d<=(4)/\env 5=.int .i64 (d:Int)/\(∃o:Id,env 3=.own o 0 (gC l (fJ l i) (bh l i).bf d).length/\st.get o=some ⟨true,2,(gC l (fJ l i) (bh l i).bf d).map ah⟩/\o.bt<st.next/\σ.next<=o.bt/\∀x:Id,x.bt<σ.next->st.get x=σ.get x)) (4) ⟨0,ad,ad,sl (tw @a4 @a0),⟨o,by simp only[go_sem, ↓reduceIte,Nat.reduceEqDiff,Nat.reduceAdd,Nat.reduceSub,Nat.reduceLeDiff,reduceCtorEq,a3,gC],by simp only[go_sem, ↓reduceIte,Nat.reduceEqDiff,Nat.reduceAdd,Nat.reduceSub,Nat.reduceLeDiff,reduceCtorEq,ag,gC],bp,SP,fun x hx=>sd (eJ x hx)⟩⟩ ?_
  rintro n_b env_b st_b ⟨d,rfl,ble,b5,bI0⟩ fb
  have b0:=fb 0 (by kernel_rfl);have b4:=fb 4 (by kernel_rfl)
  simp only[go_sem, ↓reduceIte,Nat.reduceEqDiff,Nat.reduceAdd,Nat.reduceSub,Nat.reduceLeDiff,reduceCtorEq,a4,a0]at b0 b4
  clear fb
  obtain⟨ob,b3,bg,bov,SR,fb⟩:=bI0
  by_cases hd:(d:Int)<4
  ·have fS:∀{e:Env} {gg:Rows} {nx:Nat},(e 5=.int .i64 (IntKind.i64.wrap ((d:Int)+1)))->(∃o:Id,e 3=.own o 0 (gC l (fJ l i) (bh l i).bf (d+1)).length/\gg o=some ⟨true,2,(gC l (fJ l i) (bh l i).bf (d+1)).map ah⟩/\o.bt<nx/\σ.next<=o.bt/\∀x:Id,x.bt<σ.next->gg x=σ.get x)->∃m0,m0<(4)-d/\∃d:Nat,m0=(4)-d/\d<=(4)/\e 5=.int .i64 (d:Int)/\(∃o:Id,e 3=.own o 0 (gC l (fJ l i) (bh l i).bf d).length/\gg o=some ⟨true,2,(gC l (fJ l i) (bh l i).bf d).map ah⟩/\o.bt<nx/\σ.next<=o.bt/\∀x:Id,x.bt<σ.next->gg x=σ.get x):=fun x1 x2=>⟨_,ad,d+1,rfl,ad,(by rw[x1,aX ad]),x2⟩
   have jZ:=gK gS
   have Tg:=uj (hF.pt gS)
   have eA:=xk (bh l i).bf d (j7 ad) Tg.1 Tg.2
   have Zr:=Ap (cj (bh l i).bf d)
   have mO:=dp bov
   have EM:((gC l (fJ l i) (bh l i).bf d).map ah).length=(gC l (fJ l i) (bh l i).bf d).length:=by simp
   cases hp:yQ (cj (bh l i).bf d)
   ·rw[hp]at Zr
    have sj:gC l (fJ l i) (bh l i).bf (d+1)=gC l (fJ l i) (bh l i).bf d:=by
     simp only[gC,kR];rw[if_neg fun h=>by rw[hp]at h;cases h.1]
    (have zF:=tw @b5 (tw @b0 (tw @b4 (tw @b3 (tw @bg (tw @hd (tw @jZ (tw @mO (tw @ab.eq_1 @ah.eq_1))))))));(repeat(first|((repeat(revert N;apply Pn.out));refine wk zF ?_;(repeat(apply Pn.mk;intro N hN)))|((try apply Or.inl);refine⟨_,ax.x (eA) (sd zF),?_⟩;apply hN;clear hN N)|((try apply Or.inl);refine⟨_,ax.x (Zr) (sd zF),?_⟩;apply hN;clear hN N)));try clear zF)
    exact fS (sd (tw @b5 (tw @b0 (tw @b4 @ah.eq_1)))) (by exact⟨ob,sd (tw @b3 @sj),sd (tw @bg (tw @mO @sj)),bp,SR,fun x hx=>by
     have h1:=dp (i:=x) (n:=st_b.next) ad
     have h2:=dp (i:=x) (n:=st_b.next+1) ad
     have h3:=fb x hx
     simp only[go_sem, ↓reduceIte,Nat.reduceEqDiff,Nat.reduceAdd,Nat.reduceSub,Nat.reduceLeDiff,reduceCtorEq,h1,h2,h3]⟩)
   ·rw[hp]at Zr
    have He:=tX l (cj (bh l i).bf d) hR ad
    by_cases hx:eO l (cj (bh l i).bf d)<0
    ·have sj:gC l (fJ l i) (bh l i).bf (d+1)=s8 (gC l (fJ l i) (bh l i).bf d) (cj (bh l i).bf d):=by
      simp only[gC,kR];rw[if_pos ⟨hp,hx⟩]
     have Vb:=ue l (fJ l i) (bh l i).bf d
     have Q0:=nw l i
     (have zF:=tw @b5 (tw @b0 (tw @b4 (tw @b3 (tw @bg (tw @hd (tw @jZ (tw @mO (tw @hx (tw @ab.eq_1 @ah.eq_1)))))))));(repeat(first|((repeat(revert N;apply Pn.out));refine wk zF ?_;(repeat(apply Pn.mk;intro N hN)))|((try apply Or.inl);refine⟨_,ax.x (eA) (sd zF),?_⟩;apply hN;clear hN N)|((try apply Or.inl);refine⟨_,ax.x (Zr) (sd zF),?_⟩;apply hN;clear hN N)|((try apply Or.inl);refine⟨_,ax.x (He) (sd zF),?_⟩;apply hN;clear hN N)));try clear zF)
     refine .inr (aH _ _ _ _ _ (fun r σ1 hq=>?_) (BP _ (uf (ug l i) _ d) ad (cj (bh l i).bf d) ob _ (sd (tw @bg @mO)) bp))
     obtain⟨g1,x1⟩:=σ1
     obtain⟨o1,rfl,q1,q2,q3,q4,q5⟩:=hq
     (try dsimp only at q1 q2 q3 q4 q5)
     apply hN
     clear hN N
     (try((repeat(revert N;apply Pn.out));refine wk (tw @b5 (tw @b0 @b4)) ?_;(repeat(apply Pn.mk;intro N hN))))
     exact fS (sd (tw @b5 (tw @b0 (tw @b4 @ah.eq_1)))) (by exact⟨o1,sd @sj,sd (tw @q1 @sj),bp,by
      rcases q4 with h|h
      ·omega
      ·have:o1=ob:=by simpa using h
       rw[this];exact SR,fun x hx=>by
      have h1:=dp (i:=x) (n:=st_b.next) ad
      have h2:=dp (i:=x) (n:=st_b.next+1) ad
      have h3:=fb x hx
      have h4:(x=ob)=False:=eq_false fun h=>by rw[h]at hx;omega
      have h5:=q5 x ad h4
      simp only[go_sem, ↓reduceIte,Nat.reduceEqDiff,Nat.reduceAdd,Nat.reduceSub,Nat.reduceLeDiff,reduceCtorEq,h1,h2,h3,h5]⟩)
    ·have sj:gC l (fJ l i) (bh l i).bf (d+1)=gC l (fJ l i) (bh l i).bf d:=by
      simp only[gC,kR];rw[if_neg fun h=>hx h.2]
     (have zF:=tw @b5 (tw @b0 (tw @b4 (tw @b3 (tw @bg (tw @hd (tw @jZ (tw @mO (tw @hx (tw @ab.eq_1 @ah.eq_1)))))))));(repeat(first|((repeat(revert N;apply Pn.out));refine wk zF ?_;(repeat(apply Pn.mk;intro N hN)))|((try apply Or.inl);refine⟨_,ax.x (eA) (sd zF),?_⟩;apply hN;clear hN N)|((try apply Or.inl);refine⟨_,ax.x (Zr) (sd zF),?_⟩;apply hN;clear hN N)|((try apply Or.inl);refine⟨_,ax.x (He) (sd zF),?_⟩;apply hN;clear hN N)));try clear zF)
     exact fS (sd (tw @b5 (tw @b0 (tw @b4 @ah.eq_1)))) (by exact⟨ob,sd (tw @b3 @sj),sd (tw @bg (tw @mO @sj)),bp,SR,fun x hx=>by
      have h1:=dp (i:=x) (n:=st_b.next) ad
      have h2:=dp (i:=x) (n:=st_b.next+1) ad
      have h3:=fb x hx
      simp only[go_sem, ↓reduceIte,Nat.reduceEqDiff,Nat.reduceAdd,Nat.reduceSub,Nat.reduceLeDiff,reduceCtorEq,h1,h2,h3]⟩)
  ·have UY:d=4:=ad
   rw[UY]at b3 bg
   have hnu:gC l (fJ l i) (bh l i).bf 4=fJ l (i+1):=rfl
   rw[hnu]at b3 bg
   (try((repeat(revert N;apply Pn.out));refine wk (tw @b5 (tw @b0 (tw @b4 (tw @b3 (tw @bg @hd))))) ?_;(repeat(apply Pn.mk;intro N hN))))
   exact eh (sd (tw @b5 (tw @b0 (tw @b4 @ah.eq_1)))) (by exact⟨ob,sd @b3,sd @bg,bp,SR,fun x hx=>sd (fb x hx)⟩)
 ·have oj:i=l.length:=ad
  (try((repeat(revert N;apply Pn.out));refine wk (tw @a4 (tw @a0 (tw @a3 (tw @ag @hi)))) ?_;(repeat(apply Pn.mk;intro N hN))))
  exact fc (.inl rfl) (vs:=[.own o 0 (fJ l i).length]) (sd @a3) ⟨o,by rw[jU,<-oj];rfl,by rw[jU,<-oj];simp only[go_sem, ↓reduceIte,Nat.reduceEqDiff,Nat.reduceAdd,Nat.reduceSub,Nat.reduceLeDiff,reduceCtorEq,ag],bp,bp,.inl SP,fun x hx _=>sd (eJ x hx)⟩
structure Wr2 (g:Rows) (n:Nat) (A S C c T O:Id) (s:au) (l:List aa):Prop where
 a:∃b,g A=some ⟨b,1,[[.sl (l.map ab)]]⟩
 sy:∃b,g S=some ⟨b,4,[dh s]⟩
 p:∃b,g C=some ⟨b,1,[[.ptr c 0 0]]⟩
 Uj:EU g n c T O s l
 av:A.bt<n
 sv:S.bt<n
 pv:C.bt<n
def ye (p:aq->Bool) (l:List aq):List aq:=l.filter fun x=> !p x
theorem VI {p:aq->Bool} {l:List aq} {j:Nat} (hj:j<l.length):ye p (l.take (j+1))=ye p (l.take j)++if p l[j]=true then[]else[l[j]]:=by
 unfold ye
 rw[List.take_succ_eq_append_getElem hj,List.filter_append]
 congr 1
 cases h:p l[j]<;>simp[h]
theorem VH {p:aq->Bool} {l:List aq} (h:∀b∈l,p b=false):ye p l=l:=by
 unfold ye
 rw[List.filter_eq_self]
 intro b hb
 rw[h b hb];rfl
structure DlP (p:aq->Bool) (bs:List aq) (j:Nat) (R:List aq):Prop where
 len:R.length=bs.length
 pre:R.take (ye p (bs.take j)).length=ye p (bs.take j)
 post:∀x,j<=x->R[x]? =bs[x]?
 lt:(ye p (bs.take j)).length<j
structure qc (n:Nat) (px:Nat->Option Nat) (L:Nat->Nat):Prop where
 top:∀k,k<n->px k=none->L k=k
 up:∀k j,k<n->px k=some j->j<k/\L j=L k
theorem qc.root {n:Nat} {px:Nat->Option Nat} {L:Nat->Nat} (h:qc n px L) (hL:lq L) {k:Nat} (hk:k<n) (hr:L k=k):px k=none:=by
 rcases hp:px k with _|j
 ·rfl
 ·obtain⟨h1,h2⟩:=h.up k j hk hp
  have:=hL.le j
  omega
theorem qc.start (n:Nat):qc n (fun _=>none) id:=⟨fun _ _ _=>rfl,fun _ _ _ h=>by cases h⟩
theorem qc.join {n:Nat} {px:Nat->Option Nat} {L:Nat->Nat} (h:qc n px L) (hL:lq L) (b:PB) (eP:min (L b.a) (L b.b)<max (L b.a) (L b.b)):qc n (fun k=>if k=max (L b.a) (L b.b)then some (min (L b.a) (L b.b))else px k) (fR L b):=by
 have ha:=hL.idem b.a
 have hb:=hL.idem b.b
 have DN:L (min (L b.a) (L b.b))=min (L b.a) (L b.b):=by
  rcases Nat.le_total (L b.a) (L b.b)with h|h
  ·rw[Nat.min_eq_left h,ha]
  ·rw[Nat.min_eq_right h,hb]
 have XH:L (max (L b.a) (L b.b))=max (L b.a) (L b.b):=by
  rcases Nat.le_total (L b.a) (L b.b)with h|h
  ·rw[Nat.max_eq_right h,hb]
  ·rw[Nat.max_eq_left h,ha]
 unfold fR
 generalize min (L b.a) (L b.b)=lo at *
 generalize max (L b.a) (L b.b)=hi at *
 refine⟨fun k hk hp=>?_,fun k j hk hp=>?_⟩
 ·by_cases P7:k=hi
  ·rw[if_pos P7]at hp;cases hp
  ·rw[if_neg P7]at hp
   have:=h.top k hk hp
   rw[if_neg ad];exact this
 ·by_cases P7:k=hi
  ·rw[if_pos P7]at hp
   cases hp
   subst P7
   exact⟨eP,by rw[if_neg ad,if_pos XH,DN]⟩
  ·rw[if_neg P7]at hp
   obtain⟨h1,h2⟩:=h.up k j hk hp
   exact⟨h1,by rw[h2]⟩
theorem DU {L:Nat->Nat} {b:PB} (h:L b.a=L b.b):fR L b=L:=by
 funext k
 unfold fR
 rw[h,Nat.max_self,Nat.min_self]
 split
 ·rename_i h;exact h.symm
 ·rfl
def xc (G:Nat->Id) (px:Nat->Option Nat) (k:Nat):List AV:=[match px k with|none=>.jn|some j=>.ptr (G j) 0 0,.int .i64 (k:Int)]
def yz (g:Rows) (G:Nat->Id) (n:Nat) (px:Nat->Option Nat):Prop:=∀k,k<n->g (G k)=some ⟨true,2,[xc G px k]⟩
theorem yz.frame {g g':Rows} {G:Nat->Id} {n:Nat} {px:Nat->Option Nat} (h:yz g G n px) (hf:∀k,k<n->g' (G k)=g (G k)):yz g' G n px:=fun k hk=>(hf k hk).trans (h k hk)
theorem oe {G:Nat->Id} {px:Nat->Option Nat} {k:Nat} (h:px k=none):xc G px k=[.jn,.int .i64 (k:Int)]:=by rw[xc,h]
theorem xZ {G:Nat->Id} {px:Nat->Option Nat} {k j:Nat} (h:px k=some j):xc G px k=[.ptr (G j) 0 0,.int .i64 (k:Int)]:=by rw[xc,h]
theorem Du (G:Nat->Id) (n:Nat) (px:Nat->Option Nat) (L:Nat->Nat) (h:qc n px L) (k:Nat) (hk:k<n) (σ:aw) (hG:yz σ.get G n px):
  Call Tryz.prog 212 [.ptr (G k) 0 0] σ fun r σ'=>r=.ptr (G (L k)) 0 0/\σ'.get=σ.get/\σ.next<=σ'.next:=by
 refine fV fW rfl fun hl=>?_
 clear hl
 (try((repeat(revert N;apply Pn.out));refine wk @Nat.zero_add ?_;(repeat(apply Pn.mk;intro N hN))))
 refine cm (fun m env st=>∃j:Nat,m=j/\j<n/\env 0=.ptr (G j) 0 0/\L j=L k/\st.get=σ.get/\σ.next<=st.next) k ⟨k,rfl,hk,sd @Nat.zero_add,rfl,by(try dsimp only),bp⟩ ?_
 rintro m env_b st_b ⟨j,rfl,hj,b0,hLj,hg,hle⟩ fb
 clear fb
 have fC:=hG m hj
 rcases hp:px m with _|j
 ·rw[oe hp]at fC
  (try((repeat(revert N;apply Pn.out));refine wk (tw @b0 (tw @hg @fC)) ?_;(repeat(apply Pn.mk;intro N hN))))
  exact fc (.inl rfl) (vs:=[.ptr (G m) 0 0]) (sd @Nat.zero_add) ⟨by rw[<-hLj,h.top m hj hp];rfl,by first|trivial|rfl|exact hg,bp⟩
 ·rw[xZ hp]at fC
  obtain⟨h1,h2⟩:=h.up m j hj hp
  (try((repeat(revert N;apply Pn.out));refine wk (tw @b0 (tw @hg @fC)) ?_;(repeat(apply Pn.mk;intro N hN))))
  exact⟨j,h1,j,rfl,ad,sd @Nat.zero_add,ad,by first|trivial|rfl|exact hg,bp⟩
end Go.Proofs.YtoodopepphhpoaaGreatDoor.V

namespace Go.Proofs.YtoodopepphhpoaaGreatDoor.V
open Go.RowKit
attribute [local irreducible] eu wpOps fB Call
attribute [local go_sem] aD fx eK fG fF dz upd cw K.av cJ AV.cells AV.cell rowOf rowsOf part ld rowAt fY ck cq dF dP gh bH da ec fD eU dx dV cY cX dJ dK bK aU cP bJ cR cQ dS dW dU cL bU cZ dQ bI aA cV cE fZ bq cI bQ aP dr bd dG AV.undef bx bD dL dM dH dI cH eb ee cD dY dX cU cW List.getD_cons_zero List.getD_cons_succ List.getD_nil List.all_cons List.all_nil Bool.and_true Bool.true_and Bool.and_self Bool.not_true Bool.not_false Option.map_some Option.map_none Option.bind_some Option.bind_none List.length_cons List.length_nil List.take_succ_cons List.take_zero List.take_nil List.drop_succ_cons List.drop_zero List.drop_nil List.head?_cons List.map_cons List.map_nil List.getElem?_cons_zero List.getElem?_cons_succ List.cons_append List.nil_append List.append_nil List.length_map List.set_cons_zero List.set_cons_succ eq_self Int.toNat_natCast Int.natCast_nonneg and_self true_and and_true decide_true decide_false Bool.false_eq_true Nat.zero_add Nat.add_zero List.contains_cons List.contains_nil Bool.or_false Bool.false_or beq_self_eq_true ne_eq not_true_eq_false not_false_eq_true Id.mk.injEq false_and and_false Nat.le_refl List.length_append beq_true beq_false Bool.not_eq_eq_eq_not or_false false_or ez aj ar aJ aZ bF cz aM bj aK aW cK br
abbrev mI:MK:=⟨false,[.tI]⟩
def xi (l:List (Nat×Nat)):List (List AV):=l.map fun p=>[.int .i64 (p.1:Int),.int .i64 (p.2:Int)]
theorem Ga (r:Nat):∀(l:List (Nat×Nat)) (i:Nat),((∀p∈l,p.1≠r)->iE mI [.int .i64 (r:Int)] (xi l) i=some none)/\(∀j v,l[j]? =some (r,v)->(∀x y,x<j->l[x]? =some y->y.1≠r)->iE mI [.int .i64 (r:Int)] (xi l) i=some (some (i+j)))
 |[],i=>⟨fun _=>rfl,fun j v h=>by simp at h⟩
 |p::l,i=>by
  obtain⟨h1,h2⟩:=Ga r l (i+1)
  by_cases h:p.1=r
  ·refine⟨fun hp=>absurd h (hp p (by simp)),fun j v hj hf=>?_⟩
   have Te:j=0:=by
    rcases Nat.eq_zero_or_pos j with h0|h0
    ·exact h0
    ·exact absurd h (hf 0 p h0 (by simp))
   subst Te
   simp[xi,iE,eU,fD,MK.ks,h]
  ·have hd:¬((r:Int)=(p.1:Int)):=ad
   have oi:¬r=p.1:=fun he=>h he.symm
   have step:iE mI [.int .i64 (r:Int)] (xi (p::l)) i=iE mI [.int .i64 (r:Int)] (xi l) (i+1):=by
    unfold xi
    simp[iE,MK.ks,eU,fD,hd,oi,h]
   rw[step]
   refine⟨fun hp=>h1 fun q hq=>hp q (by simp[hq]),fun j v hj hf=>?_⟩
   cases j with
   |zero=>simp at hj;rw[hj]at h;exact absurd rfl h
   |succ j=>
    rw[h2 j v (by simpa using hj) fun x y hx hy=>hf (x+1) y ad (by simpa using hy)]
    congr 2;omega
theorem Cz {r:Nat} {l:List (Nat×Nat)}:((∀p∈l,p.1≠r)->iz mI (.int .i64 (r:Int)) (xi l)=some none)/\(∀j v,l[j]? =some (r,v)->(∀x y,x<j->l[x]? =some y->y.1≠r)->iz mI (.int .i64 (r:Int)) (xi l)=some (some j)):=by
 have e:iz mI (.int .i64 (r:Int)) (xi l)=iE mI [.int .i64 (r:Int)] (xi l) 0:=by
  unfold iz
  rw[if_pos ⟨rfl,rfl,rfl⟩];rfl
 obtain⟨h1,h2⟩:=Ga r l 0
 rw[e]
 exact⟨h1,fun j v hj hf=>by rw[h2 j v hj hf,Nat.zero_add]⟩
def nu (k:Nat) (L:Nat->Nat):List (List AV):=xi (leads k L).zipIdx
theorem Iq {k:Nat} {L:Nat->Nat} (h:L k=k):nu (k+1) L=nu k L++[[.int .i64 (k:Int),.int .i64 ((leads k L).length:Int)]]:=by
 unfold nu
 rw[jm,if_pos h,List.zipIdx_append]
 simp[xi]
theorem Ip {k:Nat} {L:Nat->Nat} (h:L k≠k):nu (k+1) L=nu k L:=by
 unfold nu
 rw[jm,if_neg h,List.append_nil]
theorem Lu {k:Nat} {L:Nat->Nat} (h:L k=k):iz mI (.int .i64 (k:Int)) (nu k L)=some none:=by
 refine Cz.1 fun p hp=>?_
 have:=List.fst_mem_of_mem_zipIdx hp
 have:=(CE.1 this).1
 omega
theorem CD {n:Nat} {L:Nat->Nat} {x y:Nat} (hx:x<(leads n L).length) (hy:y<(leads n L).length) (h:(leads n L)[x]=(leads n L)[y]):x=y:=by
 have hp:=List.pairwise_iff_getElem.1 (yg n L)
 rcases Nat.lt_trichotomy x y with eP|he|eP
 ·exact absurd h (hp x y hx hy eP)
 ·exact he
 ·exact absurd h.symm (hp y x hy hx eP)
theorem CC {k:Nat} {L:Nat->Nat} (hL:lq L) (h:L k≠k):iz mI (.int .i64 (L k:Int)) (nu k L)=some (some (dv L k))/\(nu k L)[dv L k]? =some [.int .i64 (L k:Int),.int .i64 (dv L k:Int)]/\dv L k<(leads k L).length:=by
 have eP:L k<k:=Nat.lt_of_le_of_ne (hL.le k) h
 have hn:dv L (L k)=dv L k:=by rw[dv,hL.idem,dv]
 have hg:=sq hL eP
 rw[hn,hL.idem]at hg
 have hl:dv L k<(leads k L).length:=(List.getElem?_eq_some_iff.1 hg).1
 have hz:(leads k L).zipIdx[dv L k]? =some (L k,dv L k):=by simp[List.getElem?_zipIdx,hg]
 refine⟨Cz.2 _ _ hz fun x y hx hy=>?_,by unfold nu xi;rw[List.getElem?_map,hz];rfl,hl⟩
 intro he
 rw[List.getElem?_zipIdx]at hy
 have hxl:x<(leads k L).length:=ad
 rw[List.getElem?_eq_getElem hxl]at hy
 simp at hy
 rw[<-hy]at he
 simp at he
 have e2:(leads k L)[dv L k]=L k:=(List.getElem?_eq_some_iff.1 hg).2
 have:=CD hxl hl (he.trans e2.symm)
 omega
def ly (k:Nat) (L:Nat->Nat):List (List Nat):=(leads k L).map (members k L)
theorem tN (k:Nat) (L:Nat->Nat):(ly k L).length=(leads k L).length:=by simp[ly]
theorem HS {k:Nat} {L:Nat->Nat} (hL:lq L) (h:L k=k):ly (k+1) L=ly k L++[[k]]:=by
 unfold ly
 rw[jm,if_pos h,List.map_append,List.map_cons,List.map_nil,kQ,if_pos h,pQ hL (Nat.le_refl k),List.nil_append]
 congr 1
 refine List.map_congr_left fun r hr=>?_
 have:=(CE.1 hr).1
 rw[kQ,if_neg ad,List.append_nil]
theorem HT {k:Nat} {L:Nat->Nat} (hL:lq L) (h:L k≠k):(ly k L)[dv L k]? =some (members k L (L k))/\ly (k+1) L=(ly k L).set (dv L k) (members k L (L k)++[k]):=by
 obtain⟨_,_,hl⟩:=CC hL h
 have eP:L k<k:=Nat.lt_of_le_of_ne (hL.le k) h
 have hg:=sq hL eP
 have hn:dv L (L k)=dv L k:=by rw[dv,hL.idem,dv]
 rw[hn,hL.idem]at hg
 refine⟨by unfold ly;rw[List.getElem?_map,hg];rfl,?_⟩
 unfold ly
 rw[jm,if_neg h,List.append_nil]
 refine List.ext_getElem? fun i=>?_
 rw[List.getElem?_set,List.getElem?_map,List.length_map]
 by_cases hi:dv L k=i
 ·subst hi
  rw[if_pos rfl,if_pos hl,hg,Option.map_some,kQ,if_pos rfl]
 ·rw[if_neg hi,List.getElem?_map]
  rcases hr:(leads k L)[i]? with _|r
  ·rfl
  ·rw[Option.map_some,Option.map_some,kQ,if_neg,List.append_nil]
   rintro rfl
   obtain⟨oj,he⟩:=List.getElem?_eq_some_iff.1 hr
   have e2:(leads k L)[dv L k]=L k:=(List.getElem?_eq_some_iff.1 hg).2
   exact hi (CD hl oj (e2.trans he.symm))
theorem Gu (k:Nat) (L:Nat->Nat) (r:Nat):(members k L r).length<=k:=by
 have:=List.length_filter_le (fun x=>L x==r) (List.range k)
 simpa[members]using this
def PX (g:Rows) (o:Id) (L:List (List Nat)) (nx:Nat):Prop:=∃rows ids,g o=some ⟨true,1,rows⟩/\gr Xq g rows L ids/\ids.Nodup/\(∀i∈ids,i.site=189026008/\i.bt<nx)/\o.site=189025002/\o.bt<nx
theorem QM {g':Rows} {v v' BR j:Nat} (h1:g' ⟨189025002,v⟩=some ⟨true,1,[[.own ⟨189026008,v'⟩ 0 1]]⟩) (h2:g' ⟨189026008,v'⟩=some ⟨true,1,[eN j]⟩) (hv:v<BR) (qF:v'<BR):PX g' ⟨189025002,v⟩ [[j]] BR:=
 ⟨_,[⟨189026008,v'⟩],h1,.one ⟨_,rfl,h2,rfl⟩,by simp,fun i hi=>by rw[List.mem_singleton.1 hi];exact⟨rfl,qF⟩,rfl,hv⟩
theorem PX.new {g:Rows} {o:Id} {L:List (List Nat)} {nx:Nat} (h:PX g o L nx) (j:Nat):∃rows,g o=some ⟨true,1,rows⟩/\rows.length=L.length/\∀(g':Rows) (v v' BR:Nat),nx<=v'->v<BR->v'<BR->g' ⟨189025002,v⟩=some ⟨true,1,rows++[[.own ⟨189026008,v'⟩ 0 1]]⟩->g' ⟨189026008,v'⟩=some ⟨true,1,[eN j]⟩->(∀i:Id,i.site=189026008->i.bt<nx->g' i=g i)->PX g' ⟨189025002,v⟩ (L++[[j]]) BR:=by
 obtain⟨rows,ids,h1,h2,h3,h4,h5,h6⟩:=h
 refine⟨rows,h1,h2.len,fun g' v v' BR hv tW Rc q1 q2 q3=>⟨_,ids++[⟨189026008,v'⟩],q1,(h2.frame VM fun i hi=>q3 i (h4 i hi).1 (h4 i hi).2).app (.one ⟨_,rfl,q2,rfl⟩),?_,fun i hi=>?_,rfl,tW⟩⟩
 ·refine List.nodup_append.2 ⟨h3,by simp,fun a ha b hb pB=>?_⟩
  rw[List.mem_singleton.1 hb]at pB
  have:=(h4 a ha).2
  rw[pB]at this
  simp only at this
  omega
 ·rcases List.mem_append.1 hi with hi|hi
  ·have:=h4 i hi;exact⟨this.1,ad⟩
  ·rw[List.mem_singleton.1 hi];exact⟨rfl,Rc⟩
theorem PX.add {g:Rows} {o:Id} {L:List (List Nat)} {nx k:Nat} {La:List Nat} (h:PX g o L nx) (hk:L[k]? =some La) (j:Nat):∃rows id,g o=some ⟨true,1,rows⟩/\rows.length=L.length/\rows[k]? =some [.own id 0 La.length]/\g id=some ⟨true,1,La.map eN⟩/\id.site=189026008/\id.bt<nx/\∀(g':Rows) (v' BR:Nat),nx<=v'->v'<BR->g' o=some ⟨true,1,rows.set k [.own ⟨189026008,v'⟩ 0 (La.length+1)]⟩->g' ⟨189026008,v'⟩=some ⟨true,1,La.map eN++[[.int .i64 (j:Int)]]⟩->(∀i:Id,i.site=189026008->i.bt<nx->(i=id)=False->g' i=g i)->PX g' o (L.set k (La++[j])) BR:=by
 obtain⟨rows,ids,h1,h2,h3,h4,h5,h6⟩:=h
 have lk:k<L.length:=(List.getElem?_eq_some_iff.1 hk).1
 have hLk:=nh hk lk
 obtain⟨cs,ic,eD,Xy,Zc,s4⟩:=h2.Z5 VM h3 k lk
 rw[hLk]at Xy
 obtain⟨id,rfl,q1,rfl⟩:=Xy
 have hid:=h4 id (Zc id (by simp))
 refine⟨rows,id,h1,h2.len,eD,q1,hid.1,hid.2,fun g' v' BR hv tW r1 r2 r3=>?_⟩
 obtain⟨Ig,s1,s2,s3⟩:=s4 g' [.own ⟨189026008,v'⟩ 0 (La.length+1)] (La++[j]) [⟨189026008,v'⟩] ⟨_,by simp,by rw[r2];simp[eN],rfl⟩ (fun i hi hni=>r3 i (h4 i hi).1 (h4 i hi).2 (by
  simp only[eq_iff_iff,iff_false];rintro rfl;exact hni (by simp))) (by simp) fun i hi hc=>by
   rw[List.mem_singleton.1 hi]at hc
   have:=(h4 _ hc).2
   simp only at this
   omega
 refine⟨_,Ig,r1,s1,s2,fun i hi=>?_,h5,ad⟩
 rcases s3 i hi with h|h
 ·rw[List.mem_singleton.1 h];exact⟨rfl,tW⟩
 ·have:=h4 i h;exact⟨this.1,ad⟩
def oQ (G:Nat->Id) (n k:Nat):List (List AV):=(List.range n).map fun i=>[if i<k then .ptr (G i) 0 0 else .jn]
theorem pr (G:Nat->Id) (n k:Nat):(oQ G n k).length=n:=by simp[oQ]
theorem L1 (G:Nat->Id) (n:Nat):List.replicate n [AV.jn]=oQ G n 0:=by
 refine List.ext_getElem? fun i=>?_
 by_cases h:i<n
 ·rw[List.getElem?_replicate,if_pos h];simp[oQ,h]
 ·rw[List.getElem?_eq_none (by simp;omega),List.getElem?_eq_none (by rw[pr];omega)]
theorem Bd {G:Nat->Id} {n i:Nat} (h:i<n):(oQ G n n)[i]? =some [.ptr (G i) 0 0]:=by simp[oQ,h]
theorem Pw {G:Nat->Id} {n k:Nat} (h:k<n):(oQ G n k).set k [.ptr (G k) 0 0]=oQ G n (k+1):=by
 refine List.ext_getElem? fun i=>?_
 rw[List.getElem?_set,pr]
 by_cases hi:k=i
 ·subst hi;rw[if_pos rfl,if_pos h];simp[oQ,h]
 ·rw[if_neg hi]
  by_cases gS:i<n
  ·simp only[oQ,List.getElem?_map,List.getElem?_range gS,Option.map_some]
   by_cases Cu:i<k
   ·rw[if_pos Cu,if_pos ad]
   ·rw[if_neg Cu,if_neg ad]
  ·rw[List.getElem?_eq_none (by rw[pr];omega),List.getElem?_eq_none (by rw[pr];omega)]
end Go.Proofs.YtoodopepphhpoaaGreatDoor.V

namespace Go.Proofs.YtoodopepphhpoaaGreatDoor.V
open Go.RowKit
attribute [local irreducible] eu wpOps fB Call
theorem iZ {o:Id} {a:Nat} (h:o.site=a) {b v:Nat} (pB:(a==b)=false):(o=⟨b,v⟩)=False/\((⟨b,v⟩:Id)=o)=False:=by
 have h1:=El h (v:=v) pB
 refine⟨h1,?_⟩
 simp only[eq_iff_iff,iff_false]at h1 ⊢
 exact fun h=>h1 h.symm
theorem z6 (cnt:Nat) (tP:1<=cnt) (hn:cnt<=1048576) (bs:List PB) (hb:∀b∈bs,b.a<cnt/\b.b<cnt) (kq:bs.length<=1048576):ax Tryz.prog 189 [.int .i64 cnt,.sl (bs.map aY)] (.sl ((gZ cnt (fu bs)).map EI)):=by
 intro n0
 refine C7 Uh rfl fun hl=>?_
 simp only[WO,WQ,WR]
 try simp only[q]
 clear hl
 have kJ:(0:Int)<=(cnt:Int):=ad
 have qK:(cnt:Int)<=((16777216:Nat):Int):=ad
 obtain⟨G,hG⟩:∃G:Nat->Id,G=fun k=>⟨189005004,n0+3+4*k+2⟩:=⟨_,rfl⟩
 have hGs:∀k,(G k).site=189005004:=fun k=>by rw[hG]
 have hGv:∀k,(G k).bt=n0+3+4*k+2:=fun k=>by rw[hG]
 have hGi:∀i j,i≠j->(G i=G j)=False:=fun i j h=>by
  simp only[eq_iff_iff,iff_false]
  intro he
  have h1:=hGv i
  rw[he,hGv j]at h1
  omega
 have QQ:∀i s v,(189005004==s)=false->(G i=⟨s,v⟩)=False:=fun i s v h=>El (hGs i) h
 have hz:=L1 G cnt
 (try((repeat(revert N;apply Pn.out));refine wk (tw @kJ (tw @qK (tw @Int.le_refl @hz))) ?_;(repeat(apply Pn.mk;intro N hN))))
 refine cm (fun n env st=>∃k:Nat,n=(cnt)-k/\k<=(cnt)/\env 21=.int .i64 (k:Int)/\st.get ⟨189001001,n0+1⟩=some ⟨true,1,oQ G cnt k⟩/\(st.next=n0+3+4*k/\∀j:Nat,j<k->st.get (G j)=some ⟨true,2,[[.jn,.int .i64 (j:Int)]]⟩)) (cnt) ⟨0,ad,ad,sl @hz,sl @hz,⟨rfl,fun j hj=>ad⟩⟩ ?_
 rintro n_a env_a st_a ⟨k,rfl,ale,a21,ag0,oI⟩ eJ
 have a0:=eJ 0 (by kernel_rfl);have a1:=eJ 1 (by kernel_rfl);have a5:=eJ 5 (by kernel_rfl);have TZ:=eJ 19 (by kernel_rfl);have a20:=eJ 20 (by kernel_rfl)
 simp only[go_sem, ↓reduceIte,Nat.reduceEqDiff,Nat.reduceAdd,Nat.reduceSub,Nat.reduceLeDiff,reduceCtorEq,hz]at a0 a1 a5 TZ a20
 clear eJ
 obtain⟨oI,qJ⟩:=oI
 by_cases hk:(k:Int)<(cnt:Int)
 ·have eh:∀{e:Env} {gg:Rows} {nx:Nat},(e 21=.int .i64 (IntKind.i64.wrap ((k:Int)+1)))->(gg ⟨189001001,n0+1⟩=some ⟨true,1,oQ G cnt (k+1)⟩)->(nx=n0+3+4*(k+1)/\∀j:Nat,j<(k+1)->gg (G j)=some ⟨true,2,[[.jn,.int .i64 (j:Int)]]⟩)->∃m0,m0<(cnt)-k/\∃k:Nat,m0=(cnt)-k/\k<=(cnt)/\e 21=.int .i64 (k:Int)/\gg ⟨189001001,n0+1⟩=some ⟨true,1,oQ G cnt k⟩/\(nx=n0+3+4*k/\∀j:Nat,j<k->gg (G j)=some ⟨true,2,[[.jn,.int .i64 (j:Int)]]⟩):=fun x1 x2 x3=>⟨_,ad,k+1,rfl,ad,(by rw[x1,aX ad]),x2,x3⟩
  have ji:k<cnt:=ad
  have tl:=pr G cnt k
  have fU:=Pw (G:=G) ji
  have gx:(oQ G cnt k)[k]? =some [.jn]:=by simp[oQ,ji]
  have hGk:(⟨189005004,st_a.next+1+1⟩:Id)=G k:=by rw[hG,oI]
  have hGf:∀j,j<k->(G j=G k)=False:=fun j hj=>hGi j k ad
  have DG:∀j,(G j=(⟨189001001,n0+1⟩:Id))=False:=fun j=>QQ j _ _ (by decide)
  have HV:∀j,((⟨189001001,n0+1⟩:Id)=G j)=False:=fun j=>by
   have:=DG j
   simp only[eq_iff_iff,iff_false]at this ⊢
   exact fun h=>this h.symm
  (try((repeat(revert N;apply Pn.out));refine wk (tw @a21 (tw @ag0 (tw @a0 (tw @a1 (tw @a5 (tw @TZ (tw @a20 (tw @hk (tw @tl (tw @hGk (tw @DG (tw @HV (tw @fU @gx))))))))))))) ?_;(repeat(apply Pn.mk;intro N hN))))
  refine eh ?_ ?_ (by
   refine⟨by(try dsimp only)<;>omega,fun j hj=>?_⟩
   by_cases Cv:j=k
   ·subst Cv;simp only[go_sem, ↓reduceIte,Nat.reduceEqDiff,Nat.reduceAdd,Nat.reduceSub,Nat.reduceLeDiff,reduceCtorEq,hGk,DG,HV]
   ·have hold:=qJ j ad
    have hZ:=hGf j ad
    simp only[go_sem, ↓reduceIte,Nat.reduceEqDiff,Nat.reduceAdd,Nat.reduceSub,Nat.reduceLeDiff,reduceCtorEq,hGk,DG,HV,hZ,hold])
  all_goals simp only[go_sem, ↓reduceIte,Nat.reduceEqDiff,Nat.reduceAdd,Nat.reduceSub,Nat.reduceLeDiff,reduceCtorEq,a21,ag0,a0,a1,a5,TZ,a20,hGk,DG,HV,fU]
 have lk:cnt=k:=ad
 subst lk
 (try((repeat(revert N;apply Pn.out));refine wk (tw @a21 (tw @ag0 (tw @a0 (tw @a1 (tw @a5 (tw @TZ (tw @a20 @hk))))))) ?_;(repeat(apply Pn.mk;intro N hN))))
 refine cm (fun n env st=>∃i:Nat,n=(bs.length)-i/\i<=(bs.length)/\env 33=.int .i64 (i:Int)/\st.get ⟨189001001,n0+1⟩=some ⟨true,1,oQ G cnt cnt⟩/\(n0+3+4*cnt<=st.next)/\(∃px,qc cnt px (fu (bs.take i))/\yz st.get G cnt px)) (bs.length) ⟨0,ad,ad,sl (tw @a21 (tw @ag0 (tw @a0 (tw @a1 (tw @a5 (tw @TZ @a20)))))),sl (tw @a21 (tw @ag0 (tw @a0 (tw @a1 (tw @a5 (tw @TZ @a20)))))),bp,⟨fun _=>none,qc.start cnt,qJ⟩⟩ ?_
 rintro n_b env_b st_b ⟨i,rfl,ble,yE,bg0,bI0,bI1⟩ fb
 have b0:=fb 0 (by kernel_rfl);have b1:=fb 1 (by kernel_rfl);have b5:=fb 5 (by kernel_rfl);have B7:=fb 31 (by kernel_rfl);have xO:=fb 32 (by kernel_rfl)
 simp only[go_sem, ↓reduceIte,Nat.reduceEqDiff,Nat.reduceAdd,Nat.reduceSub,Nat.reduceLeDiff,reduceCtorEq,a21,ag0,a0,a1,a5,TZ,a20]at b0 b1 b5 B7 xO
 clear fb
 obtain⟨px,Qb,hGr⟩:=bI1
 have tl:=pr G cnt cnt
 have YE:∀j v,(G j=(⟨189009002,v⟩:Id))=False:=fun j v=>QQ j _ v (by decide)
 have DG:∀j v,(G j=(⟨189001001,v⟩:Id))=False:=fun j v=>QQ j _ v (by decide)
 have HV:∀j v,((⟨189001001,v⟩:Id)=G j)=False:=fun j v=>by
  have:=DG j v
  simp only[eq_iff_iff,iff_false]at this ⊢
  exact fun h=>this h.symm
 have hGn:∀j,j<cnt->(G j).bt<st_b.next:=fun j hj=>by rw[hGv];omega
 by_cases hi:(i:Int)<(bs.length:Int)
 ·have fS:∀{e:Env} {gg:Rows} {nx:Nat},(e 33=.int .i64 (IntKind.i64.wrap ((i:Int)+1)))->(gg ⟨189001001,n0+1⟩=some ⟨true,1,oQ G cnt cnt⟩)->(n0+3+4*cnt<=nx)->(∃px,qc cnt px (fu (bs.take (i+1)))/\yz gg G cnt px)->∃m0,m0<(bs.length)-i/\∃i:Nat,m0=(bs.length)-i/\i<=(bs.length)/\e 33=.int .i64 (i:Int)/\gg ⟨189001001,n0+1⟩=some ⟨true,1,oQ G cnt cnt⟩/\(n0+3+4*cnt<=nx)/\(∃px,qc cnt px (fu (bs.take i))/\yz gg G cnt px):=fun x1 x2 x3 x4=>⟨_,ad,i+1,rfl,ad,(by rw[x1,aX ad]),x2,x3,x4⟩
  have gS:i<bs.length:=ad
  have jZ:(bs.map aY)[i]? =some (aY bs[i]):=by simp[gS]
  have K1:=hb _ (List.getElem_mem gS)
  have ox:bs.take (i+1)=bs.take i++[bs[i]]:=List.take_succ_eq_append_getElem gS
  have oq:fu (bs.take (i+1))=fR (fu (bs.take i)) bs[i]:=by rw[ox,Aq]
  have hL:=yf (bs.take i)
  generalize fu (bs.take i)=L at *
  generalize bs[i]=b at *
  have gA:=Bd (G:=G) K1.1
  have gB:=Bd (G:=G) K1.2
  have jb:(b.a:Int)<(cnt:Int):=ad
  have gV:(b.b:Int)<(cnt:Int):=ad
  (try((repeat(revert N;apply Pn.out));refine wk (tw @yE (tw @bg0 (tw @b0 (tw @b1 (tw @b5 (tw @B7 (tw @xO (tw @hi (tw @jZ (tw @aY.eq_1 (tw @gA (tw @gB (tw @jb (tw @gV @tl)))))))))))))) ?_;(repeat(apply Pn.mk;intro N hN))))
  refine uu (fun e s=>e 0=.int .i64 cnt/\e 1=.sl (bs.map aY)/\e 5=.own ⟨189001001,n0+1⟩ 0 cnt/\e 31=.sl (bs.map aY)/\e 32=.int .i64 bs.length/\e 33=.int .i64 i/\e 9=.ptr (G (L b.a)) 0 0/\e 10=.ptr (G (L b.b)) 0 0/\(∀j:Id,j.bt<st_b.next->s.get j=st_b.get j)/\st_b.next<=s.next) ?_ ?_
  ·rintro e1 s1 ⟨m0,m1,m5,m31,m32,m33,m9,m10,mf,mn⟩
   apply hN
   clear hN N
   have mG:yz s1.get G cnt px:=hGr.frame fun k hk=>mf _ (hGn k hk)
   have mt:=(mf ⟨189001001,n0+1⟩ bp).trans bg0
   have Zg:L b.a<cnt:=Nat.lt_of_le_of_lt (hL.le _) K1.1
   have Zh:L b.b<cnt:=Nat.lt_of_le_of_lt (hL.le _) K1.2
   have ra:=mG _ Zg
   have rb:=mG _ Zh
   rw[oe (Qb.root hL Zg (hL.idem _))]at ra
   rw[oe (Qb.root hL Zh (hL.idem _))]at rb
   have put:∀(g':Rows) (lo hi:Nat),hi<cnt->g' (G hi)=some ⟨true,2,[[.ptr (G lo) 0 0,.int .i64 (hi:Int)]]⟩->(∀k,k≠hi->k<cnt->g' (G k)=s1.get (G k))->yz g' G cnt (fun k=>if k=hi then some lo else px k):=fun g' lo hi _ h1 h2 k hk=>by
    by_cases P7:k=hi
    ·subst P7;rw[h1,xZ (j:=lo) (if_pos rfl)]
    ·rw[h2 k P7 hk,mG k hk]
     unfold xc
     simp only[if_neg P7]
   rcases Nat.lt_trichotomy (L b.a) (L b.b)with eP|heq|eP
   ·have Vc:(L b.a:Int)<(L b.b:Int):=ad
    have hj:=Qb.join hL b ad
    rw[Nat.max_eq_right ad,Nat.min_eq_left ad,<-oq]at hj
    (try((repeat(revert N;apply Pn.out));refine wk (tw @m0 (tw @m1 (tw @m5 (tw @m31 (tw @m32 (tw @m33 (tw @m9 (tw @m10 (tw @ra (tw @rb @Vc)))))))))) ?_;(repeat(apply Pn.mk;intro N hN))))
    refine fS ?_ ?_ bp (⟨_,hj,put _ _ _ Zh (sd @Nat.zero_add) (fun k hk _=>by
     have hZ:=hGi k _ hk
     simp only[go_sem, ↓reduceIte,Nat.reduceEqDiff,Nat.reduceAdd,Nat.reduceSub,Nat.reduceLeDiff,reduceCtorEq,hZ])⟩)
    all_goals simp only[go_sem, ↓reduceIte,Nat.reduceEqDiff,Nat.reduceAdd,Nat.reduceSub,Nat.reduceLeDiff,reduceCtorEq,m0,m1,m5,m31,m32,m33,mt,DG,HV]
   ·have tP:¬(L b.a:Int)<(L b.b:Int):=ad
    have hn2:¬(L b.b:Int)<(L b.a:Int):=ad
    have Ob:=DU heq
    rw[Ob]at oq
    (try((repeat(revert N;apply Pn.out));refine wk (tw @m0 (tw @m1 (tw @m5 (tw @m31 (tw @m32 (tw @m33 (tw @m9 (tw @m10 (tw @ra (tw @rb (tw @tP @hn2))))))))))) ?_;(repeat(apply Pn.mk;intro N hN))))
    refine fS ?_ ?_ bp (⟨_,oq▸Qb,mG.frame fun k hk=>rfl⟩)
    all_goals simp only[go_sem, ↓reduceIte,Nat.reduceEqDiff,Nat.reduceAdd,Nat.reduceSub,Nat.reduceLeDiff,reduceCtorEq,m0,m1,m5,m31,m32,m33,mt]
   ·have Vc:(L b.b:Int)<(L b.a:Int):=ad
    have tP:¬(L b.a:Int)<(L b.b:Int):=ad
    have hj:=Qb.join hL b ad
    rw[Nat.max_eq_left ad,Nat.min_eq_right ad,<-oq]at hj
    (try((repeat(revert N;apply Pn.out));refine wk (tw @m0 (tw @m1 (tw @m5 (tw @m31 (tw @m32 (tw @m33 (tw @m9 (tw @m10 (tw @ra (tw @rb (tw @Vc @tP))))))))))) ?_;(repeat(apply Pn.mk;intro N hN))))
    refine fS ?_ ?_ bp (⟨_,hj,put _ _ _ Zg (sd @Nat.zero_add) (fun k hk _=>by
     have hZ:=hGi k _ hk
     simp only[go_sem, ↓reduceIte,Nat.reduceEqDiff,Nat.reduceAdd,Nat.reduceSub,Nat.reduceLeDiff,reduceCtorEq,hZ])⟩)
    all_goals simp only[go_sem, ↓reduceIte,Nat.reduceEqDiff,Nat.reduceAdd,Nat.reduceSub,Nat.reduceLeDiff,reduceCtorEq,m0,m1,m5,m31,m32,m33,mt,DG,HV]
  ·intro N hN
   refine eH ?_ ?_<;>(try((repeat(revert N;apply Pn.out));refine wk (tw @yE (tw @bg0 (tw @b0 (tw @b1 (tw @b5 (tw @B7 (tw @xO (tw @hi (tw @jZ (tw @aY.eq_1 (tw @gA (tw @gB (tw @jb (tw @gV @tl)))))))))))))) ?_;(repeat(apply Pn.mk;intro N hN))))<;>(try refine eH ?_ ?_)<;>(try((repeat(revert N;apply Pn.out));refine wk (tw @yE (tw @bg0 (tw @b0 (tw @b1 (tw @b5 (tw @B7 (tw @xO (tw @hi (tw @jZ (tw @aY.eq_1 (tw @gA (tw @gB (tw @jb (tw @gV @tl)))))))))))))) ?_;(repeat(apply Pn.mk;intro N hN))))<;>(try refine eH ?_ ?_)<;>(try((repeat(revert N;apply Pn.out));refine wk (tw @yE (tw @bg0 (tw @b0 (tw @b1 (tw @b5 (tw @B7 (tw @xO (tw @hi (tw @jZ (tw @aY.eq_1 (tw @gA (tw @gB (tw @jb (tw @gV @tl)))))))))))))) ?_;(repeat(apply Pn.mk;intro N hN))))
   all_goals
    refine .inr (aH _ _ _ _ _ (fun r σ1 hq=>?_) (Du G cnt px L Qb b.a K1.1 _ (hGr.frame fun k hk=>sd @YE)))
    obtain⟨g1,x1⟩:=σ1
    obtain⟨rfl,EL,K6⟩:=hq
    (try dsimp only at EL K6)
    subst EL
    apply hN
    clear hN N
    (try((repeat(revert N;apply Pn.out));refine wk (tw @yE (tw @bg0 (tw @b0 (tw @b1 (tw @b5 (tw @B7 (tw @xO (tw @hi (tw @jZ (tw @aY.eq_1 (tw @gA (tw @gB (tw @jb (tw @gV @tl)))))))))))))) ?_;(repeat(apply Pn.mk;intro N hN))))
    refine .inr (aH _ _ _ _ _ (fun r σ1 hq=>?_) (Du G cnt px L Qb b.b K1.2 _ (hGr.frame fun k hk=>sd @YE)))
    obtain⟨g1,x2⟩:=σ1
    obtain⟨rfl,EL,pM⟩:=hq
    (try dsimp only at EL pM)
    subst EL
    apply hN
    clear hN N
    (try((repeat(revert N;apply Pn.out));refine wk (tw @yE (tw @bg0 (tw @b0 (tw @b1 (tw @b5 (tw @B7 (tw @xO (tw @hi (tw @jZ (tw @aY.eq_1 (tw @gA (tw @gB (tw @jb (tw @gV @tl)))))))))))))) ?_;(repeat(apply Pn.mk;intro N hN))))
    exact⟨sd (tw @yE (tw @bg0 (tw @b0 (tw @b1 (tw @b5 (tw @B7 @xO)))))),sd (tw @yE (tw @bg0 (tw @b0 (tw @b1 (tw @b5 (tw @B7 @xO)))))),sd (tw @yE (tw @bg0 (tw @b0 (tw @b1 (tw @b5 (tw @B7 @xO)))))),sd (tw @yE (tw @bg0 (tw @b0 (tw @b1 (tw @b5 (tw @B7 @xO)))))),sd (tw @yE (tw @bg0 (tw @b0 (tw @b1 (tw @b5 (tw @B7 @xO)))))),sd (tw @yE (tw @bg0 (tw @b0 (tw @b1 (tw @b5 (tw @B7 @xO)))))),sd (tw @yE (tw @bg0 (tw @b0 (tw @b1 (tw @b5 (tw @B7 @xO)))))),sd (tw @yE (tw @bg0 (tw @b0 (tw @b1 (tw @b5 (tw @B7 @xO)))))),fun j hj=>by
     have hv:=dp hj
     simp only[go_sem, ↓reduceIte,Nat.reduceEqDiff,Nat.reduceAdd,Nat.reduceSub,Nat.reduceLeDiff,reduceCtorEq,hv],bp⟩
 have oj:i=bs.length:=ad
 subst oj
 rw[List.take_length]at Qb
 have hL:=yf bs
 generalize fu bs=L at *
 (try((repeat(revert N;apply Pn.out));refine wk (tw @yE (tw @bg0 (tw @b0 (tw @b1 (tw @b5 (tw @B7 (tw @xO (tw @hi @tl)))))))) ?_;(repeat(apply Pn.mk;intro N hN))))
 have l0:nu 0 L=[]:=rfl
 have oS:(none:Option Nat).isSome=false:=rfl
 have oT:∀a:Nat,(some a).isSome=true:=fun _=>rfl
 refine cm (fun n env st=>∃x:Nat,n=(cnt)-x/\x<=(cnt)/\env 81=.int .i64 (x:Int)/\st.get ⟨189001001,n0+1⟩=some ⟨true,1,oQ G cnt cnt⟩/\st.get ⟨189017000,st_b.next+1+1⟩=some ⟨true,mI.mC,nu x L⟩/\(st_b.next+3<=st.next/\yz st.get G cnt px)/\((x=0/\env 11=.cr)∨∃o:Id,env 11=.own o 0 (leads x L).length/\PX st.get o (ly x L) st.next)) (cnt) ⟨0,ad,ad,sl (tw @yE (tw @bg0 (tw @b0 (tw @b1 (tw @b5 (tw @B7 (tw @xO @l0))))))),sl (tw @yE (tw @bg0 (tw @b0 (tw @b1 (tw @b5 (tw @B7 (tw @xO @l0))))))),sl (tw @yE (tw @bg0 (tw @b0 (tw @b1 (tw @b5 (tw @B7 (tw @xO @l0))))))),⟨bp,hGr.frame fun k hk=>by(have hZ:=QQ k 189017000 (st_b.next+1+1) (by decide));simp only[go_sem, ↓reduceIte,Nat.reduceEqDiff,Nat.reduceAdd,Nat.reduceSub,Nat.reduceLeDiff,reduceCtorEq,hZ]⟩,.inl ⟨rfl,sd @Nat.zero_add⟩⟩ ?_
 rintro n_c env_c st_c ⟨x,rfl,cle,c81,cg0,cg1,cI0,cI1⟩ jA
 have qT:=jA 12 (by kernel_rfl);have Qy:=jA 79 (by kernel_rfl);have Qz:=jA 80 (by kernel_rfl)
 simp only[go_sem, ↓reduceIte,Nat.reduceEqDiff,Nat.reduceAdd,Nat.reduceSub,Nat.reduceLeDiff,reduceCtorEq,yE,bg0,b0,b1,b5,B7,xO,l0]at qT Qy Qz
 clear jA
 obtain⟨sj,Yh⟩:=cI0
 have UM:∀j v,(G j=(⟨189017000,v⟩:Id))=False:=fun j v=>QQ j _ v (by decide)
 have UI:∀j v,(G j=(⟨189025002,v⟩:Id))=False:=fun j v=>QQ j _ v (by decide)
 have UK:∀j v,(G j=(⟨189025001,v⟩:Id))=False:=fun j v=>QQ j _ v (by decide)
 have UL:∀j v,(G j=(⟨189026007,v⟩:Id))=False:=fun j v=>QQ j _ v (by decide)
 have UJ:∀j v,(G j=(⟨189026008,v⟩:Id))=False:=fun j v=>QQ j _ v (by decide)
 by_cases hx:(x:Int)<(cnt:Int)
 ·have iL:∀{e:Env} {gg:Rows} {nx:Nat},(e 81=.int .i64 (IntKind.i64.wrap ((x:Int)+1)))->(gg ⟨189001001,n0+1⟩=some ⟨true,1,oQ G cnt cnt⟩)->(gg ⟨189017000,st_b.next+1+1⟩=some ⟨true,mI.mC,nu (x+1) L⟩)->(st_b.next+3<=nx/\yz gg G cnt px)->(((x+1)=0/\e 11=.cr)∨∃o:Id,e 11=.own o 0 (leads (x+1) L).length/\PX gg o (ly (x+1) L) nx)->∃m0,m0<(cnt)-x/\∃x:Nat,m0=(cnt)-x/\x<=(cnt)/\e 81=.int .i64 (x:Int)/\gg ⟨189001001,n0+1⟩=some ⟨true,1,oQ G cnt cnt⟩/\gg ⟨189017000,st_b.next+1+1⟩=some ⟨true,mI.mC,nu x L⟩/\(st_b.next+3<=nx/\yz gg G cnt px)/\((x=0/\e 11=.cr)∨∃o:Id,e 11=.own o 0 (leads x L).length/\PX gg o (ly x L) nx):=fun x1 x2 x3 x4 x5=>⟨_,ad,x+1,rfl,ad,(by rw[x1,aX ad]),x2,x3,x4,x5⟩
  have XU:x<cnt:=ad
  have gX:=Bd (G:=G) XU
  have hlx:L x<cnt:=Nat.lt_of_le_of_lt (hL.le _) XU
  have ra:=Yh _ hlx
  rw[oe (Qb.root hL hlx (hL.idem _))]at ra
  have gy:=ke x L
  (try((repeat(revert N;apply Pn.out));refine wk (tw @c81 (tw @cg0 (tw @cg1 (tw @qT (tw @Qy (tw @Qz (tw @hx (tw @gX @tl)))))))) ?_;(repeat(apply Pn.mk;intro N hN))))
  refine .inr (aH _ _ _ _ _ (fun r σ1 hq=>?_) (Du G cnt px L Qb x XU _ (Yh.frame fun k hk=>sd @Nat.zero_add)))
  obtain⟨g1,x1⟩:=σ1
  obtain⟨rfl,EL,K6⟩:=hq
  (try dsimp only at EL K6)
  subst EL
  apply hN
  clear hN N
  by_cases hr:L x=x
  ·rw[hr]at ra ⊢
   have mN:=Lu hr
   have hls:(leads (x+1) L).length=(leads x L).length+1:=by rw[jm,if_pos hr];simp
   have XP:=Iq hr
   have hgu:=HS hL hr
   rcases cI1 with⟨rfl,qx⟩|⟨o,qx,cS⟩
   ·have hsc1:nu 1 L=[[.int .i64 ((0:Nat):Int),.int .i64 ((0:Nat):Int)]]:=XP
    (try((repeat(revert N;apply Pn.out));refine wk (tw @c81 (tw @cg0 (tw @cg1 (tw @qT (tw @Qy (tw @Qz (tw @qx (tw @ra (tw @mN (tw @l0 (tw @oS (tw @oT (tw @Bool.not_false @Bool.not_true))))))))))))) ?_;(repeat(apply Pn.mk;intro N hN))))
    refine iL ?_ ?_ ?_ (by(try dsimp only);exact⟨ad,Yh.frame fun k hk=>sd (tw @UM (tw @UI (tw @UJ (tw @UK @UL))))⟩) (.inr ⟨⟨189025002,x1+1+1+1+1⟩,by simp only[go_sem, ↓reduceIte,Nat.reduceEqDiff,Nat.reduceAdd,Nat.reduceSub,Nat.reduceLeDiff,reduceCtorEq,hls];rfl,by rw[hgu];exact QM (v':=x1+1+1+1+1+1) (sd @Nat.zero_add) (sd @eN.eq_1) bp bp⟩)
    all_goals simp only[go_sem, ↓reduceIte,Nat.reduceEqDiff,Nat.reduceAdd,Nat.reduceSub,Nat.reduceLeDiff,reduceCtorEq,c81,cg0,cg1,qT,Qy,Qz,hsc1]
   ·obtain⟨rows,yK,uA,mi⟩:=cS.new x
    rw[tN]at uA
    have yL:o.site=189025002:=by obtain⟨_,_,_,_,_,_,h,_⟩:=cS;exact h
    have wI:o.bt<x1:=by obtain⟨_,_,_,_,_,_,_,h⟩:=cS;omega
    have qn:=dp wI
    have Zn:=iZ (o:=o) yL (b:=189017000) (v:=st_b.next+1+1) (by decide)
    have XJ:=iZ (o:=o) yL (b:=189001001) (v:=n0+1) (by decide)
    have UN:∀k,(G k=o)=False:=fun k=>by simp only[eq_iff_iff,iff_false];intro h;have h1:=hGs k;rw[h,yL]at h1;cases h1
    have sW:(rows++[[AV.cr]])[(leads x L).length]? =some [.cr]:=by rw[<-uA];simp
    have sk:∀a:List AV,(rows++[[AV.cr]]).set (leads x L).length a=rows++[a]:=fun a=>by rw[<-uA];simp
    have e1:(leads x L).length+1<=16777216:=ad
    have e2:((leads x L).length:Int)<(((leads x L).length+1:Nat):Int):=ad
    (try((repeat(revert N;apply Pn.out));refine wk (tw @c81 (tw @cg0 (tw @cg1 (tw @qT (tw @Qy (tw @Qz (tw @qx (tw @ra (tw @mN (tw @yK (tw @uA (tw @qn (tw @Zn (tw @sW (tw @sk (tw @e1 (tw @e2 (tw @oS (tw @oT (tw @Bool.not_false @Bool.not_true)))))))))))))))))))) ?_;(repeat(apply Pn.mk;intro N hN))))
    refine iL ?_ ?_ ?_ (by(try dsimp only);exact⟨ad,Yh.frame fun k hk=>sd (tw @UM (tw @UI (tw @UJ (tw @UK (tw @UL @UN)))))⟩) (.inr ⟨⟨189025002,x1+1+1+1+1⟩,sd @hls,by rw[hgu];exact mi _ _ (x1+1+1+1+1+1) _ ad bp bp (sd @sk) (sd @eN.eq_1) (fun j hj hv=>by
     have q1:=dp (i:=j) (n:=x1) ad
     have q2:=iZ hj (b:=189017000) (v:=st_b.next+1+1) (by decide)
     have q3:(j=o)=False:=by simp only[eq_iff_iff,iff_false];intro h;rw[h,yL]at hj;cases hj
     simp only[go_sem, ↓reduceIte,Nat.reduceEqDiff,Nat.reduceAdd,Nat.reduceSub,Nat.reduceLeDiff,reduceCtorEq,q1,q2,q3])⟩)
    all_goals simp only[go_sem, ↓reduceIte,Nat.reduceEqDiff,Nat.reduceAdd,Nat.reduceSub,Nat.reduceLeDiff,reduceCtorEq,c81,cg0,cg1,qT,Qy,Qz,XP,qn,Zn,XJ]
  ·obtain⟨mN,N8,eP⟩:=CC hL hr
   obtain⟨Ms,hgu⟩:=HT hL hr
   have hls:(leads (x+1) L).length=(leads x L).length:=by rw[jm,if_neg hr];simp
   have Ob:=Ip hr
   rcases cI1 with⟨rfl,qx⟩|⟨o,qx,cS⟩
   ·exact absurd (Nat.le_zero.1 (hL.le 0)) hr
   ·obtain⟨rows,id,yK,uA,hrk,hid,NV,hidv,hadd⟩:=cS.add Ms x
    rw[tN]at uA
    have yL:o.site=189025002:=by obtain⟨_,_,_,_,_,_,h,_⟩:=cS;exact h
    have wI:o.bt<x1:=by obtain⟨_,_,_,_,_,_,_,h⟩:=cS;omega
    have qn:=dp wI
    have tW:=dp (i:=id) (n:=x1) ad
    have jZ:(dv L x:Int)<((leads x L).length:Int):=ad
    have XH:=Gu x L (L x)
    have hma:((members x L (L x)).map eN).length=(members x L (L x)).length:=by simp
    have e1:(members x L (L x)).length+1<=16777216:=ad
    have hoi:(o=id)=False:=by simp only[eq_iff_iff,iff_false];rintro rfl;rw[NV]at yL;cases yL
    have hio:(id=o)=False:=by simp only[eq_iff_iff,iff_false];rintro rfl;rw[NV]at yL;cases yL
    have Zn:=iZ (o:=o) yL (b:=189017000) (v:=st_b.next+1+1) (by decide)
    have XJ:=iZ (o:=o) yL (b:=189001001) (v:=n0+1) (by decide)
    have hiM:=iZ (o:=id) NV (b:=189017000) (v:=st_b.next+1+1) (by decide)
    have hiT:=iZ (o:=id) NV (b:=189001001) (v:=n0+1) (by decide)
    have UN:∀k,(G k=o)=False:=fun k=>by simp only[eq_iff_iff,iff_false];intro h;have h1:=hGs k;rw[h,yL]at h1;cases h1
    have hGoi:∀k,(G k=id)=False:=fun k=>by simp only[eq_iff_iff,iff_false];intro h;have h1:=hGs k;rw[h,NV]at h1;cases h1
    (try((repeat(revert N;apply Pn.out));refine wk (tw @c81 (tw @cg0 (tw @cg1 (tw @qT (tw @Qy (tw @Qz (tw @qx (tw @ra (tw @mN (tw @N8 (tw @yK (tw @uA (tw @hrk (tw @hid (tw @qn (tw @tW (tw @jZ (tw @hma (tw @e1 (tw @hoi (tw @hio (tw @Zn (tw @XJ (tw @hiM (tw @hiT (tw @oS (tw @oT (tw @Bool.not_false @Bool.not_true)))))))))))))))))))))))))))) ?_;(repeat(apply Pn.mk;intro N hN))))
    refine iL ?_ ?_ ?_ (by(try dsimp only);exact⟨ad,Yh.frame fun k hk=>sd (tw @UM (tw @UI (tw @UJ (tw @UK (tw @UL (tw @UN @hGoi))))))⟩) (.inr ⟨o,sd (tw @hls @qx),by rw[hgu];exact hadd _ (x1+1+1) _ ad bp (sd @Nat.zero_add) (sd (tw @qn (tw @tW (tw @hoi @hio)))) (fun j hj hv nN=>by
     have q1:=dp (i:=j) (n:=x1) ad
     have q2:=iZ hj (b:=189017000) (v:=st_b.next+1+1) (by decide)
     have q3:(j=o)=False:=by simp only[eq_iff_iff,iff_false];intro h;rw[h,yL]at hj;cases hj
     simp only[go_sem, ↓reduceIte,Nat.reduceEqDiff,Nat.reduceAdd,Nat.reduceSub,Nat.reduceLeDiff,reduceCtorEq,q1,q2,q3,nN])⟩)
    all_goals simp only[go_sem, ↓reduceIte,Nat.reduceEqDiff,Nat.reduceAdd,Nat.reduceSub,Nat.reduceLeDiff,reduceCtorEq,c81,cg0,cg1,qT,Qy,Qz,Ob,qn,tW,Zn,XJ,hiM,hiT]
 have hxc:x=cnt:=ad
 rcases cI1 with⟨h0,_⟩|⟨o,qx,rows,ids,yK,hR,_,_,_,_⟩
 ·omega
 have uA:=hR.len
 rw[tN]at uA
 (try((repeat(revert N;apply Pn.out));refine wk (tw @c81 (tw @cg0 (tw @cg1 (tw @qT (tw @Qy (tw @Qz (tw @hx (tw @qx @yK)))))))) ?_;(repeat(apply Pn.mk;intro N hN))))
 refine AZ (.inl rfl) (by simp only[go_sem, ↓reduceIte,Nat.reduceEqDiff,Nat.reduceAdd,Nat.reduceSub,Nat.reduceLeDiff,reduceCtorEq];rfl) ?_
 rw[uZ yK ad (rows':=(gZ cnt L).map EI) (by
  rw[List.drop_zero,List.take_of_length_le ad]
  rw[hxc]at hR;exact OA 3 hR)]
theorem PK (b:PB) (t:Int):ax Tryz.prog 192 [.agg (aY b),.er [.int .i64 t]] (.bool (decide (b.s<t))):=by
 refine ax.body fW rfl fun hl n0=>?_
 clear hl
 (try((repeat(revert N;apply Pn.out));refine wk @aY.eq_1 ?_;(repeat(apply Pn.mk;intro N hN))))
 exact di (b:=decide (b.s<t)) (.inl rfl) (sd @Nat.zero_add) rfl
theorem Cy (bs:List PB) (t:Int) (hl:bs.length<=1048576):ax Tryz.prog 213 [.sl (bs.map aY),.fn 192 [.er [.int .i64 t]]] (.int .i64 (mc (fun b:PB=>decide (b.s<t)) bs)):=
 yc Nq (show Fg Tryz.prog 213=some (xh 213 3 true) by kernel_rfl) bs hl 192 _ _ (fun x _=>PK x t) fun g=>by simp only[aj,ar,aK,Option.map_some]
theorem Nk (bs:List PB) (hp:0<bs.length) (hl:bs.length<=1048576) (σ:aw):
  Call Tryz.prog 191 [.sl (bs.map aY)] σ fun r σ'=>∃o:Id,r=.own o 0 bs.length/\σ'.get o=some ⟨true,3,bs.map aY⟩/\σ.next<=o.bt/\o.bt<σ'.next/\∀i:Id,i.bt<σ.next->σ'.get i=σ.get i:=by
 refine fV fW rfl fun hl=>?_
 clear hl
 have hz:=all_map (l:=bs) TK
 obtain⟨b,r,rfl⟩:∃b r,bs=b::r:=by
  cases bs with
  |nil=>simp at hp
  |cons b r=>exact⟨b,r,rfl⟩
 have gy:(List.map aY (b::r)).length=(b::r).length:=by simp
 have e1:r.length<=16777215:=by simp at hl;omega
 rw[List.map_cons]at hz gy ⊢
 (try((repeat(revert N;apply Pn.out));refine wk (tw @hz (tw @gy @e1)) ?_;(repeat(apply Pn.mk;intro N hN))))
 refine fc (.inl rfl) (vs:=[.own ⟨191003002,σ.next+1+1⟩ 0 (b::r).length]) (by simp only[iA,jP,go_sem, ↓reduceIte,Nat.reduceEqDiff,Nat.reduceAdd,Nat.reduceSub,Nat.reduceLeDiff,reduceCtorEq,List.length_cons]) ⟨⟨191003002,σ.next+1+1⟩,rfl,sd @Nat.zero_add,bp,bp,fun i hi=>?_⟩
 have hv:=dp hi
 simp only[go_sem, ↓reduceIte,Nat.reduceEqDiff,Nat.reduceAdd,Nat.reduceSub,Nat.reduceLeDiff,reduceCtorEq,hv]
theorem rT {t:Int} {bs:List PB} {j:Nat} (hj:j<bs.length):bV t (bs.take (j+1))=bV t (bs.take j)++if decide (bs[j].s<t)=true then[]else[bs[j]]:=by
 rw[yv t bs j hj]
 congr 1
 by_cases h:bs[j].s<t
 ·rw[if_neg ad,if_pos (decide_eq_true h)]
 ·rw[if_pos ad,if_neg (by simp only[decide_eq_true_eq];exact h)]
theorem yu {t:Int} {bs:List PB} (h:∀b∈bs,¬b.s<t):bV t bs=bs:=by
 unfold bV
 rw[List.filter_eq_self]
 intro b hb
 have:=h b hb
 exact decide_eq_true ad
structure yy (t:Int) (bs:List PB) (j:Nat) (R:List PB):Prop where
 len:R.length=bs.length
 pre:R.take (bV t (bs.take j)).length=bV t (bs.take j)
 post:∀x,j<=x->R[x]? =bs[x]?
 lt:(bV t (bs.take j)).length<j
theorem yy.start {t:Int} {bs:List PB} {i:Nat} (hi:i<bs.length) (hw:bs[i].s<t) (hp:∀x (h:x<i),¬bs[x].s<t):yy t bs (i+1) bs/\(bV t (bs.take (i+1))).length=i:=by
 have h1:bV t (bs.take i)=bs.take i:=yu fun b hb=>by
  obtain⟨x,hx,rfl⟩:=List.getElem_of_mem hb
  rw[List.length_take]at hx
  rw[List.getElem_take]
  exact hp x ad
 have h2:bV t (bs.take (i+1))=bs.take i:=by rw[rT hi,if_pos (decide_eq_true hw),List.append_nil,h1]
 have h3:(bs.take i).length=i:=by rw[List.length_take];omega
 exact⟨⟨rfl,by rw[h2,h3],fun _ _=>rfl,by rw[h2,h3];omega⟩,by rw[h2,h3]⟩
theorem yy.weak {t:Int} {bs R:List PB} {j:Nat} (h:yy t bs j R) (hj:j<bs.length) (hw:bs[j].s<t):yy t bs (j+1) R/\(bV t (bs.take (j+1))).length=(bV t (bs.take j)).length:=by
 have h2:bV t (bs.take (j+1))=bV t (bs.take j):=by rw[rT hj,if_pos (decide_eq_true hw),List.append_nil]
 exact⟨⟨h.len,by rw[h2];exact h.pre,fun x hx=>h.post x ad,by rw[h2];have:=h.lt;omega⟩,by rw[h2]⟩
theorem yy.s7 {t:Int} {bs R:List PB} {j:Nat} (h:yy t bs j R) (hj:j<bs.length) (hw:¬bs[j].s<t):yy t bs (j+1) (R.set (bV t (bs.take j)).length bs[j])/\(bV t (bs.take (j+1))).length=(bV t (bs.take j)).length+1:=by
 have h2:bV t (bs.take (j+1))=bV t (bs.take j)++[bs[j]]:=by rw[rT hj,if_neg (by simp only[decide_eq_true_eq];exact hw)]
 have eP:=h.lt
 have hlen:=h.len
 have BI:=h.pre
 generalize hc:(bV t (bs.take j)).length=c at *
 refine⟨⟨by rw[List.length_set];exact hlen,?_,fun x hx=>?_,by rw[h2,List.length_append,hc];simp;omega⟩,by rw[h2,List.length_append,hc];rfl⟩
 ·rw[h2,List.length_append,hc,List.length_singleton,List.take_succ_eq_append_getElem (by rw[List.length_set];omega),List.getElem_set_self,List.take_set_of_le (Nat.le_refl _),BI]
 ·rw[List.getElem?_set_ne ad];exact h.post x ad
theorem yy.at_ {t:Int} {bs R:List PB} {j:Nat} (h:yy t bs j R) (hj:j<bs.length):(R.map aY)[j]? =some (aY bs[j]):=by
 rw[List.getElem?_map,h.post j (Nat.le_refl j),List.getElem?_eq_getElem hj];rfl
theorem HI {p:PB->Bool} {bs:List PB} (h:¬0<=mc p bs):∀b∈bs,p b=false:=by
 intro b hb
 unfold mc at h
 split at h
 ·omega
 ·rename_i h1
  rw[List.findIdx_lt_length]at h1
  cases hp:p b
  ·rfl
  ·exact absurd ⟨b,hb,hp⟩ h1
theorem HJ {p:PB->Bool} {bs:List PB} (h:0<=mc p bs):∃i,∃hi:i<bs.length,mc p bs=(i:Int)/\p bs[i]=true/\∀x (hx:x<i),p (bs[x]'ad)=false:=by
 unfold mc at h ⊢
 split
 ·rename_i h1
  exact⟨bs.findIdx p,h1,rfl,List.findIdx_getElem,fun x hx=>by simpa using List.not_of_lt_findIdx hx⟩
 ·rename_i h1;rw[if_neg h1]at h;omega
theorem KP (bs:List PB) (t:Int) (hl:bs.length<=1048576) (o T:Id) (σ:aw) (ho:σ.get o=some ⟨true,3,bs.map aY⟩) (hT:σ.get T=some ⟨true,1,[[.int .i64 t]]⟩) (wI:o.bt<σ.next) (FN:T.bt<σ.next) (XJ:o≠T):
  Call Tryz.prog 190 [.own o 0 bs.length,.fn 192 [.ptr T 0 0]] σ fun r σ'=>∃rows,r=.own o 0 (bV t bs).length/\σ'.get o=some ⟨true,3,rows⟩/\rows.take (bV t bs).length=(bV t bs).map aY/\(bV t bs).length<=rows.length/\σ.next<=σ'.next/\∀i:Id,i.bt<σ.next->i≠o->σ'.get i=σ.get i:=by
 refine fV fW rfl fun jd=>?_
 clear jd
 have He:=Cy bs t hl
 have hzT:∀(g:Rows),g T=some ⟨true,1,[[.int .i64 t]]⟩->V.fz (ez g) 5 (.ptr T 0 0)=some (.er [.int .i64 t]):=fun g hg=>tM (sz:=1) (rows:=[[.int .i64 t]]) (by simp[ez,hg]) rfl (by simp only[List.drop_zero,aj,ar,aJ,Option.map_some])
 have Ak:∀(g:Rows),g T=some ⟨true,1,[[.int .i64 t]]⟩->g o=some ⟨true,3,bs.map aY⟩->eC (ez g) 6 [.own o 0 bs.length,.fn 192 [.ptr T 0 0]]=some [.sl (bs.map aY),.fn 192 [.er [.int .i64 t]]]:=fun g h1 h2=>by
  have q1:=gm (g:=ez g) (n:=5) (e:=aY) (sz:=3) (len:=bs.length) (l:=bs) (id:=o) (by simp[ez,h2]) rfl fun b=>Dw _ 4 b
  have q2:=hzT g h1
  simp only[aj,ar,q1,cK,List.all_cons,List.all_nil,AV.cell,Bool.and_true,if_true,q2,Option.map_some]
 have qH:∀(g:Rows),g T=some ⟨true,1,[[.int .i64 t]]⟩->∀b:PB,eC (ez g) 6 [.agg (aY b),.ptr T 0 0]=some [.agg (aY b),.er [.int .i64 t]]:=fun g h1 b=>by
  have q3:V.fz (ez g) 6 (.ptr T 0 0)=some (.er [.int .i64 t]):=tM (sz:=1) (rows:=[[.int .i64 t]]) (by simp[ez,h1]) rfl (by simp only[List.drop_zero,aj,ar,aJ,Option.map_some])
  simp only[aj,ar,bj,Dw,q3,Option.map_some]
 (try((repeat(revert N;apply Pn.out));refine wk @Nat.zero_add ?_;(repeat(apply Pn.mk;intro N hN))))
 refine .inl ⟨_,ax.x He (Ak _ hT ho),?_⟩
 apply hN
 clear hN N
 by_cases h0:0<=mc (fun b:PB=>decide (b.s<t)) bs
 ·obtain⟨i,hi,FU,hpi,Vk⟩:=HJ h0
  rw[FU]at *
  have Q5:decide ((i:Int)= -1)=false:=decide_eq_false ad
  have ZG:IntKind.i64.wrap ((i:Int)+1)=((i+1:Nat):Int):=aX ad
  obtain⟨eA,sk⟩:=yy.start (t:=t) hi (by simpa using hpi) (fun x hx=>by simpa using Vk x hx)
  (try((repeat(revert N;apply Pn.out));refine wk (tw @Q5 @ZG) ?_;(repeat(apply Pn.mk;intro N hN))))
  refine cm (fun m env st=>∃(j:Nat) (R:List PB),m=bs.length-j/\env 6=.int .i64 (j:Int)/\env 5=.int .i64 ((bV t (bs.take j)).length:Int)/\st.get o=some ⟨true,3,R.map aY⟩/\yy t bs j R/\j<=bs.length/\σ.next<=st.next/\∀x:Id,x.bt<σ.next->(x=o)=False->st.get x=σ.get x) (bs.length-(i+1)) ⟨i+1,bs,rfl,sd @ZG,sd @sk,sd @ho,eA,ad,bp,fun x _ _=>sd @Nat.zero_add⟩ ?_
  rintro m env_b st_b ⟨j,R,rfl,b6,b5,bg,hD,iP,hle,jx⟩ fb
  have b0:=fb 0 (by kernel_rfl)
  have b1:=fb 1 (by kernel_rfl)
  simp only[go_sem, ↓reduceIte,Nat.reduceEqDiff,Nat.reduceAdd,Nat.reduceSub,Nat.reduceLeDiff,reduceCtorEq]at b0 b1
  clear fb
  have bT:=(jx T FN (by simp only[eq_iff_iff,iff_false];exact fun h=>XJ h.symm)).trans hT
  have mO:=dp (i:=o) (n:=st_b.next) ad
  have hvT:=dp (i:=T) (n:=st_b.next) ad
  have hRl:=hD.len
  have hRm:(R.map aY).length=bs.length:=by rw[List.length_map,hRl]
  have eP:=hD.lt
  by_cases hj:(j:Int)<(bs.length:Int)
  ·have oU:j<bs.length:=ad
   have DK:=hD.at_ oU
   have Vy:=PK bs[j] t
   have hwj:IntKind.i64.wrap ((j:Int)+1)=((j+1:Nat):Int):=aX ad
   have hD1:=hD.weak oU
   have hD2:=hD.s7 oU
   generalize bs[j]=b at *
   (try((repeat(revert N;apply Pn.out));refine wk (tw @b0 (tw @b1 (tw @b5 (tw @b6 (tw @bg (tw @hj (tw @DK (tw @aY.eq_1 (tw @mO (tw @hvT @hRm)))))))))) ?_;(repeat(apply Pn.mk;intro N hN))))
   refine .inl ⟨_,ax.x Vy (qH _ (sd (tw @hvT @bT)) b),?_⟩
   apply hN
   clear hN N
   by_cases hw:b.s<t
   ·obtain⟨hDn,hDl⟩:=hD1 hw
    have hd:decide (b.s<t)=true:=decide_eq_true hw
    (try((repeat(revert N;apply Pn.out));refine wk (tw @b0 (tw @b1 (tw @b5 (tw @b6 (tw @hd @hwj))))) ?_;(repeat(apply Pn.mk;intro N hN))))
    refine⟨_,?_,j+1,R,rfl,sd @hwj,sd (tw @b5 @hDl),sd (tw @bg @mO),hDn,ad,bp,fun x hx ER=>?_⟩
    ·omega
    ·have XR:=dp (i:=x) (n:=st_b.next) ad
     have:=jx x hx ER
     simp only[go_sem, ↓reduceIte,Nat.reduceEqDiff,Nat.reduceAdd,Nat.reduceSub,Nat.reduceLeDiff,reduceCtorEq,XR,this]
   ·obtain⟨hDn,hDl⟩:=hD2 hw
    have hd:decide (b.s<t)=false:=decide_eq_false hw
    have QU:((bV t (bs.take j)).length:Int)<(bs.length:Int):=ad
    have hwc:IntKind.i64.wrap (((bV t (bs.take j)).length:Int)+1)=(((bV t (bs.take j)).length+1:Nat):Int):=aX ad
    have fU:(R.map aY).set (bV t (bs.take j)).length [.int .i64 (b.a:Int),.int .i64 (b.b:Int),.int .i64 b.s]=(R.set (bV t (bs.take j)).length b).map aY:=by rw[List.map_set];rfl
    have S9:∃y,(R.map aY)[(bV t (bs.take j)).length]? =some (aY y):=⟨R[(bV t (bs.take j)).length]'ad,by rw[List.getElem?_map,List.getElem?_eq_getElem ad];rfl⟩
    obtain⟨y,S9⟩:=S9
    rw[aY]at S9
    (try((repeat(revert N;apply Pn.out));refine wk (tw @b0 (tw @b1 (tw @b5 (tw @b6 (tw @bg (tw @hd (tw @hwj (tw @hwc (tw @QU (tw @fU (tw @S9 (tw @mO (tw @hvT @hRm))))))))))))) ?_;(repeat(apply Pn.mk;intro N hN))))
    refine⟨_,?_,j+1,_,rfl,sd @hwj,sd (tw @hwc @hDl),sd @fU,hDn,ad,bp,fun x hx ER=>?_⟩
    ·omega
    ·have XR:=dp (i:=x) (n:=st_b.next) ad
     have:=jx x hx ER
     simp only[go_sem, ↓reduceIte,Nat.reduceEqDiff,Nat.reduceAdd,Nat.reduceSub,Nat.reduceLeDiff,reduceCtorEq,XR,this,ER]
  ·have iP:j=bs.length:=ad
   subst iP
   have BI:=hD.pre
   rw[List.take_length]at b5 eP BI
   have QU:((bV t bs).length:Int)<=(bs.length:Int):=ad
   have hcn:(bV t bs).length<=bs.length:=ad
   have nq:(bV t bs).length+(bs.length-(bV t bs).length)=bs.length:=ad
   have sk:=pW t bs
   (try((repeat(revert N;apply Pn.out));refine wk (tw @b0 (tw @b1 (tw @b5 (tw @b6 (tw @bg (tw @hj (tw @hRm (tw @QU (tw @hcn (tw @nq (tw @Nat.le_refl (tw @Nat.sub_zero (tw @Int.le_refl @mO))))))))))))) ?_;(repeat(apply Pn.mk;intro N hN))))
   refine fc (.inl rfl) (vs:=[.own o 0 (bV t bs).length]) (sd @Nat.zero_add) ⟨_,rfl,by simp only[go_sem, ↓reduceIte,Nat.reduceEqDiff,Nat.reduceAdd,Nat.reduceSub,Nat.reduceLeDiff,reduceCtorEq];rfl,?_,?_,bp,fun x hx ER=>?_⟩
   ·have hm:List.take (bV t bs).length (List.map aY R)=(bV t bs).map aY:=by rw[<-List.map_take,BI]
    rw[hm,List.append_assoc,List.take_append_of_le_length (by simp),List.take_of_length_le (by simp)]
   ·have hm:List.take (bV t bs).length (List.map aY R)=(bV t bs).map aY:=by rw[<-List.map_take,BI]
    rw[hm]
    simp only[List.length_append,List.length_map]
    omega
   ·have ZH:(x=o)=False:=by simp only[eq_iff_iff,iff_false];exact ER
    have:=jx x hx ZH
    simp only[go_sem, ↓reduceIte,Nat.reduceEqDiff,Nat.reduceAdd,Nat.reduceSub,Nat.reduceLeDiff,reduceCtorEq,ZH,this]
 ·have hn:=HI h0
  have eA:=yu (t:=t) (bs:=bs) fun b hb=>by simpa using hn b hb
  have hd:decide (mc (fun b:PB=>decide (b.s<t)) bs= -1)=true:=decide_eq_true (by
   unfold mc at h0 ⊢
   split
   ·rename_i h;rw[if_pos h]at h0;omega
   ·rfl)
  (try((repeat(revert N;apply Pn.out));refine wk @hd ?_;(repeat(apply Pn.mk;intro N hN))))
  refine fc (.inl rfl) (vs:=[.own o 0 bs.length]) (sd @Nat.zero_add) ⟨bs.map aY,by rw[eA];rfl,sd @ho,by rw[eA,List.take_of_length_le (by simp)],by rw[eA];simp,bp,fun x _ _=>rfl⟩
end Go.Proofs.YtoodopepphhpoaaGreatDoor.V

namespace Go.Proofs.YtoodopepphhpoaaGreatDoor.V
open Go.RowKit Go.Shelf
attribute [local go_sem] Oper.semAt_some
structure sU (W:World) (v:Value) (l:List aa):Prop where
 sl:∃A c,v=.slice A l.length c/\(l.length<=c/\c<=maxLen)/\(l=[]∨∃b o,A=some ⟨b,o,none⟩/\∀i,i<l.length->W.cell? ⟨b,o+(i*3+0),none⟩=some (.int .i64 (bh l i).bf.fE)/\W.cell? ⟨b,o+(i*3+1),none⟩=some (.int .i64 (bh l i).bf.fw)/\W.cell? ⟨b,o+(i*3+2),none⟩=some (.int .i64 (bh l i).bc))
structure MI (K:World->World->Prop) (v:Value) (l:List aa):Prop where
 refl:∀W,K W W
 trans:∀{A B C:World},K A B->K B C->K A C
 of:∀{W W':World},Below W.heap.size W W'->K W W'
 size:∀{W W':World},K W W'->W.heap.size<=W'.heap.size
 typed:∀{W W':World},K W W'->∀(b:Nat) (cells:Array Value) (T:TypeId) (fr:Nat×Nat),W.heap[b]? =some (Obj.cells cells T fr)->T≠153->T≠188->W'.heap[b]? =W.heap[b]?
 pl:∀{W W':World},K W W'->sU W v l->sU W' v l
theorem yZ {W:World} {b x:Nat} {v:Value} (h:W.cell? ⟨b,x,none⟩=some v):b<W.heap.size:=by
 rcases Nat.lt_or_ge b W.heap.size with h1|h1
 ·exact h1
 ·simp[World.cell?,Array.getElem?_eq_none h1]at h
theorem sU.below {W W':World} {v:Value} {l:List aa} (h:sU W v l) (k:Below W.heap.size W W'):sU W' v l:=by
 obtain⟨A,c,rfl,hm,hc⟩:=h.sl
 refine⟨A,c,rfl,hm,?_⟩
 rcases hc with h0|⟨b,o,rfl,oh⟩
 ·exact .inl h0
 ·refine .inr ⟨b,o,rfl,fun i hi=>?_⟩
  obtain⟨h1,h2,h3⟩:=oh i hi
  have hb:=yZ h1
  exact⟨(k.cell (p:=⟨b,_,none⟩) hb).trans h1,(k.cell (p:=⟨b,_,none⟩) hb).trans h2,(k.cell (p:=⟨b,_,none⟩) hb).trans h3⟩
theorem sU.fq {P:Program} {W:World} {v:Value} {l:List aa} (h:sU W v l):lO P W (fun b=>b<W.heap.size) (.sl (l.map ab)) v:=by
 obtain⟨A,c,rfl,hm,hc⟩:=h.sl
 rcases hc with rfl|⟨b,o,rfl,oh⟩
 ·exact .ES A c (by simpa using hm.2)
 by_cases Qa:l=[]
 ·subst Qa;exact .ES _ c (by simpa using hm.2)
 ·have lX:0<l.length:=List.length_pos_iff.2 Qa
  have hb:=yZ (oh 0 lX).1
  refine .sl (l.map ab) b o l.length c 3 (fun i j=>if j=0 then .int .i64 (bh l i).bf.fE else if j=1 then .int .i64 (bh l i).bf.fw else .int .i64 (bh l i).bc) (by simp) hm.1 hm.2 hb (fun cs eD=>?_) (fun cs eD a ha=>?_) (fun i j hi hj=>?_) (fun i j cs a hi hj=>?_)
  ·obtain⟨x,_,rfl⟩:=List.mem_map.1 eD;rfl
  ·obtain⟨x,_,rfl⟩:=List.mem_map.1 eD
   simp[ab]at ha
   rcases ha with rfl|rfl|rfl<;>rfl
  ·obtain⟨h1,h2,h3⟩:=oh i hi
   match j,hj with
   |0,_=>exact h1
   |1,_=>exact h2
   |2,_=>exact h3
   |j+3,hj=>omega
  ·have oj:i<l.length:=by have:=(List.getElem?_eq_some_iff.1 hi).1;simpa using this
   rw[gK oj]at hi
   injection hi with hi
   subst hi
   match j,hj with
   |0,hj=>simp[ab]at hj;subst hj;exact .int _ _
   |1,hj=>simp[ab]at hj;subst hj;exact .int _ _
   |2,hj=>simp[ab]at hj;subst hj;exact .int _ _
   |j+3,hj=>simp[ab]at hj
theorem Fi {P:Program} (hm:P.follows .mixedOrders=true) {f:Nat} {args:List AV} {vs:Array Value} {w:World} {r:AV} (h:ax P f args r) (hr:∀g r0,iy g 6 r0=some r->r0=r) (hA:gI P w (fun b=>b<w.heap.size) (fun _=>none) args vs):
  Calls P f vs w fun e w'=>∃D ι u,e=.returned u/\dZ P w' D ι r u/\Below w.heap.size w w':=by
 have hs:=iv hm (h 0) w.heap.size (fun b=>b<w.heap.size) (fun _=>none) w vs ⟨Nat.le_refl _,fun _ h=>h,fun id r h=>(by cases h),fun id lz r r' B B' h=>(by cases h)⟩ (fun id h=>absurd rfl h) hA
 refine hs.mono ?_
 rintro e w' ⟨r0,g',n',D',ι',u,rfl,⟨r',hz,rfl⟩,eA,hsim,_,_,je⟩
 have:=hr _ _ hz
 subst this
 exact⟨D',ι',u,rfl,je,eA.below⟩
theorem rh {g:Rows} {n:Nat} {a:AV} {k:IntKind} {m:Int} (h:iy g (n+1) a=some (.int k m)):a=.int k m:=by
 cases a<;>rw[iy]at h<;>simp_all
 all_goals (repeat' (split at h))<;>simp_all
theorem HQ {g:Rows} {a:AV} {x y:Int} (h:iy g 6 a=some (.agg [.int .i64 x,.int .i64 y])):a=.agg [.int .i64 x,.int .i64 y]:=by
 cases a with
 |agg cs=>
  rw[uY]at h
  simp only[Option.map_eq_some_iff,AV.agg.injEq,exists_eq_right]at h
  match cs,h with
  |[],h=>rw[dq]at h;simp at h
  |[a],h=>
   rw[cF,dq]at h
   cases ha:iy g 5 a<;>simp[ha]at h
  |[a,b],h=>
   rw[cF,cF,dq]at h
   cases ha:iy g 5 a<;>cases hb:iy g 5 b<;>simp[ha,hb]at h
   obtain⟨rfl,rfl⟩:=h
   rw[rh ha,rh hb]
  |a::b::c::r,h=>
   rw[cF,cF,cF]at h
   cases ha:iy g 5 a<;>cases hb:iy g 5 b<;>cases hc:iy g 5 c<;>cases hd:fA g 5 r<;>simp[ha,hb,hc,hd]at h
 |_=>rw[iy]at h<;>simp_all<;>(repeat' (split at h))<;>simp_all
theorem IT (W:World) (p:aq) (d:Int) (hd:iW d 0 3=true) (hx:iB p.fE) (hy:iB p.fw):Calls Tryz.prog 123 #[.agg #[.int .i64 p.fE,.int .i64 p.fw],.int .i64 d] W fun e W'=>e=.returned (.agg #[.int .i64 (cj p d).fE,.int .i64 (cj p d).fw])/\Below W.heap.size W W':=by
 refine(Fi mixed (IV p d hd hx hy) (fun g r0 h=>HQ h) ?_:Calls _ _ _ _ _).mono ?_
 ·exact rM (vs:= #[.int .i64 d]) (.agg _ _ (fun j=>if j=0 then .int .i64 p.fE else .int .i64 p.fw) rfl (fun a ha=>by simp[ah]at ha;rcases ha with rfl|rfl<;>rfl) (fun j hj=>by match j,hj with|0,_=>rfl|1,_=>rfl|j+2,hj=>simp[ah]at hj;omega) (fun j a ha=>by match j,ha with|0,ha=>simp[ah]at ha;subst ha;exact .int _ _|1,ha=>simp[ah]at ha;subst ha;exact .int _ _|j+2,ha=>simp[ah]at ha)) (rM (vs:= #[]) (.int _ _) AR)
 ·rintro e W' ⟨D,ι,u,rfl,hr,hB⟩
  refine⟨?_,hB⟩
  obtain⟨vs,f,rfl,eY,_,h1,h2⟩:=jG hr
  have v0:=h1 0 (by simp[ah])
  have v1:=h1 1 (by simp[ah])
  rw[ev (h2 0 _ rfl)]at v0
  rw[ev (h2 1 _ rfl)]at v1
  obtain⟨vl⟩:=vs
  match vl,eY with
  |[a,b],_=>
   simp at v0 v1
   rw[v0,v1]
theorem BS (W:World) (l:List aa) (v:Value) (hP:sU W v l) (p:aq) (hR:mD l) (QN:l.length<=1048576):Calls Tryz.prog 215 #[.agg #[v],.agg #[.int .i64 p.fE,.int .i64 p.fw]] W fun e W'=>e=.returned (.int .i64 (eO l p))/\Below W.heap.size W W':=by
 refine(Fi mixed (LJ l p hR QN) (fun g r0 h=>rh h) ?_:Calls _ _ _ _ _).mono ?_
 ·exact rM (vs:= #[.agg #[.int .i64 p.fE,.int .i64 p.fw]]) (.agg _ _ (fun _=>v) rfl (fun a ha=>by simp at ha;rw[ha];rfl) (fun j hj=>by match j,hj with|0,_=>rfl|j+1,hj=>simp at hj) (fun j a ha=>by match j,ha with|0,ha=>simp at ha;subst ha;exact hP.fq|j+1,ha=>simp at ha)) (rM (vs:= #[]) (.agg _ _ (fun j=>if j=0 then .int .i64 p.fE else .int .i64 p.fw) rfl (fun a ha=>by simp[ah]at ha;rcases ha with rfl|rfl<;>rfl) (fun j hj=>by match j,hj with|0,_=>rfl|1,_=>rfl|j+2,hj=>simp[ah]at hj;omega) (fun j a ha=>by match j,ha with|0,ha=>simp[ah]at ha;subst ha;exact .int _ _|1,ha=>simp[ah]at ha;subst ha;exact .int _ _|j+2,ha=>simp[ah]at ha)) AR)
 ·rintro e W' ⟨D,ι,u,rfl,hr,hB⟩
  exact⟨by rw[ev hr],hB⟩
theorem grown_of {W W':World} (h:Below W.heap.size W W'):W.grownBy W' none:=⟨h.os,h.tape,h.output,h.size,fun k hk _=>h.block k hk⟩
def Gz (l:List aa) (i:Nat) (d:Int):List (Nat×Nat×Int):=if 0<=eO l (cj (bh l i).bf d)then[(i,(eO l (cj (bh l i).bf d)).toNat,d)]else[]
def nv (l:List aa) (i m:Nat):List (Nat×Nat×Int):=(List.range m).flatMap fun j:Nat=>Gz l i (1-(j:Int))
def nU (l:List aa) (n:Nat):List (Nat×Nat×Int):=(List.range n).flatMap fun i=>nv l i 2
theorem pf (l:List aa) (n:Nat):nU l (n+1)=nU l n++nv l n 2:=by simp[nU,List.range_succ]
theorem pR (l:List aa) (i m:Nat):nv l i (m+1)=nv l i m++Gz l i (1-(m:Int)):=by simp[nv,List.range_succ]
theorem VR (l:List aa) {k m:Nat} (hk:k<l.length) (hm:m<=2):nU l k++nv l k m <+:nU l l.length:=by
 have h1:∀d,nU l k <+:nU l (k+d):=fun d=>by
  induction d with
  |zero=>exact List.prefix_refl _
  |succ d ih=>rw[<-Nat.add_assoc,pf l (k+d)];exact ih.trans (List.prefix_append _ _)
 have h2:∀d,nU l (k+1) <+:nU l (k+1+d):=fun d=>by
  induction d with
  |zero=>exact List.prefix_refl _
  |succ d ih=>rw[<-Nat.add_assoc,pf l (k+1+d)];exact ih.trans (List.prefix_append _ _)
 have h3:=h2 (l.length-(k+1))
 rw[show k+1+(l.length-(k+1))=l.length by omega,pf]at h3
 refine List.IsPrefix.trans ?_ h3
 have h4:nv l k m <+:nv l k 2:=by
  have:m=0∨m=1∨m=2:=ad
  rcases this with rfl|rfl|rfl
  ·exact List.nil_prefix
  ·rw[pR l k 1];exact List.prefix_append _ _
  ·exact List.prefix_refl _
 exact(List.prefix_append_right_inj _).2 h4
def X5 (l:List aa) (x:Nat×Nat×Int):Prop:=x.1<l.length/\x.2.1<l.length/\(0<=x.2.2/\x.2.2<=1)/\(x.2.1:Int)=eO l (cj (bh l x.1).bf x.2.2)
def JD (x:Nat×Nat×Int):Array Value:= #[.agg #[.int .i64 (x.1:Int),.int .i64 (x.2.1:Int)],.int .i64 x.2.2]
theorem Rl (l:List aa) (p:aq) (h:0<l.length:=by omega):eO l p<(l.length:Int):=by
 unfold eO
 split<;>omega
theorem ZT (l:List aa) (hA:mm l) (q Ba:Nat) (vS:Value) (K:World->World->Prop) (kl:MI K vS l) (J Jx:List (Nat×Nat×Int)->World->Prop) (n:Nat) (hn:1<=n)
  (hY:∀pre x W,J pre W->pre.length<(nU l l.length).length->X5 l x->YieldAt Fence.wide (n-1) Tryz.prog q (JD x) W fun e W'=>
   (e=.returned (.bool true)/\J (pre++[x]) W'/\K W W')∨(e=.returned (.bool false)/\Jx (pre++[x]) W'))
  (W:World) (hJ:AbidesFrom W.heap.size J) (UG:W.heap[Ba]? =some (.cells #[vS] 30 (0,0))) (hP:sU W vS l) (h0:J [] W):
  CallsIn Fence.wide n Tryz.prog 214 #[.func (.yield q) #[] #[],.pointer (some ⟨Ba,0,none⟩)] W fun e W'=>(∃v,e=.returned v)/\
   ((∃ys,ys=nU l l.length/\J ys W')∨(∃pre,pre <+:nU l l.length/\Jx pre W')):=by
 obtain⟨A,cp,rfl,_,_⟩:=hP.sl
 refine callsIn_of_wp Tryz.func214 rfl trivial ?_ rfl
 simp only[Tryz.ntmps214,List.size_toArray,List.length_cons,List.length_nil,Nat.reduceAdd,Nat.reduceSub,Array.replicate_succ,Array.replicate_zero,List.push_toArray,List.append_toArray,List.nil_append,List.cons_append]
 have kJ:W.cell? ⟨Ba,0,none⟩=some (.slice A l.length cp):=by simp[World.cell?,UG]
 gi_wp2
 gi_loopw [11] (fun i wr=>∃k:Nat,k<=l.length/\i=.int .i64 k/\J (nU l k) wr/\K W wr)
  (fun i _=>l.length-(intOf i).toNat)
 case atStart=>exact⟨0,Nat.zero_le _,rfl,h0,kl.refl _⟩
 case round=>
  obtain⟨k,hk,rfl,YF,hKt⟩:=hrel
  by_cases eP:k<l.length
  ·have eD:∃b o,A=some ⟨b,o,none⟩/\wr.cell? ⟨b,o+k*3,none⟩=some (.int .i64 (bh l k).bf.fE)/\wr.cell? ⟨b,o+k*3+1,none⟩=some (.int .i64 (bh l k).bf.fw)/\wr.cell? ⟨b,o+k*3+2,none⟩=some (.int .i64 (bh l k).bc):=by
    obtain⟨A',c',hv,_,hc⟩:=(kl.pl hKt hP).sl
    cases hv
    rcases hc with rfl|⟨b,o,rfl,oh⟩
    ·simp at eP
    ·obtain⟨h1,h2,h3⟩:=oh k eP
     exact⟨b,o,rfl,by simpa using h1,by rw[Nat.add_assoc];exact h2,by rw[Nat.add_assoc];exact h3⟩
   obtain⟨b,o,rfl,hx,hy',ht⟩:=eD
   gi_wp2
   obtain⟨W2,YO⟩:∃W2,(wr.alloc (.cells #[.int .i64 (bh l k).bf.fE,.int .i64 (bh l k).bf.fw,.int .i64 (bh l k).bc] 59)).alloc (.cells #[.int .i64 1,.int .i64 0] 2)=W2:=⟨_,rfl⟩
   have mv:Below wr.heap.size wr W2:=by rw[<-YO];exact((Below.refl _ wr).alloc (Nat.le_refl _) _).alloc (by simp) _
   have hHt:W2.heap[wr.heap.size]? =some (.cells #[.int .i64 (bh l k).bf.fE,.int .i64 (bh l k).bf.fw,.int .i64 (bh l k).bc] 59 (0,0)):=by
    rw[<-YO,Below.heap_alloc _ _ _ (by simp)];exact World.alloc_heap_new _ _
   have hHd:W2.heap[wr.heap.size+1]? =some (.cells #[.int .i64 1,.int .i64 0] 2 (0,0)):=by
    have:=World.alloc_heap_new (wr.alloc (.cells #[.int .i64 (bh l k).bf.fE,.int .i64 (bh l k).bf.fw,.int .i64 (bh l k).bc] 59)) (.cells #[.int .i64 1,.int .i64 0] 2)
    rw[World.size_alloc]at this
    rw[<-YO];exact this
   have UO:K W W2:=kl.trans hKt (kl.of mv)
   have hJ2:J (nU l k++nv l k 0) W2:=by
    have:=hJ _ _ _ none YF (grown_of mv) (fun r h=>by cases h)
    simpa[nv]using this
   rw[YO]
   clear YO
   generalize wr=w1 at *
   gi_loopw [18] (fun j wr=>∃m:Nat,m<=2/\j=.int .i64 m/\J (nU l k++nv l k m) wr/\K W2 wr)
    (fun j _=>2-(intOf j).toNat)
   case atStart=>exact⟨0,ad,rfl,hJ2,kl.refl _⟩
   case round=>
    obtain⟨m,hm,rfl,hJm,S3⟩:=hrel
    have Vd:m=0∨m=1∨m=2:=ad
    by_cases H6:m<2
    ·have hkd:=kl.typed S3 _ _ _ _ hHd (by decide) (by decide)
     have P8:=kl.typed S3 _ _ _ _ hHt (by decide) (by decide)
     have hka:=kl.typed (kl.trans UO S3) _ _ _ _ UG (by decide) (by decide)
     have cd:wr.cell? ⟨w1.heap.size+1,m,none⟩=some (.int .i64 (1-(m:Int))):=by
      rw[World.cell?_of_block hkd]
      rcases Vd with rfl|rfl|rfl
      ·simp[World.cell?,hHd]
      ·simp[World.cell?,hHd]
      ·omega
     have ct0:wr.cell? ⟨w1.heap.size,0,none⟩=some (.int .i64 (bh l k).bf.fE):=by rw[World.cell?_of_block P8];simp[World.cell?,hHt]
     have ct1:wr.cell? ⟨w1.heap.size,1,none⟩=some (.int .i64 (bh l k).bf.fw):=by rw[World.cell?_of_block P8];simp[World.cell?,hHt]
     have ca:wr.cell? ⟨Ba,0,none⟩=some (.slice (some ⟨b,o,none⟩) l.length cp):=by rw[World.cell?_of_block hka];simp[World.cell?,UG]
     have hPw:sU wr (.slice (some ⟨b,o,none⟩) l.length cp) l:=kl.pl (kl.trans UO S3) hP
     have hba:Ba<wr.heap.size:=by
      have h1:=(Array.getElem?_eq_some_iff.1 UG).1
      have h2:=kl.size (kl.trans UO S3)
      omega
     have hdm:iW (1-(m:Int)) 0 3=true:=j7 ad
     have Tg:=uj (hA.pt eP)
     have XP:=fun w0=>IT w0 (bh l k).bf (1-(m:Int)) hdm Tg.1 Tg.2
     have hPd:sU wr.drew (.slice (some ⟨b,o,none⟩) l.length cp) l:=hPw.below ⟨rfl,rfl,rfl,Nat.le_refl _,fun _ _=>rfl⟩
     have cad:wr.drew.cell? ⟨Ba,0,none⟩=some (.slice (some ⟨b,o,none⟩) l.length cp):=ca
     have ctd0:wr.drew.cell? ⟨w1.heap.size,0,none⟩=some (.int .i64 (bh l k).bf.fE):=ct0
     have ctd1:wr.drew.cell? ⟨w1.heap.size,1,none⟩=some (.int .i64 (bh l k).bf.fw):=ct1
     have hfw:=hA.xR
     have Zh:=hA.Br
     have hmix:=mixed
     gi_wp2
     gi_region_with_o (first|(refine⟨trivial,?_⟩;gi_at_call 123;refine(callsIn_wide.2 (XP _)).mono ?_;rintro e w3 ⟨rfl,FL⟩;have ca3:=(FL.cell (p:=⟨Ba,0,none⟩) hba).trans cad)|(refine⟨trivial,?_⟩;gi_at_call 215;refine(callsIn_wide.2 (BS _ l _ (hPd.below FL) (cj (bh l k).bf (1-(m:Int))) Zh ad)).mono ?_;rintro e w4 ⟨rfl,hB4⟩))
     all_goals
      have UE:Below wr.heap.size wr w4:=(show Below wr.heap.size wr wr.drew from⟨rfl,rfl,rfl,Nat.le_refl _,fun _ _=>rfl⟩).trans (FL.trans (hB4.mono FL.size))
      have hJ4:J (nU l k++nv l k m) w4:=hJ _ _ _ none hJm (grown_of UE) (fun r h=>by cases h)
      have BI:=VR l eP (m:=m+1) ad
      rw[pR,<-List.append_assoc]at BI
      have sj:=pR l k m
      have hw:wrap64 ((m:Int)+1)=((m+1:Nat):Int):=by unfold wrap64;omega
      by_cases DM:0<=eO l (cj (bh l k).bf (1-(m:Int)))
      ·have gS:((eO l (cj (bh l k).bf (1-(m:Int)))).toNat:Int)=eO l (cj (bh l k).bf (1-(m:Int))):=ad
       rw[Gz,if_pos DM]at BI sj
       obtain⟨fn,tmps,assign,body,hy,hR⟩:=hY _ (k,(eO l (cj (bh l k).bf (1-(m:Int)))).toNat,1-(m:Int)) w4 hJ4 (by
        have:=BI.length_le
        simp only[List.length_append,List.length_cons,List.length_nil]at this ⊢
        omega) ⟨eP,by
        have:eO l (cj (bh l k).bf (1-(m:Int)))<(l.length:Int):=Rl _ _
        show(eO l (cj (bh l k).bf (1-(m:Int)))).toNat<l.length
        omega,⟨by show 0<=1-(m:Int);omega,by show 1-(m:Int)<=1;omega⟩,gS⟩
       simp only[JD,gS]at hy
       gi_wp2
       refine hR.mono ?_
       rintro e W3 (⟨rfl,hJ3,BH⟩|⟨rfl,hJx3⟩)
       ·gi_wp2
        go_roundw
        case rel=>exact⟨m+1,ad,by simp,by rw[sj,<-List.append_assoc];exact hJ3,kl.trans (kl.trans S3 (kl.of UE)) BH⟩
        case measure=>simp[intOf];omega
       ·gi_wp2
        refine bodyPost_ret (results_none rfl _ _ _) rfl ?_
        exact⟨⟨_,rfl⟩,.inr ⟨_,BI,hJx3⟩⟩
      ·rw[Gz,if_neg DM,List.append_nil]at sj
       gi_wp2
       refine⟨fun _ h=>(by cases h),?_⟩
       gi_wp2
       go_roundw
       case rel=>exact⟨m+1,ad,by simp,by rw[sj];exact hJ4,kl.trans S3 (kl.of UE)⟩
       case measure=>simp[intOf];omega
    ·obtain rfl:m=2:=ad
     have hfw:=hA.xR
     gi_wp2
     go_roundw
     case rel=>exact⟨k+1,ad,by simp,by rw[pf];exact hJm,kl.trans UO S3⟩
     case measure=>simp[intOf];omega
  ·obtain rfl:k=l.length:=ad
   gi_wp2
   go_end0
   exact⟨⟨_,rfl⟩,.inl ⟨_,rfl,YF⟩⟩
theorem D8 (n:Nat) (vS:Value) (w:World):CallsIn Fence.wide n Tryz.prog 193 #[.agg #[vS]] w fun e w'=>e=.returned (.func (.func 214) #[] #[.pointer (some ⟨w.heap.size,0,none⟩)])/\w'=w.alloc (.cells #[vS] 30):=by
 refine callsIn_of_wp Tryz.func193 rfl trivial ?_ rfl
 simp only[Tryz.ntmps193,List.size_toArray,List.length_cons,List.length_nil,Nat.reduceAdd,Nat.reduceSub,Array.replicate_succ,Array.replicate_zero,List.push_toArray,List.append_toArray,List.nil_append,List.cons_append]
 gi_wp2
 go_ret
 exact⟨rfl,rfl⟩
abbrev TU (l:List aa):Type:={x:Nat×Nat×Int // X5 l x}
theorem OF (l:List aa) (hA:mm l) (Ba n:Nat) (hn:1<=n) (vS:Value) (K:World->World->Prop) (kl:MI K vS l) (w:World) (UG:w.heap[Ba]? =some (.cells #[vS] 30 (0,0))) (hP:sU w vS l):
  SeqStopsK Fence.wide n Tryz.prog 214 #[.pointer (some ⟨Ba,0,none⟩)] (fun x:TU l=>JD x.1) K (fun ys=>ys.map (·.1)=nU l l.length) (fun _=>True) (nU l l.length).length w:=fun q J Jx W hW hJ _ hY h0=>by
 refine(ZT l hA q Ba vS K kl (fun ys W=>∃zs:List (TU l),zs.map (·.1)=ys/\J zs W) (fun ys W=>∃zs:List (TU l),zs.map (·.1)=ys/\Jx zs W) n hn (fun pre x W1 hJ1 eP Ah=>?_) W (fun s A B row ⟨zs,e,h⟩ hg hr=>⟨zs,e,hJ zs A B row h hg hr⟩) ((hW.block Ba (Array.getElem?_eq_some_iff.1 UG).1).trans UG) (hP.below hW) ⟨[],rfl,h0⟩).mono ?_
 ·obtain⟨zs,rfl,h1⟩:=hJ1
  refine YieldAt.mono (hY zs ⟨x,Ah⟩ W1 h1 (by simpa using eP)) ?_
  rintro e W' (⟨h2,h3,h4⟩|⟨h2,h3⟩)
  ·exact .inl ⟨h2,⟨zs++[⟨x,Ah⟩],by simp,h3⟩,h4⟩
  ·exact .inr ⟨h2,⟨zs++[⟨x,Ah⟩],by simp,h3⟩⟩
 ·rintro e W' ⟨h1,⟨ys,rfl,zs,h2,h3⟩|⟨pre,_,zs,h2,h3⟩⟩
  ·exact⟨h1,.inl ⟨zs,h2,h3⟩⟩
  ·exact⟨h1,.inr ⟨zs,trivial,h3⟩⟩
def Di (s:ay) (l:List aa) (x:Nat×Nat×Int):List PB:=if 0<fM s (bh l x.1).bc x.2.2 (bh l x.2.1).bc then[⟨x.1,x.2.1,fM s (bh l x.1).bc x.2.2 (bh l x.2.1).bc⟩]else[]
theorem Ng (s:ay) (l:List aa):ea s l=(nU l l.length).flatMap (Di s l):=by
 have h1:∀i d,mW s l i d=(Gz l i d).flatMap (Di s l):=fun i d=>by
  unfold mW Gz
  by_cases h:0<=eO l (cj (bh l i).bf d)
  ·rw[if_pos h]
   simp only[List.flatMap_cons,List.flatMap_nil,List.append_nil,Di]
   by_cases h2:0<fM s (bh l i).bc d (bh l (eO l (cj (bh l i).bf d)).toNat).bc
   ·rw[if_pos ⟨h,h2⟩,if_pos h2]
   ·rw[if_neg fun hc=>h2 hc.2,if_neg h2]
  ·rw[if_neg h,if_neg fun hc=>h hc.1];rfl
 unfold ea jl nU
 rw[List.flatMap_assoc]
 congr 1
 funext i
 unfold gW nv
 rw[List.flatMap_assoc]
 congr 1
 funext j
 exact h1 i _
end Go.Proofs.YtoodopepphhpoaaGreatDoor.V

namespace Go.Proofs.YtoodopepphhpoaaGreatDoor.V
open Go.RowKit
attribute [local irreducible] eu wpOps fB Call
def Em (bs:List PB):AV:=if bs=[]then .cr else .sl (bs.map aY)
theorem R8:Em []=.cr:=rfl
theorem Eo {bs:List PB} (h:0<bs.length):Em bs=.sl (bs.map aY):=by
 unfold Em
 rw[if_neg (by rintro rfl;simp at h)]
theorem BB (cnt:Nat) (tP:1<=cnt) (hn:cnt<=1048576) (bs:List PB) (hb:∀b∈bs,b.a<cnt/\b.b<cnt) (hp:0<bs.length) (kq:bs.length<=1048576) (t:Int):ax Tryz.prog 169 [.int .i64 cnt,.sl (bs.map aY),.int .i64 t] (.fX [.int .i64 (leads cnt (fu (bV t bs))).length,Em (eG (fu (bV t bs)) bs)]):=by
 refine ax.body fW rfl fun hl n0=>?_
 clear hl
 (try((repeat(revert N;apply Pn.out));refine wk @Nat.zero_add ?_;(repeat(apply Pn.mk;intro N hN))))
 refine .inr (aH _ _ _ _ _ (fun r σ1 hq=>?_) (Nk bs hp kq _))
 obtain⟨o,rfl,ho,Q8,Q9,Y2⟩:=hq
 (try dsimp only at ho Q8 Q9 Y2)
 apply hN
 clear hN N
 (try((repeat(revert N;apply Pn.out));refine wk @Nat.zero_add ?_;(repeat(apply Pn.mk;intro N hN))))
 refine .inr (aH _ _ _ _ _ (fun r σ2 hq=>?_) (KP bs t kq o ⟨169000000,n0⟩ _ ho (by rw[Y2 _ bp];simp only[go_sem, ↓reduceIte,Nat.reduceEqDiff,Nat.reduceAdd,Nat.reduceSub,Nat.reduceLeDiff,reduceCtorEq]) bp bp (by rintro rfl;simp only at Q8;omega)))
 obtain⟨rows,rfl,fC,Zw,uA,pM,NS⟩:=hq
 (try dsimp only at pM NS)
 apply hN
 clear hN N
 have Mt:=z6 cnt tP hn (bV t bs) (fun b h=>hb b (Bc h)) (by have:=pW t bs;omega)
 have hL:=yf (bV t bs)
 have hz:∀x,eC (ez σ2.get) 6 [.int .i64 x,.own o 0 (bV t bs).length]=some [.int .i64 x,.sl ((bV t bs).map aY)]:=fun x=>by
  have:V.fz (ez σ2.get) 6 (.own o 0 (bV t bs).length)=some (.sl ((bV t bs).map aY)):=by
   rw[jY];simp only[ez,fC,Option.map_some,if_true]
   rw[if_pos ad,List.drop_zero,Zw,tL fun b=>Dw _ 4 b];rfl
  simp only[aj,ar,aJ,this,Option.map_some]
 (try((repeat(revert N;apply Pn.out));refine wk @Nat.zero_add ?_;(repeat(apply Pn.mk;intro N hN))))
 refine .inl ⟨_,ax.x Mt (hz _),?_⟩
 apply hN
 clear hN N
 generalize fu (bV t bs)=L at *
 have sW:((gZ cnt L).map EI).length=(leads cnt L).length:=by simp[gZ]
 have hld:=ke cnt L
 have kJ:(0:Int)<=(cnt:Int):=ad
 have qK:(cnt:Int)<=((16777216:Nat):Int):=ad
 have je:List.replicate cnt [AV.int .i64 0]=eM (ep cnt L 0 0) cnt:=by rw[Bf,rF]
 (try((repeat(revert N;apply Pn.out));refine wk (tw @kJ (tw @qK (tw @Int.le_refl (tw @sW @je)))) ?_;(repeat(apply Pn.mk;intro N hN))))
 refine cm (fun n env st=>∃i:Nat,n=((leads cnt L).length)-i/\i<=((leads cnt L).length)/\env 27=.int .i64 (i:Int)/\st.get ⟨169002001,σ2.next+1⟩=some ⟨true,1,eM (ep cnt L i 0) cnt⟩/\(σ2.next+1<st.next)) ((leads cnt L).length) ⟨0,ad,ad,sl (tw @je @sW),sl (tw @je @sW),bp⟩ ?_
 rintro n_c env_c st_c ⟨i,rfl,cle,c27,cg0,cI0⟩ jA
 have c1:=jA 1 (by kernel_rfl);have c8:=jA 8 (by kernel_rfl);have c9:=jA 9 (by kernel_rfl);have By:=jA 25 (by kernel_rfl);have Bz:=jA 26 (by kernel_rfl)
 simp only[go_sem, ↓reduceIte,Nat.reduceEqDiff,Nat.reduceAdd,Nat.reduceSub,Nat.reduceLeDiff,reduceCtorEq,je,sW]at c1 c8 c9 By Bz
 clear jA
 by_cases hi:(i:Int)<((leads cnt L).length:Int)
 ·have iL:∀{e:Env} {gg:Rows} {nx:Nat},(e 27=.int .i64 (IntKind.i64.wrap ((i:Int)+1)))->(gg ⟨169002001,σ2.next+1⟩=some ⟨true,1,eM (ep cnt L (i+1) 0) cnt⟩)->(σ2.next+1<nx)->∃m0,m0<((leads cnt L).length)-i/\∃i:Nat,m0=((leads cnt L).length)-i/\i<=((leads cnt L).length)/\e 27=.int .i64 (i:Int)/\gg ⟨169002001,σ2.next+1⟩=some ⟨true,1,eM (ep cnt L i 0) cnt⟩/\(σ2.next+1<nx):=fun x1 x2 x3=>⟨_,ad,i+1,rfl,ad,(by rw[x1,aX ad]),x2,x3⟩
  have gS:i<(leads cnt L).length:=ad
  have jZ:((gZ cnt L).map EI)[i]? =some (EI (members cnt L (leads cnt L)[i])):=by simp[gZ,gS]
  have qL:(leads cnt L).getD i 0=(leads cnt L)[i]:=by simp[List.getD_eq_getElem?_getD,gS]
  have nP:∀m,ep cnt L i m=fun x=>if dv L x<i then dv L x else if x∈(members cnt L (leads cnt L)[i]).take m then i else 0:=fun m=>by unfold ep;rw[qL]
  have ve:=fun x (hx:x<cnt)=>xr hL (n:=cnt) (k:=x) (i:=i) hx gS
  have qm:(members cnt L (leads cnt L)[i]).Nodup:=List.nodup_range.filter _
  have Ve:∀x∈members cnt L (leads cnt L)[i],x<cnt:=fun x hx=>(oz.1 hx).1
  have hMc:(members cnt L (leads cnt L)[i]).length<=cnt:=by
   have:=List.length_filter_le (fun k=>L k==(leads cnt L)[i]) (List.range cnt)
   simpa[members]using this
  generalize members cnt L (leads cnt L)[i]=M at *
  have Ha:(M.map eN).length=M.length:=by simp
  (try((repeat(revert N;apply Pn.out));refine wk (tw @c27 (tw @cg0 (tw @c1 (tw @c8 (tw @c9 (tw @By (tw @Bz (tw @hi (tw @sW (tw @jZ (tw @EI.eq_1 @Ha))))))))))) ?_;(repeat(apply Pn.mk;intro N hN))))
  refine cm (fun n env st=>∃m:Nat,n=(M.length)-m/\m<=(M.length)/\env 34=.int .i64 (m:Int)/\st.get ⟨169002001,σ2.next+1⟩=some ⟨true,1,eM (ep cnt L i m) cnt⟩/\(σ2.next+1<st.next)) (M.length) ⟨0,ad,ad,sl (tw @c27 (tw @cg0 (tw @c1 (tw @c8 (tw @c9 (tw @By (tw @Bz @Ha))))))),sl (tw @c27 (tw @cg0 (tw @c1 (tw @c8 (tw @c9 (tw @By (tw @Bz @Ha))))))),bp⟩ ?_
  rintro n_d env_d st_d ⟨m,rfl,dle,d34,dg0,dI0⟩ dfr
  have d1:=dfr 1 (by kernel_rfl);have d8:=dfr 8 (by kernel_rfl);have d9:=dfr 9 (by kernel_rfl);have d10:=dfr 10 (by kernel_rfl);have d25:=dfr 25 (by kernel_rfl);have d26:=dfr 26 (by kernel_rfl);have d27:=dfr 27 (by kernel_rfl);have d32:=dfr 32 (by kernel_rfl);have d33:=dfr 33 (by kernel_rfl)
  simp only[go_sem, ↓reduceIte,Nat.reduceEqDiff,Nat.reduceAdd,Nat.reduceSub,Nat.reduceLeDiff,reduceCtorEq,c27,cg0,c1,c8,c9,By,Bz,Ha]at d1 d8 d9 d10 d25 d26 d27 d32 d33
  clear dfr
  have tl:=iM (ep cnt L i m) cnt
  by_cases hm:(m:Int)<(M.length:Int)
  ·have yi:∀{e:Env} {gg:Rows} {nx:Nat},(e 34=.int .i64 (IntKind.i64.wrap ((m:Int)+1)))->(gg ⟨169002001,σ2.next+1⟩=some ⟨true,1,eM (ep cnt L i (m+1)) cnt⟩)->(σ2.next+1<nx)->∃m0,m0<(M.length)-m/\∃m:Nat,m0=(M.length)-m/\m<=(M.length)/\e 34=.int .i64 (m:Int)/\gg ⟨169002001,σ2.next+1⟩=some ⟨true,1,eM (ep cnt L i m) cnt⟩/\(σ2.next+1<nx):=fun x1 x2 x3=>⟨_,ad,m+1,rfl,ad,(by rw[x1,aX ad]),x2,x3⟩
   have DN:m<M.length:=ad
   have wH:(M.map eN)[m]? =some (eN M[m]):=by simp[DN]
   have Aj:=Ve _ (List.getElem_mem DN)
   have Hj:(M[m]:Int)<(cnt:Int):=ad
   have Hi:=gP (f:=ep cnt L i m) Aj
   have fU:(eM (ep cnt L i m) cnt).set M[m] (eN i)=eM (ep cnt L i (m+1)) cnt:=sR Aj (by
    have h1:=(ve _ Aj).1 (List.getElem_mem DN)
    rw[nP]
    simp only[]
    rw[if_neg ad,if_pos (by rw[List.take_succ_eq_append_getElem DN];exact List.mem_append_right _ (List.mem_singleton.2 rfl))]) fun x hx hZ=>by
    rw[nP,nP]
    simp only[]
    rw[List.take_succ_eq_append_getElem DN]
    simp only[List.mem_append,List.mem_singleton,hZ,or_false]
   rw[eN]at fU Hi
   generalize M[m]=xm at *
   (try((repeat(revert N;apply Pn.out));refine wk (tw @d34 (tw @dg0 (tw @d1 (tw @d8 (tw @d9 (tw @d10 (tw @d25 (tw @d26 (tw @d27 (tw @d32 (tw @d33 (tw @hm (tw @hi (tw @wH (tw @Ha (tw @Hj (tw @Hi (tw @tl (tw @fU @eN.eq_1))))))))))))))))))) ?_;(repeat(apply Pn.mk;intro N hN))))
   refine yi ?_ ?_ bp
   all_goals simp only[go_sem, ↓reduceIte,Nat.reduceEqDiff,Nat.reduceAdd,Nat.reduceSub,Nat.reduceLeDiff,reduceCtorEq,d34,dg0,d1,d8,d9,d10,d25,d26,d27,d32,d33,fU]
  ·have gy:m=M.length:=ad
   subst gy
   have sj:eM (ep cnt L i M.length) cnt=eM (ep cnt L (i+1) 0) cnt:=js fun x hx=>by
    rw[nP,List.take_length]
    simp only[ep,List.take_zero,List.not_mem_nil,if_false]
    have h1:=ve x hx
    by_cases h2:dv L x<i
    ·rw[if_pos h2,if_pos ad]
    ·rw[if_neg h2]
     by_cases h3:x∈M
     ·rw[if_pos h3,if_pos (by have:=h1.1 h3;omega),h1.1 h3]
     ·rw[if_neg h3,if_neg fun h4=>h3 (h1.2 ad)]
   (try((repeat(revert N;apply Pn.out));refine wk (tw @d34 (tw @dg0 (tw @d1 (tw @d8 (tw @d9 (tw @d10 (tw @d25 (tw @d26 (tw @d27 (tw @d32 (tw @d33 (tw @hm (tw @hi (tw @sW @Ha)))))))))))))) ?_;(repeat(apply Pn.mk;intro N hN))))
   refine iL ?_ ?_ bp
   all_goals simp only[go_sem, ↓reduceIte,Nat.reduceEqDiff,Nat.reduceAdd,Nat.reduceSub,Nat.reduceLeDiff,reduceCtorEq,c27,cg0,c1,c8,c9,By,Bz,d34,dg0,d1,d8,d9,d10,d25,d26,d27,d32,d33,sj]
 have oj:i=(leads cnt L).length:=ad
 subst oj
 have np:eM (ep cnt L (leads cnt L).length 0) cnt=eM (dv L) cnt:=js fun x hx=>by rw[ep,if_pos (lZ hL hx)]
 rw[np]at cg0
 have tl:=iM (dv L) cnt
 have hbm:(bs.map aY).length=bs.length:=by simp
 (try((repeat(revert N;apply Pn.out));refine wk (tw @c27 (tw @cg0 (tw @c1 (tw @c8 (tw @c9 (tw @By (tw @Bz (tw @hi (tw @sW @hbm))))))))) ?_;(repeat(apply Pn.mk;intro N hN))))
 have hcn:σ2.next+1<st_c.next:=cI0
 refine cm (fun n env st=>∃j:Nat,n=(bs.length)-j/\j<=(bs.length)/\env 46=.int .i64 (j:Int)/\st.get ⟨169002001,σ2.next+1⟩=some ⟨true,1,eM (dv L) cnt⟩/\(st_c.next<=st.next/\((eG L (bs.take j)=[]/\env 14=.cr)∨∃p:Id,env 14=.own p 0 (eG L (bs.take j)).length/\st.get p=some ⟨true,3,(eG L (bs.take j)).map aY⟩/\st_c.next<=p.bt/\p.bt<st.next/\0<(eG L (bs.take j)).length))) (bs.length) ⟨0,ad,ad,sl (tw @c27 (tw @cg0 (tw @c1 (tw @c8 (tw @c9 (tw @By (tw @Bz @hbm))))))),sl (tw @c27 (tw @cg0 (tw @c1 (tw @c8 (tw @c9 (tw @By (tw @Bz @hbm))))))),⟨bp,.inl ⟨rfl,by(simp only[go_sem, ↓reduceIte,Nat.reduceEqDiff,Nat.reduceAdd,Nat.reduceSub,Nat.reduceLeDiff,reduceCtorEq])⟩⟩⟩ ?_
 rintro n_f env_f st_f ⟨j,rfl,fle,f46,fg0,fI0⟩ ffr
 have f1:=ffr 1 (by kernel_rfl);have f8:=ffr 8 (by kernel_rfl);have f9:=ffr 9 (by kernel_rfl);have f44:=ffr 44 (by kernel_rfl);have f45:=ffr 45 (by kernel_rfl)
 simp only[go_sem, ↓reduceIte,Nat.reduceEqDiff,Nat.reduceAdd,Nat.reduceSub,Nat.reduceLeDiff,reduceCtorEq,c27,cg0,c1,c8,c9,By,Bz,hbm]at f1 f8 f9 f44 f45
 clear ffr
 obtain⟨S8,fO⟩:=fI0
 have K8:=dp (i:=⟨169002001,σ2.next+1⟩) (n:=st_f.next) bp
 have sk:=(pV L (bs.take j)).1
 rw[List.length_take]at sk
 by_cases hj:(j:Int)<(bs.length:Int)
 ·have vK:∀{e:Env} {gg:Rows} {nx:Nat},(e 46=.int .i64 (IntKind.i64.wrap ((j:Int)+1)))->(gg ⟨169002001,σ2.next+1⟩=some ⟨true,1,eM (dv L) cnt⟩)->(st_c.next<=nx/\((eG L (bs.take (j+1))=[]/\e 14=.cr)∨∃p:Id,e 14=.own p 0 (eG L (bs.take (j+1))).length/\gg p=some ⟨true,3,(eG L (bs.take (j+1))).map aY⟩/\st_c.next<=p.bt/\p.bt<nx/\0<(eG L (bs.take (j+1))).length))->∃m0,m0<(bs.length)-j/\∃j:Nat,m0=(bs.length)-j/\j<=(bs.length)/\e 46=.int .i64 (j:Int)/\gg ⟨169002001,σ2.next+1⟩=some ⟨true,1,eM (dv L) cnt⟩/\(st_c.next<=nx/\((eG L (bs.take j)=[]/\e 14=.cr)∨∃p:Id,e 14=.own p 0 (eG L (bs.take j)).length/\gg p=some ⟨true,3,(eG L (bs.take j)).map aY⟩/\st_c.next<=p.bt/\p.bt<nx/\0<(eG L (bs.take j)).length)):=fun x1 x2 x3=>⟨_,ad,j+1,rfl,ad,(by rw[x1,aX ad]),x2,x3⟩
  have oU:j<bs.length:=ad
  have DK:(bs.map aY)[j]? =some (aY bs[j]):=by simp[oU]
  have QT:=hb _ (List.getElem_mem oU)
  have hs:=Ej L (bs.take j) bs[j]
  rw[<-List.take_succ_eq_append_getElem oU]at hs
  generalize bs[j]=b at *
  have hA:=gP (f:=dv L) QT.1
  have hB:=gP (f:=dv L) QT.2
  have jb:(b.a:Int)<(cnt:Int):=ad
  have gV:(b.b:Int)<(cnt:Int):=ad
  rw[eN]at hA hB
  have e1:(eG L (bs.take j)).length+1<=16777216:=ad
  have gy:((eG L (bs.take j)).map aY).length=(eG L (bs.take j)).length:=by simp
  by_cases he:dv L b.a=dv L b.b
  ·rw[if_pos he,List.append_nil]at hs
   have uw:decide ((dv L b.a:Int)=(dv L b.b:Int))=true:=decide_eq_true (by rw[he])
   (try((repeat(revert N;apply Pn.out));refine wk (tw @f46 (tw @fg0 (tw @f1 (tw @f8 (tw @f9 (tw @f44 (tw @f45 (tw @hj (tw @DK (tw @hA (tw @hB (tw @jb (tw @gV (tw @tl (tw @uw (tw @K8 (tw @aY.eq_1 (tw @Bool.not_true @Bool.not_false)))))))))))))))))) ?_;(repeat(apply Pn.mk;intro N hN))))
   refine vK ?_ ?_ (by(try dsimp only);exact⟨ad,by
    rw[hs]
    rcases fO with⟨h1,h2⟩|⟨p,h1,h2,h3,h4,h5⟩
    ·exact .inl ⟨h1,sd @h2⟩
    ·have EP:=dp h4
     exact .inr ⟨p,sd @h1,sd (tw @h2 @EP),h3,ad,h5⟩⟩)
   all_goals simp only[go_sem, ↓reduceIte,Nat.reduceEqDiff,Nat.reduceAdd,Nat.reduceSub,Nat.reduceLeDiff,reduceCtorEq,f46,fg0,f1,f8,f9,f44,f45,K8]
  ·rw[if_neg he]at hs
   have uw:decide ((dv L b.a:Int)=(dv L b.b:Int))=false:=decide_eq_false fun h=>he ad
   rcases fO with⟨h1,f14⟩|⟨p,f14,fg,Ia,EO,hp3⟩
   ·rw[h1]at hs
    (try((repeat(revert N;apply Pn.out));refine wk (tw @f46 (tw @fg0 (tw @f1 (tw @f8 (tw @f9 (tw @f44 (tw @f45 (tw @f14 (tw @hj (tw @DK (tw @hA (tw @hB (tw @jb (tw @gV (tw @tl (tw @uw (tw @K8 (tw @aY.eq_1 (tw @Bool.not_true @Bool.not_false))))))))))))))))))) ?_;(repeat(apply Pn.mk;intro N hN))))
    refine vK ?_ ?_ (by(try dsimp only);exact⟨ad,.inr ⟨⟨169017015,st_f.next+1+1+1⟩,by rw[hs];simp only[go_sem, ↓reduceIte,Nat.reduceEqDiff,Nat.reduceAdd,Nat.reduceSub,Nat.reduceLeDiff,reduceCtorEq,List.nil_append,List.length_cons,List.length_nil],by rw[hs];simp only[go_sem, ↓reduceIte,Nat.reduceEqDiff,Nat.reduceAdd,Nat.reduceSub,Nat.reduceLeDiff,reduceCtorEq,aY,List.nil_append,List.map_cons,List.map_nil],bp,bp,by rw[hs];simp⟩⟩)
    all_goals simp only[go_sem, ↓reduceIte,Nat.reduceEqDiff,Nat.reduceAdd,Nat.reduceSub,Nat.reduceLeDiff,reduceCtorEq,f46,fg0,f1,f8,f9,f44,f45,K8]
   ·have x1:=ei (a:=⟨169002001,σ2.next+1⟩) (b:=p) bp
    have EP:=dp EO
    (try((repeat(revert N;apply Pn.out));refine wk (tw @f46 (tw @fg0 (tw @f1 (tw @f8 (tw @f9 (tw @f44 (tw @f45 (tw @f14 (tw @fg (tw @hj (tw @DK (tw @hA (tw @hB (tw @jb (tw @gV (tw @tl (tw @uw (tw @x1 (tw @EP (tw @K8 (tw @e1 (tw @gy (tw @aY.eq_1 (tw @Bool.not_true @Bool.not_false)))))))))))))))))))))))) ?_;(repeat(apply Pn.mk;intro N hN))))
    refine vK ?_ ?_ (by(try dsimp only);exact⟨ad,.inr ⟨⟨169017015,st_f.next+1+1+1⟩,by rw[hs,List.length_append];simp only[go_sem, ↓reduceIte,Nat.reduceEqDiff,Nat.reduceAdd,Nat.reduceSub,Nat.reduceLeDiff,reduceCtorEq,List.length_cons,List.length_nil],by rw[hs,List.map_append,List.map_cons,List.map_nil];simp only[go_sem, ↓reduceIte,Nat.reduceEqDiff,Nat.reduceAdd,Nat.reduceSub,Nat.reduceLeDiff,reduceCtorEq,aY],bp,bp,by rw[hs];simp⟩⟩)
    all_goals simp only[go_sem, ↓reduceIte,Nat.reduceEqDiff,Nat.reduceAdd,Nat.reduceSub,Nat.reduceLeDiff,reduceCtorEq,f46,fg0,f1,f8,f9,f44,f45,x1,K8]
 ·have iP:j=bs.length:=ad
  subst iP
  rw[List.take_length]at fO
  rcases fO with⟨h1,f14⟩|⟨p,f14,fg,Ia,EO,hp3⟩
  ·(try((repeat(revert N;apply Pn.out));refine wk (tw @f46 (tw @fg0 (tw @f1 (tw @f8 (tw @f9 (tw @f44 (tw @f45 (tw @f14 (tw @hj @sW))))))))) ?_;(repeat(apply Pn.mk;intro N hN))))
   refine km (.inl rfl) (r1:=.int .i64 ((leads cnt L).length:Int)) (sd @Nat.zero_add) (by simp only[go_sem, ↓reduceIte,Nat.reduceEqDiff,Nat.reduceAdd,Nat.reduceSub,Nat.reduceLeDiff,reduceCtorEq];rfl) ?_
   simp only[gj,cF,dq,eT,nf,h1,R8,Option.map_some]
  ·(try((repeat(revert N;apply Pn.out));refine wk (tw @f46 (tw @fg0 (tw @f1 (tw @f8 (tw @f9 (tw @f44 (tw @f45 (tw @f14 (tw @hj @sW))))))))) ?_;(repeat(apply Pn.mk;intro N hN))))
   refine km (.inl rfl) (r1:=.int .i64 ((leads cnt L).length:Int)) (sd @Nat.zero_add) (by simp only[go_sem, ↓reduceIte,Nat.reduceEqDiff,Nat.reduceAdd,Nat.reduceSub,Nat.reduceLeDiff,reduceCtorEq];rfl) ?_
   have h1:iy st_f.get 5 (.own p 0 (eG L bs).length)=some (.sl ((eG L bs).map aY)):=fN (sz:=3) fg rfl fun b=>y8 _ 3 b
   simp only[gj,cF,dq,eT,h1,Eo hp3,Option.map_some]
theorem BA (cnt:Nat) (tP:1<=cnt) (hn:cnt<=1048576) (t:Int):ax Tryz.prog 169 [.int .i64 cnt,.cr,.int .i64 t] (.fX [.int .i64 cnt,.cr]):=by
 refine ax.body fW rfl fun hl n0=>?_
 clear hl
 have h1:ax Tryz.prog 191 [.cr] .cr:=by
  refine ax.body fW rfl fun hl n0=>?_
  clear hl
  (try((repeat(revert N;apply Pn.out));refine wk @Nat.zero_add ?_;(repeat(apply Pn.mk;intro N hN))))
  exact AZ (.inl rfl) (r0:=.cr) (sd @Nat.zero_add) (nf _ _)
 have h2:ax Tryz.prog 190 [.cr,.fn 192 [.er [.int .i64 t]]] .cr:=by
  have He:=(Cy [] t (by simp)).cut mixed (.cr (.same _ .nil))
  refine ax.body fW rfl fun hl n0=>?_
  clear hl
  (try((repeat(revert N;apply Pn.out));refine wk @Nat.zero_add ?_;(repeat(apply Pn.mk;intro N hN))))
  refine .inl ⟨_,ax.x He (by simp only[aj,ar,aM,cK,aK,List.all_cons,List.all_nil,AV.cell,Bool.and_true,if_true,Option.map_some]),?_⟩
  apply hN
  clear hN N
  have hd:decide (mc (fun b:PB=>decide (b.s<t)) []= -1)=true:=rfl
  (try((repeat(revert N;apply Pn.out));refine wk @hd ?_;(repeat(apply Pn.mk;intro N hN))))
  exact AZ (.inl rfl) (r0:=.cr) (sd @Nat.zero_add) (nf _ _)
 have Mt:=(z6 cnt tP hn [] (fun b h=>by cases h) (by simp)).cut mixed (.same _ (.cr .nil))
 (repeat(first|((repeat(revert N;apply Pn.out));refine wk @Nat.zero_add ?_;(repeat(apply Pn.mk;intro N hN)))|((try apply Or.inl);refine⟨_,ax.x (h1) (sd @Nat.zero_add),?_⟩;apply hN;clear hN N)))
 refine .inl ⟨_,ax.x h2 ?_,?_⟩
 ·have:V.fz (ez (ck (fun _=>none) ⟨169000000,n0⟩ ⟨true,1,[[.int .i64 t]]⟩)) 5 (.ptr ⟨169000000,n0⟩ 0 0)=some (.er [.int .i64 t]):=tM (sz:=1) (rows:=[[.int .i64 t]]) (by simp[ez,ck]) rfl (by simp only[List.drop_zero,aj,ar,aJ,Option.map_some])
  simp only[aj,ar,aM,cK,this,List.all_cons,List.all_nil,AV.cell,Bool.and_true,if_true,Option.map_some]
 apply hN
 clear hN N
 have gV:fu ([]:List PB)=id:=rfl
 rw[gV]at Mt
 have hL:lq id:=gV▸yf ([]:List PB)
 have XF:(leads cnt id).length=cnt:=by rw[leads,List.filter_eq_self.2 (fun a _=>by simp)];simp
 generalize (id:Nat->Nat)=L at *
 have sW:((gZ cnt L).map EI).length=(leads cnt L).length:=by simp[gZ]
 have hld:=ke cnt L
 have kJ:(0:Int)<=(cnt:Int):=ad
 have qK:(cnt:Int)<=((16777216:Nat):Int):=ad
 have je:List.replicate cnt [AV.int .i64 0]=eM (ep cnt L 0 0) cnt:=by rw[Bf,rF]
 (have zF:=tw @kJ (tw @qK (tw @Int.le_refl (tw @sW @je)));(repeat(first|((repeat(revert N;apply Pn.out));refine wk zF ?_;(repeat(apply Pn.mk;intro N hN)))|((try apply Or.inl);refine⟨_,ax.x (Mt) (sd zF),?_⟩;apply hN;clear hN N)));try clear zF)
 refine cm (fun n env st=>∃i:Nat,n=((leads cnt L).length)-i/\i<=((leads cnt L).length)/\env 27=.int .i64 (i:Int)/\st.get ⟨169002001,n0+1+1⟩=some ⟨true,1,eM (ep cnt L i 0) cnt⟩/\(n0+1+1<st.next)) ((leads cnt L).length) ⟨0,ad,ad,sl (tw @je @sW),sl (tw @je @sW),bp⟩ ?_
 rintro n_c env_c st_c ⟨i,rfl,cle,c27,cg0,cI0⟩ jA
 have c1:=jA 1 (by kernel_rfl);have c8:=jA 8 (by kernel_rfl);have c9:=jA 9 (by kernel_rfl);have By:=jA 25 (by kernel_rfl);have Bz:=jA 26 (by kernel_rfl)
 simp only[go_sem, ↓reduceIte,Nat.reduceEqDiff,Nat.reduceAdd,Nat.reduceSub,Nat.reduceLeDiff,reduceCtorEq,je,sW]at c1 c8 c9 By Bz
 clear jA
 by_cases hi:(i:Int)<((leads cnt L).length:Int)
 ·have iL:∀{e:Env} {gg:Rows} {nx:Nat},(e 27=.int .i64 (IntKind.i64.wrap ((i:Int)+1)))->(gg ⟨169002001,n0+1+1⟩=some ⟨true,1,eM (ep cnt L (i+1) 0) cnt⟩)->(n0+1+1<nx)->∃m0,m0<((leads cnt L).length)-i/\∃i:Nat,m0=((leads cnt L).length)-i/\i<=((leads cnt L).length)/\e 27=.int .i64 (i:Int)/\gg ⟨169002001,n0+1+1⟩=some ⟨true,1,eM (ep cnt L i 0) cnt⟩/\(n0+1+1<nx):=fun x1 x2 x3=>⟨_,ad,i+1,rfl,ad,(by rw[x1,aX ad]),x2,x3⟩
  have gS:i<(leads cnt L).length:=ad
  have jZ:((gZ cnt L).map EI)[i]? =some (EI (members cnt L (leads cnt L)[i])):=by simp[gZ,gS]
  have qL:(leads cnt L).getD i 0=(leads cnt L)[i]:=by simp[List.getD_eq_getElem?_getD,gS]
  have nP:∀m,ep cnt L i m=fun x=>if dv L x<i then dv L x else if x∈(members cnt L (leads cnt L)[i]).take m then i else 0:=fun m=>by unfold ep;rw[qL]
  have ve:=fun x (hx:x<cnt)=>xr hL (n:=cnt) (k:=x) (i:=i) hx gS
  have qm:(members cnt L (leads cnt L)[i]).Nodup:=List.nodup_range.filter _
  have Ve:∀x∈members cnt L (leads cnt L)[i],x<cnt:=fun x hx=>(oz.1 hx).1
  have hMc:(members cnt L (leads cnt L)[i]).length<=cnt:=by
   have:=List.length_filter_le (fun k=>L k==(leads cnt L)[i]) (List.range cnt)
   simpa[members]using this
  generalize members cnt L (leads cnt L)[i]=M at *
  have Ha:(M.map eN).length=M.length:=by simp
  (try((repeat(revert N;apply Pn.out));refine wk (tw @c27 (tw @cg0 (tw @c1 (tw @c8 (tw @c9 (tw @By (tw @Bz (tw @hi (tw @sW (tw @jZ (tw @EI.eq_1 @Ha))))))))))) ?_;(repeat(apply Pn.mk;intro N hN))))
  refine cm (fun n env st=>∃m:Nat,n=(M.length)-m/\m<=(M.length)/\env 34=.int .i64 (m:Int)/\st.get ⟨169002001,n0+1+1⟩=some ⟨true,1,eM (ep cnt L i m) cnt⟩/\(n0+1+1<st.next)) (M.length) ⟨0,ad,ad,sl (tw @c27 (tw @cg0 (tw @c1 (tw @c8 (tw @c9 (tw @By (tw @Bz @Ha))))))),sl (tw @c27 (tw @cg0 (tw @c1 (tw @c8 (tw @c9 (tw @By (tw @Bz @Ha))))))),bp⟩ ?_
  rintro n_d env_d st_d ⟨m,rfl,dle,d34,dg0,dI0⟩ dfr
  have d1:=dfr 1 (by kernel_rfl);have d8:=dfr 8 (by kernel_rfl);have d9:=dfr 9 (by kernel_rfl);have d10:=dfr 10 (by kernel_rfl);have d25:=dfr 25 (by kernel_rfl);have d26:=dfr 26 (by kernel_rfl);have d27:=dfr 27 (by kernel_rfl);have d32:=dfr 32 (by kernel_rfl);have d33:=dfr 33 (by kernel_rfl)
  simp only[go_sem, ↓reduceIte,Nat.reduceEqDiff,Nat.reduceAdd,Nat.reduceSub,Nat.reduceLeDiff,reduceCtorEq,c27,cg0,c1,c8,c9,By,Bz,Ha]at d1 d8 d9 d10 d25 d26 d27 d32 d33
  clear dfr
  have tl:=iM (ep cnt L i m) cnt
  by_cases hm:(m:Int)<(M.length:Int)
  ·have yi:∀{e:Env} {gg:Rows} {nx:Nat},(e 34=.int .i64 (IntKind.i64.wrap ((m:Int)+1)))->(gg ⟨169002001,n0+1+1⟩=some ⟨true,1,eM (ep cnt L i (m+1)) cnt⟩)->(n0+1+1<nx)->∃m0,m0<(M.length)-m/\∃m:Nat,m0=(M.length)-m/\m<=(M.length)/\e 34=.int .i64 (m:Int)/\gg ⟨169002001,n0+1+1⟩=some ⟨true,1,eM (ep cnt L i m) cnt⟩/\(n0+1+1<nx):=fun x1 x2 x3=>⟨_,ad,m+1,rfl,ad,(by rw[x1,aX ad]),x2,x3⟩
   have DN:m<M.length:=ad
   have wH:(M.map eN)[m]? =some (eN M[m]):=by simp[DN]
   have Aj:=Ve _ (List.getElem_mem DN)
   have Hj:(M[m]:Int)<(cnt:Int):=ad
   have Hi:=gP (f:=ep cnt L i m) Aj
   have fU:(eM (ep cnt L i m) cnt).set M[m] (eN i)=eM (ep cnt L i (m+1)) cnt:=sR Aj (by
    have h1:=(ve _ Aj).1 (List.getElem_mem DN)
    rw[nP]
    simp only[]
    rw[if_neg ad,if_pos (by rw[List.take_succ_eq_append_getElem DN];exact List.mem_append_right _ (List.mem_singleton.2 rfl))]) fun x hx hZ=>by
    rw[nP,nP]
    simp only[]
    rw[List.take_succ_eq_append_getElem DN]
    simp only[List.mem_append,List.mem_singleton,hZ,or_false]
   rw[eN]at fU Hi
   generalize M[m]=xm at *
   (try((repeat(revert N;apply Pn.out));refine wk (tw @d34 (tw @dg0 (tw @d1 (tw @d8 (tw @d9 (tw @d10 (tw @d25 (tw @d26 (tw @d27 (tw @d32 (tw @d33 (tw @hm (tw @hi (tw @wH (tw @Ha (tw @Hj (tw @Hi (tw @tl (tw @fU @eN.eq_1))))))))))))))))))) ?_;(repeat(apply Pn.mk;intro N hN))))
   refine yi ?_ ?_ bp
   all_goals simp only[go_sem, ↓reduceIte,Nat.reduceEqDiff,Nat.reduceAdd,Nat.reduceSub,Nat.reduceLeDiff,reduceCtorEq,d34,dg0,d1,d8,d9,d10,d25,d26,d27,d32,d33,fU]
  ·have gy:m=M.length:=ad
   subst gy
   have sj:eM (ep cnt L i M.length) cnt=eM (ep cnt L (i+1) 0) cnt:=js fun x hx=>by
    rw[nP,List.take_length]
    simp only[ep,List.take_zero,List.not_mem_nil,if_false]
    have h1:=ve x hx
    by_cases h2:dv L x<i
    ·rw[if_pos h2,if_pos ad]
    ·rw[if_neg h2]
     by_cases h3:x∈M
     ·rw[if_pos h3,if_pos (by have:=h1.1 h3;omega),h1.1 h3]
     ·rw[if_neg h3,if_neg fun h4=>h3 (h1.2 ad)]
   (try((repeat(revert N;apply Pn.out));refine wk (tw @d34 (tw @dg0 (tw @d1 (tw @d8 (tw @d9 (tw @d10 (tw @d25 (tw @d26 (tw @d27 (tw @d32 (tw @d33 (tw @hm (tw @hi (tw @sW @Ha)))))))))))))) ?_;(repeat(apply Pn.mk;intro N hN))))
   refine iL ?_ ?_ bp
   all_goals simp only[go_sem, ↓reduceIte,Nat.reduceEqDiff,Nat.reduceAdd,Nat.reduceSub,Nat.reduceLeDiff,reduceCtorEq,c27,cg0,c1,c8,c9,By,Bz,d34,dg0,d1,d8,d9,d10,d25,d26,d27,d32,d33,sj]
 have oj:i=(leads cnt L).length:=ad
 subst oj
 have np:eM (ep cnt L (leads cnt L).length 0) cnt=eM (dv L) cnt:=js fun x hx=>by rw[ep,if_pos (lZ hL hx)]
 rw[np]at cg0
 have tl:=iM (dv L) cnt
 (try((repeat(revert N;apply Pn.out));refine wk (tw @c27 (tw @cg0 (tw @c1 (tw @c8 (tw @c9 (tw @By (tw @Bz (tw @hi @sW)))))))) ?_;(repeat(apply Pn.mk;intro N hN))))
 refine cm (fun n env st=>∃j:Nat,n=(0)-j/\j<=(0)/\env 46=.int .i64 (j:Int)/\env 14=.cr) (0) ⟨0,ad,ad,sl (tw @c27 (tw @cg0 (tw @c1 (tw @c8 (tw @c9 (tw @By @Bz)))))),sl (tw @c27 (tw @cg0 (tw @c1 (tw @c8 (tw @c9 (tw @By @Bz))))))⟩ ?_
 rintro n_f env_f st_f ⟨j,rfl,fle,f46,f14⟩ ffr
 have f8:=ffr 8 (by kernel_rfl);have f44:=ffr 44 (by kernel_rfl);have f45:=ffr 45 (by kernel_rfl)
 simp only[go_sem, ↓reduceIte,Nat.reduceEqDiff,Nat.reduceAdd,Nat.reduceSub,Nat.reduceLeDiff,reduceCtorEq,c27,cg0,c1,c8,c9,By,Bz]at f8 f44 f45
 clear ffr
 have hj:¬(j:Int)<((0:Nat):Int):=ad
 (try((repeat(revert N;apply Pn.out));refine wk (tw @f46 (tw @f14 (tw @f8 (tw @f44 (tw @f45 (tw @hj @sW)))))) ?_;(repeat(apply Pn.mk;intro N hN))))
 refine km (.inl rfl) (r1:=.int .i64 ((leads cnt L).length:Int)) (r2:=.cr) (sd @Nat.zero_add) (sd @Nat.zero_add) ?_
 simp only[gj,cF,dq,eT,nf,XF,Option.map_some]
theorem Dn (cnt:Nat) (tP:1<=cnt) (hn:cnt<=1048576) (bs:List PB) (hb:∀b∈bs,b.a<cnt/\b.b<cnt) (kq:bs.length<=1048576) (t:Int):ax Tryz.prog 169 [.int .i64 cnt,Em bs,.int .i64 t] (.fX [.int .i64 (leads cnt (fu (bV t bs))).length,Em (eG (fu (bV t bs)) bs)]):=by
 cases bs with
 |nil=>
  have h:=BA cnt tP hn t
  have XF:(leads cnt (fu (bV t []))).length=cnt:=by
   show(leads cnt id).length=cnt
   rw[leads,List.filter_eq_self.2 (fun a _=>by simp)];simp
  rw[XF]
  exact h
 |cons b r=>
  rw[Eo (by simp)]
  exact BB cnt tP hn (b::r) hb (by simp) kq t
end Go.Proofs.YtoodopepphhpoaaGreatDoor.V

namespace Go.Proofs.YtoodopepphhpoaaGreatDoor.V
open Go.RowKit
attribute [local irreducible] eu wpOps fB Call
attribute [local go_sem] Kn
section
attribute [-go_sem] dF
theorem RG (n:Nat) (hn:n<=1048576):ax Tryz.prog 227 [.int .u64 1,.int .u64 n] (.fX [.int .u64 0,.int .u64 n]):=by
 refine ax.body fW rfl fun hl n0=>?_
 clear hl
 have b1:(BitVec.ofInt 64 (n:Int)&&& BitVec.ofInt 64 4294967295).toNat=n:=by
  rw[BitVec.toNat_and]
  have e1:(BitVec.ofInt 64 (n:Int)).toNat=n:=by rw[BitVec.toNat_ofInt];omega
  have e2:(BitVec.ofInt 64 4294967295).toNat=2 ^ 32-1:=by decide
  rw[e1,e2]
  exact Nat.and_two_pow_sub_one_of_lt_two_pow ad
 have zn:IntKind.u64.wrap (n:Int)=n:=by rw[IntKind.wrap_u64];omega
 have i1:dF .and .u64 (n:Int) 4294967295=some (.int .u64 n):=by
  show some (AV.int .u64 (IntKind.u64.wrap (((BitVec.ofInt 64 (n:Int)&&& BitVec.ofInt 64 4294967295).toNat:Nat):Int)))= _
  rw[b1,zn]
 have i2:dF .and .u64 1 4294967295=some (.int .u64 1):=rfl
 have i3:dF .and .u64 0 4294967295=some (.int .u64 0):=rfl
 have i4:dF .mul .u64 1 (n:Int)=some (.int .u64 n):=by simp only[dF,Int.one_mul,zn]
 have i5:dF .mul .u64 0 (n:Int)=some (.int .u64 0):=by simp only[dF,Int.zero_mul];rfl
 have i6:dF .mul .u64 1 0=some (.int .u64 0):=rfl
 have i7:dF .mul .u64 0 0=some (.int .u64 0):=rfl
 have i8:dF .add .u64 0 0=some (.int .u64 0):=rfl
 have a3:Int.fdiv 1 (2 ^ min 32 64)=0:=by decide
 have a4:Int.fdiv (n:Int) (2 ^ min 32 64)=0:=by
  rw[Int.fdiv_eq_ediv_of_nonneg _ (by decide)]
  have h32:(2:Int) ^ min 32 64=4294967296:=by decide
  exact Int.ediv_eq_zero_of_lt ad ad
 have z1:Int.fdiv 0 (2 ^ min 32 64)=0:=by decide
 (try((repeat(revert N;apply Pn.out));refine wk (tw @i1 (tw @i2 (tw @i3 (tw @i4 (tw @i5 (tw @i6 (tw @i7 (tw @i8 (tw @a3 (tw @a4 @z1)))))))))) ?_;(repeat(apply Pn.mk;intro N hN))))
 refine km (.inl rfl) (r1:=.int .u64 0) (r2:=.int .u64 n) (sd @Nat.zero_add) (sd @Nat.zero_add) ?_
 simp only[gj,cF,dq,eT,Option.map_some]
end
theorem ZS (n:Nat) (hn:n<=1048576):ax Tryz.prog 225 [.int .u64 1,.int .u64 n] (.fX [.int .u64 0,.int .u64 n]):=by
 refine ax.body fW rfl fun hl n0=>?_
 clear hl
 have h:=RG n hn
 (repeat(first|((repeat(revert N;apply Pn.out));refine wk @Nat.zero_add ?_;(repeat(apply Pn.mk;intro N hN)))|((try apply Or.inl);refine⟨_,ax.x (h) (sd @Nat.zero_add),?_⟩;apply hN;clear hN N)))
 refine km (.inl rfl) (r1:=.int .u64 0) (r2:=.int .u64 n) (sd @Nat.zero_add) (sd @Nat.zero_add) ?_
 simp only[gj,cF,dq,eT,Option.map_some]
theorem O7 (cnt:Nat) (tP:1<=cnt) (hn:cnt<=1048576) (v:Int) (x:Id) (σ:aw) (hx:σ.get x=some ⟨true,1,[[.int .i64 v]]⟩) (Vz:x.bt<σ.next):
  Call Tryz.prog 221 [.own x 0 1,.int .i64 cnt] σ fun r σ'=>∃o:Id,r=.own o 0 cnt/\σ'.get o=some ⟨true,1,List.replicate cnt [.int .i64 v]⟩/\σ.next<=o.bt/\o.bt<σ'.next/\∀i:Id,i.bt<σ.next->σ'.get i=σ.get i:=by
 refine fV fW rfl fun hl=>?_
 clear hl
 have h:=ZS cnt hn
 have w1:IntKind.u64.wrap (cnt:Int)=cnt:=by rw[IntKind.wrap_u64];omega
 have w2:IntKind.i64.wrap (cnt:Int)=cnt:=PL ad
 have w0:IntKind.u64.wrap ((1:Nat):Int)=1:=by decide
 have g1:¬(cnt:Int)<0:=ad
 have g2:¬(9223372036854775807:Int)<cnt:=ad
 have kJ:(0:Int)<=(cnt:Int):=ad
 have qK:(cnt:Int)<=((16777216:Nat):Int):=ad
 have XR:=dp Vz
 have uA:(List.replicate cnt [AV.int .i64 0]).length=cnt:=List.length_replicate
 have m1:min 1 cnt=1:=ad
 (have zF:=tw @w0 (tw @w1 (tw @w2 (tw @g1 (tw @g2 (tw @kJ (tw @qK (tw @Int.le_refl (tw @Nat.le_refl (tw @hx (tw @XR (tw @uA @m1)))))))))));(repeat(first|((repeat(revert N;apply Pn.out));refine wk zF ?_;(repeat(apply Pn.mk;intro N hN)))|((try apply Or.inl);refine⟨_,ax.x (h) (sd zF),?_⟩;apply hN;clear hN N)));try clear zF)
 refine cm (fun m env st=>∃k:Nat,m=cnt-k/\1<=k/\k<=cnt/\env 8=.int .i64 (k:Int)/\st.get ⟨221006002,σ.next+1+1+1+1⟩=some ⟨true,1,List.replicate k [.int .i64 v]++List.replicate (cnt-k) [.int .i64 0]⟩/\σ.next+4<st.next/\∀i:Id,i.bt<σ.next->st.get i=σ.get i) (cnt-1) ⟨1,rfl,Nat.le_refl _,tP,by(simp only[go_sem, ↓reduceIte,Nat.reduceEqDiff,Nat.reduceAdd,Nat.reduceSub,Nat.reduceLeDiff,reduceCtorEq,m1])<;>rfl,?_,bp,fun i hi=>?_⟩ ?_
 ·simp only[go_sem, ↓reduceIte,Nat.reduceEqDiff,Nat.reduceAdd,Nat.reduceSub,Nat.reduceLeDiff,reduceCtorEq]
  rw[List.drop_replicate];rfl
 ·have Ic:=dp hi
  simp only[go_sem, ↓reduceIte,Nat.reduceEqDiff,Nat.reduceAdd,Nat.reduceSub,Nat.reduceLeDiff,reduceCtorEq,Ic]
 rintro m env_b st_b ⟨k,rfl,uz,sZ,b8,bg,bn,fb⟩ bkp
 have b7:=bkp 7 (by kernel_rfl)
 simp only[go_sem, ↓reduceIte,Nat.reduceEqDiff,Nat.reduceAdd,Nat.reduceSub,Nat.reduceLeDiff,reduceCtorEq]at b7
 clear bkp
 have Zu:(List.replicate k [AV.int .i64 v]++List.replicate (cnt-k) [AV.int .i64 0]).length=cnt:=by simp;omega
 by_cases hk:(k:Int)<(cnt:Int)
 ·have ji:k<cnt:=ad
  have x8:(k:Int)<=(cnt:Int):=ad
  have hw:IntKind.i64.wrap ((k:Int)+((min k (cnt-k):Nat):Int))=((k+min k (cnt-k):Nat):Int):=by rw[dj ad];omega
  have ox:List.take k (List.replicate k [AV.int .i64 v]++List.replicate (cnt-k) [AV.int .i64 0])=List.replicate k [AV.int .i64 v]:=List.take_left' (by simp)
  have eR:(List.replicate k [AV.int .i64 v]).all (fun c=>c.length==1&&c.all AV.cell)=true:=List.all_eq_true.2 fun c hc=>by rw[List.eq_of_mem_replicate hc];rfl
  have hlr:(List.replicate k [AV.int .i64 v]).length=k:=List.length_replicate
  have hsum:k+(cnt-k)=cnt:=ad
  have s4:List.replicate k [AV.int .i64 v]++List.take (min k (cnt-k)) (List.replicate k [AV.int .i64 v])++List.drop (k+min k (cnt-k)) (List.replicate k [AV.int .i64 v]++List.replicate (cnt-k) [AV.int .i64 0])=List.replicate (k+min k (cnt-k)) [AV.int .i64 v]++List.replicate (cnt-(k+min k (cnt-k))) [AV.int .i64 0]:=by
   rw[List.take_replicate,List.drop_append,List.drop_of_length_le (by simp),List.nil_append,hlr,List.drop_replicate,List.replicate_append_replicate]
   congr 2
   ·omega
   ·omega
  (try((repeat(revert N;apply Pn.out));refine wk (tw @b7 (tw @b8 (tw @bg (tw @Zu (tw @hk (tw @x8 (tw @sZ (tw @hw (tw @ji (tw @Nat.sub_zero (tw @ox (tw @eR (tw @hlr (tw @hsum (tw @Nat.le_refl @s4))))))))))))))) ?_;(repeat(apply Pn.mk;intro N hN))))
  refine⟨_,?_,k+min k (cnt-k),rfl,ad,ad,sd @hw,sd @s4,bp,fun i hi=>?_⟩
  ·omega
  ·have Ic:=dp hi
   have:=fb i hi
   simp only[go_sem, ↓reduceIte,Nat.reduceEqDiff,Nat.reduceAdd,Nat.reduceSub,Nat.reduceLeDiff,reduceCtorEq,Ic,this]
 ·have lk:k=cnt:=ad
  subst lk
  (try((repeat(revert N;apply Pn.out));refine wk (tw @b7 (tw @b8 (tw @bg (tw @Zu @hk)))) ?_;(repeat(apply Pn.mk;intro N hN))))
  refine fc (.inl rfl) (vs:=[.own ⟨221006002,σ.next+1+1+1+1⟩ 0 k]) (sd @Nat.zero_add) ⟨⟨221006002,σ.next+1+1+1+1⟩,rfl,by simp only[go_sem, ↓reduceIte,Nat.reduceEqDiff,Nat.reduceAdd,Nat.reduceSub,Nat.reduceLeDiff,reduceCtorEq,bg];simp,bp,bp,fun i hi=>fb i hi⟩
end Go.Proofs.YtoodopepphhpoaaGreatDoor.V

namespace Go.Proofs.YtoodopepphhpoaaGreatDoor.V
open Go.RowKit
attribute [local irreducible] eu wpOps fB Call
def nK (R:Nat->Id) (n k:Nat):List (List AV):=(List.range k).map fun i=>[.own (R i) 0 n]
theorem l6 (R:Nat->Id) (n k:Nat):(nK R n k).length=k:=by simp[nK]
theorem wg {R:Nat->Id} {n k i:Nat} (h:i<k):(nK R n k)[i]? =some [.own (R i) 0 n]:=by simp[nK,h]
theorem xJ (R:Nat->Id) (n k:Nat):nK R n (k+1)=nK R n k++[[.own (R k) 0 n]]:=by simp[nK,List.range_succ]
def BU (c:Nat->Nat->Int) (n:Nat):List (List AV):=(List.range n).map fun i=>[.sl (eZ (c i) n)]
theorem GX {c:Nat->Nat->Int} {n i:Nat} (h:i<n):(BU c n)[i]? =some [.sl (eZ (c i) n)]:=by simp[BU,h]
theorem Be (c:Nat->Nat->Int) (n:Nat):(BU c n).length=n:=by simp[BU]
structure Kv (X o1 o2:Id) (R1 R2:Nat->Id) (n nb:Nat):Prop where
 sx:X.site=194001001
 s1:o1.site=194004008
 s2:o2.site=194005008
 sr1:∀i,i<n->(R1 i).site=194004006
 TA:∀i,i<n->(R2 i).site=194005006
 i1:∀i j,i<n->j<n->R1 i=R1 j->i=j
 i2:∀i j,i<n->j<n->R2 i=R2 j->i=j
 vx:X.bt<nb
 v1:o1.bt<nb
 v2:o2.bt<nb
 vr1:∀i,i<n->(R1 i).bt<nb
 vr2:∀i,i<n->(R2 i).bt<nb
structure qN (g:Rows) (X o1 o2:Id) (R1 R2:Nat->Id) (n:Nat) (c f:Nat->Nat->Int):Prop where
 x:g X=some ⟨true,2,[[.own o1 0 n,.own o2 0 n]]⟩
 t1:g o1=some ⟨true,1,nK R1 n n⟩
 t2:g o2=some ⟨true,1,nK R2 n n⟩
 r1:∀i,i<n->g (R1 i)=some ⟨true,1,eZ (c i) n⟩
 r2:∀i,i<n->g (R2 i)=some ⟨true,1,eZ (f i) n⟩
theorem qS {f:Nat->Nat->Int} {a b:Nat} {d:Int} {n:Nat} (hb:b<n):(eZ (f a) n).set b (aL (f a b+d))=eZ (bump f a b d a) n:=nL hb (by simp[bump]) fun i _ hi=>by simp[bump,hi]
theorem lT {f:Nat->Nat->Int} {a b i:Nat} {d:Int} (h:i≠a):bump f a b d i=f i:=by funext v;simp[bump,h]
theorem qN.add {g g':Rows} {X o1 o2:Id} {R1 R2:Nat->Id} {n nb:Nat} {c f:Nat->Nat->Int} (I:Kv X o1 o2 R1 R2 n nb) (h:qN g X o1 o2 R1 R2 n c f) (b:PB) (ha:b.a<n) (hb:b.b<n) (hA:b.a≠b.b->g' (R1 b.a)=some ⟨true,1,eZ (bump c b.a b.b b.s b.a) n⟩) (hB:g' (R1 b.b)=some ⟨true,1,eZ (qv c b b.b) n⟩) (hf:∀i:Id,i.bt<nb->(i=R1 b.a)=False->(i=R1 b.b)=False->g' i=g i):qN g' X o1 o2 R1 R2 n (qv c b) f:=by
 have ne:∀{i:Id} {s:Nat},i.site=s->(s==194004006)=false->∀a,a<n->(i=R1 a)=False:=fun {i s} hi hs a ha=>by
  simp only[eq_iff_iff,iff_false]
  rintro rfl
  rw[I.sr1 a ha]at hi
  subst hi
  simp at hs
 refine⟨(hf _ I.vx (ne I.sx (by decide) _ ha) (ne I.sx (by decide) _ hb)).trans h.x,(hf _ I.v1 (ne I.s1 (by decide) _ ha) (ne I.s1 (by decide) _ hb)).trans h.t1,(hf _ I.v2 (ne I.s2 (by decide) _ ha) (ne I.s2 (by decide) _ hb)).trans h.t2,fun i hi=>?_,fun i hi=>(hf _ (I.vr2 i hi) (ne (I.TA i hi) (by decide) _ ha) (ne (I.TA i hi) (by decide) _ hb)).trans (h.r2 i hi)⟩
 by_cases P5:i=b.b
 ·subst P5;exact hB
 ·by_cases P4:i=b.a
  ·subst P4
   rw[hA P5,qv,lT P5]
  ·rw[qv,lT P5,lT P4,hf _ (I.vr1 i hi) (by simp only[eq_iff_iff,iff_false];exact fun he=>P4 (I.i1 i _ hi ha he)) (by simp only[eq_iff_iff,iff_false];exact fun he=>P5 (I.i1 i _ hi hb he))]
   exact h.r1 i hi
def od (n:Nat) (c f:Nat->Nat->Int):List AV:=[.sl (BU c n),.sl (BU f n)]
theorem Kj {g:Rows} {R:Nat->Id} {n k:Nat} {c:Nat->Nat->Int} (h:∀i,i<k->g (R i)=some ⟨true,1,eZ (c i) n⟩) (m:Nat):fm (ez g) (m+3) (nK R n k)=some ((List.range k).map fun i=>[.sl (eZ (c i) n)]):=by
 induction k with
 |zero=>rw[show nK R n 0=[]from rfl,fm];rfl
 |succ k ih=>
  have e1:V.fz (ez g) (m+3) (.own (R k) 0 n)=some (.sl (eZ (c k) n)):=by
   rw[jY];simp only[ez,h k ad,Option.map_some,if_true]
   rw[if_pos (by rw[eL];omega),List.drop_zero,List.take_of_length_le (by rw[eL];omega),Eu];rfl
  have app:∀(xs ys:List (List AV)) (xs' ys':List (List AV)),fm (ez g) (m+3) xs=some xs'->fm (ez g) (m+3) ys=some ys'->fm (ez g) (m+3) (xs++ys)=some (xs'++ys'):=by
   intro xs
   induction xs with
   |nil=>intro ys xs' ys' h1 h2;rw[fm]at h1;cases h1;exact h2
   |cons a xs ih2=>
    intro ys xs' ys' h1 h2
    rw[fm]at h1
    rw[List.cons_append,fm]
    cases ha:eC (ez g) (m+3) a with
    |none=>simp[ha]at h1
    |some a'=>
     cases hb:fm (ez g) (m+3) xs with
     |none=>simp[ha,hb]at h1
     |some b'=>
      simp[ha,hb]at h1
      subst h1
      rw[ih2 ys b' ys' hb h2];rfl
  rw[xJ,List.range_succ,List.map_append]
  refine app _ _ _ _ (ih fun i hi=>h i ad) ?_
  rw[fm,aj,ar,e1,fm];rfl
theorem qN.fz {g:Rows} {X o1 o2:Id} {R1 R2:Nat->Id} {n:Nat} {c f:Nat->Nat->Int} (h:qN g X o1 o2 R1 R2 n c f):V.fz (ez g) 6 (.ptr X 0 0)=some (.er (od n c f)):=by
 refine tM (sz:=2) (rows:=[[.own o1 0 n,.own o2 0 n]]) (by simp[ez,h.x]) rfl ?_
 have e1:V.fz (ez g) 5 (.own o1 0 n)=some (.sl (BU c n)):=by
  rw[jY];simp only[ez,h.t1,Option.map_some,if_true]
  rw[if_pos (by rw[l6];omega),List.drop_zero,List.take_of_length_le (by rw[l6];omega)]
  rw[show fm _ 4 _=some (BU c n)from Kj h.r1 1];rfl
 have e2:V.fz (ez g) 5 (.own o2 0 n)=some (.sl (BU f n)):=by
  rw[jY];simp only[ez,h.t2,Option.map_some,if_true]
  rw[if_pos (by rw[l6];omega),List.drop_zero,List.take_of_length_le (by rw[l6];omega)]
  rw[show fm _ 4 _=some (BU f n)from Kj h.r2 1];rfl
 simp only[List.drop_zero,aj,ar,e1,e2,od,Option.map_some]
theorem Uu (n:Nat) (c f:Nat->Nat->Int) (u v:Nat) (hu:u<n) (hv:v<n):ax Tryz.prog 222 [.er (od n c f),.int .i64 u,.int .i64 v] (.bool (decide (f u v<c u v))):=by
 refine ax.body fW rfl fun hl n0=>?_
 clear hl
 have h1:=GX (c:=c) hu
 have h2:=GX (c:=f) hu
 have h3:=eV (f:=c u) hv
 have h4:=eV (f:=f u) hv
 have hui:(u:Int)<(n:Int):=ad
 have Ic:(v:Int)<(n:Int):=ad
 have l1:=Be c n
 have l2:=Be f n
 have l3:=eL (c u) n
 have l4:=eL (f u) n
 rw[aL]at h3 h4
 (try((repeat(revert N;apply Pn.out));refine wk (tw @od.eq_1 (tw @h1 (tw @h2 (tw @h3 (tw @h4 (tw @hui (tw @Ic (tw @l1 (tw @l2 (tw @l3 @l4)))))))))) ?_;(repeat(apply Pn.mk;intro N hN))))
 exact di (b:=decide (f u v<c u v)) (.inl rfl) (sd @Nat.zero_add) rfl
theorem L4 (n:Nat):List.replicate n [AV.int .i64 0]=eZ (fun _=>0) n:=by
 refine List.ext_getElem? fun i=>?_
 by_cases h:i<n
 ·rw[eV h,List.getElem?_replicate,if_pos h];rfl
 ·rw[List.getElem?_eq_none (by simp;omega),List.getElem?_eq_none (by rw[eL];omega)]
theorem Er {i j:Id} {s t:Nat} (hi:i.site=s) (hj:j.site=t) (h:(s==t)=false):(i=j)=False/\(j=i)=False:=by
 constructor<;>(simp only[eq_iff_iff,iff_false];rintro rfl;rw[hi]at hj;subst hj;simp at h)
theorem GB (cnt:Nat) (tP:1<=cnt) (hn:cnt<=1048576) (bs:List PB) (hb:∀b∈bs,b.a<cnt/\b.b<cnt) (eA:∀b∈bs,0<=b.s/\b.s<=4) (kq:bs.length<=1048576) (σ:aw):
  Call Tryz.prog 194 [.int .i64 cnt,.sl (bs.map aY)] σ fun r σ'=>∃X o1 o2 R1 R2,r=.ptr X 0 0/\Kv X o1 o2 R1 R2 cnt σ'.next/\σ.next<=σ'.next/\qN σ'.get X o1 o2 R1 R2 cnt (nF bs) (fun _ _=>0)/\∀i:Id,i.bt<σ.next->σ'.get i=σ.get i:=by
 refine fV fW rfl fun hl=>?_
 clear hl
 (try((repeat(revert N;apply Pn.out));refine wk @Nat.zero_add ?_;(repeat(apply Pn.mk;intro N hN))))
 obtain⟨X,hX⟩:∃X:Id,X=⟨194001001,σ.next+1⟩:=⟨_,rfl⟩
 obtain⟨R1,hR1⟩:∃R:Nat->Id,R=fun k=>⟨194004006,σ.next+3+4*k+1⟩:=⟨_,rfl⟩
 obtain⟨R2,hR2⟩:∃R:Nat->Id,R=fun k=>⟨194005006,σ.next+3+4*k+2⟩:=⟨_,rfl⟩
 have sX:X.site=194001001:=by rw[hX]
 have vX:X.bt=σ.next+1:=by rw[hX]
 have s1:∀k,(R1 k).site=194004006:=fun k=>by rw[hR1]
 have s2:∀k,(R2 k).site=194005006:=fun k=>by rw[hR2]
 have v1:∀k,(R1 k).bt=σ.next+3+4*k+1:=fun k=>by rw[hR1]
 have v2:∀k,(R2 k).bt=σ.next+3+4*k+2:=fun k=>by rw[hR2]
 have kJ:(0:Int)<=(cnt:Int):=ad
 have qK:(cnt:Int)<=((16777216:Nat):Int):=ad
 have hz:=L4 cnt
 have t1:nK R1 cnt 0=[]:=rfl
 have t2:nK R2 cnt 0=[]:=rfl
 refine cm (fun n env st=>∃k:Nat,n=(cnt)-k/\k<=(cnt)/\env 11=.int .i64 (k:Int)/\env 5=(.ptr X 0 0)/\(st.next=σ.next+3+4*k/\(∀i:Id,i.bt<σ.next->st.get i=σ.get i)/\∀j,j<k->st.get (R1 j)=some ⟨true,1,eZ (fun _=>0) cnt⟩/\st.get (R2 j)=some ⟨true,1,eZ (fun _=>0) cnt⟩)/\((k=0/\st.get X=some ⟨true,2,[[.cr,.cr]]⟩)∨∃o1 o2:Id,o1.site=194004008/\o2.site=194005008/\o1.bt<st.next/\o2.bt<st.next/\σ.next<=o1.bt/\σ.next<=o2.bt/\st.get X=some ⟨true,2,[[.own o1 0 k,.own o2 0 k]]⟩/\st.get o1=some ⟨true,1,nK R1 cnt k⟩/\st.get o2=some ⟨true,1,nK R2 cnt k⟩)) (cnt) ⟨0,ad,ad,sl @hX,sl @hX,⟨rfl,fun i hi=>by(have Ic:=dp hi);simp only[go_sem, ↓reduceIte,Nat.reduceEqDiff,Nat.reduceAdd,Nat.reduceSub,Nat.reduceLeDiff,reduceCtorEq,Ic],fun j hj=>absurd hj (Nat.not_lt_zero j)⟩,.inl ⟨rfl,by rw[hX];simp only[go_sem, ↓reduceIte,Nat.reduceEqDiff,Nat.reduceAdd,Nat.reduceSub,Nat.reduceLeDiff,reduceCtorEq]⟩⟩ ?_
 rintro n_a env_a st_a ⟨k,rfl,ale,E4,a5,oI,aI1⟩ eJ
 have a0:=eJ 0 (by kernel_rfl);have a1:=eJ 1 (by kernel_rfl);have Bw:=eJ 10 (by kernel_rfl)
 simp only[go_sem, ↓reduceIte,Nat.reduceEqDiff,Nat.reduceAdd,Nat.reduceSub,Nat.reduceLeDiff,reduceCtorEq,hX]at a0 a1 Bw
 clear eJ
 obtain⟨anx,eJ,aR⟩:=oI
 have wX:=dp (i:=X) (n:=st_a.next) ad
 by_cases hk:(k:Int)<(cnt:Int)
 ·have eh:∀{e:Env} {gg:Rows} {nx:Nat},(e 11=.int .i64 (IntKind.i64.wrap ((k:Int)+1)))->(e 5=(.ptr X 0 0))->(nx=σ.next+3+4*(k+1)/\(∀i:Id,i.bt<σ.next->gg i=σ.get i)/\∀j,j<(k+1)->gg (R1 j)=some ⟨true,1,eZ (fun _=>0) cnt⟩/\gg (R2 j)=some ⟨true,1,eZ (fun _=>0) cnt⟩)->(((k+1)=0/\gg X=some ⟨true,2,[[.cr,.cr]]⟩)∨∃o1 o2:Id,o1.site=194004008/\o2.site=194005008/\o1.bt<nx/\o2.bt<nx/\σ.next<=o1.bt/\σ.next<=o2.bt/\gg X=some ⟨true,2,[[.own o1 0 (k+1),.own o2 0 (k+1)]]⟩/\gg o1=some ⟨true,1,nK R1 cnt (k+1)⟩/\gg o2=some ⟨true,1,nK R2 cnt (k+1)⟩)->∃m0,m0<(cnt)-k/\∃k:Nat,m0=(cnt)-k/\k<=(cnt)/\e 11=.int .i64 (k:Int)/\e 5=(.ptr X 0 0)/\(nx=σ.next+3+4*k/\(∀i:Id,i.bt<σ.next->gg i=σ.get i)/\∀j,j<k->gg (R1 j)=some ⟨true,1,eZ (fun _=>0) cnt⟩/\gg (R2 j)=some ⟨true,1,eZ (fun _=>0) cnt⟩)/\((k=0/\gg X=some ⟨true,2,[[.cr,.cr]]⟩)∨∃o1 o2:Id,o1.site=194004008/\o2.site=194005008/\o1.bt<nx/\o2.bt<nx/\σ.next<=o1.bt/\σ.next<=o2.bt/\gg X=some ⟨true,2,[[.own o1 0 k,.own o2 0 k]]⟩/\gg o1=some ⟨true,1,nK R1 cnt k⟩/\gg o2=some ⟨true,1,nK R2 cnt k⟩):=fun x1 x2 x3 x4=>⟨_,ad,k+1,rfl,ad,(by rw[x1,aX ad]),x2,x3,x4⟩
  have ji:k<cnt:=ad
  have uz:R1 k=⟨194004006,st_a.next+1⟩:=by rw[hR1,anx]
  have sZ:R2 k=⟨194005006,st_a.next+1+1⟩:=by rw[hR2,anx]
  have Ai:nK R1 cnt (k+1)=nK R1 cnt k++[[.own ⟨194004006,st_a.next+1⟩ 0 cnt]]:=by rw[xJ,uz]
  have XO:nK R2 cnt (k+1)=nK R2 cnt k++[[.own ⟨194005006,st_a.next+1+1⟩ 0 cnt]]:=by rw[xJ,sZ]
  rcases aI1 with⟨rfl,Yc⟩|⟨o1,o2,so1,so2,vo1,XZ,vn1,vn2,Yc,ag1,ag2⟩
  ·(try((repeat(revert N;apply Pn.out));refine wk (tw @E4 (tw @a5 (tw @a0 (tw @a1 (tw @Bw (tw @hk (tw @wX (tw @Yc (tw @kJ (tw @qK (tw @Int.le_refl @hz))))))))))) ?_;(repeat(apply Pn.mk;intro N hN))))
   refine eh ?_ ?_ (by
    (try dsimp only)
    refine⟨ad,fun i hi=>?_,fun j hj=>?_⟩
    ·have q1:=dp (i:=i) (n:=st_a.next) ad
     have q2:=ei (a:=i) (b:=X) ad
     have:=eJ i hi
     simp only[go_sem, ↓reduceIte,Nat.reduceEqDiff,Nat.reduceAdd,Nat.reduceSub,Nat.reduceLeDiff,reduceCtorEq,q1,q2,this]
    ·by_cases Cv:j=0
     ·subst Cv
      rw[uz,sZ]
      have q1:=iZ sX (b:=194004006) (v:=st_a.next+1) (by decide)
      have q2:=iZ sX (b:=194005006) (v:=st_a.next+1+1) (by decide)
      simp only[go_sem, ↓reduceIte,Nat.reduceEqDiff,Nat.reduceAdd,Nat.reduceSub,Nat.reduceLeDiff,reduceCtorEq,q1,q2]
     ·obtain⟨r1,r2⟩:=aR j ad
      have q1:=dp (i:=R1 j) (n:=st_a.next) (by rw[v1];omega)
      have q2:=dp (i:=R2 j) (n:=st_a.next) (by rw[v2];omega)
      have q3:=Er (s1 j) sX (by decide)
      have q4:=Er (s2 j) sX (by decide)
      constructor
      ·simp only[go_sem, ↓reduceIte,Nat.reduceEqDiff,Nat.reduceAdd,Nat.reduceSub,Nat.reduceLeDiff,reduceCtorEq,q1,q3,r1]
      ·simp only[go_sem, ↓reduceIte,Nat.reduceEqDiff,Nat.reduceAdd,Nat.reduceSub,Nat.reduceLeDiff,reduceCtorEq,q2,q4,r2]) (.inr ⟨⟨194004008,st_a.next+1⟩,⟨194005008,st_a.next+1+1⟩,rfl,rfl,bp,bp,bp,bp,sd @wX,by rw[Ai,t1];simp only[go_sem, ↓reduceIte,Nat.reduceEqDiff,Nat.reduceAdd,Nat.reduceSub,Nat.reduceLeDiff,reduceCtorEq,wX,List.nil_append],by rw[XO,t2];simp only[go_sem, ↓reduceIte,Nat.reduceEqDiff,Nat.reduceAdd,Nat.reduceSub,Nat.reduceLeDiff,reduceCtorEq,wX,List.nil_append]⟩)
   all_goals simp only[go_sem, ↓reduceIte,Nat.reduceEqDiff,Nat.reduceAdd,Nat.reduceSub,Nat.reduceLeDiff,reduceCtorEq,E4,a5,a0,a1,Bw,wX]
  ·have l1:=l6 R1 cnt k
   have l2:=l6 R2 cnt k
   have e1:k+1<=16777216:=ad
   have w1:=dp vo1
   have w2:=dp XZ
   have x1:=Er sX so1 (by decide)
   have x2:=Er sX so2 (by decide)
   have x3:=Er so1 so2 (by decide)
   (try((repeat(revert N;apply Pn.out));refine wk (tw @E4 (tw @a5 (tw @a0 (tw @a1 (tw @Bw (tw @hk (tw @wX (tw @Yc (tw @ag1 (tw @ag2 (tw @l1 (tw @l2 (tw @e1 (tw @w1 (tw @w2 (tw @x1 (tw @x2 (tw @x3 (tw @kJ (tw @qK (tw @Int.le_refl @hz))))))))))))))))))))) ?_;(repeat(apply Pn.mk;intro N hN))))
   refine eh ?_ ?_ (by
    (try dsimp only)
    refine⟨ad,fun i hi=>?_,fun j hj=>?_⟩
    ·have q1:=dp (i:=i) (n:=st_a.next) ad
     have q2:=ei (a:=i) (b:=X) ad
     have q3:=ei (a:=i) (b:=o1) ad
     have q4:=ei (a:=i) (b:=o2) ad
     have:=eJ i hi
     simp only[go_sem, ↓reduceIte,Nat.reduceEqDiff,Nat.reduceAdd,Nat.reduceSub,Nat.reduceLeDiff,reduceCtorEq,q1,q2,this,q3,q4]
    ·by_cases Cv:j=k
     ·subst Cv
      rw[uz,sZ]
      have q1:=iZ sX (b:=194004006) (v:=st_a.next+1) (by decide)
      have q2:=iZ sX (b:=194005006) (v:=st_a.next+1+1) (by decide)
      simp only[go_sem, ↓reduceIte,Nat.reduceEqDiff,Nat.reduceAdd,Nat.reduceSub,Nat.reduceLeDiff,reduceCtorEq,q1,q2,w1,w2]
     ·obtain⟨r1,r2⟩:=aR j ad
      have q1:=dp (i:=R1 j) (n:=st_a.next) (by rw[v1];omega)
      have q2:=dp (i:=R2 j) (n:=st_a.next) (by rw[v2];omega)
      have q3:=Er (s1 j) sX (by decide)
      have q4:=Er (s2 j) sX (by decide)
      have q5:=Er (s1 j) so1 (by decide)
      have q6:=Er (s1 j) so2 (by decide)
      have q7:=Er (s2 j) so1 (by decide)
      have q8:=Er (s2 j) so2 (by decide)
      constructor
      ·simp only[go_sem, ↓reduceIte,Nat.reduceEqDiff,Nat.reduceAdd,Nat.reduceSub,Nat.reduceLeDiff,reduceCtorEq,q1,q3,r1,q5,q6]
      ·simp only[go_sem, ↓reduceIte,Nat.reduceEqDiff,Nat.reduceAdd,Nat.reduceSub,Nat.reduceLeDiff,reduceCtorEq,q2,q4,r2,q7,q8]) (.inr ⟨⟨194004008,st_a.next+1⟩,⟨194005008,st_a.next+1+1⟩,rfl,rfl,bp,bp,bp,bp,sd @wX,by rw[Ai];simp only[go_sem, ↓reduceIte,Nat.reduceEqDiff,Nat.reduceAdd,Nat.reduceSub,Nat.reduceLeDiff,reduceCtorEq,wX,w1,w2],by rw[XO];simp only[go_sem, ↓reduceIte,Nat.reduceEqDiff,Nat.reduceAdd,Nat.reduceSub,Nat.reduceLeDiff,reduceCtorEq,wX,w1,w2]⟩)
   all_goals simp only[go_sem, ↓reduceIte,Nat.reduceEqDiff,Nat.reduceAdd,Nat.reduceSub,Nat.reduceLeDiff,reduceCtorEq,E4,a5,a0,a1,Bw,wX,w1,w2,x1,x2,x3]
 have lk:cnt=k:=ad
 subst lk
 rcases aI1 with⟨h0,_⟩|⟨o1,o2,so1,so2,vo1,XZ,vn1,vn2,Yc,ag1,ag2⟩
 ·omega
 (try((repeat(revert N;apply Pn.out));refine wk (tw @E4 (tw @a5 (tw @a0 (tw @a1 (tw @Bw @hk))))) ?_;(repeat(apply Pn.mk;intro N hN))))
 have I:Kv X o1 o2 R1 R2 cnt st_a.next:=⟨sX,so1,so2,fun i _=>s1 i,fun i _=>s2 i,fun i j _ _ h=>by have:=v1 i;rw[h,v1]at this;omega,fun i j _ _ h=>by have:=v2 i;rw[h,v2]at this;omega,ad,vo1,XZ,fun i hi=>by rw[v1];omega,fun i hi=>by rw[v2];omega⟩
 refine cm (fun n env st=>∃i:Nat,n=(bs.length)-i/\i<=(bs.length)/\env 38=.int .i64 (i:Int)/\(st_a.next<=st.next/\(∀x:Id,x.bt<σ.next->st.get x=σ.get x)/\qN st.get X o1 o2 R1 R2 cnt (nF (bs.take i)) (fun _ _=>0))) (bs.length) ⟨0,ad,ad,sl (tw @E4 (tw @a5 (tw @a0 (tw @a1 @Bw)))),⟨bp,eJ,Yc,ag1,ag2,fun j hj=>(aR j hj).1,fun j hj=>(aR j hj).2⟩⟩ ?_
 rintro n_b env_b st_b ⟨i,rfl,ble,b38,bI0⟩ fb
 have b0:=fb 0 (by kernel_rfl);have b1:=fb 1 (by kernel_rfl);have b5:=fb 5 (by kernel_rfl);have Xr:=fb 36 (by kernel_rfl);have Xs:=fb 37 (by kernel_rfl)
 simp only[go_sem, ↓reduceIte,Nat.reduceEqDiff,Nat.reduceAdd,Nat.reduceSub,Nat.reduceLeDiff,reduceCtorEq,E4,a5,a0,a1,Bw]at b0 b1 b5 Xr Xs
 clear fb
 obtain⟨bn,Uc,bM⟩:=bI0
 by_cases hi:(i:Int)<(bs.length:Int)
 ·have fS:∀{e:Env} {gg:Rows} {nx:Nat},(e 38=.int .i64 (IntKind.i64.wrap ((i:Int)+1)))->(st_a.next<=nx/\(∀x:Id,x.bt<σ.next->gg x=σ.get x)/\qN gg X o1 o2 R1 R2 cnt (nF (bs.take (i+1))) (fun _ _=>0))->∃m0,m0<(bs.length)-i/\∃i:Nat,m0=(bs.length)-i/\i<=(bs.length)/\e 38=.int .i64 (i:Int)/\(st_a.next<=nx/\(∀x:Id,x.bt<σ.next->gg x=σ.get x)/\qN gg X o1 o2 R1 R2 cnt (nF (bs.take i)) (fun _ _=>0)):=fun x1 x2=>⟨_,ad,i+1,rfl,ad,(by rw[x1,aX ad]),x2⟩
  have gS:i<bs.length:=ad
  have jZ:(bs.map aY)[i]? =some (aY bs[i]):=by simp[gS]
  have gV:=hb _ (List.getElem_mem gS)
  have hsi:=eA _ (List.getElem_mem gS)
  have s5:nF (bs.take (i+1))=qv (nF (bs.take i)) bs[i]:=by rw[List.take_succ_eq_append_getElem gS,IG]
  have nk:=Eg (bs.take i) (fun _ _=>0) (fun b hb=>(eA b (List.mem_of_mem_take hb)).1) (fun _ _=>Int.le_refl _)
  have hle:=room_le (bs.take i) (fun _ _=>0) 0 (fun b hb=>(eA b (List.mem_of_mem_take hb)).2) (fun _ _=>Int.le_refl _) (Int.le_refl _)
  rw[List.length_take]at hle
  have gM:(bs.take i).foldl qv (fun _ _=>0)=nF (bs.take i):=rfl
  rw[gM]at nk hle
  generalize nF (bs.take i)=c at *
  generalize bs[i]=b at *
  obtain⟨ha,xd⟩:=gV
  have gA:=wg (R:=R1) (n:=cnt) ha
  have gB:=wg (R:=R1) (n:=cnt) xd
  have rA:=bM.r1 _ ha
  have rB:=bM.r1 _ xd
  have cA:=eV (f:=c b.a) xd
  have cB:=eV (f:=c b.b) ha
  have sA:=qS (f:=c) (a:=b.a) (d:=b.s) xd
  have gX:=bM.x
  have g1:=bM.t1
  have jb:(b.a:Int)<(cnt:Int):=ad
  have gV:(b.b:Int)<(cnt:Int):=ad
  have qX:=dp (i:=X) (n:=st_b.next) ad
  have q1:=dp (i:=o1) (n:=st_b.next) ad
  have qA:=dp (i:=R1 b.a) (n:=st_b.next) (by rw[v1];omega)
  have qB:=dp (i:=R1 b.b) (n:=st_b.next) (by rw[v1];omega)
  have xA:=Er sX (s1 b.a) (by decide)
  have xB:=Er sX (s1 b.b) (by decide)
  have yA:=Er so1 (s1 b.a) (by decide)
  have yB:=Er so1 (s1 b.b) (by decide)
  have l1:=l6 R1 cnt cnt
  have lA:=eL (c b.a) cnt
  have lB:=eL (c b.b) cnt
  have hAB:=hle b.a b.b
  have hBA:=hle b.b b.a
  have gAB:=nk b.a b.b
  have gBA:=nk b.b b.a
  have wA:IntKind.i64.wrap (c b.a b.b+b.s)=c b.a b.b+b.s:=dj ad
  by_cases pB:b.a=b.b
  ·obtain⟨ba,bb,s⟩:=b
   dsimp only at *
   subst pB
   have Vo:=qS (f:=bump c ba ba s) (a:=ba) (b:=ba) (d:=s) (n:=cnt) ha
   have hcB:=eV (f:=bump c ba ba s ba) ha
   have hv:bump c ba ba s ba ba=c ba ba+s:=by simp[bump]
   have lC:=eL (bump c ba ba s ba) cnt
   have wB:IntKind.i64.wrap (c ba ba+s+s)=c ba ba+s+s:=dj ad
   rw[hv]at Vo hcB
   have xf:qv c ⟨ba,ba,s⟩ ba=bump (bump c ba ba s) ba ba s ba:=rfl
   rw[aL]at cA sA Vo hcB
   (try((repeat(revert N;apply Pn.out));refine wk (tw @b38 (tw @b0 (tw @b1 (tw @b5 (tw @Xr (tw @Xs (tw @hi (tw @jZ (tw @aY.eq_1 (tw @gA (tw @rA (tw @cA (tw @sA (tw @gX (tw @g1 (tw @jb (tw @qX (tw @q1 (tw @qA (tw @xA (tw @yA (tw @l1 (tw @lA (tw @wA (tw @Vo (tw @hcB (tw @lC @wB))))))))))))))))))))))))))) ?_;(repeat(apply Pn.mk;intro N hN))))
   exact fS (sd (tw @b38 (tw @b0 (tw @b1 (tw @b5 (tw @Xr @Xs)))))) (by
    (try dsimp only)
    refine⟨ad,fun x hx=>?_,?_⟩
    ·have p1:=dp (i:=x) (n:=st_b.next) ad
     have p2:=ei (a:=x) (b:=R1 ba) (by rw[v1];omega)
     have:=Uc x hx
     simp only[go_sem, ↓reduceIte,Nat.reduceEqDiff,Nat.reduceAdd,Nat.reduceSub,Nat.reduceLeDiff,reduceCtorEq,p1,p2,this]
    ·rw[s5]
     refine bM.add I ⟨ba,ba,s⟩ ha ha (fun h=>absurd rfl h) ?_ fun x hx h1 h2=>?_
     ·rw[xf]
      simp only[go_sem, ↓reduceIte,Nat.reduceEqDiff,Nat.reduceAdd,Nat.reduceSub,Nat.reduceLeDiff,reduceCtorEq]
     ·have p1:=dp (i:=x) (n:=st_b.next) ad
      (try dsimp only at h2)
      simp only[go_sem, ↓reduceIte,Nat.reduceEqDiff,Nat.reduceAdd,Nat.reduceSub,Nat.reduceLeDiff,reduceCtorEq,p1,h2])
  ·have hZ:(R1 b.a=R1 b.b)=False:=by simp only[eq_iff_iff,iff_false];exact fun h=>pB (I.i1 _ _ ha xd h)
   have NY:(R1 b.b=R1 b.a)=False:=by simp only[eq_iff_iff,iff_false];exact fun h=>pB (I.i1 _ _ ha xd h.symm)
   have Vh:bump c b.a b.b b.s b.b=c b.b:=lT fun h=>pB h.symm
   have Vo:=qS (f:=bump c b.a b.b b.s) (a:=b.b) (b:=b.a) (d:=b.s) (n:=cnt) ha
   rw[Vh]at Vo
   have wB:IntKind.i64.wrap (c b.b b.a+b.s)=c b.b b.a+b.s:=dj ad
   have xf:qv c b b.b=bump (bump c b.a b.b b.s) b.b b.a b.s b.b:=rfl
   rw[aL]at cA cB sA Vo
   (try((repeat(revert N;apply Pn.out));refine wk (tw @b38 (tw @b0 (tw @b1 (tw @b5 (tw @Xr (tw @Xs (tw @hi (tw @jZ (tw @aY.eq_1 (tw @gA (tw @gB (tw @rA (tw @rB (tw @cA (tw @cB (tw @sA (tw @gX (tw @g1 (tw @jb (tw @gV (tw @qX (tw @q1 (tw @qA (tw @qB (tw @xA (tw @xB (tw @yA (tw @yB (tw @l1 (tw @lA (tw @lB (tw @wA (tw @Vo (tw @wB (tw @hZ @NY))))))))))))))))))))))))))))))))))) ?_;(repeat(apply Pn.mk;intro N hN))))
   exact fS (sd (tw @b38 (tw @b0 (tw @b1 (tw @b5 (tw @Xr @Xs)))))) (by
    (try dsimp only)
    refine⟨ad,fun x hx=>?_,?_⟩
    ·have p1:=dp (i:=x) (n:=st_b.next) ad
     have p2:=ei (a:=x) (b:=R1 b.b) (by rw[v1];omega)
     have p3:=ei (a:=x) (b:=R1 b.a) (by rw[v1];omega)
     have:=Uc x hx
     simp only[go_sem, ↓reduceIte,Nat.reduceEqDiff,Nat.reduceAdd,Nat.reduceSub,Nat.reduceLeDiff,reduceCtorEq,p1,p2,p3,this]
    ·rw[s5]
     refine bM.add I b ha xd (fun h=>?_) ?_ fun x hx h1 h2=>?_
     ·simp only[go_sem, ↓reduceIte,Nat.reduceEqDiff,Nat.reduceAdd,Nat.reduceSub,Nat.reduceLeDiff,reduceCtorEq,hZ]
     ·rw[xf]
      simp only[go_sem, ↓reduceIte,Nat.reduceEqDiff,Nat.reduceAdd,Nat.reduceSub,Nat.reduceLeDiff,reduceCtorEq,hZ]
     ·have p1:=dp (i:=x) (n:=st_b.next) ad
      simp only[go_sem, ↓reduceIte,Nat.reduceEqDiff,Nat.reduceAdd,Nat.reduceSub,Nat.reduceLeDiff,reduceCtorEq,p1,h1,h2])
 ·have oj:i=bs.length:=ad
  subst oj
  rw[List.take_length]at bM
  (try((repeat(revert N;apply Pn.out));refine wk (tw @b38 (tw @b0 (tw @b1 (tw @b5 (tw @Xr (tw @Xs @hi)))))) ?_;(repeat(apply Pn.mk;intro N hN))))
  exact fc (.inl rfl) (vs:=[.ptr X 0 0]) (sd @Nat.zero_add) ⟨X,o1,o2,R1,R2,rfl,⟨I.sx,I.s1,I.s2,I.sr1,I.TA,I.i1,I.i2,by have:=I.vx;(try dsimp only);omega,by have:=I.v1;(try dsimp only);omega,by have:=I.v2;(try dsimp only);omega,fun j hj=>by have:=I.vr1 j hj;(try dsimp only);omega,fun j hj=>by have:=I.vr2 j hj;(try dsimp only);omega⟩,bp,bM,Uc⟩
structure Bq (n:Nat) (c f:Nat->Nat->Int) (x:Nat) (par:Nat->Int) (Q:List Nat) (i:Nat):Prop where
 nodup:Q.Nodup
 lt:∀v∈Q,v<n
 root:par x=(x:Int)
 mem:x∈Q
 iff:∀v,v<n->(0<=par v↔v∈Q)
 up:∀v∈Q,v≠x->∃u,u∈Q/\par v=(u:Int)/\Q.idxOf u<Q.idxOf v/\f u v<c u v
 done:∀j (_:j<i) (hl:j<Q.length) (v:Nat),v<n->f Q[j] v<c Q[j] v->v∈Q
 ile:i<=Q.length
section
variable {n:Nat} {c f:Nat->Nat->Int} {x:Nat} {par:Nat->Int} {Q:List Nat} {i:Nat}
theorem Bq.len (h:Bq n c f x par Q i):Q.length<=n:=rG n Q h.nodup h.lt
theorem Bq.start (hx:x<n):Bq n c f x (fun v=>if v=x then(x:Int)else -1) [x] 0:=by
 refine⟨by simp,fun v hv=>by simp at hv;omega,by simp,by simp,fun v hv=>?_,fun v hv hZ=>absurd (by simpa using hv) hZ,fun j hj=>ad,by simp⟩
 by_cases h:v=x
 ·simp[h]
 ·simp[h]
theorem Bq.visit (h:Bq n c f x par Q i) (hi:i<Q.length) {v:Nat} (hv:v<n) (hp:par v<0) (hr:f Q[i] v<c Q[i] v):Bq n c f x (fun w=>if w=v then(Q[i]:Int)else par w) (Q++[v]) i:=by
 have hvQ:v∉Q:=fun hm=>by have:=(h.iff v hv).2 hm;omega
 have Vz:x≠v:=fun e=>hvQ (e▸h.mem)
 have DM:∀u∈Q,(Q++[v]).idxOf u=Q.idxOf u:=fun u hu=>by rw[List.idxOf_append,if_pos hu]
 have Ad:(Q++[v]).idxOf v=Q.length:=by rw[List.idxOf_append,if_neg hvQ];simp
 refine⟨?_,fun w hw=>?_,by simp only[if_neg Vz];exact h.root,by simp[h.mem],fun w hw=>?_,fun w hw hZ=>?_,fun j hj hl w hw N8=>?_,by simp;omega⟩
 ·refine List.nodup_append.2 ⟨h.nodup,by simp,fun a ha b hb=>?_⟩
  rw[List.mem_singleton.1 hb]
  rintro rfl;exact hvQ ha
 ·rcases List.mem_append.1 hw with hw|hw
  ·exact h.lt w hw
  ·rw[List.mem_singleton.1 hw];exact hv
 ·by_cases JT:w=v
  ·subst JT;simp
  ·rw[if_neg JT,h.iff w hw];simp[JT]
 ·by_cases JT:w=v
  ·subst JT
   refine⟨Q[i],by simp,by simp,?_,hr⟩
   rw[DM _ (List.getElem_mem hi),Ad]
   exact List.idxOf_lt_length_of_mem (List.getElem_mem hi)
  ·have hwQ:w∈Q:=by
    rcases List.mem_append.1 hw with hw|hw
    ·exact hw
    ·exact absurd (List.mem_singleton.1 hw) JT
   obtain⟨u,h1,h2,h3,h4⟩:=h.up w hwQ hZ
   exact⟨u,by simp[h1],by rw[if_neg JT];exact h2,by rw[DM u h1,DM w hwQ];exact h3,h4⟩
 ·have iP:j<Q.length:=by have:=h.ile;omega
  rw[List.getElem_append_left iP]at N8
  exact List.mem_append_left _ (h.done j hj iP w hw N8)
theorem Bq.next (h:Bq n c f x par Q i) (hi:i<Q.length) (eR:∀v,v<n->f Q[i] v<c Q[i] v->0<=par v):Bq n c f x par Q (i+1):=by
 refine⟨h.nodup,h.lt,h.root,h.mem,h.iff,h.up,fun j hj hl v hv hr=>?_,ad⟩
 by_cases nN:j=i
 ·subst nN;exact(h.iff v hv).1 (eR v hv hr)
 ·exact h.done j ad hl v hv hr
theorem Bq.cut (h:Bq n c f x par Q Q.length) {y:Nat} (hy:y<n) (hp:par y<0):∃S:Nat->Bool,S x=true/\S y=false/\∀u v,u<n->v<n->S u=true->S v=false->¬f u v<c u v:=by
 refine⟨fun v=>decide (v∈Q),by simp[h.mem],?_,fun u v hu hv h1 h2 hr=>?_⟩
 ·have:y∉Q:=fun hm=>by have:=(h.iff y hy).2 hm;omega
  simp[this]
 ·simp only[decide_eq_true_eq,decide_eq_false_iff_not]at h1 h2
  obtain⟨j,hj,rfl⟩:=List.getElem_of_mem h1
  exact h2 (h.done j hj hj v hv hr)
def zm (c f:Nat->Nat->Int) (Q:List Nat) (y k:Nat) (out:List Nat):Prop:=∃rest,out.reverse=k::rest/\(k::rest).getLast (by simp)=y/\uD f c (k::rest)/\(k::rest).Pairwise (fun a b=>Q.idxOf a<Q.idxOf b)/\∀v∈k::rest,v∈Q
theorem zm.start {y:Nat} (hy:y∈Q):zm c f Q y y [y]:=⟨[],rfl,rfl,trivial,by simp,by simpa using hy⟩
theorem zm.step {y k u:Nat} {out:List Nat} (h:zm c f Q y k out) (hu:u∈Q) (hi:Q.idxOf u<Q.idxOf k) (hr:f u k<c u k):zm c f Q y u (out++[u]):=by
 obtain⟨rest,h1,h2,h3,h4,h5⟩:=h
 refine⟨k::rest,by rw[List.reverse_append,h1];rfl,by rw[List.getLast_cons (by simp)];exact h2,⟨hr,h3⟩,?_,?_⟩
 ·refine List.pairwise_cons.2 ⟨fun b hb=>?_,h4⟩
  rcases List.mem_cons.1 hb with rfl|hb
  ·exact hi
  ·have:=(List.pairwise_cons.1 h4).1 b hb;omega
 ·intro v hv
  rcases List.mem_cons.1 hv with rfl|hv
  ·exact hu
  ·exact h5 v hv
theorem zm.len {y k:Nat} {out:List Nat} (h:zm c f Q y k out) (hq:∀v∈Q,v<n):out.length<=n:=by
 obtain⟨rest,h1,_,_,h4,h5⟩:=h
 rw[<-List.length_reverse,h1]
 refine rG n _ (h4.imp fun eP he=>?_) fun v hv=>hq v (h5 v hv)
 subst he;omega
structure Ya (n:Nat) (c f:Nat->Nat->Int) (x y:Nat) (p:List Nat):Prop where
 way:∃r,p=x::r/\(x::r).getLast (by simp)=y
 nodup:p.Nodup
 room:uD f c p
 lt:∀v∈p,v<n
theorem zm.way {y:Nat} {out:List Nat} (h:zm c f Q y x out) (hq:∀v∈Q,v<n):Ya n c f x y out.reverse:=by
 obtain⟨rest,h1,h2,h3,h4,h5⟩:=h
 rw[h1]
 exact⟨⟨rest,rfl,h2⟩,h4.imp fun eP he=>by subst he;omega,h3,fun v hv=>hq v (h5 v hv)⟩
end
def oP (l:List Nat) (i x:Nat):Nat:=if x<i∨l.length-i<=x then l.getD (l.length-1-x) 0 else l.getD x 0
theorem C2 (l:List Nat):l.map eN=eM (fun x=>l.getD x 0) l.length:=by
 refine List.ext_getElem? fun i=>?_
 by_cases h:i<l.length
 ·rw[gP h,List.getElem?_map,List.getElem?_eq_getElem h];simp[List.getD_eq_getElem?_getD,h]
 ·rw[List.getElem?_eq_none (by simp;omega),List.getElem?_eq_none (by rw[iM];omega)]
theorem LM (l:List Nat):eM (oP l 0) l.length=l.map eN:=by
 rw[C2]
 exact js fun x hx=>by unfold oP;rw[if_neg ad]
theorem O9 (l:List Nat) {i:Nat} (h:l.length<=2*i+1) (hi:i<=l.length):eM (oP l i) l.length=l.reverse.map eN:=by
 rw[C2 l.reverse,List.length_reverse]
 refine js fun x hx=>?_
 have hr:l.reverse.getD x 0=l.getD (l.length-1-x) 0:=by
  rw[List.getD_eq_getElem?_getD,List.getElem?_reverse hx,List.getD_eq_getElem?_getD]
 rw[hr]
 unfold oP
 by_cases hc:x<i∨l.length-i<=x
 ·rw[if_pos hc]
 ·rw[if_neg hc]
  have:x=l.length-1-x:=ad
  rw[<-this]
theorem LN (l:List Nat) (hp:0<l.length) (hl:l.length<=1048576) (o:Id) (σ:aw) (ho:σ.get o=some ⟨true,1,l.map eN⟩) (wI:o.bt<σ.next):
  Call Tryz.prog 223 [.own o 0 l.length] σ fun r σ'=>σ'.get o=some ⟨true,1,l.reverse.map eN⟩/\σ.next<=σ'.next/\∀i:Id,i.bt<σ.next->(i=o)=False->σ'.get i=σ.get i:=by
 refine fV fW rfl fun jd=>?_
 clear jd
 rw[<-LM]at ho
 have hw0:IntKind.i64.wrap ((l.length:Int)-1)=((l.length-1:Nat):Int):=by rw[dj ad];omega
 (try((repeat(revert N;apply Pn.out));refine wk @hw0 ?_;(repeat(apply Pn.mk;intro N hN))))
 refine cm (fun m env st=>∃i:Nat,m=l.length-i/\2*i<=l.length+1/\i<=l.length/\env 2=.int .i64 (i:Int)/\env 3=.int .i64 ((l.length:Int)-1-i)/\st.get o=some ⟨true,1,eM (oP l i) l.length⟩/\σ.next<=st.next/\∀x:Id,x.bt<σ.next->(x=o)=False->st.get x=σ.get x) l.length ⟨0,rfl,ad,ad,by(simp only[go_sem, ↓reduceIte,Nat.reduceEqDiff,Nat.reduceAdd,Nat.reduceSub,Nat.reduceLeDiff,reduceCtorEq])<;>rfl,by(simp only[go_sem, ↓reduceIte,Nat.reduceEqDiff,Nat.reduceAdd,Nat.reduceSub,Nat.reduceLeDiff,reduceCtorEq,hw0]);congr 1;omega,ho,bp,fun x _ _=>rfl⟩ ?_
 rintro m env_b st_b ⟨i,rfl,th,oj,b2,b3,bg,bn,fb⟩ bkp
 have b0:=bkp 0 (by kernel_rfl)
 simp only[go_sem, ↓reduceIte,Nat.reduceEqDiff,Nat.reduceAdd,Nat.reduceSub,Nat.reduceLeDiff,reduceCtorEq]at b0
 clear bkp
 have tl:=iM (oP l i) l.length
 have mO:=dp (i:=o) (n:=st_b.next) ad
 by_cases hi:(i:Int)<(l.length:Int)-1-i
 ·have gS:i<l.length:=ad
  obtain⟨j,hj⟩:∃j,j=l.length-1-i:=⟨_,rfl⟩
  have oU:j<l.length:=ad
  have QZ:(l.length:Int)-1-i=(j:Int):=ad
  rw[QZ]at b3 hi
  have g1:=gP (f:=oP l i) gS
  have g2:=gP (f:=oP l i) oU
  have e1:oP l i i=l.getD i 0:=by unfold oP;rw[if_neg ad]
  have e2:oP l i j=l.getD j 0:=by unfold oP;rw[if_neg ad]
  have Tj:(eM (oP l i) l.length).set i (eN (l.getD j 0))=eM (fun x=>if x=i then l.getD j 0 else oP l i x) l.length:=sR gS (if_pos rfl) fun x _ hx=>if_neg hx
  have N9:(eM (fun x=>if x=i then l.getD j 0 else oP l i x) l.length).set j (eN (l.getD i 0))=eM (oP l (i+1)) l.length:=sR oU (by unfold oP;rw[if_pos ad];congr 1;omega) fun x hx XT=>by
   by_cases Hj:x=i
   ·rw[if_pos Hj];unfold oP;rw[if_pos ad];congr 1;omega
   ·rw[if_neg Hj];unfold oP
    by_cases hc:x<i∨l.length-i<=x
    ·rw[if_pos hc,if_pos ad]
    ·rw[if_neg hc,if_neg ad]
  have tl2:=iM (fun x=>if x=i then l.getD j 0 else oP l i x) l.length
  have g3:=gP (f:=fun x=>if x=i then l.getD j 0 else oP l i x) oU
  rw[e1]at g1
  rw[e2]at g2
  rw[if_neg ad,e2]at g3
  rw[eN]at g1 g2 g3 Tj N9
  have hii:(i:Int)<(l.length:Int):=ad
  have nN:(j:Int)<(l.length:Int):=ad
  have tk:IntKind.i64.wrap ((i:Int)+1)=((i+1:Nat):Int):=aX ad
  have sn:IntKind.i64.wrap ((j:Int)-1)=(l.length:Int)-1-((i+1:Nat):Int):=by rw[dj ad];omega
  (try((repeat(revert N;apply Pn.out));refine wk (tw @b0 (tw @b2 (tw @b3 (tw @bg (tw @hi (tw @hii (tw @nN (tw @g1 (tw @g2 (tw @g3 (tw @Tj (tw @N9 (tw @tl (tw @tl2 (tw @mO (tw @tk @sn)))))))))))))))) ?_;(repeat(apply Pn.mk;intro N hN))))
  refine⟨_,?_,i+1,rfl,ad,ad,sd @tk,sd @sn,sd @N9,bp,fun x hx ER=>?_⟩
  ·omega
  ·have:=fb x hx ER
   simp only[go_sem, ↓reduceIte,Nat.reduceEqDiff,Nat.reduceAdd,Nat.reduceSub,Nat.reduceLeDiff,reduceCtorEq,ER,this]
 ·rw[O9 l ad oj]at bg
  (try((repeat(revert N;apply Pn.out));refine wk (tw @b0 (tw @b2 (tw @b3 (tw @bg @hi)))) ?_;(repeat(apply Pn.mk;intro N hN))))
  exact fc (.inr rfl) (vs:=[]) (by simp only[iA,go_sem, ↓reduceIte,Nat.reduceEqDiff,Nat.reduceAdd,Nat.reduceSub,Nat.reduceLeDiff,reduceCtorEq]) ⟨bg,bp,fb⟩
theorem aaq (cnt:Nat) (tP:1<=cnt) (hn:cnt<=1048576) (c f:Nat->Nat->Int) (x y:Nat) (hx:x<cnt) (hy:y<cnt):
  jJ Tryz.prog 216 [.er (od cnt c f),.int .i64 x,.int .i64 y] fun r=>(r=.cr/\∃S:Nat->Bool,S x=true/\S y=false/\∀u v,u<cnt->v<cnt->S u=true->S v=false->¬f u v<c u v)∨∃p:List Nat,r=.sl (p.map eN)/\Ya cnt c f x y p:=by
 refine jJ.body fW rfl fun hl n0=>?_
 clear hl
 have lM:=Be c cnt
 have kJ:(0:Int)<=(cnt:Int):=ad
 have Hj:(x:Int)<(cnt:Int):=ad
 have hyi:(y:Int)<(cnt:Int):=ad
 (try((repeat(revert N;apply Pn.out));refine wk (tw @od.eq_1 @lM) ?_;(repeat(apply Pn.mk;intro N hN))))
 refine .inr (aH _ _ _ _ _ (fun r σ1 hq=>?_) (O7 cnt tP hn (-1) ⟨216002000,n0+1+1⟩ _ (sd @Nat.zero_add) bp))
 obtain⟨o,rfl,ho,Q8,Q9,jx⟩:=hq
 (try dsimp only at ho Q8 Q9 jx)
 apply hN
 clear hN N
 have mO:=dp Q9
 have qK:(cnt:Int)<=1048576:=ad
 have YV:uT<uT+cnt:=ad
 have je:List.replicate cnt [AV.int .i64 (-1)]=eZ (fun _=>-1) cnt:=by
  refine List.ext_getElem? fun i=>?_
  by_cases h:i<cnt
  ·rw[eV h,List.getElem?_replicate,if_pos h];rfl
  ·rw[List.getElem?_eq_none (by simp;omega),List.getElem?_eq_none (by rw[eL];omega)]
 rw[je]at ho
 have F3:(eZ (fun _=>-1) cnt).set x (aL (x:Int))=eZ (fun v=>if v=x then(x:Int)else -1) cnt:=nL hx (if_pos rfl) fun v _ hv=>if_neg hv
 have Y5:=eV (f:=fun _=>-1) hx
 have tl0:=eL (fun _=>-1) cnt
 rw[aL]at F3 Y5
 (try((repeat(revert N;apply Pn.out));refine wk (tw @od.eq_1 (tw @lM (tw @kJ (tw @qK @mO)))) ?_;(repeat(apply Pn.mk;intro N hN))))
 refine PI ?_
 simp only[go_sem, ↓reduceIte,Nat.reduceEqDiff,Nat.reduceAdd,Nat.reduceSub,Nat.reduceLeDiff,reduceCtorEq,YV]
 apply hN
 clear hN N
 (try((repeat(revert N;apply Pn.out));refine wk (tw @ho (tw @mO (tw @F3 (tw @Y5 (tw @tl0 @Hj))))) ?_;(repeat(apply Pn.mk;intro N hN))))
 obtain⟨C,hC⟩:∃C:Id,C=⟨216003001,σ1.next+1⟩:=⟨_,rfl⟩
 have Zm:=ei (a:=o) (b:=C) (by rw[hC];(try dsimp only);omega)
 have hCv:C.bt=σ1.next+1:=by rw[hC]
 refine cm (fun m env st=>∃(par:Nat->Int) (Q:List Nat) (i:Nat),m=cnt-i/\Bq cnt c f x par Q i/\st.get o=some ⟨true,1,eZ par cnt⟩/\st.get C=some ⟨true,uT+cnt,(Q.drop i).map eN⟩/\σ1.next+1<st.next) cnt ⟨_,[x],0,rfl,Bq.start hx,sd @mO,by rw[hC];simp only[go_sem, ↓reduceIte,Nat.reduceEqDiff,Nat.reduceAdd,Nat.reduceSub,Nat.reduceLeDiff,reduceCtorEq,mO];rfl,bp⟩ ?_
 rintro m env_b st_b ⟨par,Q,i,rfl,hB,bgo,bgC,bn⟩ bkp
 have b0:=bkp 0 (by kernel_rfl)
 have b1:=bkp 1 (by kernel_rfl)
 have b2:=bkp 2 (by kernel_rfl)
 have b7:=bkp 7 (by kernel_rfl)
 have b8:=bkp 8 (by kernel_rfl)
 have b9:=bkp 9 (by kernel_rfl)
 rw[<-hC]at b9
 simp only[go_sem, ↓reduceIte,Nat.reduceEqDiff,Nat.reduceAdd,Nat.reduceSub,Nat.reduceLeDiff,reduceCtorEq]at b0 b1 b2 b7 b8 b9
 clear bkp
 have hQn:=hB.len
 have oj:=hB.ile
 have Mr:((Q.drop i).map eN).length=Q.length-i:=by simp
 by_cases hi:i<Q.length
 ·have lX:(0:Int)<((Q.length-i:Nat):Int):=ad
  have wG:Q.drop i=Q[i]::Q.drop (i+1):=List.drop_eq_getElem_cons hi
  obtain⟨u,hu⟩:∃u,u=Q[i]:=⟨_,rfl⟩
  have hun:u<cnt:=by rw[hu];exact hB.lt _ (List.getElem_mem hi)
  rw[<-hu]at wG
  (try((repeat(revert N;apply Pn.out));refine wk (tw @b0 (tw @b1 (tw @b2 (tw @b7 (tw @b8 (tw @b9 (tw @bgC (tw @Mr @lX)))))))) ?_;(repeat(apply Pn.mk;intro N hN))))
  refine PI ?_
  rw[wG,List.map_cons,show eN u=[.int .i64 (u:Int)]from rfl]at bgC
  simp only[go_sem, ↓reduceIte,Nat.reduceEqDiff,Nat.reduceAdd,Nat.reduceSub,Nat.reduceLeDiff,reduceCtorEq,b9,bgC]
  apply hN
  clear hN N
  (try((repeat(revert N;apply Pn.out));refine wk @b7 ?_;(repeat(apply Pn.mk;intro N hN))))
  refine cm (fun m env st=>∃(v:Nat) (par':Nat->Int) (Q':List Nat),m=cnt-v/\v<=cnt/\env 36=.int .i64 (v:Int)/\Bq cnt c f x par' Q' i/\(∃h:i<Q'.length,Q'[i]=u)/\st.get o=some ⟨true,1,eZ par' cnt⟩/\st.get C=some ⟨true,uT+cnt,(Q'.drop (i+1)).map eN⟩/\σ1.next+1<st.next/\∀w,w<v->f u w<c u w->0<=par' w) cnt ⟨0,par,Q,rfl,Nat.zero_le _,by(simp only[go_sem, ↓reduceIte,Nat.reduceEqDiff,Nat.reduceAdd,Nat.reduceSub,Nat.reduceLeDiff,reduceCtorEq])<;>rfl,hB,⟨hi,hu.symm⟩,sd (tw @Zm @bgo),sd @Zm,bp,fun w hw=>absurd hw (Nat.not_lt_zero w)⟩ ?_
  rintro m env_c st_c ⟨v,par',Q',rfl,hvn,c36,eE,⟨uy,JS⟩,Ce,cgC,cn,eR⟩ ckp
  have c0:=ckp 0 (by kernel_rfl)
  have c1:=ckp 1 (by kernel_rfl)
  have c2:=ckp 2 (by kernel_rfl)
  have c7:=ckp 7 (by kernel_rfl)
  have c8:=ckp 8 (by kernel_rfl)
  have c9:=ckp 9 (by kernel_rfl)
  have iR:=ckp 10 (by kernel_rfl)
  have Uf:=ckp 35 (by kernel_rfl)
  simp only[go_sem, ↓reduceIte,Nat.reduceEqDiff,Nat.reduceAdd,Nat.reduceSub,Nat.reduceLeDiff,reduceCtorEq,b0,b1,b2,b7,b8,b9]at c0 c1 c2 c7 c8 c9 iR Uf
  clear ckp
  have tl:=eL par' cnt
  by_cases hv:(v:Int)<(cnt:Int)
  ·have Ie:v<cnt:=ad
   have U5:=eV (f:=par') Ie
   have jx:=Uu cnt c f u v hun Ie
   have hw:IntKind.i64.wrap ((v:Int)+1)=((v+1:Nat):Int):=aX ad
   rw[aL]at U5
   rw[od]at jx
   by_cases lW:par' v<0
   ·by_cases hr:f u v<c u v
    ·rw[decide_eq_true hr]at jx
     have fU:(eZ par' cnt).set v (aL (u:Int))=eZ (fun w=>if w=v then(u:Int)else par' w) cnt:=nL Ie (if_pos rfl) fun w _ hw=>if_neg hw
     rw[aL]at fU
     have mv:=eE.visit uy Ie lW (by rw[JS];exact hr)
     rw[JS]at mv
     have hQ2:=mv.len
     rw[List.length_append]at hQ2
     simp only[List.length_singleton]at hQ2
     have gM:uT+(Q'.drop (i+1)).length<uT+cnt:=by rw[List.length_drop];omega
     (have zF:=tw @od.eq_1 (tw @c0 (tw @c7 (tw @c8 (tw @c9 (tw @iR (tw @c36 (tw @Uf (tw @hv (tw @Ce (tw @U5 (tw @tl (tw @lW @fU))))))))))));(repeat(first|((repeat(revert N;apply Pn.out));refine wk zF ?_;(repeat(apply Pn.mk;intro N hN)))|((try apply Or.inl);refine⟨_,ax.x (jx) (sd zF),?_⟩;apply hN;clear hN N)));try clear zF)
     refine PI ?_
     have hq:(Q'.drop (i+1)).map eN++[[.int .i64 (v:Int)]]=((Q'++[v]).drop (i+1)).map eN:=by rw[List.drop_append_of_le_length ad,List.map_append];rfl
     simp only[go_sem, ↓reduceIte,Nat.reduceEqDiff,Nat.reduceAdd,Nat.reduceSub,Nat.reduceLeDiff,reduceCtorEq,c9,cgC,gM,Zm,hq]
     apply hN
     clear hN N
     (try((repeat(revert N;apply Pn.out));refine wk (tw @c36 @hw) ?_;(repeat(apply Pn.mk;intro N hN))))
     refine⟨_,?_,v+1,_,_,rfl,Ie,sd @hw,mv,⟨by rw[List.length_append];omega,by rw[List.getElem_append_left uy];exact JS⟩,sd @Zm,sd @Zm,bp,fun w hw N8=>?_⟩
     ·omega
     ·by_cases JT:w=v
      ·rw[if_pos JT];omega
      ·rw[if_neg JT];exact eR w ad N8
    ·rw[decide_eq_false hr]at jx
     (have zF:=tw @od.eq_1 (tw @c0 (tw @c7 (tw @c8 (tw @c9 (tw @iR (tw @c36 (tw @Uf (tw @hv (tw @Ce (tw @U5 (tw @tl (tw @lW @hw))))))))))));(repeat(first|((repeat(revert N;apply Pn.out));refine wk zF ?_;(repeat(apply Pn.mk;intro N hN)))|((try apply Or.inl);refine⟨_,ax.x (jx) (sd zF),?_⟩;apply hN;clear hN N)));try clear zF)
     refine⟨_,?_,v+1,par',Q',rfl,Ie,sd @hw,eE,⟨uy,JS⟩,sd @Ce,sd @cgC,bp,fun w hw N8=>?_⟩
     ·omega
     ·by_cases JT:w=v
      ·subst JT;exact absurd N8 hr
      ·exact eR w ad N8
   ·(try((repeat(revert N;apply Pn.out));refine wk (tw @od.eq_1 (tw @c0 (tw @c7 (tw @c8 (tw @c9 (tw @iR (tw @c36 (tw @Uf (tw @hv (tw @Ce (tw @U5 (tw @tl (tw @lW @hw))))))))))))) ?_;(repeat(apply Pn.mk;intro N hN))))
    refine⟨_,?_,v+1,par',Q',rfl,Ie,sd @hw,eE,⟨uy,JS⟩,sd @Ce,sd @cgC,bp,fun w hw N8=>?_⟩
    ·omega
    ·by_cases JT:w=v
     ·subst JT;omega
     ·exact eR w ad N8
  ·have ZD:v=cnt:=ad
   subst ZD
   (try((repeat(revert N;apply Pn.out));refine wk (tw @c36 (tw @Uf @hv)) ?_;(repeat(apply Pn.mk;intro N hN))))
   refine⟨_,?_,par',Q',i+1,rfl,eE.next uy fun w hw hr=>eR w hw (by rw[<-JS];exact hr),sd @Ce,sd @cgC,bp⟩
   omega
 ·have hiQ:i=Q.length:=ad
  subst hiQ
  have lX:¬(0:Int)<((Q.length-Q.length:Nat):Int):=ad
  have hgy:=eV (f:=par) hy
  have tl:=eL par cnt
  rw[aL]at hgy
  by_cases lW:par y<0
  ·(try((repeat(revert N;apply Pn.out));refine wk (tw @b0 (tw @b1 (tw @b2 (tw @b7 (tw @b8 (tw @b9 (tw @bgC (tw @Mr (tw @lX (tw @bgo (tw @hgy (tw @tl (tw @hyi @lW))))))))))))) ?_;(repeat(apply Pn.mk;intro N hN))))
   exact⟨[.cr],sd @Nat.zero_add,.cr,nf _ _,.inl ⟨rfl,hB.cut hy lW⟩⟩
  ·(try((repeat(revert N;apply Pn.out));refine wk (tw @b0 (tw @b1 (tw @b2 (tw @b7 (tw @b8 (tw @b9 (tw @bgC (tw @Mr (tw @lX (tw @bgo (tw @hgy (tw @tl (tw @hyi @lW))))))))))))) ?_;(repeat(apply Pn.mk;intro N hN))))
   refine cm (fun m env st=>∃(k:Nat) (out:List Nat) (p:Id),m=Q.idxOf k/\env 13=.int .i64 (k:Int)/\env 12=.own p 0 out.length/\st.get p=some ⟨true,1,out.map eN⟩/\p.bt<st.next/\st_b.next<=p.bt/\k∈Q/\zm c f Q y k out/\st.get o=some ⟨true,1,eZ par cnt⟩) (Q.idxOf y) ⟨y,[y],⟨216017001,st_b.next+1+1⟩,rfl,by(simp only[go_sem, ↓reduceIte,Nat.reduceEqDiff,Nat.reduceAdd,Nat.reduceSub,Nat.reduceLeDiff,reduceCtorEq]),by(simp only[go_sem, ↓reduceIte,Nat.reduceEqDiff,Nat.reduceAdd,Nat.reduceSub,Nat.reduceLeDiff,reduceCtorEq])<;>rfl,by(simp only[go_sem, ↓reduceIte,Nat.reduceEqDiff,Nat.reduceAdd,Nat.reduceSub,Nat.reduceLeDiff,reduceCtorEq])<;>rfl,bp,bp,(hB.iff y hy).1 ad,zm.start ((hB.iff y hy).1 ad),by(have XQ:=dp (i:=o) (n:=st_b.next) ad);simp only[go_sem, ↓reduceIte,Nat.reduceEqDiff,Nat.reduceAdd,Nat.reduceSub,Nat.reduceLeDiff,reduceCtorEq,XQ,bgo]⟩ ?_
   rintro m env_d st_d ⟨k,out,p,rfl,d13,d12,dgp,dpn,dpo,hkQ,zb,dgo⟩ dkp
   have d1:=dkp 1 (by kernel_rfl)
   have d8:=dkp 8 (by kernel_rfl)
   simp only[go_sem, ↓reduceIte,Nat.reduceEqDiff,Nat.reduceAdd,Nat.reduceSub,Nat.reduceLeDiff,reduceCtorEq,b1,b8]at d1 d8
   clear dkp
   have EP:=dp dpn
   have F7:=dp (i:=o) (n:=st_d.next) ad
   have eS:=ei (a:=o) (b:=p) ad
   have Q6:=zb.len hB.lt
   have ji:=hB.lt k hkQ
   have gy:(out.map eN).length=out.length:=by simp
   by_cases hkx:k=x
   ·have hd:decide ((k:Int)=(x:Int))=true:=decide_eq_true (by rw[hkx])
    have hop2:0<out.length:=by
     obtain⟨rest,h1,_⟩:=zb
     rw[<-List.length_reverse,h1];simp
    (try((repeat(revert N;apply Pn.out));refine wk (tw @d1 (tw @d8 (tw @d12 (tw @d13 (tw @hd @Bool.not_true))))) ?_;(repeat(apply Pn.mk;intro N hN))))
    refine .inr (aH _ _ _ _ _ (fun r σ2 hq=>?_) (LN out hop2 ad p _ dgp bp))
    obtain⟨Y8,pM,NS⟩:=hq
    apply hN
    clear hN N
    (try((repeat(revert N;apply Pn.out));refine wk @d12 ?_;(repeat(apply Pn.mk;intro N hN))))
    refine⟨[.own p 0 out.length],sd @d12,.sl (out.reverse.map eN),?_,.inr ⟨out.reverse,rfl,by subst hkx;exact zb.way hB.lt⟩⟩
    exact fN (sz:=1) Y8 (by simp) fun a=>Uv _ 4 a
   ·have hd:decide ((k:Int)=(x:Int))=false:=decide_eq_false fun h=>hkx ad
    obtain⟨u,huQ,hpu,DM,hr⟩:=hB.up k hkQ hkx
    have gx:=eV (f:=par) ji
    rw[aL,hpu]at gx
    have hki:(k:Int)<(cnt:Int):=ad
    have e1:out.length+1<=16777216:=ad
    (try((repeat(revert N;apply Pn.out));refine wk (tw @d1 (tw @d8 (tw @d12 (tw @d13 (tw @hd (tw @Bool.not_false (tw @dgo (tw @dgp (tw @gx (tw @tl (tw @hki (tw @EP (tw @F7 (tw @eS (tw @gy @e1))))))))))))))) ?_;(repeat(apply Pn.mk;intro N hN))))
    refine⟨_,DM,u,out++[u],⟨216021003,st_d.next+1+1⟩,rfl,sd @Nat.zero_add,by rw[List.length_append];simp only[go_sem, ↓reduceIte,Nat.reduceEqDiff,Nat.reduceAdd,Nat.reduceSub,Nat.reduceLeDiff,reduceCtorEq,List.length_cons,List.length_nil],by rw[List.map_append,List.map_cons,List.map_nil];simp only[go_sem, ↓reduceIte,Nat.reduceEqDiff,Nat.reduceAdd,Nat.reduceSub,Nat.reduceLeDiff,reduceCtorEq,eN],bp,bp,huQ,zb.step huQ DM hr,sd (tw @F7 (tw @eS @dgo))⟩
end Go.Proofs.YtoodopepphhpoaaGreatDoor.V
