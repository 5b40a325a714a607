/- The program's maker of sets: a tile. -/
import Derived.Test.YtalkncaokeaifaaGreatDoorWBC
import Derived.Test.YtalkncaokeaifaaGreatDoorWBB
import Derived.Shelf.SlSortCmp.WholeK
import Derived.Shelf.SlSortCmp.NoneTotal
import Derived.Ground.SlsfProg
import Derived.Test.YtalkncaokeaifaaGreatDoorProg
import Derived.Maps.RangeRun
import Derived.Test.YtalkncaokeaifaaGreatDoorChecked
import Derived.RangeFuncNested
import Derived.RangeFuncBound
import Derived.RangeFuncCalls
import Derived.RangeFuncLeaves
import Derived.Shelf.Abstract
import Derived.Shelf.RegionOpen
import Derived.WalkKit
import Derived.OwnWalkIn
import Derived.TacticsInMore
import Derived.LoopNIn
import Derived.LoopIn
import Derived.BigQuiet
import Derived.RangeFuncBox
import Derived.RangeFuncWrites
import Derived.Maps.AppendAt
import Derived.OrdersIn
set_option linter.unusedVariables false
set_option linter.unusedSimpArgs false
set_option maxRecDepth 100000
set_option maxHeartbeats 16000000
namespace Go.Proofs.YtalkncaokeaifaaGreatDoor.V
open Go.RowKit
attribute [local irreducible] dH wpOps eB Call
attribute [local go_sem] ax eo dS ez ev cZ upd bD K.av bR AV.cells AV.cell rowOf rowsOf part ld rowAt eL bz bx cW dj eO bf cC dw er ea cR dq cw cu da db bp aI bZ bj ck cj dn dr dp bW br cz dm bh ar cq bH eM aT bL bq aH cU aQ cX AV.undef aW bd de di cY c6 bJ dv dy bE du dt cm cr List.getD_cons_zero List.getD_cons_succ List.getD_nil List.all_cons List.all_nil Bool.and_true Bool.true_and Bool.and_self Bool.not_true Bool.not_false Option.map_some Option.map_none Option.bind_some Option.bind_none List.length_cons List.length_nil List.take_succ_cons List.take_zero List.take_nil List.drop_succ_cons List.drop_zero List.drop_nil List.head?_cons List.map_cons List.map_nil List.getElem?_cons_zero List.getElem?_cons_succ List.cons_append List.nil_append List.append_nil List.length_map List.set_cons_zero List.set_cons_succ Nat.reduceMul eq_self Int.toNat_natCast Int.natCast_nonneg and_self true_and and_true decide_true decide_false Bool.false_eq_true Nat.zero_add Nat.add_zero List.contains_cons List.contains_nil Bool.or_false Bool.false_or beq_self_eq_true Nat.reduceBEq ne_eq not_true_eq_false not_false_eq_true Id.mk.injEq false_and and_false Nat.reduceLT Int.reduceLE Int.reduceLT Int.reduceToNat Int.reduceNeg Int.reduceAdd Nat.le_refl List.length_append beq_true beq_false Bool.not_eq_eq_eq_not or_false false_or dX ad ae aP aJ bt bI aD aS aA aL bU aZ
theorem Im {α β:Type} (f:α->β) {l:List α} {k:Nat} (h:k<l.length):((l.take (k+1)).map f)=(l.take k).map f++[f l[k]]:=by
 rw[List.take_succ_eq_append_getElem h,List.map_append];rfl
section
set_option maxRecDepth 100000
set_option maxHeartbeats 8000000
theorem uO {n0:Nat} {σ:au} {B M:Id} {E:List NE} {L:List gj} {T:List fj} (h:uB n0 σ.get σ.next B M E L T) (nm:ByteArray) (Cq:nm.size<=64/\1<=nm.size) (hT:T.length<=1000) (ns:List ByteArray) (SO:ns.length=4) {u:Id} (hu:∃b,σ.get u=some ⟨b,1,ns.map Nb⟩) (PE:u.cV<σ.next) (Rn:(u.site==36007008)=false):
  Call Tryz.prog 36 [.ptr B 0 0,.str nm,.own u 0 4] σ (fun r σ'=>r=.int .i64 (T.length:Int)/\uB n0 σ'.get σ'.next B M E L (T++[⟨nm,ns.map (tW E)⟩])/\σ.next<=σ'.next/\∀x:Id,x.cV<n0->σ'.get x=σ.get x):=by
 refine eX fC rfl fun fb=>?_
 clear fb
 obtain⟨⟨vg,vt,hB,hG,hV⟩,hM,bs,ms,b0,b1,m0,m1⟩:=h
 obtain⟨ub,hu⟩:=hu
 have vB:=dF b1
 have vM:=dF m1
 have vu:=dF PE
 have BM:=qF bs ms (by decide)
 have fJ:(ns.map Nb).length=4:=by simp[SO]
 (try((repeat(revert hN;revert N;apply Pn.out));refine wk @Nat.zero_add ?_;(repeat(refine Pn.mk ?_;intro N hN))))
 refine dc (fun n env st=>∃k:Nat,n=(4)-k/\k<=(4)/\env 14=.int .i64 (k:Int)/\((∃v,st.get ⟨36001002,σ.next+1⟩=some ⟨true,2,[[.str nm,v]]⟩/\((k=0/\v=.bP)∨∃e:Id,v=.own e 0 k/\0<k/\st.get e=some ⟨true,1,((ns.take k).map (tW E)).map ah⟩/\e.site=36005009/\σ.next+2<=e.cV/\e.cV<st.next))/\σ.next+2<=st.next/\(∀x:Id,x.cV<σ.next->st.get x=σ.get x))) (4) ⟨0,ab,ab,sl @Nat.zero_add,by(try dsimp only);exact⟨⟨.bP,sl @Nat.zero_add,.inl ⟨rfl,rfl⟩⟩,ab,fun x hx=>(by have h9:=dF hx;simp only[go_sem, ↓reduceIte,Nat.reduceEqDiff,Nat.reduceAdd,Nat.reduceSub,Nat.reduceLeDiff,reduceCtorEq,h9])⟩⟩ ?_
 rintro n_a env_a st_a ⟨k,rfl,ale,kZ,qM⟩ eR
 have a0:=eR 0 (by kernel_rfl);have a7:=eR 7 (by kernel_rfl);have a12:=eR 12 (by kernel_rfl);have nQ:=eR 13 (by kernel_rfl)
 simp only[go_sem, ↓reduceIte,Nat.reduceEqDiff,Nat.reduceAdd,Nat.reduceSub,Nat.reduceLeDiff,reduceCtorEq]at a0 a7 a12 nQ
 clear eR
 obtain⟨⟨v,aX,aV⟩,aN,aF⟩:=qM
 have aB:=(aF B b1).trans hB
 have aM:=(aF M m1).trans hM
 have aU:=(aF u PE).trans hu
 have wB:=dF (i:=B) (n:=st_a.next) ab
 have wM:=dF (i:=M) (n:=st_a.next) ab
 have wu:=dF (i:=u) (n:=st_a.next) ab
 have wX:=dF (i:=⟨36001002,σ.next+1⟩) (n:=st_a.next) cD
 have BX:=(dU (a:=B) (b:=⟨36001002,σ.next+1⟩) cD)
 have MX:=(dU (a:=M) (b:=⟨36001002,σ.next+1⟩) cD)
 have uX:=(dU (a:=u) (b:=⟨36001002,σ.next+1⟩) cD)
 by_cases hk:(k:Int)<((4:Nat):Int)
 ·have eF:∀{e:Env} {gg:Rows} {nx:Nat},(e 14=.int .i64 (IntKind.i64.wrap ((k:Int)+1)))->((∃v,gg ⟨36001002,σ.next+1⟩=some ⟨true,2,[[.str nm,v]]⟩/\(((k+1)=0/\v=.bP)∨∃e:Id,v=.own e 0 (k+1)/\0<(k+1)/\gg e=some ⟨true,1,((ns.take (k+1)).map (tW E)).map ah⟩/\e.site=36005009/\σ.next+2<=e.cV/\e.cV<nx))/\σ.next+2<=nx/\(∀x:Id,x.cV<σ.next->gg x=σ.get x))->∃m0,m0<(4)-k/\∃k:Nat,m0=(4)-k/\k<=(4)/\e 14=.int .i64 (k:Int)/\((∃v,gg ⟨36001002,σ.next+1⟩=some ⟨true,2,[[.str nm,v]]⟩/\((k=0/\v=.bP)∨∃e:Id,v=.own e 0 k/\0<k/\gg e=some ⟨true,1,((ns.take k).map (tW E)).map ah⟩/\e.site=36005009/\σ.next+2<=e.cV/\e.cV<nx))/\σ.next+2<=nx/\(∀x:Id,x.cV<σ.next->gg x=σ.get x)):=fun x1 x2=>⟨_,ab,k+1,rfl,ab,(by rw[x1,cE ab]),x2⟩
  have jv:k<ns.length:=ab
  have je:(ns.map Nb)[k]? =some [.str ns[k]]:=by rw[List.getElem?_map,List.getElem?_eq_getElem jv];rfl
  have Ny:=RH E ns[k]
  have qE:((ns.take (k+1)).map (tW E)).map ah=((ns.take k).map (tW E)).map ah++[[.int .i64 (tW E ns[k])]]:=by rw[Im _ jv,List.map_append];rfl
  have mN:(((ns.take k).map (tW E)).map ah).length=k:=by simp;omega
  have ql:k<=16777215:=ab
  generalize ns[k]=nk at *
  generalize (ns.take k).map (tW E)=sk at *
  obtain⟨y,hy⟩:∃y,tW E nk=y:=⟨_,rfl⟩
  rw[hy]at qE Ny
  rcases Ny with⟨fi,ny,yg,Nx⟩|⟨yg,rfl⟩
  rotate_left 1
  have Nx:=yg
  all_goals
   rcases aV with⟨rfl,rfl⟩|⟨e,rfl,k0,ge,se,e0,e1⟩
   ·have Kq:sk.map ah=[]:=List.eq_nil_of_length_eq_zero mN
    rw[Kq,List.nil_append]at qE
    (try((repeat(revert hN;revert N;apply Pn.out));refine wk (tw @kZ (tw @a0 (tw @a7 (tw @a12 (tw @nQ (tw @hk (tw @aX (tw @aB (tw @aM (tw @aU (tw @wB (tw @wM (tw @wu (tw @wX (tw @BX (tw @MX (tw @uX (tw @fJ (tw @je (tw @yg @Nx)))))))))))))))))))) ?_;(repeat(refine Pn.mk ?_;intro N hN))))
    exact eF (sd (tw @kZ (tw @a0 (tw @a7 (tw @a12 @nQ))))) (by(try dsimp only);exact⟨⟨.own ⟨36005009,st_a.next+1+1⟩ 0 1,sl @wX,.inr ⟨⟨36005009,st_a.next+1+1⟩,rfl,ab,by rw[qE];simp only[go_sem, ↓reduceIte,Nat.reduceEqDiff,Nat.reduceAdd,Nat.reduceSub,Nat.reduceLeDiff,reduceCtorEq,wX]<;>rfl,rfl,cD,cD⟩⟩,ab,fun x hx=>by
     have h9:=dF (i:=x) (n:=st_a.next) ab
     have h8:=(dU (a:=x) (b:=⟨36001002,σ.next+1⟩) cD).1
     have h7:=aF x hx
     simp only[go_sem, ↓reduceIte,Nat.reduceEqDiff,Nat.reduceAdd,Nat.reduceSub,Nat.reduceLeDiff,reduceCtorEq,h9,h8,h7]⟩)
   ·have we:=dF e1
    have nX:=(dU (a:=⟨36001002,σ.next+1⟩) (b:=e) cD)
    (try((repeat(revert hN;revert N;apply Pn.out));refine wk (tw @kZ (tw @a0 (tw @a7 (tw @a12 (tw @nQ (tw @hk (tw @aX (tw @aB (tw @aM (tw @aU (tw @wB (tw @wM (tw @wu (tw @wX (tw @BX (tw @MX (tw @uX (tw @fJ (tw @je (tw @yg (tw @Nx (tw @ge (tw @we (tw @nX (tw @mN @ql))))))))))))))))))))))))) ?_;(repeat(refine Pn.mk ?_;intro N hN))))
    exact eF (sd (tw @kZ (tw @a0 (tw @a7 (tw @a12 @nQ))))) (by(try dsimp only);exact⟨⟨.own ⟨36005009,st_a.next+1+1⟩ 0 (k+1),sl (tw @wX @nX),.inr ⟨⟨36005009,st_a.next+1+1⟩,rfl,ab,by rw[qE];simp only[go_sem, ↓reduceIte,Nat.reduceEqDiff,Nat.reduceAdd,Nat.reduceSub,Nat.reduceLeDiff,reduceCtorEq,wX,we,nX]<;>rfl,rfl,cD,cD⟩⟩,ab,fun x hx=>by
     have h9:=dF (i:=x) (n:=st_a.next) ab
     have h8:=(dU (a:=x) (b:=⟨36001002,σ.next+1⟩) cD).1
     have h6:=(dU (a:=x) (b:=e) ab).1
     have h7:=aF x hx
     simp only[go_sem, ↓reduceIte,Nat.reduceEqDiff,Nat.reduceAdd,Nat.reduceSub,Nat.reduceLeDiff,reduceCtorEq,h9,h8,h7,h6]⟩)
 ·have Yc:k=4:=ab
  subst Yc
  have tR:ns.take 4=ns:=List.take_of_length_le ab
  rw[tR]at aV
  rcases aV with⟨h0,_⟩|⟨e,rfl,_,ge,se,e0,e1⟩
  ·omega
  have TJ:=hG.frame (g':=st_a.get) (n':=st_a.next) ab fun i _ _ hi=>aF i hi
  have gc:=TJ.cell
  obtain⟨Tz,TA⟩:=gc
  unfold AV.cells at Tz
  unfold AV.cell at TA
  have hTl:(T++[(⟨nm,ns.map (tW E)⟩:fj)]).length=T.length+1:=by simp
  have SJ:(ns.map (tW E)).length=4:=by simp[SO]
  have we:=dF e1
  have nX:=(dU (a:=⟨36001002,σ.next+1⟩) (b:=e) cD)
  have nB:=(dU (a:=B) (b:=e) ab)
  have nM:=(dU (a:=M) (b:=e) ab)
  have ql:T.length<=16777215:=ab
  have hw:IntKind.i64.wrap (((T.length+1:Nat):Int)-1)=(T.length:Int):=by rw[show((T.length+1:Nat):Int)-1=(T.length:Int) by omega];exact cH ab
  have iB:∀i:Id,(i.site=34000010∨i.site=36005009)->(i=B)=False:=fun i hs=>eq_false fun e=>by subst e;rcases hs with hs|hs<;>rw[bs]at hs<;>revert hs<;>decide
  rcases hV with⟨rfl,rfl⟩|⟨o,rows,rfl,XQ,go',hX,zo,o0,o1'⟩
  ·(try((repeat(revert hN;revert N;apply Pn.out));refine wk (tw @kZ (tw @a0 (tw @a7 (tw @a12 (tw @nQ (tw @hk (tw @aX (tw @aB (tw @wB (tw @wX (tw @we (tw @nX (tw @nB (tw @BX (tw @Tz (tw @TA @ge)))))))))))))))) ?_;(repeat(refine Pn.mk ?_;intro N hN))))
   refine eK (.inl rfl) (vs:=[.int .i64 (IntKind.i64.wrap (((1:Nat):Int)-1))]) (sd @Nat.zero_add) ⟨rfl,⟨⟨vg,.own ⟨36007008,st_a.next+1⟩ 0 1,sd (tw @wB (tw @Tz @TA)),TJ.frame cD fun i hs Pt Eu=>(by
     have h9:=dF Eu
     have h8:=iB i (.inl hs)
     simp only[go_sem, ↓reduceIte,Nat.reduceEqDiff,Nat.reduceAdd,Nat.reduceSub,Nat.reduceLeDiff,reduceCtorEq,h9,h8]),.inr ⟨⟨36007008,st_a.next+1⟩,[[.str nm,.own e 0 4]],rfl,by simp,sl @wB,TX.one (t:=⟨nm,ns.map (tW E)⟩) ⟨rfl,Cq,SJ,se,ab,cD,by simp only[go_sem, ↓reduceIte,Nat.reduceEqDiff,Nat.reduceAdd,Nat.reduceSub,Nat.reduceLeDiff,reduceCtorEq,we,nB]<;>exact ge⟩,rfl,cD,cD⟩⟩,by simp only[go_sem, ↓reduceIte,Nat.reduceEqDiff,Nat.reduceAdd,Nat.reduceSub,Nat.reduceLeDiff,reduceCtorEq,wM,BM]<;>exact aM,bs,ms,b0,cD,m0,cD⟩,cD,fun x hx=>by
    have h9:=dF (i:=x) (n:=st_a.next) ab
    have h8:=(dU (a:=x) (b:=B) ab).1
    have h7:=aF x ab
    simp only[go_sem, ↓reduceIte,Nat.reduceEqDiff,Nat.reduceAdd,Nat.reduceSub,Nat.reduceLeDiff,reduceCtorEq,h9,h8,h7]⟩
  ·have go:=(aF o o1').trans go'
   have o1:o.cV<st_a.next:=ab
   have wo:=dF o1
   have oB:=qF zo bs (by decide)
   have oM:=qF zo ms (by decide)
   have oe:=qF zo se (by decide)
   have oX:=eY zo (b:=36001002) (v:=σ.next+1) (by decide)
   have uJ:rows.length=T.length:=hX.len
   (try((repeat(revert hN;revert N;apply Pn.out));refine wk (tw @kZ (tw @a0 (tw @a7 (tw @a12 (tw @nQ (tw @hk (tw @aX (tw @aB (tw @wB (tw @wX (tw @we (tw @wo (tw @nX (tw @nB (tw @BX (tw @oB (tw @oe (tw @oX (tw @Tz (tw @TA (tw @ge (tw @go (tw @uJ (tw @ql @hw)))))))))))))))))))))))) ?_;(repeat(refine Pn.mk ?_;intro N hN))))
   refine eK (.inl rfl) (vs:=[.int .i64 (T.length:Int)]) (sd @hw) ⟨rfl,⟨⟨vg,.own ⟨36007008,st_a.next+1⟩ 0 (T.length+1),sd (tw @wB (tw @oB (tw @Tz @TA))),TJ.frame cD fun i hs Pt Eu=>(by
     have h9:=dF Eu
     have h8:=iB i (.inl hs)
     have h7:=(qF hs zo (by decide)).1
     simp only[go_sem, ↓reduceIte,Nat.reduceEqDiff,Nat.reduceAdd,Nat.reduceSub,Nat.reduceLeDiff,reduceCtorEq,h9,h8,h7]),.inr ⟨⟨36007008,st_a.next+1⟩,rows++[[.str nm,.own e 0 4]],by rw[hTl],ab,sl (tw @wB @wo),(hX.frame (Nat.le_refl _) fun i hs Pt Eu=>(by
     have h9:=dF (i:=i) (n:=st_a.next) ab
     have h8:=iB i (.inr hs)
     have h7:=(qF hs zo (by decide)).1
     have h6:=aF i Eu
     simp only[go_sem, ↓reduceIte,Nat.reduceEqDiff,Nat.reduceAdd,Nat.reduceSub,Nat.reduceLeDiff,reduceCtorEq,h9,h8,h7,h6])).snoc (t:=⟨nm,ns.map (tW E)⟩) cD ab ⟨rfl,Cq,SJ,se,ab,cD,by simp only[go_sem, ↓reduceIte,Nat.reduceEqDiff,Nat.reduceAdd,Nat.reduceSub,Nat.reduceLeDiff,reduceCtorEq,we,nB,oe]<;>exact ge⟩,rfl,cD,cD⟩⟩,by simp only[go_sem, ↓reduceIte,Nat.reduceEqDiff,Nat.reduceAdd,Nat.reduceSub,Nat.reduceLeDiff,reduceCtorEq,wM,BM,oM]<;>exact aM,bs,ms,b0,cD,m0,cD⟩,cD,fun x hx=>by
    have h9:=dF (i:=x) (n:=st_a.next) ab
    have h8:=(dU (a:=x) (b:=B) ab).1
    have h6:=(dU (a:=x) (b:=o) ab).1
    have h7:=aF x ab
    simp only[go_sem, ↓reduceIte,Nat.reduceEqDiff,Nat.reduceAdd,Nat.reduceSub,Nat.reduceLeDiff,reduceCtorEq,h9,h8,h7,h6]⟩
end
noncomputable def eH (s:aw) (ts:List aa) (p:af) (t:Int):Bool:=zF p&&decide (gh ts p<0)&&decide (s.bu<=nn s.aq (gh ts) p t)
theorem GW {σ:au} {c T O:Id} {s:aw} {ts:List aa} (h:Dm σ.get σ.next c T O s ts) (hS:gO s.aq) (hF:∀q,0<=gh ts q->eA s.aq (gh ts q)=true) (p:af) (hx:iB p.fu) (hy:iB p.eW) (t:Int) (ht:eA s.aq t=true):
  eB (Call Tryz.prog) 138 [.agg (aj s.aq),.agg (ao p),.int .i64 t,.tX 137 [.ptr c 0 0]] σ (fun r=>r=.int .i64 (nn s.aq (gh ts) p t)):=by
 unfold eB PC
 exact Or.inl (bc _ _ _ _ _ (fun r σ' hr=>⟨_,by rw[hr];exact aP _ _ _ _,rfl⟩) (GV (σ:=⟨V.ro σ.get,σ.next⟩) s.aq hS (gh ts) hF p hx hy t ht _ _
  (fun σ' hn hk q=>Qi (h.ro.frame hn (hk _ h.cv) (hk _ h.tv)) q)))
theorem QB {σ:au} {c T O:Id} {s:aw} {ts:List aa} (h:Dm σ.get σ.next c T O s ts) (hS:gO s.aq) (hF:∀q,0<=gh ts q->eA s.aq (gh ts q)=true) (p:af) (t:Int) (ht:eA s.aq t=true):
  Call Tryz.prog 106 [.ptr c 0 0,.agg (ao p),.int .i64 t] σ (fun r _=>r=.bool (eH s ts p t)):=by
 refine eX fC rfl fun fb=>?_
 clear fb
 obtain⟨b,h1⟩:=h.row
 have v1:=dF h.cv
 have hw:=qL p
 have v2:=dF h.tv
 by_cases h0:zF p=true
 ·rw[h0]at hw
  obtain⟨hx,hy⟩:=A4 h0
  by_cases h2:gh ts p<0
  ·(repeat(first|((repeat(revert hN;revert N;apply Pn.out));refine wk (tw @h1 (tw @v1 (tw @h2 @ao.eq_1))) ?_;(repeat(refine Pn.mk ?_;intro N hN)))|((try apply Or.inl);refine⟨_,az.x (hw) (sd (tw @h1 (tw @v1 (tw @h2 @ao.eq_1)))),?_⟩;refine hN _ _ ?_;clear hN N)))
   refine⟨_,Qi (h.frame cD (sd @v1) (sd @v2)) p,?_⟩
   refine hN _ _ ?_
   clear hN N
   (repeat(first|((repeat(revert hN;revert N;apply Pn.out));refine wk (tw @h1 (tw @v1 (tw @h2 (tw @ao.eq_1 @aj.eq_1)))) ?_;(repeat(refine Pn.mk ?_;intro N hN)))|((try apply Or.inl);refine⟨_,az.x (hw) (sd (tw @h1 (tw @v1 (tw @h2 (tw @ao.eq_1 @aj.eq_1))))),?_⟩;refine hN _ _ ?_;clear hN N)))
   refine⟨_,GW (h.frame cD (sd @v1) (sd @v2)) hS hF p hx hy t ht,?_⟩
   refine hN _ _ ?_
   clear hN N
   have hb:=od hS (gh ts) p t 4
   (repeat(first|((repeat(revert hN;revert N;apply Pn.out));refine wk (tw @h1 (tw @v1 (tw @h2 (tw @ao.eq_1 @aj.eq_1)))) ?_;(repeat(refine Pn.mk ?_;intro N hN)))|((try apply Or.inl);refine⟨_,az.x (hw) (sd (tw @h1 (tw @v1 (tw @h2 (tw @ao.eq_1 @aj.eq_1))))),?_⟩;refine hN _ _ ?_;clear hN N)))
   exact eK (.inl rfl) (vs:=[.bool (decide (s.bu<=nn s.aq (gh ts) p t))]) (sd @Nat.zero_add) (by rw[show eH s ts p t=decide (s.bu<=nn s.aq (gh ts) p t) by simp[eH,h0,h2]];rfl)
  ·(repeat(first|((repeat(revert hN;revert N;apply Pn.out));refine wk (tw @h1 (tw @v1 (tw @h2 @ao.eq_1))) ?_;(repeat(refine Pn.mk ?_;intro N hN)))|((try apply Or.inl);refine⟨_,az.x (hw) (sd (tw @h1 (tw @v1 (tw @h2 @ao.eq_1)))),?_⟩;refine hN _ _ ?_;clear hN N)))
   refine⟨_,Qi (h.frame cD (sd @v1) (sd @v2)) p,?_⟩
   refine hN _ _ ?_
   clear hN N
   (repeat(first|((repeat(revert hN;revert N;apply Pn.out));refine wk (tw @h1 (tw @v1 (tw @h2 @ao.eq_1))) ?_;(repeat(refine Pn.mk ?_;intro N hN)))|((try apply Or.inl);refine⟨_,az.x (hw) (sd (tw @h1 (tw @v1 (tw @h2 @ao.eq_1)))),?_⟩;refine hN _ _ ?_;clear hN N)))
   exact eK (.inl rfl) (vs:=[.bool false]) (sd @Nat.zero_add) (by rw[show eH s ts p t=false by simp[eH,h2]];rfl)
 ·rw[Bool.not_eq_true]at h0
  rw[h0]at hw
  (repeat(first|((repeat(revert hN;revert N;apply Pn.out));refine wk (tw @h1 (tw @v1 @ao.eq_1)) ?_;(repeat(refine Pn.mk ?_;intro N hN)))|((try apply Or.inl);refine⟨_,az.x (hw) (sd (tw @h1 (tw @v1 @ao.eq_1))),?_⟩;refine hN _ _ ?_;clear hN N)))
  exact eK (.inl rfl) (vs:=[.bool false]) (sd @Nat.zero_add) (by rw[show eH s ts p t=false by simp[eH,h0]];rfl)
def OW (rows:List (List AV)):Prop:=∀r∈rows,∃(x y:Int) (v:AV),r=[.int .i64 x,.int .i64 y,v]
def O3 (σ:au) (O:Id) (g:Rows) (n:Nat):Prop:=σ.next<=n/\(∀x:Id,x.cV<σ.next->x≠O->g x=σ.get x)/\∃rows,g O=some ⟨true,mP.j4,rows⟩/\OW rows
theorem QC {σ:au} {c T O:Id} {s:aw} {ts:List aa} (h:Dm σ.get σ.next c T O s ts) (hS:gO s.aq) (hF:∀q,0<=gh ts q->eA s.aq (gh ts q)=true) (p:af) (t:Int) (ht:eA s.aq t=true):
  eB (Call Tryz.prog) 106 [.ptr c 0 0,.agg (ao p),.int .i64 t] σ (fun r=>r=.bool (eH s ts p t)):=by
 unfold eB PC
 exact Or.inl (bc _ _ _ _ _ (fun r σ' hr=>⟨_,by rw[hr];exact aJ _ _ _,rfl⟩) (QB (σ:=⟨V.ro σ.get,σ.next⟩) h.ro hS hF p t ht))
structure lz (g:Rows) (n:Nat) (c T O:Id) (s:aw) (ts:List aa):Prop where
 row:g c=some ⟨true,6,[[.sl (s.aq.dx.map eP),.sl (s.aq.ay.map eS),.sl (s.dJ.ay.map ai),.int .i64 s.bu,.map T mP,.map O mP]]⟩
 tl:g T=some ⟨true,mP.j4,ts.map ai⟩
 op:∃rows,g O=some ⟨true,mP.j4,rows⟩/\OW rows
 cv:c.cV<n
 tv:T.cV<n
 ov:O.cV<n
 cT:c≠T
 cO:c≠O
 TO:T≠O
theorem lz.Tn {g:Rows} {n:Nat} {c T O:Id} {s:aw} {ts:List aa} (h:lz g n c T O s ts):Dm g n c T O s ts:=⟨⟨_,h.row⟩,⟨_,h.tl⟩,h.cv,h.tv,h.ov⟩
theorem lz.look {σ:au} {g:Rows} {n:Nat} {c T O:Id} {s:aw} {ts:List aa} (h:lz σ.get σ.next c T O s ts) (k:O3 σ O g n):lz g n c T O s ts:=
 ⟨(k.2.1 _ h.cv h.cO).trans h.row,(k.2.1 _ h.tv h.TO).trans h.tl,k.2.2,Nat.lt_of_lt_of_le h.cv k.1,Nat.lt_of_lt_of_le h.tv k.1,Nat.lt_of_lt_of_le h.ov k.1,h.cT,h.cO,h.TO⟩
theorem lz.frame {g g':Rows} {n n':Nat} {c T O:Id} {s:aw} {ts:List aa} (h:lz g n c T O s ts) (hn:n<=n') (hf:∀x:Id,x.cV<n->g' x=g x):lz g' n' c T O s ts:=
 ⟨(hf _ h.cv).trans h.row,(hf _ h.tv).trans h.tl,by rw[hf _ h.ov];exact h.op,Nat.lt_of_lt_of_le h.cv hn,Nat.lt_of_lt_of_le h.tv hn,Nat.lt_of_lt_of_le h.ov hn,h.cT,h.cO,h.TO⟩
theorem wz {l:List aa} {p:af}:ew l p<0↔∀t∈l,t.bQ≠p:=by
 unfold ew pQ
 by_cases h:(l.findIdx fun c=>decide (c.bQ=p))<l.length
 ·rw[if_pos h]
  obtain⟨t,ht,h2⟩:=List.findIdx_lt_length.1 h
  exact⟨fun h=>ab,fun h=>absurd (by simpa using h2) (h t ht)⟩
 ·rw[if_neg h]
  exact⟨fun _ t ht e=>h (List.findIdx_lt_length.2 ⟨t,ht,by simp[e]⟩),fun _=>ab⟩
theorem LV {l:List aa} (h:mE l) {k:Nat} (hk:k<l.length):ew (l.take k) (cP l k).bQ<0:=by
 rw[wz]
 intro t ht e
 obtain⟨j,hj,rfl⟩:=List.getElem_of_mem ht
 have Mu:j<k:=by rw[List.length_take]at hj;omega
 have:=h j k Mu hk
 rw[List.getElem_take]at e
 have e2:cP l j=l[j]'ab:=by unfold cP;rw[List.getD_eq_getElem?_getD,List.getElem?_eq_getElem ab];rfl
 rw[e2,e]at this
 simp[k8]at this
theorem ON {l:List aa} {k:Nat} (hk:k<l.length):(l.take k).map ai++[[.int .i64 (cP l k).bQ.fu,.int .i64 (cP l k).bQ.eW,.int .i64 (cP l k).cK]]=(l.take (k+1)).map ai:=by
 have e2:cP l k=l[k]:=by unfold cP;rw[List.getD_eq_getElem?_getD,List.getElem?_eq_getElem hk];rfl
 rw[List.take_succ_eq_append_getElem hk,List.map_append,e2]
 rfl
theorem gO.O8 {s:aO} {l:List aa} (hA:gV s l):∀q,0<=gh l q->eA s (gh l q)=true:=fun _ h=>BD hA h
end Go.Proofs.YtalkncaokeaifaaGreatDoor.V

namespace Go.Proofs.YtalkncaokeaifaaGreatDoor.V
open Go.RowKit
def mh:List aa->aa->List aa
 |[],q=>[q]
 |x::r,q=>if k8 q.bQ x.bQ=true then q::x::r else x::mh r q
theorem jS {q x:aa}:∀{l:List aa},x∈mh l q↔x=q∨x∈l
 |[]=>by simp[mh]
 |y::r=>by
  have ih:=@jS q x r
  rw[mh]
  split
  ·simp
  ·simp only[List.mem_cons,ih]
   constructor
   ·rintro(h|h|h)<;>simp[h]
   ·rintro(h|h|h)<;>simp[h]
theorem xc (q:aa):∀l:List aa,(mh l q).length=l.length+1
 |[]=>rfl
 |y::r=>by
  have ih:=xc q r
  rw[mh]
  split
  ·simp
  ·simp[ih]
theorem ml {l:List aa}:mE l↔l.Pairwise fun a b=>k8 a.bQ b.bQ=true:=by
 rw[List.pairwise_iff_getElem]
 constructor
 ·intro h i j hi hj yh
  have:=h i j yh hj
  rwa [fx hi,fx hj]at this
 ·intro h i j yh hj
  have:=h i j ab hj yh
  rwa [fx ab,fx hj]
theorem lr {l:List aa} {p:af}:ew l p<0↔∀t∈l,t.bQ≠p:=wz
theorem Lg {q:aa}:∀{l:List aa},mE l->ew l q.bQ<0->mE (mh l q):=by
 intro l
 rw[ml,ml,lr]
 induction l with
 |nil=>intro _ _;exact List.pairwise_singleton _ _
 |cons y r ih=>
  intro h hn
  obtain⟨h1,h2⟩:=List.pairwise_cons.1 h
  rw[mh]
  split
  ·rename_i hl
   refine List.pairwise_cons.2 ⟨fun x hx=>?_,h⟩
   rcases List.mem_cons.1 hx with rfl|hx
   ·exact hl
   ·exact iw hl (h1 x hx)
  ·rename_i hl
   rw[Bool.not_eq_true]at hl
   refine List.pairwise_cons.2 ⟨fun x hx=>?_,ih h2 fun t ht=>hn t (by simp[ht])⟩
   rcases jS.1 hx with rfl|hx
   ·exact uM hl fun e=>hn y (by simp) e.symm
   ·exact h1 x hx
theorem jD (x:aa) (r:List aa) (p:af):gh (x::r) p=if x.bQ=p then x.cK else gh r p:=by
 unfold gh ew pQ
 rw[List.findIdx_cons]
 by_cases h:x.bQ=p
 ·simp[h,cP]
 ·simp only[h,decide_false,cond_false,List.length_cons,Nat.add_lt_add_iff_right,if_false]
  by_cases hl:(r.findIdx fun c=>decide (c.bQ=p))<r.length
  ·rw[if_pos hl,if_pos hl,if_pos ab,if_pos ab]
   simp[cP]
  ·rw[if_neg hl,if_neg hl];rfl
theorem BC {q:aa} (p:af):∀{l:List aa},(∀t∈l,t.bQ≠q.bQ)->gh (mh l q) p=if q.bQ=p then q.cK else gh l p
 |[],_=>by rw[mh,jD]
 |x::r,h=>by
  have ih:=@BC q p r fun t ht=>h t (by simp[ht])
  rw[mh]
  split
  ·rw[jD]
  ·rw[jD,ih,jD]
   by_cases h1:x.bQ=p
   ·have h2:q.bQ≠p:=fun e=>h x (by simp) (h1.trans e.symm)
    rw[if_pos h1,if_neg h2,if_pos h1]
   ·rw[if_neg h1,if_neg h1]
theorem qN {q:aa} (p:af):∀{l:List aa},(∀t∈l,t.bQ≠q.bQ)->gh (l++[q]) p=if q.bQ=p then q.cK else gh l p
 |[],_=>by rw[List.nil_append,jD]
 |x::r,h=>by
  have ih:=@qN q p r fun t ht=>h t (by simp[ht])
  rw[List.cons_append,jD,ih,jD]
  by_cases h1:x.bQ=p
  ·have h2:q.bQ≠p:=fun e=>h x (by simp) (h1.trans e.symm)
   rw[if_pos h1,if_neg h2,if_pos h1]
  ·rw[if_neg h1,if_neg h1]
theorem mg {α:Type} [DecidableEq α]:∀{xs ys:List α},xs.Nodup->(∀x∈xs,x∈ys)->xs.length<=ys.length
 |[],_,_,_=>Nat.zero_le _
 |x::xs,ys,hn,h=>by
  obtain⟨h1,h2⟩:=List.nodup_cons.1 hn
  have hx:=h x (by simp)
  have:=@mg α _ xs (ys.erase x) h2 fun y hy=>(List.mem_erase_of_ne fun e=>h1 (by rw[<-e];exact hy)).2 (h y (by simp[hy]))
  rw[List.length_erase_of_mem hx]at this
  have:=List.length_pos_of_mem hx
  rw[List.length_cons];omega
theorem H5 {l:List aa} (h:mE l):l.Nodup:=by
 rw[ml]at h
 refine List.Pairwise.imp (fun {a b} rj e=>?_) h
 rw[e,gz]at rj;cases rj
abbrev ME:=List aa×List aa
theorem JQ {s:aw} {l:List aa} (hA:gV s.aq l) {now:List aa} (hs:∀x∈now,x∈l) {p:af} {t:Int} (h:eH s now p t=true):ew now p<0:=by
 rcases Int.lt_or_le (ew now p) 0 with h0|h0
 ·exact h0
 ·exfalso
  obtain⟨h1,_⟩:=jM h0
  have h2:=(dZ (hA.2 _ (hs _ (gR h1)))).1
  simp[eH,gh,h0]at h
  omega
structure Je (s:aw):Prop where
 set:gO s.aq
 s6:gV s.aq s.dJ.ay
 some:1<=s.dJ.ay.length
 uz:ir s.bu 1 16=true
theorem lE.w {s:aw} (h:lE s):Je s:=⟨h.set,h.s6,h.some,h.uz⟩
end Go.Proofs.YtalkncaokeaifaaGreatDoor.V

namespace Go.Proofs.YtalkncaokeaifaaGreatDoor.V
open Go.RowKit
attribute [local irreducible] dH wpOps eB Call
attribute [local go_sem] ax eo dS ez ev cZ upd bD K.av bR AV.cells AV.cell rowOf rowsOf part ld rowAt eL bz bx cW dj eO bf cC dw er ea cR dq cw cu da db bp aI bZ bj ck cj dn dr dp bW br cz dm bh ar cq bH eM aT bL bq aH cU aQ cX AV.undef aW bd de di cY c6 bJ dv dy bE du dt cm cr List.getD_cons_zero List.getD_cons_succ List.getD_nil List.all_cons List.all_nil Bool.and_true Bool.true_and Bool.and_self Bool.not_true Bool.not_false Option.map_some Option.map_none Option.bind_some Option.bind_none List.length_cons List.length_nil List.take_succ_cons List.take_zero List.take_nil List.drop_succ_cons List.drop_zero List.drop_nil List.head?_cons List.map_cons List.map_nil List.getElem?_cons_zero List.getElem?_cons_succ List.cons_append List.nil_append List.append_nil List.length_map List.set_cons_zero List.set_cons_succ Nat.reduceMul eq_self Int.toNat_natCast Int.natCast_nonneg and_self true_and and_true decide_true decide_false Bool.false_eq_true Nat.zero_add Nat.add_zero List.contains_cons List.contains_nil Bool.or_false Bool.false_or beq_self_eq_true Nat.reduceBEq ne_eq not_true_eq_false not_false_eq_true Id.mk.injEq false_and and_false Nat.reduceLT Int.reduceLE Int.reduceLT Int.reduceToNat Int.reduceNeg Int.reduceAdd Nat.le_refl List.length_append beq_true beq_false Bool.not_eq_eq_eq_not or_false false_or dX ad ae aP aJ bt bI aD aS aA aL bU aZ
theorem xH {l:List aa} {k:Nat} (hk:k<l.length):l.take (k+1)=l.take k++[cP l k]:=by rw[List.take_succ_eq_append_getElem hk,fx hk]
end Go.Proofs.YtalkncaokeaifaaGreatDoor.V

namespace Go.Proofs.YtalkncaokeaifaaGreatDoor.V
open Go.RowKit Go.Shelf Go.Lib Go.Sort
instance:Inhabited af:=⟨⟨0,0⟩⟩
variable {P:Program} {w:World} {D:Nat->Prop} {ι:Names}
theorem rS {vs:Array Value} (h:fE P w D ι [] vs):vs= #[]:=Array.eq_empty_of_size_eq_zero h.1
theorem jc {a:AV} {r:List AV} {vs:Array Value} (h:fE P w D ι (a::r) vs):∃u us,vs=(u::us).toArray/\dE P w D ι a u/\fE P w D ι r us.toArray:=by
 obtain⟨h1,h2⟩:=h
 obtain⟨l⟩:=vs
 cases l with
 |nil=>simp at h1
 |cons u us=>
  obtain⟨u',hu,hr⟩:=h2 0 a rfl
  simp at hu;subst hu
  exact⟨u,us,rfl,hr,by simpa using h1,fun j b hj=>by
   obtain⟨v,hv,nT⟩:=h2 (j+1) b (by simpa using hj)
   exact⟨v,by simpa using hv,nT⟩⟩
def O6:Prop:=∀(si off cap:Nat) (d:Array af) (w:World),HoldsK fV 2 w si off d->si<w.heap.size->d.size<4611686018427387904->
 Calls Tryz.prog 160 #[.slice (some ⟨si,off,none⟩) d.size cap,.func (.func 115) #[] #[]] w fun e w'=>e=.returned (.tuple #[])/\∃d' n os,PermIn 0 d.size d d'/\SortedIn (ltOf om) 0 d.size d'/\w'=sortWorldK fV 2 w si off n d' os
def O7:Prop:=∀(p:Option Addr) (cap:Nat) (fv:Value) (w:World),Calls Tryz.prog 160 #[.slice p 0 cap,fv] w fun e w'=>e=.returned (.tuple #[])/\w'=w
theorem Nf (p:af) (j:Nat) (a:AV) (h:(ao p)[j]? =some a) (P:Program) (w:World) (D:Nat->Prop) (ι:Names):dE P w D ι a (fV p)[j]! :=by
 match j,h with
 |0,h=>simp[ao]at h;subst h;exact .eE _ _ (.int _ _)
 |1,h=>simp[ao]at h;subst h;exact .eE _ _ (.int _ _)
 |j+2,h=>simp[ao]at h
theorem Ih (hC:O6) (hN:O7) (ps:List af) (hlen:ps.length<=1048576) (σ:au) (id:Id) (hg:σ.get id=some ⟨true,2,ps.map ao⟩):
  Call Tryz.prog 160 [.own id 0 ps.length,.fn 115 []] σ fun r σ'=>σ'.next=σ.next/\(∀x,x≠id->σ'.get x=σ.get x)/\∃qs,σ'.get id=some ⟨true,2,qs.map ao⟩/\qs.length=ps.length/\(∀x,x∈qs↔x∈ps)/\∀i j:Nat,i<j->j<qs.length->k8 (nU qs j) (nU qs i)=false:=by
 refine fh fun hs D ι w vs S U A=>?_
 obtain⟨u1,Y6,rfl,h1,h2⟩:=jc A
 obtain⟨u2,Y7,h3,h4,h5⟩:=jc h2
 simp at h3;subst h3
 have:=rS h5
 simp at this;subst this
 obtain⟨o,cap,B,rfl,hB,ye,ho,sJ,Yi,hk⟩:=iz h1
 obtain⟨L5,gf,rfl,_,hz,_,_⟩:=s4 h4
 have YS:L5= #[]:=Array.eq_empty_of_size_eq_zero (by simpa using hz)
 subst YS
 by_cases h0:ps=[]
 ·subst h0
  refine(hN _ _ _ w).mono ?_
  rintro e w' ⟨rfl,rfl⟩
  exact⟨.fN [],σ.get,σ.next,D,ι,_,rfl,⟨rfl,fun _ _=>rfl,[],hg,rfl,fun x=>Iff.rfl,fun i j _ hj=>by simp at hj⟩,Step.refl _ _ _ _,S,U,Nat.le_refl _,.fN [] #[] (fun _=>Go.undef) rfl (fun j hj=>by simp at hj) (fun j a h=>by simp at h)⟩
 have kC:0<ps.length:=List.length_pos_iff.2 h0
 obtain⟨B',ef,R,k6,po⟩:=S.row id _ hg
 rw[hB]at ef;injection ef with ef;subst ef
 replace R:=R.row hk
 have fc:B.sz=2:=R.sz
 have AI:o=0:=by rcases ho with h|h<;>omega
 subst AI
 obtain⟨cur,T,hblk,dW,y5⟩:=R.cur
 have wb:ps.length*2<=B.C:=by simpa using R.fits
 have hH:HoldsK fV 2 w B.b 0 ps.toArray:=by
  intro t ht
  rw[size_flatK]at ht
  have WL:t<ps.length*2:=by simpa using ht
  have hi:t / 2<ps.length:=ab
  have Nv:w.frozen? ⟨B.b,0+t,none⟩=false:=by
   simp only[World.frozen?,hblk];simp
  refine⟨?_,Nv⟩
  rw[get_flatK _ _ _ _ ht]
  have hd:(ps.toArray)[t / 2]! =ps[t / 2]:=by simp[getElem!_pos,hi]
  rw[hd]
  have hj:t % 2=0∨t % 2=1:=ab
  have YD:0+t=(t / 2)*2+t % 2:=ab
  rw[YD]
  rcases hj with hj|hj
  ·obtain⟨v,hv,hr⟩:=R.at_ (t / 2) 0 (ao ps[t / 2]) _ (by simp[hi]) rfl
   rw[dI hr]at hv
   rw[hj];exact hv
  ·obtain⟨v,hv,hr⟩:=R.at_ (t / 2) 1 (ao ps[t / 2]) _ (by simp[hi]) rfl
   rw[dI hr]at hv
   rw[hj];exact hv
 have iY:B.b<w.heap.size:=(Array.getElem?_eq_some_iff.1 hblk).1
 have J4:=hC B.b 0 cap ps.toArray w hH iY (by simp;omega)
 rw[show ps.toArray.size=ps.length from by simp]at J4
 refine J4.mono ?_
 rintro e w' ⟨rfl,d',m,os,⟨yl,_,pY⟩,hsort,rfl⟩
 have J5:d'.size=ps.length:=by rw[yl];simp
 have UO:d'.toList.length=ps.length:=by simpa using J5
 have hP:d'.toList.Perm ps:=by
  have e1:d'.extract 0 ps.length=d':=by rw[<-J5];exact Array.extract_size
  have e2:ps.toArray.extract 0 ps.length=ps.toArray:=by
   have:ps.length=ps.toArray.size:=by simp
   rw[this];exact Array.extract_size
  rw[e1,e2]at pY
  simpa using pY
 have hF:∀t,t<ps.length*2->(flatK fV 2 d')[t]! =(fV d'[t / 2]!)[t % 2]! :=fun t ht=>get_flatK _ _ _ _ (by rw[J5];exact ht)
 have TI:(flatK fV 2 d').size=ps.length*2:=by rw[size_flatK,J5]
 have hw:sortWorldK fV 2 w B.b 0 m d' os=Go.Sort.grow (Go.Sort.putRow (fun v:Value=>v) (Go.Sort.ahead w m) B.b 0 (flatK fV 2 d')) os:=rfl
 rw[hw]
 clear hw hH
 generalize flatK fV 2 d'=Fl at hF TI ⊢
 have rq:=S.put (r':=⟨true,2,d'.toList.map ao⟩) (cur':=Go.Sort.putCells (fun v:Value=>v) 0 Fl cur) hg rfl hB hblk (by simp[Go.Sort.putCells]) rfl rfl (by simpa[J5]using wb) (fun cs dW=>by
   obtain⟨x,_,rfl⟩:=List.mem_map.1 dW;rfl) (fun cs dW a ha=>by
   obtain⟨x,_,rfl⟩:=List.mem_map.1 dW
   simp[ao]at ha;rcases ha with rfl|rfl<;>rfl) (fun i j cs a hi hj=>by
   have wc:i<d'.toList.length:=by
    have:=(List.getElem?_eq_some_iff.1 hi).1
    simpa using this
   have Ut:j<2:=by
    have:=List.mem_of_getElem? hi
    obtain⟨x,_,rfl⟩:=List.mem_map.1 this
    exact(List.getElem?_eq_some_iff.1 hj).1
   have QY:cs=ao d'[i]! :=by
    rw[List.getElem?_map,List.getElem?_eq_getElem wc]at hi
    simp at hi
    rw[<-hi,getElem!_pos d' i (by simpa using wc)]
   subst QY
   have Dv:i*2+j<ps.length*2:=ab
   refine⟨(fV d'[i]!)[j]!,?_,Nf _ _ _ hj _ _ _ _⟩
   have nR:i*2+j<cur.size:=by rw[dW];omega
   show(Go.Sort.putCells (fun v:Value=>v) 0 Fl cur)[i*2+j]? = _
   simp only[Go.Sort.putCells,Array.getElem?_mapIdx,Array.getElem?_eq_getElem nR,Option.map_some]
   rw[if_pos ⟨Nat.zero_le _,by rw[TI];omega⟩,Nat.sub_zero,hF _ Dv,show(i*2+j) / 2=i from by omega,show(i*2+j) % 2=j from by omega])
 obtain⟨S1,qK⟩:=rq
 have Ez:(Go.Sort.putRow (fun v:Value=>v) (Go.Sort.ahead w m) B.b 0 Fl).heap.size=w.heap.size:=by simp
 have Cm:∀k,k<(w.setRow B.b (Go.Sort.putCells (fun v:Value=>v) 0 Fl cur)).heap.size->(Go.Sort.grow (Go.Sort.putRow (fun v:Value=>v) (Go.Sort.ahead w m) B.b 0 Fl) os).heap[k]? =(w.setRow B.b (Go.Sort.putCells (fun v:Value=>v) 0 Fl cur)).heap[k]? :=fun k hk=>by
  have F6:k<w.heap.size:=by simpa using hk
  rw[heap_grow_old _ _ (by rw[Ez];exact F6)]
  simp only[Go.Sort.putRow,Go.Sort.mapBlock,heap_ahead,Array.getElem?_modify]
  by_cases Q4:B.b=k
  ·subst Q4
   rw[setRow_heap w B.b cur _ T _ hblk,if_pos rfl,hblk];rfl
  ·rw[if_neg Q4,setRow_other w B.b k _ (fun h=>Q4 h.symm)]
 have pZ:(w.setRow B.b (Go.Sort.putCells (fun v:Value=>v) 0 Fl cur)).heap.size<=(Go.Sort.grow (Go.Sort.putRow (fun v:Value=>v) (Go.Sort.ahead w m) B.b 0 Fl) os).heap.size:=by
  rw[size_grow,Ez];simp
 have S2:=S1.stay (D':=D) (ι':=ι) Cm pZ (fun _ h=>h) (fun b hb=>Nat.lt_of_lt_of_le (S1.dead b hb) pZ) (fun _ h=>.inl h) (fun _ _ h=>h)
 have ML:=qK.trans (Step.stay (D':=D) (ι':=ι) S1 Cm pZ (by simp[Go.Sort.grow,Go.Sort.putRow,Go.Sort.mapBlock,Go.Sort.ahead]) (by simp[Go.Sort.grow,Go.Sort.putRow,Go.Sort.mapBlock,Go.Sort.ahead]) (by simp[Go.Sort.grow,Go.Sort.putRow,Go.Sort.mapBlock,Go.Sort.ahead]) (fun _ h=>h) (fun _ h=>.inl h) (fun _ _ h=>h))
 refine⟨.fN [],bz σ.get id ⟨true,2,d'.toList.map ao⟩,σ.next,D,ι,_,rfl,⟨rfl,fun x hx=>by simp[bz,hx],d'.toList,by simp[bz],UO,fun x=>hP.mem_iff,fun i j yh hj=>?_⟩,ML,S2,U,Nat.le_refl _,.fN [] #[] (fun _=>Go.undef) rfl (fun j hj=>by simp at hj) (fun j a h=>by simp at h)⟩
 have h:=hsort i j (Nat.zero_le _) yh ab
 rw[ltOf,lh]at h
 have e1:d'[j]! =nU d'.toList j:=by rw[j3 hj,getElem!_pos d' j (by simpa using hj)];rfl
 have hi:i<d'.toList.length:=ab
 have e2:d'[i]! =nU d'.toList i:=by rw[j3 hi,getElem!_pos d' i (by simpa using hi)];rfl
 rw[<-e1,<-e2];exact h
end Go.Proofs.YtalkncaokeaifaaGreatDoor.V

namespace Go.Proofs
open Go.Shelf
def Tryz.Fi:Go.Shelf.Ren:=⟨fun|6=>160|15=>142|14=>181|28=>170|29=>148|20=>192|21=>193|22=>194|23=>195|24=>196|25=>197|26=>198|27=>199|46=>206|47=>183|48=>184|49=>207|50=>208|57=>209|n=>n,fun|22=>216|24=>87|25=>178|3=>3|39=>135|0=>0|53=>248|55=>104|4=>4|46=>267|45=>266|50=>157|5=>5|9=>9|66=>282|70=>286|76=>300|77=>301|n=>n,fun|n=>n⟩
theorem Tryz.LK:Go.Proofs.SlLaysF0.n6 Tryz.prog Tryz.Fi:={
 mixed:=by kernel_rfl
 f6:=⟨Tryz.f160.name,by decide,Tryz.func160.trans (congrArg some (by kernel_rfl))⟩
 f14:=⟨Tryz.f181.name,by decide,Tryz.func181.trans (congrArg some (by kernel_rfl))⟩
 f15:=Tryz.func142.trans (congrArg some (by kernel_rfl))
 f20:=⟨Tryz.f192.name,by decide,Tryz.func192.trans (congrArg some (by kernel_rfl))⟩
 f21:=⟨Tryz.f193.name,by decide,Tryz.func193.trans (congrArg some (by kernel_rfl))⟩
 f22:=⟨Tryz.f194.name,by decide,Tryz.func194.trans (congrArg some (by kernel_rfl))⟩
 f23:=⟨Tryz.f195.name,by decide,Tryz.func195.trans (congrArg some (by kernel_rfl))⟩
 f24:=⟨Tryz.f196.name,by decide,Tryz.func196.trans (congrArg some (by kernel_rfl))⟩
 f25:=⟨Tryz.f197.name,by decide,Tryz.func197.trans (congrArg some (by kernel_rfl))⟩
 f26:=⟨Tryz.f198.name,by decide,Tryz.func198.trans (congrArg some (by kernel_rfl))⟩
 f27:=⟨Tryz.f199.name,by decide,Tryz.func199.trans (congrArg some (by kernel_rfl))⟩
 f28:=Tryz.func170.trans (congrArg some (by kernel_rfl))
 f29:=Tryz.func148.trans (congrArg some (by kernel_rfl))
 f46:=⟨Tryz.f206.name,by decide,Tryz.func206.trans (congrArg some (by kernel_rfl))⟩
 f47:=Tryz.func183.trans (congrArg some (by kernel_rfl))
 f48:=Tryz.func184.trans (congrArg some (by kernel_rfl))
 f49:=⟨Tryz.f207.name,by decide,Tryz.func207.trans (congrArg some (by kernel_rfl))⟩
 f50:=⟨Tryz.f208.name,by decide,Tryz.func208.trans (congrArg some (by kernel_rfl))⟩
 f57:=⟨Tryz.f209.name,by decide,Tryz.func209.trans (congrArg some (by kernel_rfl))⟩
 t0:=Tryz.underlying0
 a0:=Tryz.isAgg0
 z0:=Tryz.sizeOf0
 v0:=Tryz.zeroValue0
 t3:=Tryz.underlying3
 a3:=Tryz.isAgg3
 z3:=Tryz.sizeOf3
 v3:=Tryz.zeroValue3
 t4:=Tryz.underlying4
 a4:=Tryz.isAgg4
 z4:=Tryz.sizeOf4
 v4:=Tryz.zeroValue4
 t5:=Tryz.underlying5
 a5:=Tryz.isAgg5
 z5:=Tryz.sizeOf5
 v5:=Tryz.zeroValue5
 t9:=Tryz.underlying9
 a9:=Tryz.isAgg9
 z9:=Tryz.sizeOf9
 v9:=Tryz.zeroValue9
 t22:=Tryz.underlying216
 a22:=Tryz.isAgg216
 z22:=Tryz.sizeOf216
 v22:=Tryz.zeroValue216
 t25:=Tryz.underlying178
 a25:=Tryz.isAgg178
 z25:=Tryz.sizeOf178
 v25:=Tryz.zeroValue178
 t39:=Tryz.underlying135
 a39:=Tryz.isAgg135
 z39:=Tryz.sizeOf135
 v39:=Tryz.zeroValue135
 t45:=Tryz.underlying266
 a45:=Tryz.isAgg266
 z45:=Tryz.sizeOf266
 v45:=Tryz.zeroValue266
 t46:=Tryz.underlying267
 a46:=Tryz.isAgg267
 z46:=Tryz.sizeOf267
 v46:=Tryz.zeroValue267
 t50:=Tryz.underlying157
 a50:=Tryz.isAgg157
 z50:=Tryz.sizeOf157
 v50:=Tryz.zeroValue157
 t53:=Tryz.underlying248
 a53:=Tryz.isAgg248
 z53:=Tryz.sizeOf248
 v53:=Tryz.zeroValue248
 t55:=Tryz.underlying104
 a55:=Tryz.isAgg104
 z55:=Tryz.sizeOf104
 v55:=Tryz.zeroValue104
 t66:=Tryz.underlying282
 a66:=Tryz.isAgg282
 z66:=Tryz.sizeOf282
 v66:=Tryz.zeroValue282
 t70:=Tryz.underlying286
 a70:=Tryz.isAgg286
 z70:=Tryz.sizeOf286
 v70:=Tryz.zeroValue286
 t76:=Tryz.underlying300
 a76:=Tryz.isAgg300
 z76:=Tryz.sizeOf300
 v76:=Tryz.zeroValue300
 t77:=Tryz.underlying301
 a77:=Tryz.isAgg301
 z77:=Tryz.sizeOf301
 v77:=Tryz.zeroValue301}
def Tryz.Fh:Go.Shelf.Ren:=⟨fun|6=>113|15=>142|14=>141|28=>170|29=>148|20=>162|21=>163|22=>164|23=>165|24=>166|25=>167|26=>168|27=>169|46=>182|47=>183|48=>184|49=>185|50=>186|57=>200|n=>n,fun|22=>38|24=>89|25=>179|3=>3|39=>135|0=>0|53=>248|55=>104|4=>4|46=>267|45=>266|50=>157|5=>5|9=>9|66=>282|70=>286|76=>300|77=>301|n=>n,fun|n=>n⟩
theorem Tryz.LJ:Go.Proofs.SlLaysF0.n6 Tryz.prog Tryz.Fh:={
 mixed:=by kernel_rfl
 f6:=⟨Tryz.f113.name,by decide,Tryz.func113.trans (congrArg some (by kernel_rfl))⟩
 f14:=⟨Tryz.f141.name,by decide,Tryz.func141.trans (congrArg some (by kernel_rfl))⟩
 f15:=Tryz.func142.trans (congrArg some (by kernel_rfl))
 f20:=⟨Tryz.f162.name,by decide,Tryz.func162.trans (congrArg some (by kernel_rfl))⟩
 f21:=⟨Tryz.f163.name,by decide,Tryz.func163.trans (congrArg some (by kernel_rfl))⟩
 f22:=⟨Tryz.f164.name,by decide,Tryz.func164.trans (congrArg some (by kernel_rfl))⟩
 f23:=⟨Tryz.f165.name,by decide,Tryz.func165.trans (congrArg some (by kernel_rfl))⟩
 f24:=⟨Tryz.f166.name,by decide,Tryz.func166.trans (congrArg some (by kernel_rfl))⟩
 f25:=⟨Tryz.f167.name,by decide,Tryz.func167.trans (congrArg some (by kernel_rfl))⟩
 f26:=⟨Tryz.f168.name,by decide,Tryz.func168.trans (congrArg some (by kernel_rfl))⟩
 f27:=⟨Tryz.f169.name,by decide,Tryz.func169.trans (congrArg some (by kernel_rfl))⟩
 f28:=Tryz.func170.trans (congrArg some (by kernel_rfl))
 f29:=Tryz.func148.trans (congrArg some (by kernel_rfl))
 f46:=⟨Tryz.f182.name,by decide,Tryz.func182.trans (congrArg some (by kernel_rfl))⟩
 f47:=Tryz.func183.trans (congrArg some (by kernel_rfl))
 f48:=Tryz.func184.trans (congrArg some (by kernel_rfl))
 f49:=⟨Tryz.f185.name,by decide,Tryz.func185.trans (congrArg some (by kernel_rfl))⟩
 f50:=⟨Tryz.f186.name,by decide,Tryz.func186.trans (congrArg some (by kernel_rfl))⟩
 f57:=⟨Tryz.f200.name,by decide,Tryz.func200.trans (congrArg some (by kernel_rfl))⟩
 t0:=Tryz.underlying0
 a0:=Tryz.isAgg0
 z0:=Tryz.sizeOf0
 v0:=Tryz.zeroValue0
 t3:=Tryz.underlying3
 a3:=Tryz.isAgg3
 z3:=Tryz.sizeOf3
 v3:=Tryz.zeroValue3
 t4:=Tryz.underlying4
 a4:=Tryz.isAgg4
 z4:=Tryz.sizeOf4
 v4:=Tryz.zeroValue4
 t5:=Tryz.underlying5
 a5:=Tryz.isAgg5
 z5:=Tryz.sizeOf5
 v5:=Tryz.zeroValue5
 t9:=Tryz.underlying9
 a9:=Tryz.isAgg9
 z9:=Tryz.sizeOf9
 v9:=Tryz.zeroValue9
 t22:=Tryz.underlying38
 a22:=Tryz.isAgg38
 z22:=Tryz.sizeOf38
 v22:=Tryz.zeroValue38
 t25:=Tryz.underlying179
 a25:=Tryz.isAgg179
 z25:=Tryz.sizeOf179
 v25:=Tryz.zeroValue179
 t39:=Tryz.underlying135
 a39:=Tryz.isAgg135
 z39:=Tryz.sizeOf135
 v39:=Tryz.zeroValue135
 t45:=Tryz.underlying266
 a45:=Tryz.isAgg266
 z45:=Tryz.sizeOf266
 v45:=Tryz.zeroValue266
 t46:=Tryz.underlying267
 a46:=Tryz.isAgg267
 z46:=Tryz.sizeOf267
 v46:=Tryz.zeroValue267
 t50:=Tryz.underlying157
 a50:=Tryz.isAgg157
 z50:=Tryz.sizeOf157
 v50:=Tryz.zeroValue157
 t53:=Tryz.underlying248
 a53:=Tryz.isAgg248
 z53:=Tryz.sizeOf248
 v53:=Tryz.zeroValue248
 t55:=Tryz.underlying104
 a55:=Tryz.isAgg104
 z55:=Tryz.sizeOf104
 v55:=Tryz.zeroValue104
 t66:=Tryz.underlying282
 a66:=Tryz.isAgg282
 z66:=Tryz.sizeOf282
 v66:=Tryz.zeroValue282
 t70:=Tryz.underlying286
 a70:=Tryz.isAgg286
 z70:=Tryz.sizeOf286
 v70:=Tryz.zeroValue286
 t76:=Tryz.underlying300
 a76:=Tryz.isAgg300
 z76:=Tryz.sizeOf300
 v76:=Tryz.zeroValue300
 t77:=Tryz.underlying301
 a77:=Tryz.isAgg301
 z77:=Tryz.sizeOf301
 v77:=Tryz.zeroValue301}
end Go.Proofs

namespace Go.Proofs.YtalkncaokeaifaaGreatDoor.V
open Go.RowKit Go.Shelf Go.Lib Go.Sort
theorem BU (w:World) (a b:Int):Calls Tryz.prog 144 #[.int .i64 a,.int .i64 b] w fun e w'=>e=.returned (.int .i64 (qS a b))/\w=w':=by
 go_enter Tryz.func144,Tryz.ntmps144
 go_wp2_with go_in
 all_goals
  go_ret
  exact⟨Gu (by unfold qS;split<;>(try split)<;>omega),rfl⟩
theorem Ob (w:World) (a b:Int) (g:Nat) (ha:w.cell? ⟨g,0,none⟩=some (.int .i64 a)) (hb:w.cell? ⟨g,1,none⟩=some (.int .i64 b)):Calls Tryz.prog 143 #[.slice (some ⟨g,0,none⟩) 2 2] w fun e w'=>e=.returned (.int .i64 (Od a b))/\w=w':=by
 go_enter Tryz.func143,Tryz.ntmps143
 go_wp2_with fail
 go_loop [8] (fun i=>∃k:Nat,k<=2/\i=.int .i64 k/\Hid ((1<=k->a=0)/\(2<=k->b=0))) (fun i=>2-(intOf i).toNat)
 case atStart=>exact⟨0,ab,rfl,Lib.hid ⟨fun h=>ab,fun h=>ab⟩⟩
 case round=>
  obtain⟨k,hk,rfl,hz⟩:=hrel
  have h3:k=0∨k=1∨k=2:=ab
  rcases h3 with rfl|rfl|rfl
  ·go_wp2_with fail
   ·rename_i h
    go_ret
    exact⟨Gu (by unfold Od;simp_all),rfl⟩
   ·rename_i h
    go_round
    case rel=>exact⟨1,ab,rfl,Lib.hid ⟨fun _=>by simpa using h,fun h=>ab⟩⟩
    case measure=>simp[intOf]
  ·have h0:=hz.out.1 ab
   replace h0:=Lib.hid h0
   go_wp2_with fail
   ·go_ret
    exact⟨Gu (by unfold Od;rw[if_pos h0.out]),rfl⟩
   ·rename_i h
    go_round
    case rel=>exact⟨2,ab,rfl,Lib.hid ⟨fun _=>h0.out,fun _=>by simpa using h⟩⟩
    case measure=>simp[intOf]
  ·have h0:=Lib.hid (hz.out.1 ab)
   have h1:=Lib.hid (hz.out.2 ab)
   go_wp2_with fail
   go_ret
   exact⟨Gu (by unfold Od;rw[if_pos h0.out,h1.out]),rfl⟩
def Grown (w w':World):Prop:=∃(q:Nat) (os:Array Obj),w'=Go.Sort.grow (w.drewN q) os
theorem Grown.refl (w:World):Grown w w:=⟨0, #[],by rw[grow_empty];rfl⟩
theorem Grown.alloc {w w':World} (h:Grown w w') (o:Obj):Grown w (w'.alloc o):=by
 obtain⟨q,os,rfl⟩:=h
 exact⟨q,os++ #[o],by rw[alloc_eq_grow,grow_grow]⟩
theorem Grown.drew {w w':World} (h:Grown w w'):Grown w w'.drew:=by
 obtain⟨q,os,rfl⟩:=h
 exact⟨q+1,os,by rw[drew_grow];rfl⟩
theorem Grown.dN {w w':World} (h:Grown w w') (n:Nat):Grown w (w'.drewN n):=by
 obtain⟨q,os,rfl⟩:=h
 exact⟨q+n,os,by
  show Go.Sort.grow ((w.drewN q).drewN n) os=Go.Sort.grow (w.drewN (q+n)) os
  simp[World.drewN,Nat.add_assoc]⟩
theorem nq (w:World) (a b:af):Calls Tryz.prog 115 #[.agg #[.int .i64 a.fu,.int .i64 a.eW],.agg #[.int .i64 b.fu,.int .i64 b.eW]] w fun e w'=>e=.returned (.int .i64 (om a b))/\Grown w w':=by
 go_enter Tryz.func115,Tryz.ntmps115
 go_wp2_with fail
 go_region_held3 (fun w'=>w'.cell? ⟨w.heap.size,0,none⟩=some (.int .i64 a.fu)/\w'.cell? ⟨w.heap.size,1,none⟩=some (.int .i64 a.eW)/\
   w'.cell? ⟨w.heap.size+1,0,none⟩=some (.int .i64 b.fu)/\w'.cell? ⟨w.heap.size+1,1,none⟩=some (.int .i64 b.eW))
  (first|go_keep)
  (first|(go_at_call 144;refine(BU _ _ _).mono ?_;rintro e w' ⟨rfl,rfl⟩)|(go_at_call 143;refine(Ob _ (qS a.eW b.eW) (qS a.fu b.fu) _ (by simp[go_sem]) (by simp[go_sem])).mono ?_;rintro e w' ⟨rfl,rfl⟩))
 go_wp2_with fail
 go_ret
 refine⟨rfl,?_⟩
 repeat(first|(with_reducible exact Grown.refl _)|(refine Grown.alloc ?_ _)|(refine Grown.drew ?_)|(refine Grown.dN ?_ _))
theorem Y2:SWO (ltOf om) where
 irrefl x:=by rw[ltOf,lh];exact gz
 trans x y z h1 h2:=by rw[ltOf,lh]at *;exact iw h1 h2
 ntrans x y z h1 h2:=by rw[ltOf,lh]at *;rw[l9]at *;omega
theorem VM:O6:=fun si off cap d w hH hblk fc=>by
 have eg:∀args w,(callFunc 115 args).run Tryz.prog w=.ok (.enter 115 args) w:=enters_of Tryz.func115 (by kernel_rfl) rfl
 have h:=AnyQ.slices_SortFunc Tryz.LK 2 Tryz.isAgg87 Tryz.sizeOf87 fV (fun _=>rfl) (fun x v hv=>by simp[fV]at hv;rcases hv with rfl|rfl<;>rfl) om Y2 115 #[] si off cap d w eg (fun m os dk _ x y=>(nq _ x y).mono fun _ _ ⟨he,q,os',hw⟩=>⟨he,q,os',hw⟩) hH hblk fc
 exact h
theorem PQ:O7:=fun p cap fv w=>AnyF.slices_SortFunc_none Tryz.LK p cap fv w
instance:Inhabited aa:=⟨⟨⟨0,0⟩,0⟩⟩
variable {P:Program} {w:World} {D:Nat->Prop} {ι:Names}
def G5 (a b:aa):Int:=om a.bQ b.bQ
theorem uG (a b:aa):ltOf G5 a b=k8 a.bQ b.bQ:=by rw[ltOf,G5,lh]
def Jc:Prop:=∀(si off cap:Nat) (d:Array aa) (w:World),HoldsK fD 3 w si off d->si<w.heap.size->d.size<4611686018427387904->
 Calls Tryz.prog 113 #[.slice (some ⟨si,off,none⟩) d.size cap,.func (.func 114) #[] #[]] w fun e w'=>e=.returned (.tuple #[])/\∃d' n os,PermIn 0 d.size d d'/\SortedIn (ltOf G5) 0 d.size d'/\w'=sortWorldK fD 3 w si off n d' os
def Jd:Prop:=∀(p:Option Addr) (cap:Nat) (fv:Value) (w:World),Calls Tryz.prog 113 #[.slice p 0 cap,fv] w fun e w'=>e=.returned (.tuple #[])/\w'=w
theorem JK (p:aa) (j:Nat) (a:AV) (h:(ai p)[j]? =some a) (P:Program) (w:World) (D:Nat->Prop) (ι:Names):dE P w D ι a (fD p)[j]! :=by
 match j,h with
 |0,h=>simp[ai]at h;subst h;exact .eE _ _ (.int _ _)
 |1,h=>simp[ai]at h;subst h;exact .eE _ _ (.int _ _)
 |2,h=>simp[ai]at h;subst h;exact .eE _ _ (.int _ _)
 |j+3,h=>simp[ai]at h
theorem Ig (hC:Jc) (hN:Jd) (ps:List aa) (hlen:ps.length<=1048576) (σ:au) (id:Id) (hg:σ.get id=some ⟨true,3,ps.map ai⟩):
  Call Tryz.prog 113 [.own id 0 ps.length,.fn 114 []] σ fun r σ'=>σ'.next=σ.next/\(∀x,x≠id->σ'.get x=σ.get x)/\∃qs,σ'.get id=some ⟨true,3,qs.map ai⟩/\qs.length=ps.length/\qs.Perm ps/\∀i j:Nat,i<j->j<qs.length->k8 (cP qs j).bQ (cP qs i).bQ=false:=by
 refine fh fun hs D ι w vs S U A=>?_
 obtain⟨u1,Y6,rfl,h1,h2⟩:=jc A
 obtain⟨u2,Y7,h3,h4,h5⟩:=jc h2
 simp at h3;subst h3
 have:=rS h5
 simp at this;subst this
 obtain⟨o,cap,B,rfl,hB,ye,ho,sJ,Yi,hk⟩:=iz h1
 obtain⟨L5,gf,rfl,_,hz,_,_⟩:=s4 h4
 have YS:L5= #[]:=Array.eq_empty_of_size_eq_zero (by simpa using hz)
 subst YS
 by_cases h0:ps=[]
 ·subst h0
  refine(hN _ _ _ w).mono ?_
  rintro e w' ⟨rfl,rfl⟩
  exact⟨.fN [],σ.get,σ.next,D,ι,_,rfl,⟨rfl,fun _ _=>rfl,[],hg,rfl,List.Perm.refl _,fun i j _ hj=>by simp at hj⟩,Step.refl _ _ _ _,S,U,Nat.le_refl _,.fN [] #[] (fun _=>Go.undef) rfl (fun j hj=>by simp at hj) (fun j a h=>by simp at h)⟩
 have kC:0<ps.length:=List.length_pos_iff.2 h0
 obtain⟨B',ef,R,k6,po⟩:=S.row id _ hg
 rw[hB]at ef;injection ef with ef;subst ef
 replace R:=R.row hk
 have fc:B.sz=3:=R.sz
 have AI:o=0:=by rcases ho with h|h<;>omega
 subst AI
 obtain⟨cur,T,hblk,dW,y5⟩:=R.cur
 have wb:ps.length*3<=B.C:=by simpa using R.fits
 have hH:HoldsK fD 3 w B.b 0 ps.toArray:=by
  intro t ht
  rw[size_flatK]at ht
  have WL:t<ps.length*3:=by simpa using ht
  have hi:t / 3<ps.length:=ab
  have Nv:w.frozen? ⟨B.b,0+t,none⟩=false:=by
   simp only[World.frozen?,hblk];simp
  refine⟨?_,Nv⟩
  rw[get_flatK _ _ _ _ ht]
  have hd:(ps.toArray)[t / 3]! =ps[t / 3]:=by simp[getElem!_pos,hi]
  rw[hd]
  have hj:t % 3=0∨t % 3=1∨t % 3=2:=ab
  have YD:0+t=(t / 3)*3+t % 3:=ab
  rw[YD]
  rcases hj with hj|hj|hj
  ·obtain⟨v,hv,hr⟩:=R.at_ (t / 3) 0 (ai ps[t / 3]) _ (by simp[hi]) rfl
   rw[dI hr]at hv
   rw[hj];exact hv
  ·obtain⟨v,hv,hr⟩:=R.at_ (t / 3) 1 (ai ps[t / 3]) _ (by simp[hi]) rfl
   rw[dI hr]at hv
   rw[hj];exact hv
  ·obtain⟨v,hv,hr⟩:=R.at_ (t / 3) 2 (ai ps[t / 3]) _ (by simp[hi]) rfl
   rw[dI hr]at hv
   rw[hj];exact hv
 have iY:B.b<w.heap.size:=(Array.getElem?_eq_some_iff.1 hblk).1
 have J4:=hC B.b 0 cap ps.toArray w hH iY (by simp;omega)
 rw[show ps.toArray.size=ps.length from by simp]at J4
 refine J4.mono ?_
 rintro e w' ⟨rfl,d',m,os,⟨yl,_,pY⟩,hsort,rfl⟩
 have J5:d'.size=ps.length:=by rw[yl];simp
 have UO:d'.toList.length=ps.length:=by simpa using J5
 have hP:d'.toList.Perm ps:=by
  have e1:d'.extract 0 ps.length=d':=by rw[<-J5];exact Array.extract_size
  have e2:ps.toArray.extract 0 ps.length=ps.toArray:=by
   have:ps.length=ps.toArray.size:=by simp
   rw[this];exact Array.extract_size
  rw[e1,e2]at pY
  simpa using pY
 have hF:∀t,t<ps.length*3->(flatK fD 3 d')[t]! =(fD d'[t / 3]!)[t % 3]! :=fun t ht=>get_flatK _ _ _ _ (by rw[J5];exact ht)
 have TI:(flatK fD 3 d').size=ps.length*3:=by rw[size_flatK,J5]
 have hw:sortWorldK fD 3 w B.b 0 m d' os=Go.Sort.grow (Go.Sort.putRow (fun v:Value=>v) (Go.Sort.ahead w m) B.b 0 (flatK fD 3 d')) os:=rfl
 rw[hw]
 clear hw hH
 generalize flatK fD 3 d'=Fl at hF TI ⊢
 have rq:=S.put (r':=⟨true,3,d'.toList.map ai⟩) (cur':=Go.Sort.putCells (fun v:Value=>v) 0 Fl cur) hg rfl hB hblk (by simp[Go.Sort.putCells]) rfl rfl (by simpa[J5]using wb) (fun cs dW=>by
   obtain⟨x,_,rfl⟩:=List.mem_map.1 dW;rfl) (fun cs dW a ha=>by
   obtain⟨x,_,rfl⟩:=List.mem_map.1 dW
   simp[ai]at ha;rcases ha with rfl|rfl|rfl<;>rfl) (fun i j cs a hi hj=>by
   have wc:i<d'.toList.length:=by
    have:=(List.getElem?_eq_some_iff.1 hi).1
    simpa using this
   have Ut:j<3:=by
    have:=List.mem_of_getElem? hi
    obtain⟨x,_,rfl⟩:=List.mem_map.1 this
    exact(List.getElem?_eq_some_iff.1 hj).1
   have QY:cs=ai d'[i]! :=by
    rw[List.getElem?_map,List.getElem?_eq_getElem wc]at hi
    simp at hi
    rw[<-hi,getElem!_pos d' i (by simpa using wc)]
   subst QY
   have Dv:i*3+j<ps.length*3:=ab
   refine⟨(fD d'[i]!)[j]!,?_,JK _ _ _ hj _ _ _ _⟩
   have nR:i*3+j<cur.size:=by rw[dW];omega
   show(Go.Sort.putCells (fun v:Value=>v) 0 Fl cur)[i*3+j]? = _
   simp only[Go.Sort.putCells,Array.getElem?_mapIdx,Array.getElem?_eq_getElem nR,Option.map_some]
   rw[if_pos ⟨Nat.zero_le _,by rw[TI];omega⟩,Nat.sub_zero,hF _ Dv,show(i*3+j) / 3=i from by omega,show(i*3+j) % 3=j from by omega])
 obtain⟨S1,qK⟩:=rq
 have Ez:(Go.Sort.putRow (fun v:Value=>v) (Go.Sort.ahead w m) B.b 0 Fl).heap.size=w.heap.size:=by simp
 have Cm:∀k,k<(w.setRow B.b (Go.Sort.putCells (fun v:Value=>v) 0 Fl cur)).heap.size->(Go.Sort.grow (Go.Sort.putRow (fun v:Value=>v) (Go.Sort.ahead w m) B.b 0 Fl) os).heap[k]? =(w.setRow B.b (Go.Sort.putCells (fun v:Value=>v) 0 Fl cur)).heap[k]? :=fun k hk=>by
  have F6:k<w.heap.size:=by simpa using hk
  rw[heap_grow_old _ _ (by rw[Ez];exact F6)]
  simp only[Go.Sort.putRow,Go.Sort.mapBlock,heap_ahead,Array.getElem?_modify]
  by_cases Q4:B.b=k
  ·subst Q4
   rw[setRow_heap w B.b cur _ T _ hblk,if_pos rfl,hblk];rfl
  ·rw[if_neg Q4,setRow_other w B.b k _ (fun h=>Q4 h.symm)]
 have pZ:(w.setRow B.b (Go.Sort.putCells (fun v:Value=>v) 0 Fl cur)).heap.size<=(Go.Sort.grow (Go.Sort.putRow (fun v:Value=>v) (Go.Sort.ahead w m) B.b 0 Fl) os).heap.size:=by
  rw[size_grow,Ez];simp
 have S2:=S1.stay (D':=D) (ι':=ι) Cm pZ (fun _ h=>h) (fun b hb=>Nat.lt_of_lt_of_le (S1.dead b hb) pZ) (fun _ h=>.inl h) (fun _ _ h=>h)
 have ML:=qK.trans (Step.stay (D':=D) (ι':=ι) S1 Cm pZ (by simp[Go.Sort.grow,Go.Sort.putRow,Go.Sort.mapBlock,Go.Sort.ahead]) (by simp[Go.Sort.grow,Go.Sort.putRow,Go.Sort.mapBlock,Go.Sort.ahead]) (by simp[Go.Sort.grow,Go.Sort.putRow,Go.Sort.mapBlock,Go.Sort.ahead]) (fun _ h=>h) (fun _ h=>.inl h) (fun _ _ h=>h))
 refine⟨.fN [],bz σ.get id ⟨true,3,d'.toList.map ai⟩,σ.next,D,ι,_,rfl,⟨rfl,fun x hx=>by simp[bz,hx],d'.toList,by simp[bz],UO,hP,fun i j yh hj=>?_⟩,ML,S2,U,Nat.le_refl _,.fN [] #[] (fun _=>Go.undef) rfl (fun j hj=>by simp at hj) (fun j a h=>by simp at h)⟩
 have h:=hsort i j (Nat.zero_le _) yh ab
 rw[uG]at h
 have e1:d'[j]! =cP d'.toList j:=by rw[fx hj,getElem!_pos d' j (by simpa using hj)];rfl
 have hi:i<d'.toList.length:=ab
 have e2:d'[i]! =cP d'.toList i:=by rw[fx hi,getElem!_pos d' i (by simpa using hi)];rfl
 rw[<-e1,<-e2];exact h
theorem P8 {w w':World} (h:Grown w w') (os:Array Obj):Grown w (Go.Sort.grow w' os):=by
 obtain⟨q,os0,rfl⟩:=h
 exact⟨q,os0++os,by rw[grow_grow]⟩
theorem M5 (w:World) (a b:aa):Calls Tryz.prog 114 #[.agg #[.int .i64 a.bQ.fu,.int .i64 a.bQ.eW,.int .i64 a.cK],.agg #[.int .i64 b.bQ.fu,.int .i64 b.bQ.eW,.int .i64 b.cK]] w fun e w'=>e=.returned (.int .i64 (G5 a b))/\Grown w w':=by
 go_enter Tryz.func114,Tryz.ntmps114
 go_wp2_with (first|(go_at_call 115;refine(nq _ a.bQ b.bQ).mono ?_;rintro e w' ⟨rfl,hG⟩))
 obtain⟨q,os,rfl⟩:=hG
 go_ret
 refine⟨rfl,P8 (Grown.dN ?_ q) os⟩
 repeat(first|(with_reducible exact Grown.refl _)|(refine Grown.alloc ?_ _)|(refine Grown.drew ?_)|(refine Grown.dN ?_ _))
theorem Y1:SWO (ltOf G5) where
 irrefl x:=by rw[uG];exact gz
 trans x y z h1 h2:=by rw[uG]at *;exact iw h1 h2
 ntrans x y z h1 h2:=by rw[uG]at *;rw[l9]at *;omega
theorem R7:Jc:=fun si off cap d w hH hblk fc=>by
 have eg:∀args w,(callFunc 114 args).run Tryz.prog w=.ok (.enter 114 args) w:=enters_of Tryz.func114 (by kernel_rfl) rfl
 have h:=AnyQ.slices_SortFunc Tryz.LJ 3 Tryz.isAgg89 Tryz.sizeOf89 fD (fun _=>rfl) (fun x v hv=>by simp[fD]at hv;rcases hv with rfl|rfl|rfl<;>rfl) G5 Y1 114 #[] si off cap d w eg (fun m os dk _ x y=>(M5 _ x y).mono fun _ _ ⟨he,q,os',hw⟩=>⟨he,q,os',hw⟩) hH hblk fc
 exact h
theorem R8:Jd:=fun p cap fv w=>AnyF.slices_SortFunc_none Tryz.LJ p cap fv w
end Go.Proofs.YtalkncaokeaifaaGreatDoor.V

namespace Go.Proofs.YtalkncaokeaifaaGreatDoor.V
open Go.RowKit
attribute [local irreducible] dH wpOps eB Call
attribute [local go_sem] ax eo dS ez ev cZ upd bD K.av bR AV.cells AV.cell rowOf rowsOf part ld rowAt eL bz bx cW dj eO bf cC dw er ea cR dq cw cu da db bp aI bZ bj ck cj dn dr dp bW br cz dm bh ar cq bH eM aT bL bq aH cU aQ cX AV.undef aW bd de di cY c6 bJ dv dy bE du dt cm cr List.getD_cons_zero List.getD_cons_succ List.getD_nil List.all_cons List.all_nil Bool.and_true Bool.true_and Bool.and_self Bool.not_true Bool.not_false Option.map_some Option.map_none Option.bind_some Option.bind_none List.length_cons List.length_nil List.take_succ_cons List.take_zero List.take_nil List.drop_succ_cons List.drop_zero List.drop_nil List.head?_cons List.map_cons List.map_nil List.getElem?_cons_zero List.getElem?_cons_succ List.cons_append List.nil_append List.append_nil List.length_map List.set_cons_zero List.set_cons_succ Nat.reduceMul eq_self Int.toNat_natCast Int.natCast_nonneg and_self true_and and_true decide_true decide_false Bool.false_eq_true Nat.zero_add Nat.add_zero List.contains_cons List.contains_nil Bool.or_false Bool.false_or beq_self_eq_true Nat.reduceBEq ne_eq not_true_eq_false not_false_eq_true Id.mk.injEq false_and and_false Nat.reduceLT Int.reduceLE Int.reduceLT Int.reduceToNat Int.reduceNeg Int.reduceAdd Nat.le_refl List.length_append beq_true beq_false Bool.not_eq_eq_eq_not or_false false_or dX ad ae aP aJ bt bI aD aS aA aL bU aZ
end Go.Proofs.YtalkncaokeaifaaGreatDoor.V

namespace Go.Proofs.YtalkncaokeaifaaGreatDoor.V
open Go.RowKit
def C6 (m:MK) (it nx ok en:Nat) (id:Id) (B:(Ex->Env->au->Prop)->Env->au->Prop) (b b1:Nat) (Q:Ex->Env->au->Prop):Nat->List (List AV)->Env->au->Prop
 |0,_,env,σ=>env it=.ptr id 0 0/\Q .normal (upd (upd env (some nx) (.fN [.bool false])) (some ok) (.bool false)) ⟨σ.get,σ.next+1⟩
 |n+1,left,env,σ=>env it=.ptr id 0 0/\∀i cs kv vv,left[i]? =some cs->part m.ka m.ks cs=some kv->cs[m.ks]? =some vv->
   B (aQ b1 (cU (C6 m it nx ok en id B b b1 Q n (left.eraseIdx i)) (aQ b Q))) (upd (upd (upd env (some nx) (.fN [.bool true,kv,vv])) (some ok) (.bool true)) (some en) (.fN [kv,vv])) ⟨σ.get,σ.next+1⟩
def H6 (m:MK) (tm:O) (site it nx ok en:Nat) (B:(Ex->Env->au->Prop)->Env->au->Prop) (b b1:Nat) (Q:Ex->Env->au->Prop) (env:Env) (σ:au):Prop:=
 ∃id r,cZ env tm=.map id m/\σ.get id=some r/\r.w=true/\C6 m it nx ok en ⟨site,σ.next⟩ B b b1 Q r.rows.length r.rows (upd env (some it) (.ptr ⟨site,σ.next⟩ 0 0)) ⟨bz σ.get id {r with w:=false},σ.next+1⟩
variable {P:Program} {w w':World} {D D':Nat->Prop} {ι ι':Names} {hs:Nat} {g:Rows}
theorem jA.Ed (hc:∀b x,D b->w'.cell? ⟨b,x,none⟩=w.cell? ⟨b,x,none⟩) (hz:∀(b:Nat) c ty z,w.heap[b]? =some (.cells c ty z)->w'.heap[b]? =w.heap[b]?) {a:AV} {v:Value} (h:jA P w D a v):jA P w' D a v:=by
 induction h with
 |int k n=>exact .int k n
 |bool b=>exact .bool b
 |str s=>exact .str s
 |bP=>exact .bP
 |gQ=>exact .gQ
 |iS=>exact .iS
 |jf=>exact .jf
 |iF=>exact .iF
 |err g t s a c ty h1 h2 h3 h4 h5=>exact .err g t s a c ty h1 ((hc g 0 h1).trans h2) h3 ((hz _ _ _ _ h4).trans h4) ((World.cell?_of_block (hz _ _ _ _ h4)).trans h5)
 |Bd a c h=>exact .Bd a c h
 |sl rows b o n c sz vs h1 h2 h3 h4 h5 h5' h6 _ ih=>exact .sl rows b o n c sz vs h1 h2 h3 h4 h5 h5' (fun i j hi hj=>(hc b _ h4).trans (h6 i j hi hj)) ih
 |fe cs b o vs h1 h1' h2 _ ih=>exact .fe cs b o vs h1 h1' (fun j hj=>(hc b _ h1).trans (h2 j hj)) ih
 |agg cs vs f h1 h2 h3 _ ih=>exact .agg cs vs f h1 h2 h3 ih
 |fn f dG vs g h1 h2 h3 _ ih=>exact .fn f dG vs g h1 h2 h3 ih
theorem dE.Ed (hc:∀b x,D b->w'.cell? ⟨b,x,none⟩=w.cell? ⟨b,x,none⟩) (hz:∀(b:Nat) c ty z,w.heap[b]? =some (.cells c ty z)->w'.heap[b]? =w.heap[b]?) {a:AV} {v:Value} (h:dE P w D ι a v):dE P w' D ι a v:=by
 induction h with
 |eE a v h=>exact .eE a v (h.Ed hc hz)
 |map id m B h1 h2=>exact .map id m B h1 h2
 |qR id c B h1 h2=>exact .qR id c B h1 h2
 |own id off len o cap B h1 h2 h3 h4 h5 h6=>exact .own id off len o cap B h1 h2 h3 h4 h5 h6
 |ptr id i off B h1 h2=>exact .ptr id i off B h1 h2
 |agg cs vs f h1 h2 h3 _ ih=>exact .agg cs vs f h1 h2 h3 ih
 |fN cs vs f h1 h2 _ ih=>exact .fN cs vs f h1 h2 ih
 |fn f dG vs g h1 h2 h3 _ ih=>exact .fn f dG vs g h1 h2 h3 ih
 |tX f dG vs g h1 h2 h3 _ ih=>exact .tX f dG vs g h1 h2 h3 ih
def mD (w:World) (rr:Nat):Prop:=∃m s seen c,w.heap[rr]? =some (.mapIter m s seen c)
theorem mD.cell {rr:Nat} (h:mD w rr) (x:Nat):w.cell? ⟨rr,x,none⟩=none:=by
 obtain⟨m,s,seen,c,h⟩:=h
 simp[World.cell?,h]
theorem gC.KZ {B:sr} {r:Row} (R:gC P w D ι B r):¬mD w B.b:=by
 rintro⟨m,s,seen,c,h⟩
 cases hk:B.k with
 |none=>obtain⟨c',T,h3,_⟩:=(R.row hk).si;rw[h]at h3;cases h3
 |some k=>
  cases k with
  |map m=>obtain⟨_,es,c',h3,_⟩:=R.map m hk;rw[h]at h3;cases h3
  |chan c=>obtain⟨_,buf,s',q,h3,_⟩:=R.chan c hk;rw[h]at h3;cases h3
theorem zg {rr:Nat} (h:mD w rr) (h':mD w' rr) (ho:∀b,b≠rr->w'.heap[b]? =w.heap[b]?):(∀{a v},dE P w D ι a v->dE P w' D ι a v):=fun hr=>hr.Ed (fun b x _=>by
 by_cases hb:b=rr
 ·subst hb;rw[h.cell,h'.cell]
 ·exact World.cell?_of_block (ho b hb)) (fun b c ty z hb=>ho b fun e=>by
  subst e;obtain⟨m,s,seen,cc,h⟩:=h;rw[h]at hb;cases hb)
theorem fZ.iter {rr:Nat} (S:fZ P hs D ι g w) (h:mD w rr) (h':mD w' rr) (ho:∀b,b≠rr->w'.heap[b]? =w.heap[b]?) (hz:w'.heap.size=w.heap.size):fZ P hs D ι g w':=
 ⟨by rw[hz];exact S.lo,fun b hb=>by rw[hz];exact S.dead b hb,fun id r hg=>by
  obtain⟨B,hB,R,k1,k2⟩:=S.row id r hg
  exact⟨B,hB,R.frame (ho _ fun e=>R.KZ (e▸h)) fun a v hr=>zg h h' ho hr,k1,k2⟩,S.inj⟩
theorem mB {ops:Array Oper} {Q:Exit->Act->World->Prop} {a:Act} {o:Oper} {l:List Oper} {v:Value} (hg:o.guard=none) (fF:(execOp a.eval o).run P w=.ok (.value v) w') (h:wpList P ops Q l (a.put o.dst v) w'):wpList P ops Q (o::l) a w:=by
 unfold wpList
 rw[if_pos (by simp[Region.wanted,hg])]
 exact .inl (by unfold Oper.wp;rw[fF];exact h)
theorem Ln {x y:AV} {u v:Value} (h1:dE P w D ι x u) (h2:dE P w D ι y v):dE P w D ι (.fN [x,y]) (.tuple #[u,v]):=
 .fN _ _ (fun j=>if j=0 then u else v) rfl (fun j hj=>by match j,hj with|0,_=>rfl|1,_=>rfl|j+2,hj=>simp at hj;omega) (fun j a ha=>by match j,ha with|0,ha=>simp at ha;subst ha;exact h1|1,ha=>simp at ha;subst ha;exact h2|j+2,ha=>simp at ha)
theorem Lo {x y z:AV} {u v t:Value} (h1:dE P w D ι x u) (h2:dE P w D ι y v) (h3:dE P w D ι z t):dE P w D ι (.fN [x,y,z]) (.tuple #[u,v,t]):=
 .fN _ _ (fun j=>if j=0 then u else if j=1 then v else t) rfl (fun j hj=>by match j,hj with|0,_=>rfl|1,_=>rfl|2,_=>rfl|j+3,hj=>simp at hj;omega) (fun j a ha=>by match j,ha with|0,ha=>simp at ha;subst ha;exact h1|1,ha=>simp at ha;subst ha;exact h2|2,ha=>simp at ha;subst ha;exact h3|j+3,ha=>simp at ha)
theorem Lm {x:AV} {u:Value} (h1:dE P w D ι x u):dE P w D ι (.fN [x]) (.tuple #[u]):=
 .fN _ _ (fun _=>u) rfl (fun j hj=>by match j,hj with|0,_=>rfl|j+1,hj=>simp at hj) (fun j a ha=>by match j,ha with|0,ha=>simp at ha;subst ha;exact h1|j+1,ha=>simp at ha)
structure O2 (P:Program) (w:World) (D:Nat->Prop) (ι:Names) (m:MK) (L:List MapEntry) (left:List (List AV)):Prop where
 len:left.length=L.length
 at_:∀(i:Nat) (cs:List AV),left[i]? =some cs->∃(e:MapEntry) (kv vv:AV),L[i]? =some e/\part m.ka m.ks cs=some kv/\cs[m.ks]? =some vv/\dE P w D ι kv e.key/\dE P w D ι vv e.val
theorem O2.rep {m:MK} {L:List MapEntry} {left:List (List AV)} (h:O2 P w D ι m L left) (hr:∀{a v},dE P w D ι a v->dE P w' D' ι' a v):O2 P w' D' ι' m L left:=⟨h.len,fun i cs hi=>by
 obtain⟨e,kv,vv,h1,h2,h3,h4,h5⟩:=h.at_ i cs hi
 exact⟨e,kv,vv,h1,h2,h3,hr h4,hr h5⟩⟩
theorem mL {α β:Type} {l:List α} {k:List β} {i j:Nat} {x:α} (hl:l.length=k.length) (h:(l.eraseIdx i)[j]? =some x):∃q:Nat,l[q]? =some x/\(k.eraseIdx i)[j]? =k[q]? :=by
 rw[List.getElem?_eraseIdx]at h
 split at h
 ·rename_i hj;exact⟨j,h,by rw[List.getElem?_eraseIdx,if_pos hj]⟩
 ·rename_i hj;exact⟨j+1,h,by rw[List.getElem?_eraseIdx,if_neg hj]⟩
theorem O2.erase {m:MK} {L:List MapEntry} {left:List (List AV)} (h:O2 P w D ι m L left) {i:Nat} (hi:i<L.length):O2 P w D ι m (L.eraseIdx i) (left.eraseIdx i):=⟨by
 rw[List.length_eraseIdx,List.length_eraseIdx,h.len],fun j cs hj=>by
 obtain⟨q,hq,he⟩:=mL h.len hj
 obtain⟨e,kv,vv,h1,h2⟩:=h.at_ q cs hq
 exact⟨e,kv,vv,he.trans h1,h2⟩⟩
theorem nv:∀{l:List MapEntry} {i:Nat} {e:MapEntry},(l.map (·.born)).Nodup->l[i]? =some e->l.filter (fun x=>x.born !=e.born)=l.eraseIdx i
 |x::l,0,e,hn,h=>by
  simp at h;subst h
  obtain⟨h1,h2⟩:=List.nodup_cons.1 (show(x.born::l.map (·.born)).Nodup from hn)
  rw[List.filter_cons,if_neg (by simp),List.eraseIdx_cons_zero]
  refine List.filter_eq_self.2 fun y hy=>?_
  have:y.born≠x.born:=fun hc=>h1 (by rw[<-hc];exact List.mem_map_of_mem hy)
  simpa using this
 |x::l,i+1,e,hn,h=>by
  obtain⟨h1,h2⟩:=List.nodup_cons.1 (show(x.born::l.map (·.born)).Nodup from hn)
  simp only[List.getElem?_cons_succ]at h
  have hx:x.born≠e.born:=fun hc=>h1 (by rw[hc];exact List.mem_map_of_mem (List.mem_of_getElem? h))
  rw[List.filter_cons,if_pos (by simpa using hx),List.eraseIdx_cons_succ,nv h2 h]
theorem wE {es:Array MapEntry} {clock:Nat} {seen:Array Nat} {i:Nat} {e:MapEntry} (hs:FE es clock) (h:(leftOf es seen).toList[i]? =some e):(leftOf es (seen.push e.born)).toList=(leftOf es seen).toList.eraseIdx i:=by
 have hn:((leftOf es seen).toList.map (·.born)).Nodup:=by
  unfold leftOf
  rw[Array.toList_filter]
  exact((List.filter_sublist (p:=fun e=> !seen.contains e.born) (l:=es.toList)).map MapEntry.born).nodup hs.2
 rw[<-nv hn h]
 unfold leftOf
 rw[Array.toList_filter,Array.toList_filter,List.filter_filter]
 refine List.filter_congr fun x _=>?_
 rw[contains_push]
 cases seen.contains x.born<;>cases hb:(x.born==e.born)<;>simp_all
theorem eval_put {a:Act} {d:Nat} {v:Value} (h:d<a.tmps.size):(a.put (some d) v).eval (.tmp d)=v:=by
 simp[Act.put,Act.eval,h]
def Lw (ix ie b b1 ok:Nat) (EU HU ET:Oper) (rP:List Oper) (nu:Code):Code:=
 .seq (.region ix #[EU,HU] false) (.seq (.cond (.tmp ok) .skip (.exit b)) (.block b1 (.seq (.region ie (ET::rP).toArray false) nu)))
structure Ja (P:Program) (md:List (Nat×Nat)) (nt fid s0 it nx ok en:Nat) (EU HU ET:Oper) (rP:List Oper) (nu:Code) (vE:List cJ) (sf:VC):Prop where
 h1:EU.op=.next (.tmp it) false
 h2:EU.dst=some nx
 h3:EU.guard=none
 h4:HU.op=.extract (.tmp nx) 0
 h5:HU.dst=some ok
 h6:HU.guard=none
 h7:ET.op=.entry (.tmp it)
 h8:ET.dst=some en
 h9:ET.guard=none
 S3:nx<nt
 WT:ok<nt
 lt3:en<nt
 ne1:it≠nx
 ne2:it≠ok
 hE:allM (ko P (ET::rP).toArray nt s0 false false #[] []) rP 1=some vE
 hR:iC P md nt fid nu=some sf
theorem E9 (hm:P.follows .mixedOrders=true) {md:List (Nat×Nat)} {nt fid s0 ix ie b b1 it nx ok en:Nat} {m:MK} {id:Id} {EU HU ET:Oper} {rP:List Oper} {nu:Code} {vE:List cJ} {sf:VC}
  (O:Ja P md nt fid s0 it nx ok en EU HU ET rP nu vE sf) {rr bm:Nat} {es:Array MapEntry} {clock:Nat} (Cx:FE es clock) {ds:List Deferred} {n0:Nat} {D0:Nat->Prop} {ι0:Names} {w0:World} {Q:Ex->Env->au->Prop} {Q':Exit->Act->World->Prop}
  (hQ:tt P hs nt ds Q n0 D0 ι0 w0 Q') (hD0:¬D0 rr) (hrr:hs<=rr) (gZ:bm≠rr):
  ∀(n:Nat) (left:List (List AV)) (env:Env) (σ:au) (a:Act) (w:World) (D:Nat->Prop) (ι:Names) (seen:Array Nat),
   C6 m it nx ok en id (dH (Sound P) (.seq (.jo false vE) sf)) b b1 Q n left env σ->St P hs nt D ι env σ a w->a.defers=ds->n0<=σ.next->Step hs D0 ι0 w0 D ι w->
   (∃sz C,ι id=some ⟨rr,sz,C,none⟩)->D rr->D bm->w.heap[rr]? =some (.mapIter (some bm) clock seen clock)->w.heap[bm]? =some (.map es clock)->left.length=n->O2 P w D ι m (leftOf es seen).toList left->
   pA P (Lw ix ie b b1 ok EU HU ET rP nu) (Exit.inBlock b Q') (n+1) a w:=by
 intro n
 induction n with
 |zero=>
  intro left env σ a w D ι seen hv ed hd Co T hid XD TE hr hb hlen hL
  obtain⟨IJ,hq⟩:=hv
  have ha:a.tmps.getD it undef=.pointer (some ⟨rr,0,none⟩):=by
   have:=ed.env it
   rw[IJ]at this
   obtain⟨B,e,hB,_⟩:=gW this
   obtain⟨sz,C,hid⟩:=hid
   rw[hid]at hB;injection hB with hB;subst hB
   simpa using e
  have Ws:a.eval (.tmp it)=.pointer (some ⟨rr,0,none⟩):=ha
  rcases run_next_at (P:=P) w EU.type rr bm clock clock seen es clock hr hb Cx.1 (Nat.le_refl _)with⟨_,fF⟩|⟨e,he,_⟩
  rotate_left
  ·have h0:(leftOf es seen).toList=[]:=List.eq_nil_of_length_eq_zero (by rw[<-hL.len,hlen])
   rw[h0]at he;simp at he
  have yl:nx<a.tmps.size:=by rw[ed.size];exact O.S3
  have E2:=iv (iv ed.env (Lm (.eE _ _ (.bool false))) (dst:=some nx) (fun d h=>by cases h;exact O.S3) ed.size) (.eE _ _ (.bool false)) (dst:=some ok) (fun d h=>by cases h;exact O.WT) (by rw[ft];exact ed.size)
  show yD P (.seq _ _) _ a w
  refine lu (jG (wp_region_list ?_))
  refine mB (v:=.tuple #[.bool false]) (w':=w) O.h3 (by simp[execOp,O.h1,Ws,fF,Result.andThen]) ?_
  refine mB (v:=.bool false) (w':=w) O.h6 (by rw[O.h2];simp[execOp,O.h4,eval_put yl,Instr.extract]) ?_
  rw[O.h2,O.h5]
  refine lu (wW (t:=false) (eval_put (by rw[ft,ed.size];exact O.WT)) (jG (wp_exit ?_)))
  show Exit.inBlock b Q' (.exit b) _ _
  simp only[Exit.inBlock,if_true]
  exact hQ .normal _ ⟨σ.get,σ.next+1⟩ _ w D ι hq T ⟨ed.s8,ed.used.next,E2,by rw[ft,ft];exact ed.size⟩ (by rw[put_defers,put_defers];exact hd) (Nat.le_succ_of_le Co)
 |succ n ih=>
  intro left env σ a w D ι seen hv ed hd Co T hid XD TE hr hb hlen hL
  obtain⟨IJ,hq⟩:=hv
  have ha:a.tmps.getD it undef=.pointer (some ⟨rr,0,none⟩):=by
   have:=ed.env it
   rw[IJ]at this
   obtain⟨B,e,hB,_⟩:=gW this
   obtain⟨sz,C,hid⟩:=hid
   rw[hid]at hB;injection hB with hB;subst hB
   simpa using e
  have Ws:a.eval (.tmp it)=.pointer (some ⟨rr,0,none⟩):=ha
  rcases run_next_at (P:=P) w EU.type rr bm clock clock seen es clock hr hb Cx.1 (Nat.le_refl _)with⟨h0,_⟩|⟨e,he,w1,uq,fF⟩
  ·have:=hL.len
   rw[hlen,Array.length_toList]at this;omega
  obtain⟨i,hi,Mt⟩:=List.getElem_of_mem he
  have Uq:(leftOf es seen).toList[i]? =some e:=by rw[List.getElem?_eq_getElem hi,Mt]
  have pN:i<left.length:=by rw[hL.len];exact hi
  obtain⟨e',kv,vv,q1,q2,q3,q4,q5⟩:=hL.at_ i left[i] (List.getElem?_eq_getElem pN)
  rw[Uq]at q1;injection q1 with q1;subst q1
  replace hq:=hq i left[i] kv vv (List.getElem?_eq_getElem pN) q2 q3
  have Rc:w1.heap[rr]? =some (.mapIter (some bm) clock seen clock):=by rcases uq with rfl|rfl<;>exact hr
  have iL:=MapKept.heap_set (o':=.mapIter (some bm) clock (seen.push e.born) clock) Rc
  obtain⟨w2,nA⟩:∃w2,ChangeMaps.setBlock w1 rr (.mapIter (some bm) clock (seen.push e.born) clock)=w2:=⟨_,rfl⟩
  have ho:∀k,k≠rr->w2.heap[k]? =w.heap[k]? :=fun k hk=>by
   rw[<-nA]
   refine(iL.2 k hk).trans ?_
   rcases uq with rfl|rfl<;>rfl
  have hz:w2.heap.size=w.heap.size:=by
   rw[<-nA]
   rcases uq with rfl|rfl<;>simp[ChangeMaps.setBlock]
  have yj:w2.heap[rr]? =some (.mapIter (some bm) clock (seen.push e.born) clock):=by rw[<-nA];exact iL.1
  have pX:w2.os=w.os/\w2.tape=w.tape/\w2.output=w.output:=by
   rw[<-nA]
   rcases uq with rfl|rfl<;>exact⟨rfl,rfl,rfl⟩
  rw[nA]at fF
  clear nA iL
  have I1:mD w rr:=⟨_,_,_,_,hr⟩
  have I2:mD w2 rr:=⟨_,_,_,_,yj⟩
  have rt:∀{a v},dE P w D ι a v->dE P w2 D ι a v:=zg I1 I2 ho
  have S2:=ed.s8.iter I1 I2 ho hz
  have T2:Step hs D0 ι0 w0 D ι w2:=⟨⟨pX.1.trans T.below.os,pX.2.1.trans T.below.tape,pX.2.2.trans T.below.output,by rw[hz];exact T.below.size,fun k hk=>(ho k ab).trans (T.below.block k hk)⟩,fun k hk=>(ho k (fun hc=>hD0 (hc▸hk))).trans (T.yn k hk),T.dead,T.names,T.new⟩
  have sI:w2.heap[bm]? =some (.map es clock):=(ho bm gZ).trans hb
  have yl:nx<a.tmps.size:=by rw[ed.size];exact O.S3
  have E1:dh P w2 D ι env a:=fun t=>rt (ed.env t)
  have E2:=iv (iv E1 (Lo (.eE _ _ (.bool true)) (rt q4) (rt q5)) (dst:=some nx) (fun d h=>by cases h;exact O.S3) ed.size) (.eE _ _ (.bool true)) (dst:=some ok) (fun d h=>by cases h;exact O.WT) (by rw[ft];exact ed.size)
  have E3:=iv E2 (Ln (rt q4) (rt q5)) (dst:=some en) (fun d h=>by cases h;exact O.lt3) (by rw[ft,ft];exact ed.size)
  have Pp:=run_entry_at (P:=P) w2 rr bm clock seen es clock e yj sI (mem_left he).1 Cx.2
  show yD P (.seq _ _) _ a w
  refine lu (jG (wp_region_list ?_))
  refine mB (v:=.tuple #[.bool true,e.key,e.val]) (w':=w2) O.h3 (by simp[execOp,O.h1,Ws,fF,Result.andThen]) ?_
  refine mB (v:=.bool true) (w':=w2) O.h6 (by rw[O.h2];simp[execOp,O.h4,eval_put yl,Instr.extract]) ?_
  rw[O.h2,O.h5]
  refine lu (wW (t:=true) (eval_put (by rw[ft,ed.size];exact O.WT)) (jG (wp_skip ?_)))
  refine sV (lu (jG (wp_region_list ?_)))
  show wpList P _ _ (ET::rP) _ _
  have ha3:(((a.put (some nx) (.tuple #[.bool true,e.key,e.val])).put (some ok) (.bool true)).eval (.tmp it))=.pointer (some ⟨rr,0,none⟩):=by
   have n1:=O.ne1
   have n2:=O.ne2
   rw[<-Ws]
   simp[Act.put,Act.eval,Array.getD_eq_getD_getElem?,Array.getElem?_setIfInBounds,Ne.symm n1,Ne.symm n2]
  refine mB (v:=.tuple #[e.key,e.val]) (w':=w2) O.h9 (by simp[execOp,O.h7,ha3,Pp,Result.andThen]) ?_
  rw[O.h8]
  refine zC rP vE 1 _ ⟨σ.get,σ.next+1⟩ _ w2 D ι (fun _=>False) O.hE hq S2 ed.used.next (fun _ h=>h.elim) E3 (by rw[ft,ft,ft];exact ed.size) fun Xs σ3 a3 w3 D3 ι3 hk T3 St3 hd3 Yf=>?_
  refine qe hm nu sf O.hR _ Xs σ3 a3 w3 D3 ι3 _ hk St3 fun ex JL σ4 a4 w4 D4 ι4 Kl T4 Xf hd4 Yg=>?_
  have IH:a4.defers=ds:=by rw[hd4,hd3,put_defers,put_defers,put_defers];exact hd
  have SN:n0<=σ4.next:=Nat.le_trans Co (Nat.le_trans (Nat.le_succ _) (Nat.le_trans Yf Yg))
  have Qc:=T3.trans T4
  have TT:=T2.trans Qc
  have Vj:C6 m it nx ok en id (dH (Sound P) (.seq (.jo false vE) sf)) b b1 Q n (left.eraseIdx i) JL σ4->pA P (Lw ix ie b b1 ok EU HU ET rP nu) (Exit.inBlock b Q') (n+1) a4 w4:=fun hq5=>by
   refine ih (left.eraseIdx i) JL σ4 a4 w4 D4 ι4 (seen.push e.born) hq5 Xf IH SN TT ?_ (Qc.dead _ XD) (Qc.dead _ TE) ((Qc.yn _ XD).trans yj) ((Qc.yn _ TE).trans sI) ?_ ?_
   ·obtain⟨sz,C,hid⟩:=hid;exact⟨sz,C,Qc.names _ _ hid⟩
   ·rw[List.length_eraseIdx,if_pos pN,hlen];rfl
   ·rw[wE Cx Uq]
    exact(hL.erase hi).rep fun hr=>Qc.rep (rt hr)
  have out:∀ex,ex≠.normal->Q ex JL σ4->Q' (Wf ex) a4 w4:=fun ex _ h=>hQ ex JL σ4 a4 w4 D4 ι4 h TT Xf IH SN
  cases ex with
  |normal=>exact Vj Kl
  |ret=>exact out .ret (by simp) Kl
  |exit jR=>
   simp only[aQ]at Kl
   simp only[Wf,Exit.inBlock]
   by_cases h1:jR=b1
   ·rw[if_pos h1]at Kl ⊢
    exact Vj Kl
   ·rw[if_neg h1]at Kl ⊢
    simp only[cU,aQ]at Kl
    show Exit.inBlock b Q' (.exit jR) a4 w4
    simp only[Exit.inBlock]
    by_cases h2:jR=b
    ·rw[if_pos h2]at Kl ⊢
     exact hQ .normal JL σ4 a4 w4 D4 ι4 Kl TT Xf IH SN
    ·rw[if_neg h2]at Kl ⊢
     exact out (.exit jR) (by simp) Kl
def CS (P:Program) (nt:Nat) (c:Code) (W:(Ex->Env->au->Prop)->Env->au->Prop):Prop:=
 ∀(hs:Nat) (Q:Ex->Env->au->Prop) (env:Env) (σ:au) (a:Act) (w:World) (D:Nat->Prop) (ι:Names) (Q':Exit->Act->World->Prop),W Q env σ->St P hs nt D ι env σ a w->tt P hs nt a.defers Q σ.next D ι w Q'->yD P c Q' a w
theorem CS.code (hm:P.follows .mixedOrders=true) {md:List (Nat×Nat)} {nt fid:Nat} {c:Code} {vc:VC} (h:iC P md nt fid c=some vc):CS P nt c (dH (Sound P) vc):=
 fun _ Q env σ a w D ι Q' hv ed hQ=>qe hm c vc h Q env σ a w D ι Q' hv ed hQ
theorem CS.seq {nt:Nat} {x y:Code} {V W:(Ex->Env->au->Prop)->Env->au->Prop} (h:CS P nt x V) (k:CS P nt y W):CS P nt (.seq x y) (fun Q=>V (cU (W Q) Q)):=fun hs Q env σ a w D ι Q' hv ed hQ=>by
 refine lu (h hs _ env σ a w D ι _ hv ed fun ex iH σ1 a1 w1 D1 ι1 hq T jw hd hle=>?_)
 cases ex with
 |normal=>exact k hs Q iH σ1 a1 w1 D1 ι1 Q' hq jw (by rw[hd];exact hQ.later T hle)
 |exit id=>exact hQ (.exit id) iH σ1 a1 w1 D1 ι1 hq T jw hd hle
 |ret=>exact hQ .ret iH σ1 a1 w1 D1 ι1 hq T jw hd hle
theorem CS.rng (hm:P.follows .mixedOrders=true) {md:List (Nat×Nat)} {nt fid s0 sA site ia ix ie b b1 it nx ok en:Nat} {m:MK} {EU HU ET EX:Oper} {Le rP:List Oper} {nu:Code} {vA vE:List cJ} {sf:VC} {t k e:TypeId} {tm:Operand} {tm':O}
  (O:Ja P md nt fid s0 it nx ok en EU HU ET rP nu vE sf) (h1:EX.op=.range t tm) (h2:EX.dst=some it) (h3:EX.guard=none) (eJ:it<nt) (ht:P.underlying t=some (.map k e)) (UT:cO P tm=some tm') (hA:allM (ko P (Le++[EX]).toArray nt sA false false #[] []) Le 0=some vA):
  CS P nt (.seq (.region ia (Le++[EX]).toArray false) (.block b (.loop (Lw ix ie b b1 ok EU HU ET rP nu))))
   (fun Q=>wpOps (Sound P) false vA (H6 m tm' site it nx ok en (dH (Sound P) (.seq (.jo false vE) sf)) b b1 Q)):=fun hs Q env σ a w D ι Q' hv ed hQ=>by
 refine lu (jG (wp_region_list ?_))
 show wpList P _ _ (Le++[EX]) a w
 refine wY [EX] Le vA 0 env σ a w D ι (fun _=>False) hA hv ed.s8 ed.used (fun _ h=>h.elim) ed.env ed.size fun iH σ1 a1 w1 D1 ι1 hk T qK Mp Ht=>?_
 obtain⟨id,r,hid,hg,hw,hr⟩:=hk
 have hZ:=dM qK.env UT
 rw[hid]at hZ
 obtain⟨B,hv,hB,hk⟩:=A7 hZ
 obtain⟨B',ef,R,k6,po⟩:=qK.s8.row id r hg
 rw[hB]at ef;injection ef with ef;subst ef
 obtain⟨hrsz,es,clock,hb,fc,⟨hlen,Cx⟩,hM⟩:=R.map m hk
 have ID:=R.lt
 have fF:=run_range_map (P:=P) w1 t k e B.b es clock ht hb
 refine mB (v:=.pointer (some ⟨w1.heap.size,0,none⟩)) (w':=w1.alloc (.mapIter (some B.b) clock #[] clock)) h3 (by simp[execOp,h1,hv,fF,Result.andThen]) ?_
 rw[h2]
 obtain⟨w2,nA⟩:∃w2,w1.alloc (.mapIter (some B.b) clock #[] clock)=w2:=⟨_,rfl⟩
 have hblk:∀b,b<w1.heap.size->w2.heap[b]? =w1.heap[b]? :=fun b hb=>by rw[<-nA];exact Below.heap_alloc _ _ _ hb
 have jC:w2.heap[w1.heap.size]? =some (.mapIter (some B.b) clock #[] clock):=by rw[<-nA];exact heap_alloc_new _ _
 have hz:w2.heap.size=w1.heap.size+1:=by rw[<-nA];simp
 have pX:w2.os=w1.os/\w2.tape=w1.tape/\w2.output=w1.output:=by rw[<-nA];exact⟨rfl,rfl,rfl⟩
 rw[nA]
 clear nA fF
 let D2:Nat->Prop:=fun x=>D1 x∨x=B.b∨x=w1.heap.size
 let ι2:Names:=jx ι1 ⟨site,σ1.next⟩ ⟨w1.heap.size,1,0,none⟩
 have jz:ι1 ⟨site,σ1.next⟩=none:=fresh qK.used (fun h=>h)
 have WI:∀{a v},dE P w1 D1 ι1 a v->dE P w2 D2 ι2 a v:=fun h=>h.frame (fun b hd=>hblk b (qK.s8.dead b hd)) (fun _ h=>.inl h) (eZ jz)
 have CW:∀{j q C},σ1.get j=some q->ι2 j=some C->ι1 j=some C:=fun {j q C} hj hC=>by
  obtain⟨C',uj,_⟩:=qK.s8.row j q hj
  have:=eZ (B:=⟨w1.heap.size,1,0,none⟩) jz j C' uj
  have e:=this.symm.trans hC
  injection e with e;rw[<-e];exact uj
 have lt:∀{j q C},σ1.get j=some q->ι1 j=some C->C.b<w1.heap.size:=fun {j q C} hj hC=>by
  obtain⟨C',uj,R',_⟩:=qK.s8.row j q hj
  rw[hC]at uj;injection uj with uj;subst uj
  exact R'.lt
 have QF:∀{j q},bz σ1.get id {r with w:=false} j=some q->∃q0,σ1.get j=some q0/\(q.w=true->q=q0/\j≠id)/\(j=id->q={r with w:=false}/\q0=r)/\(j≠id->q=q0):=fun {j q} h=>by
  unfold bz at h
  split at h
  ·rename_i e
   injection h with h;subst h
   exact⟨r,e▸hg,fun h=>(by cases h),fun _=>⟨rfl,rfl⟩,fun hc=>absurd e hc⟩
  ·rename_i e
   exact⟨q,h,fun _=>⟨rfl,e⟩,fun hc=>absurd hc e,fun _=>rfl⟩
 have S2:fZ P hs D2 ι2 (bz σ1.get id {r with w:=false}) w2:=by
  refine⟨by rw[hz];exact Nat.le_succ_of_le qK.s8.lo,fun b hb=>?_,fun j q h=>?_,fun j j' q q' C C' h h' Km hC uj he=>?_⟩
  ·rw[hz]
   rcases hb with hb|rfl|rfl
   ·exact Nat.lt_succ_of_lt (qK.s8.dead b hb)
   ·exact Nat.lt_succ_of_lt ID
   ·exact Nat.lt_succ_self _
  ·obtain⟨q0,Pw,Km,X8,gZ⟩:=QF h
   obtain⟨C,hC,RC,k1,k2⟩:=qK.s8.row j q0 Pw
   have hCl:=lt Pw hC
   refine⟨C,eZ jz j C hC,?_,fun SU=>k1 ((Km SU).1▸SU),fun SU hD=>?_⟩
   ·have RF:gC P w2 D2 ι2 C q0:=RC.frame (hblk _ hCl) fun a v h=>WI h
    by_cases hj:j=id
    ·obtain⟨e1,e2⟩:=X8 hj
     rw[e1,<-e2];exact RF.flag false
    ·rw[gZ hj];exact RF
   ·obtain⟨e1,e2⟩:=Km SU
    rcases hD with hD|hD|hD
    ·exact k2 (e1▸SU) hD
    ·exact e2 (qK.s8.inj j id q0 r C B Pw hg (e1▸SU) hC hB hD)
    ·omega
  ·obtain⟨q0,Pw,Yw,_⟩:=QF h
   obtain⟨q0',UN,_⟩:=QF h'
   exact qK.s8.inj j j' q0 q0' C C' Pw UN ((Yw Km).1▸Km) (CW Pw hC) (CW UN uj) he
 have T2:Step hs D1 ι1 w1 D2 ι2 w2:=⟨⟨pX.1,pX.2.1,pX.2.2,ab,fun k hk=>hblk k (Nat.lt_of_lt_of_le hk qK.s8.lo)⟩,fun b hb=>hblk b (qK.s8.dead b hb),fun _ h=>.inl h,eZ jz,fun b hb=>by
  rcases hb with hb|rfl|rfl
  ·exact .inl hb
  ·exact .inr (k6 hw)
  ·exact .inr qK.s8.lo⟩
 have E2:dh P w2 D2 ι2 (upd iH (some it) (.ptr ⟨site,σ1.next⟩ 0 0)) (a1.put (some it) (.pointer (some ⟨w1.heap.size,0,none⟩))):=
  iv (fun t=>WI (qK.env t)) (by have:=dE.ptr (P:=P) (w:=w2) (D:=D2) (ι:=ι2) ⟨site,σ1.next⟩ 0 0 ⟨w1.heap.size,1,0,none⟩ (eh _ _ _) rfl;simpa using this) (fun d h=>by cases h;exact eJ) qK.size
 have L2:O2 P w2 D2 ι2 m (leftOf es #[]).toList r.rows:=by
  have he:(leftOf es #[]).toList=es.toList:=by simp[leftOf]
  rw[he]
  refine⟨by simpa using fc.symm,fun i cs hi=>?_⟩
  obtain⟨Tr,kv,vv,q1,q2,q3,q4,q5⟩:=hM i cs hi
  exact⟨Tr,kv,vv,by simpa using q1,q2,q3,WI q4,WI q5⟩
 show yD P (.block b (.loop (Lw ix ie b b1 ok EU HU ET rP nu))) Q' _ w2
 exact sV (CV (r.rows.length+1) (E9 hm O Cx (ds:=a.defers) (n0:=σ.next) (D0:=D) (ι0:=ι) (w0:=w) hQ
  (fun hc=>by have:=ed.s8.dead _ hc;have:=T.below.size;omega) qK.s8.lo ab r.rows.length r.rows _ ⟨bz σ1.get id {r with w:=false},σ1.next+1⟩ _ w2 D2 ι2 #[] hr
  ⟨S2,qK.used.upd.next,E2,by rw[ft];exact qK.size⟩ (by rw[put_defers];exact Mp) (Nat.le_succ_of_le Ht) (T.trans T2) ⟨1,0,eh _ _ _⟩ (.inr (.inr rfl)) (.inr (.inl rfl)) jC ((hblk _ ID).trans hb) rfl L2))
theorem CS.fn {f:Nat} {fn:Func} {c:Code} {args:List AV} {σ:au} {K:AV->au->Prop} {vr:List nZ} {W:(Ex->Env->au->Prop)->Env->au->Prop} (Pr:P.funcs[f]? =some fn) (hc:fn.body=some c) (hr:fn.results.toList.mapM (DV P)=some vr) (ha:fn.params.size+fn.nfree=args.length) (hle:fn.params.size+fn.nfree<=fn.ntmps)
  (h:CS P fn.ntmps c W) (hv:W (lL vr K) (bD args) σ):Call P f args σ K:=
 fh (vk Pr hc hr ha hle fun hs w D ι a Q' ed hQ=>h hs (lL vr K) (bD args) σ a w D ι Q' hv ed hQ)
theorem sg (hm:P.follows .mixedOrders=true) {c:VC} {Q Q':Ex->Env->au->Prop} {env:Env} {σ:au} (hQ:∀x e s,Q x e s->Q' x e s) (h:dH (Call P) c Q env σ):dH (Sound P) c Q' env σ:=
 jV (fun _ _ _ _ h=>ij hm h) kn c Q Q' env σ hQ h
theorem zK {m:MK} {it nx ok en:Nat} {id:Id} {B B':(Ex->Env->au->Prop)->Env->au->Prop} {b b1:Nat} {Q Q':Ex->Env->au->Prop} (hB:∀R R' e s,(∀x e s,R x e s->R' x e s)->B R e s->B' R' e s) (hQ:∀x e s,Q x e s->Q' x e s):
  ∀(n:Nat) (left:List (List AV)) (env:Env) (σ:au),C6 m it nx ok en id B b b1 Q n left env σ->C6 m it nx ok en id B' b b1 Q' n left env σ
 |0,_,env,σ,h=>⟨h.1,hQ _ _ _ h.2⟩
 |n+1,left,env,σ,h=>⟨h.1,fun i cs kv vv h1 h2 h3=>hB _ _ _ _ (fun x e s hx=>by
  have hn:=zK (id:=id) (m:=m) (it:=it) (nx:=nx) (ok:=ok) (en:=en) (b:=b) (b1:=b1) hB hQ n (left.eraseIdx i) e s
  cases x with
  |normal=>exact hn hx
  |ret=>exact hQ _ _ _ hx
  |exit jR=>
   simp only[aQ]at hx ⊢
   split at hx
   ·rename_i h1;rw[if_pos h1];exact hn hx
   ·rename_i h1
    rw[if_neg h1]
    simp only[cU,aQ]at hx ⊢
    split at hx
    ·rename_i h2;rw[if_pos h2];exact hQ _ _ _ hx
    ·rename_i h2;rw[if_neg h2];exact hQ _ _ _ hx) (h.2 i cs kv vv h1 h2 h3)⟩
theorem H7 (hm:P.follows .mixedOrders=true) {m:MK} {tm:O} {site it nx ok en:Nat} {c:VC} {b b1:Nat} {Q Q':Ex->Env->au->Prop} {env:Env} {σ:au} (hQ:∀x e s,Q x e s->Q' x e s) (h:H6 m tm site it nx ok en (dH (Call P) c) b b1 Q env σ):H6 m tm site it nx ok en (dH (Sound P) c) b b1 Q' env σ:=by
 obtain⟨id,r,h1,h2,h3,h4⟩:=h
 exact⟨id,r,h1,h2,h3,zK (B':=dH (Sound P) c) (fun R R' e s hR hb=>sg hm hR hb) hQ _ _ _ _ h4⟩
theorem qw {α:Type}:∀{l:List α} {i:Nat} {x:α},l[i]? =some x->(x::l.eraseIdx i).Perm l
 |y::l,0,x,h=>by simp at h;subst h;exact List.Perm.refl _
 |y::l,i+1,x,h=>by
  simp only[List.getElem?_cons_succ]at h
  rw[List.eraseIdx_cons_succ]
  exact(List.Perm.swap _ _ _).trans ((qw h).cons _)
theorem VW {m:MK} {tm:O} {site it nx ok en:Nat} {c:VC} {b b1:Nat} {Q:Ex->Env->au->Prop} {env:Env} {σ:au} {id:Id} {r:Row} (I:List (List AV)->Env->au->Prop) (h1:cZ env tm=.map id m) (h2:σ.get id=some r) (h3:r.w=true) (IJ:([nx,ok,en]++yH c).contains it=false)
  (h0:I [] (upd env (some it) (.ptr ⟨site,σ.next⟩ 0 0)) ⟨bz σ.get id {r with w:=false},σ.next+1⟩)
  (step:∀pre cs rest e s kv vv,(pre++cs::rest).Perm r.rows->I pre e s->iX ([nx,ok,en]++yH c) (upd env (some it) (.ptr ⟨site,σ.next⟩ 0 0)) e->part m.ka m.ks cs=some kv->cs[m.ks]? =some vv->
   dH (Call P) c (aQ b1 (cU (I (pre++[cs])) (aQ b Q))) (upd (upd (upd e (some nx) (.fN [.bool true,kv,vv])) (some ok) (.bool true)) (some en) (.fN [kv,vv])) ⟨s.get,s.next+1⟩)
  (fin:∀pre e s,pre.Perm r.rows->I pre e s->iX ([nx,ok,en]++yH c) (upd env (some it) (.ptr ⟨site,σ.next⟩ 0 0)) e->Q .normal (upd (upd e (some nx) (.fN [.bool false])) (some ok) (.bool false)) ⟨s.get,s.next+1⟩):
  H6 m tm site it nx ok en (dH (Call P) c) b b1 Q env σ:=by
 refine⟨id,r,h1,h2,h3,?_⟩
 have Ue:∀e,iX ([nx,ok,en]++yH c) (upd env (some it) (.ptr ⟨site,σ.next⟩ 0 0)) e->e it=.ptr ⟨site,σ.next⟩ 0 0:=fun e h=>by
  rw[h it IJ];simp[upd]
 have key:∀n left pre e s,(pre++left).Perm r.rows->left.length=n->I pre e s->iX ([nx,ok,en]++yH c) (upd env (some it) (.ptr ⟨site,σ.next⟩ 0 0)) e->C6 m it nx ok en ⟨site,σ.next⟩ (dH (Call P) c) b b1 Q n left e s:=by
  intro n
  induction n with
  |zero=>
   intro left pre e s hp hl hI hK
   have:left=[]:=List.eq_nil_of_length_eq_zero hl
   subst this
   rw[List.append_nil]at hp
   exact⟨Ue e hK,fin pre e s hp hI hK⟩
  |succ n ih=>
   intro left pre e s hp hl hI hK
   refine⟨Ue e hK,fun i cs kv vv hi hk hv=>?_⟩
   have pN:=(List.getElem?_eq_some_iff.1 hi).1
   have pY:(cs::left.eraseIdx i).Perm left:=by
    exact qw hi
   have Pv:(pre++cs::left.eraseIdx i).Perm r.rows:=(pY.append_left pre).trans hp
   have nL:iX ([nx,ok,en]++yH c) (upd env (some it) (.ptr ⟨site,σ.next⟩ 0 0)) (upd (upd (upd e (some nx) (.fN [.bool true,kv,vv])) (some ok) (.bool true)) (some en) (.fN [kv,vv])):=
    ((hK.upd (fun t h=>by cases h;simp)).upd (fun t h=>by cases h;simp)).upd (fun t h=>by cases h;simp)
   refine jV (fun _ _ _ _ h=>h) bc c _ _ _ _ (fun x e' s' hx=>?_) (zU c _ _ _ (fun t ht=>List.mem_append_right _ ht) nL (step pre cs (left.eraseIdx i) e s kv vv Pv hI hK hk hv))
   obtain⟨hx,F6⟩:=hx
   have Vj:I (pre++[cs]) e' s'->C6 m it nx ok en ⟨site,σ.next⟩ (dH (Call P) c) b b1 Q n (left.eraseIdx i) e' s':=fun XK=>
    ih (left.eraseIdx i) (pre++[cs]) e' s' (by rw[List.append_assoc];exact Pv) (by rw[List.length_eraseIdx,if_pos pN];omega) XK F6
   cases x with
   |normal=>exact Vj hx
   |ret=>exact hx
   |exit jR=>
    simp only[aQ]at hx ⊢
    split at hx
    ·rename_i h1;rw[if_pos h1];exact Vj hx
    ·rename_i h1;rw[if_neg h1];exact hx
 exact key _ r.rows [] _ _ (List.Perm.refl _) rfl h0 (iX.refl _ _)
end Go.Proofs.YtalkncaokeaifaaGreatDoor.V

namespace Go.Proofs.YtalkncaokeaifaaGreatDoor.V
open Go.RowKit
def P4:Code->Code
 | .seq a _=>a
 |c=>c
def IU:Code->Code
 | .seq _ b=>b
 |c=>c
def W7:Code->Code
 | .block _ c=>c
 |c=>c
def Ze:Code->Code
 | .loop c=>c
 |c=>c
def V9:Code->List Oper
 | .region _ o _=>o.toList
 |_=>[]
def rg2 (k:Code):Code:=P4 (P4 (IU (IU k)))
def Y0 (k:Code):Code:=IU (P4 (IU (IU k)))
def rgL (k:Code):Code:=Ze (W7 (Y0 k))
def RV (k:Code):Code:=IU (IU (rgL k))
def Sy:Oper:={dst:=none,op:=.nilCheck (.tmp 0),type:=0,pos:= "",after:= #[],guard:=none}
def rgP (k:Code):List Oper:=(V9 (rg2 k)).dropLast
def rgO (k:Code):Oper:=(V9 (rg2 k)).getLastD Sy
def WV (k:Code) (i:Nat):Oper:=(V9 (P4 (rgL k))).getD i Sy
def Vv (k:Code):Oper:=(V9 (P4 (W7 (RV k)))).headD Sy
def Vw (k:Code):List Oper:=(V9 (P4 (W7 (RV k)))).tail
def rgR (k:Code):Code:=IU (W7 (RV k))
def Vx (P:Program) (v0 v1:VC) (vA:List cJ) (m:MK) (tm:O) (site it nx ok en:Nat) (vE:List cJ) (vR:VC) (b b1:Nat) (vT:VC) (Q:Ex->Env->au->Prop):Env->au->Prop:=
 dH (Sound P) v0 (cU (dH (Sound P) v1 (cU (wpOps (Sound P) false vA (H6 m tm site it nx ok en (dH (Sound P) (.seq (.jo false vE) vR)) b b1 (cU (dH (Sound P) vT Q) Q))) Q)) Q)
def RY (P:Program) (v0 v1:VC) (vA:List cJ) (m:MK) (tm:O) (site it nx ok en:Nat) (vE:List cJ) (vR:VC) (b b1:Nat) (vT:VC) (Q:Ex->Env->au->Prop):Env->au->Prop:=
 dH (Call P) v0 (cU (dH (Call P) v1 (cU (wpOps (Call P) false vA (H6 m tm site it nx ok en (dH (Call P) (.seq (.jo false vE) vR)) b b1 (cU (dH (Call P) vT Q) Q))) Q)) Q)
theorem xw {F F':Env->au->Prop} {Q:Ex->Env->au->Prop} (h:∀e s,F e s->F' e s):∀x e s,cU F Q x e s->cU F' Q x e s:=fun x e s hx=>by
 cases x with
 |normal=>exact h e s hx
 |ret=>exact hx
 |exit id=>exact hx
theorem Lx {P:Program} (hm:P.follows .mixedOrders=true) {v0 v1:VC} {vA:List cJ} {m:MK} {tm:O} {site it nx ok en:Nat} {vE:List cJ} {vR:VC} {b b1:Nat} {vT:VC} {Q:Ex->Env->au->Prop} {env:Env} {σ:au}
  (h:RY P v0 v1 vA m tm site it nx ok en vE vR b b1 vT Q env σ):Vx P v0 v1 vA m tm site it nx ok en vE vR b b1 vT Q env σ:=
 sg hm (xw fun _ _ h=>sg hm (xw fun _ _ h=>kY (fun _ _ _ _ h=>ij hm h) kn (fun _ _ h=>H7 hm (xw fun _ _ h=>sg hm (fun _ _ _ h=>h) h) h) _ _ _ h) h) h
noncomputable def CC:Go.Code:=Tryz.f71.body.getD .skip
def L1:VC:=(.jo false [⟨(some 2),(.new [.bP]),none,71000000,[]⟩])
def PV:VC:=(.jo false [⟨(some 3),(.gG (.k .bP)),none,71001000,[]⟩])
def PW:List cJ:=[⟨(some 6),(.gG (.t 0)),none,71002000,[]⟩,⟨(some 7),(.IA (.t 6)),none,71002001,[]⟩,⟨(some 8),(.lk 4 (.t 7)),none,71002002,[]⟩,⟨(some 9),(.load false 1 (.t 8)),none,71002003,[]⟩]
def GC:List cJ:=[⟨(some 14),(.extract 0 (.t 13)),none,71004001,[]⟩,⟨(some 15),(.extract 1 (.t 13)),none,71004002,[]⟩,⟨(some 4),(.new [(.int .i64 0),(.int .i64 0)]),none,71004003,[]⟩,⟨none,(.store 2 (.t 4) (.t 14)),none,71004004,[]⟩,⟨(some 5),(.gG (.t 15)),none,71004005,[]⟩]
def GD:VC:=(.jo false [⟨(some 16),(.gG (.t 3)),none,71005000,[]⟩,⟨(some 17),(.load true 2 (.t 4)),none,71005001,[]⟩,⟨(some 18),(.gG (.t 5)),none,71005002,[]⟩,⟨(some 19),(.build [(.int .i64 0),(.int .i64 0),(.int .i64 0)] [(0,(2,(.t 17))),(2,(1,(.t 18)))]),none,71005003,[]⟩,⟨(some 20),(.oh 3 1 [(.t 19)]),none,71005004,[]⟩,⟨(some 21),(.append 3 (.t 16) (.t 20)),none,71005005,[]⟩,⟨(some 3),(.gG (.t 21)),none,71005006,[]⟩])
def GF:VC:=(.seq (.jo false [⟨(some 22),(.gG (.t 3)),none,71006000,[]⟩,⟨(some 23),(.call 91 [(.t 22)]),none,71006001,[]⟩,⟨none,(.store 1 (.t 2) (.t 23)),none,71006002,[]⟩]) .ret)
def GH:List nZ:=[(.cell true 1 2)]
def LY:O:=(.t 9)
theorem Vk:Ja Tryz.prog [] Tryz.f71.ntmps 71 71004000 10 11 12 13 (WV CC 0) (WV CC 1) (Vv CC) (Vw CC) (rgR CC) GC GD:=⟨by kernel_rfl,by kernel_rfl,by kernel_rfl,by kernel_rfl,by kernel_rfl,by kernel_rfl,by kernel_rfl,by kernel_rfl,by kernel_rfl,by decide,by decide,by decide,by decide,by decide,by kernel_rfl,by kernel_rfl⟩
theorem VL:CC=.seq (P4 CC) (.seq (P4 (IU CC)) (.seq (.seq (.region 2 (rgP CC++[rgO CC]).toArray false) (.block 0 (.loop (Lw 3 4 0 1 12 (WV CC 0) (WV CC 1) (Vv CC) (Vw CC) (rgR CC))))) (IU (IU (IU CC))))):=by kernel_rfl
theorem To (m:MK):CS Tryz.prog Tryz.f71.ntmps CC (Vx Tryz.prog L1 PV PW m LY 71002999 10 11 12 13 GC GD 0 1 GF):=by
 rw[VL]
 exact CS.seq (CS.code (md:=[]) (fid:=71) mixed (by kernel_rfl)) (CS.seq (CS.code (md:=[]) (fid:=71) mixed (by kernel_rfl)) (CS.seq (CS.rng (tm:=.tmp 9) (sA:=71002000) (t:=140) (k:=87) (e:=2) mixed Vk (by kernel_rfl) (by kernel_rfl) (by kernel_rfl) (by decide) (by kernel_rfl) (by kernel_rfl) (by kernel_rfl)) (CS.code (md:=[]) (fid:=71) mixed (by kernel_rfl))))
theorem Vt {args:List AV} {σ:au} {K:AV->au->Prop} (ha:args.length=Tryz.f71.params.size) (m:MK) (h:RY Tryz.prog L1 PV PW m LY 71002999 10 11 12 13 GC GD 0 1 GF (lL GH K) (bD args) σ):Call Tryz.prog 71 args σ K:=
 CS.fn Tryz.func71 (by kernel_rfl) (by kernel_rfl) ha.symm (by decide) (To m) (Lx mixed h)
end Go.Proofs.YtalkncaokeaifaaGreatDoor.V

namespace Go.Proofs.YtalkncaokeaifaaGreatDoor.V
open Go.RowKit
attribute [local irreducible] dH wpOps eB Call
attribute [local go_sem] ax eo dS ez ev cZ upd bD K.av bR AV.cells AV.cell rowOf rowsOf part ld rowAt eL bz bx cW dj eO bf cC dw er ea cR dq cw cu da db bp aI bZ bj ck cj dn dr dp bW br cz dm bh ar cq bH eM aT bL bq aH cU aQ cX AV.undef aW bd de di cY c6 bJ dv dy bE du dt cm cr List.getD_cons_zero List.getD_cons_succ List.getD_nil List.all_cons List.all_nil Bool.and_true Bool.true_and Bool.and_self Bool.not_true Bool.not_false Option.map_some Option.map_none Option.bind_some Option.bind_none List.length_cons List.length_nil List.take_succ_cons List.take_zero List.take_nil List.drop_succ_cons List.drop_zero List.drop_nil List.head?_cons List.map_cons List.map_nil List.getElem?_cons_zero List.getElem?_cons_succ List.cons_append List.nil_append List.append_nil List.length_map List.set_cons_zero List.set_cons_succ Nat.reduceMul eq_self Int.toNat_natCast Int.natCast_nonneg and_self true_and and_true decide_true decide_false Bool.false_eq_true Nat.zero_add Nat.add_zero List.contains_cons List.contains_nil Bool.or_false Bool.false_or beq_self_eq_true Nat.reduceBEq ne_eq not_true_eq_false not_false_eq_true Id.mk.injEq false_and and_false Nat.reduceLT Int.reduceLE Int.reduceLT Int.reduceToNat Int.reduceNeg Int.reduceAdd Nat.le_refl List.length_append beq_true beq_false Bool.not_eq_eq_eq_not or_false false_or dX ad ae aP aJ bt bI aD aS aA aL bU aZ
def dd (L:List af):Nat->List af
 |0=>[]
 |j+1=>if 0<j/\nU L j=nU L (j-1)then dd L j else dd L j++[nU L j]
theorem zJ:∀{ps qs:List aa},(ps.Pairwise fun a b=>k8 a.bQ b.bQ=true)->(qs.Pairwise fun a b=>k8 a.bQ b.bQ=true)->(∀x,x∈ps↔x∈qs)->ps=qs
 |[],[],_,_,_=>rfl
 |[],q::qs,_,_,h=>absurd ((h q).2 (by simp)) (by simp)
 |p::ps,[],_,_,h=>absurd ((h p).1 (by simp)) (by simp)
 |p::ps,q::qs,hp,hq,h=>by
  obtain⟨p1,p2⟩:=List.pairwise_cons.1 hp
  obtain⟨q1,q2⟩:=List.pairwise_cons.1 hq
  have e:p=q:=by
   rcases List.mem_cons.1 ((h p).1 (by simp))with e|e
   ·exact e
   ·rcases List.mem_cons.1 ((h q).2 (by simp))with e'|e'
    ·exact e'.symm
    ·have:=CF (q1 p e)
     rw[p1 q e']at this;cases this
  subst e
  congr 1
  refine zJ p2 q2 fun x=>⟨fun hx=>?_,fun hx=>?_⟩
  ·rcases List.mem_cons.1 ((h x).1 (List.mem_cons_of_mem _ hx))with e|e
   ·subst e;have:=p1 x hx;rw[gz]at this;cases this
   ·exact e
  ·rcases List.mem_cons.1 ((h x).2 (List.mem_cons_of_mem _ hx))with e|e
   ·subst e;have:=q1 x hx;rw[gz]at this;cases this
   ·exact e
theorem Fj {L qs:List aa} (hR:mE L) (hp:qs.Perm L) (hs:∀i j:Nat,i<j->j<qs.length->k8 (cP qs j).bQ (cP qs i).bQ=false):qs=L:=by
 rw[ml]at hR
 have hd:L.Pairwise fun a b=>a.bQ≠b.bQ:=hR.imp fun {a b} h e=>by rw[e,gz]at h;cases h
 have hdq:qs.Pairwise fun a b=>a.bQ≠b.bQ:=hp.symm.pairwise hd fun {a b} h e=>h e.symm
 refine zJ ?_ hR fun x=>hp.mem_iff
 rw[List.pairwise_iff_getElem]at hdq ⊢
 intro i j hi hj yh
 have h1:=hs i j yh hj
 rw[fx hj,fx hi]at h1
 exact uM h1 fun e=>hdq i j hi hj yh e.symm
theorem DX (ps:List aa) (h0:ps≠[]) (hlen:ps.length<=1048576) (σ:au) (id:Id) (hv:id.cV<σ.next) (hg:σ.get id=some ⟨true,3,ps.map ai⟩):
  Call Tryz.prog 112 [.own id 0 ps.length] σ fun a σ'=>∃o:Id,a=.own o 0 ps.length/\σ'.get o=some ⟨true,3,ps.map ai⟩/\σ.next<=o.cV/\o.cV<σ'.next/\∀x:Id,x.cV<σ.next->σ'.get x=σ.get x:=by
 refine eX fC rfl fun hl=>?_
 clear hl
 have h2:ps.length<=16777216:=ab
 have hm:(ps.map ai).length=ps.length:=by simp
 have v1:=dF hv
 have ht:(ps.map ai).take ps.length=ps.map ai:=by rw[<-hm,List.take_length]
 have ha:(ps.map ai).all (fun c=>c.length==3&&c.all AV.cell)=true:=all_map fun x=>by simp[ai,AV.cell]
 (try((repeat(revert hN;revert N;apply Pn.out));refine wk (tw @hg (tw @h2 (tw @hm (tw @v1 (tw @ht @ha))))) ?_;(repeat(refine Pn.mk ?_;intro N hN))))
 exact eK (vs:=[.own ⟨112003002,σ.next+2⟩ 0 ps.length]) (.inl rfl) (sd @Nat.zero_add) ⟨_,rfl,sd @Nat.zero_add,cD,cD,fun x hx=>by
  have:=dF hx
  simp only[go_sem, ↓reduceIte,Nat.reduceEqDiff,Nat.reduceAdd,Nat.reduceSub,Nat.reduceLeDiff,reduceCtorEq,this]⟩
theorem z7 (ps L:List aa) (hlen:ps.length<=1000000) (h0:ps≠[]) (hR:mE L) (hp:ps.Perm L) (σ:au) (id:Id) (hv:id.cV<σ.next) (hg:σ.get id=some ⟨true,3,ps.map ai⟩):
  Call Tryz.prog 91 [.own id 0 ps.length] σ fun a σ'=>∃o:Id,a=.agg [.own o 0 L.length]/\σ'.get o=some ⟨true,3,L.map ai⟩/\σ.next<=o.cV/\o.cV<σ'.next/\∀x:Id,x.cV<σ.next->σ'.get x=σ.get x:=by
 refine eX fC rfl fun hl=>?_
 clear hl
 have v1:=dF hv
 (try((repeat(revert hN;revert N;apply Pn.out));refine wk (tw @hg @v1) ?_;(repeat(refine Pn.mk ?_;intro N hN))))
 refine .inr (bc _ _ _ _ _ (fun r σ1 hq=>?_) (DX ps h0 ab ⟨_,_⟩ id cD (sd (tw @v1 @hg))))
 obtain⟨g1,x1⟩:=σ1
 obtain⟨o,rfl,q1,q2,q3,q4⟩:=hq
 (try dsimp only at q1 q2 q3 q4)
 have k2:=q4 ⟨91000000,σ.next⟩ cD
 simp only[go_sem, ↓reduceIte,Nat.reduceEqDiff,Nat.reduceAdd,Nat.reduceSub,Nat.reduceLeDiff,reduceCtorEq]at k2
 refine hN _ _ ?_
 clear hN N
 (try((repeat(revert hN;revert N;apply Pn.out));refine wk @Nat.zero_add ?_;(repeat(refine Pn.mk ?_;intro N hN))))
 refine .inr (bc _ _ _ _ _ (fun r σ2 hq=>?_) (Ig R7 R8 ps ab ⟨g1,_⟩ o q1))
 obtain⟨g2,x2⟩:=σ2
 obtain⟨u1,u2,ss,u3,u4,u5,u6⟩:=hq
 (try dsimp only at u1 u2 u3)
 have hss:ss=L:=Fj hR (u5.trans hp) u6
 rw[hss]at u3 u4
 have o2:(⟨91000000,σ.next⟩:Id)≠o:=fun e=>by rw[<-e]at q2;(try dsimp only at q2);omega
 have k3:=(u2 _ o2).trans k2
 have of:=eq_false (fun e:o=(⟨91000000,σ.next⟩:Id)=>o2 e.symm)
 refine hN _ _ ?_
 clear hN N
 (try((repeat(revert hN;revert N;apply Pn.out));refine wk @k3 ?_;(repeat(refine Pn.mk ?_;intro N hN))))
 exact eK (.inl rfl) (vs:=[.agg [.own o 0 ps.length]]) (sd @Nat.zero_add) ⟨o,by rw[u4];rfl,sd (tw @of @u3),ab,cD,fun x hx=>by
  have h1:x≠o:=fun e=>by rw[e]at hx;omega
  have h2:=u2 x h1
  have h3:=q4 x cD
  have h4:=dF hx
  simp only[go_sem, ↓reduceIte,Nat.reduceEqDiff,Nat.reduceAdd,Nat.reduceSub,Nat.reduceLeDiff,reduceCtorEq,h4]at h3
  simp only[go_sem, ↓reduceIte,Nat.reduceEqDiff,Nat.reduceAdd,Nat.reduceSub,Nat.reduceLeDiff,reduceCtorEq,h4,h2,h3]⟩
def AsI (σ:au) (T:Id) (ts:List aa) (pre:List (List AV)) (e0:Env) (s0:au):Prop:=
 ∃l':List aa,pre=l'.map ai/\((l'=[]/\e0 3=.bP)∨∃o:Id,e0 3=.own o 0 l'.length/\s0.get o=some ⟨true,3,l'.map ai⟩/\σ.next<o.cV/\o.cV<s0.next)/\σ.next<s0.next/\(∀x:Id,x.cV<σ.next->x≠T->s0.get x=σ.get x)/\s0.get T=some ⟨false,mP.j4,ts.map ai⟩/\s0.get ⟨71000000,σ.next⟩=some ⟨true,1,[[.bP]]⟩/\e0 2=.ptr ⟨71000000,σ.next⟩ 0 0
theorem HN (L:List aa) (x:aa):(L++[x]).length=L.length+1:=by rw[List.length_append];rfl
theorem DL {σ:au} {c T O:Id} {s:aw} {ts L:List aa} (h:lz σ.get σ.next c T O s ts) (hlen:ts.length<=100000) (h0:ts≠[]) (hR:mE L) (hp:ts.Perm L):
  Call Tryz.prog 71 [.ptr c 0 0] σ (fun r σ'=>∃o:Id,r=.agg [.own o 0 L.length]/\σ'.get o=some ⟨true,3,L.map ai⟩/\σ.next<=o.cV/\o.cV<σ'.next/\σ.next<=σ'.next/\∀x:Id,x.cV<σ.next->x≠T->σ'.get x=σ.get x):=by
 refine Vt rfl mP ?_
 have fy:=h.row
 have Dv:=h.tl
 have v1:=dF h.cv
 have v2:=dF h.tv
 unfold RY
 rw[L1]
 (try((repeat(revert hN;revert N;apply Pn.out));refine wk (tw @fy @v1) ?_;(repeat(refine Pn.mk ?_;intro N hN))))
 refine Mb (VW (id:=T) (r:=⟨true,mP.j4,ts.map ai⟩) (AsI σ T ts) (sd @LY.eq_1) (sd (tw @Dv @v2)) rfl (by decide) ?_ ?_ ?_)
 ·have vT:(T=(⟨71000000,σ.next⟩:Id))=False:=eq_false fun e=>by have:=h.tv;rw[e]at this;(try dsimp only at this);omega
  have vT2:((⟨71000000,σ.next⟩:Id)=T)=False:=eq_false fun e=>by have:=h.tv;rw[<-e]at this;(try dsimp only at this);omega
  exact⟨[],rfl,.inl ⟨rfl,sd @Nat.zero_add⟩,cD,fun x hx hT=>by
   have h1:=dF hx
   have h2:=eq_false hT
   simp only[go_sem, ↓reduceIte,Nat.reduceEqDiff,Nat.reduceAdd,Nat.reduceSub,Nat.reduceLeDiff,reduceCtorEq,h1,h2],sd @Nat.zero_add,sd @vT2,sd @Nat.zero_add⟩
 ·rintro pre cs rest e0 s0 kv vv hpp ⟨l',rfl,hout,Co,jz,hT,h5,e2⟩ hK hpart hvv
  have sL:cs∈ts.map ai:=hpp.subset (by simp)
  obtain⟨tl,hx,rfl⟩:=List.mem_map.1 sL
  have Nz:=hpp.length_eq
  simp only[List.length_append,List.length_map,List.length_cons]at Nz
  simp[part,ai,MK.ks]at hpart hvv
  subst hpart hvv
  rw[GC,GD]
  have Ck:=h.tv
  have vT:=dF (i:=T) (n:=s0.next) ab
  have v5:=dF (i:=⟨71000000,σ.next⟩) (n:=s0.next) cD
  clear hpp sL hK
  have NA:l'.map ai++[ai tl]=(l'++[tl]).map ai:=by simp
  have Du:=HN l' tl
  have Cq:(l'++[tl]).map ai=l'.map ai++[[.int .i64 tl.bQ.fu,.int .i64 tl.bQ.eW,.int .i64 tl.cK]]:=by rw[List.map_append];rfl
  rcases hout with⟨Mx,e3⟩|⟨o,e3,og,on,ov⟩
  ·subst Mx
   (try((repeat(revert hN;revert N;apply Pn.out));refine wk (tw @e3 @e2) ?_;(repeat(refine Pn.mk ?_;intro N hN))))
   exact⟨[]++[tl],NA,.inr ⟨⟨71005005,s0.next+1+1⟩,sl @Nat.zero_add,sl @Nat.zero_add,cD,cD⟩,cD,fun y hy Rt=>by
    have h1:=dF (i:=y) (n:=s0.next) ab
    have h2:=jz y hy Rt
    simp only[go_sem, ↓reduceIte,Nat.reduceEqDiff,Nat.reduceAdd,Nat.reduceSub,Nat.reduceLeDiff,reduceCtorEq,h1,h2],sd (tw @vT @hT),sd (tw @v5 @h5),sd @e2⟩
  ·have vo:=dF ov
   have oT:=dU (a:=T) (b:=o) ab
   have o5:=dU (a:=⟨71000000,σ.next⟩) (b:=o) cD
   have fJ:(l'.map ai).length=l'.length:=by simp
   have e1:l'.length<=16777215:=ab
   (try((repeat(revert hN;revert N;apply Pn.out));refine wk (tw @e3 (tw @e2 (tw @og (tw @vo (tw @fJ @e1))))) ?_;(repeat(refine Pn.mk ?_;intro N hN))))
   exact⟨l'++[tl],NA,.inr ⟨⟨71005005,s0.next+1+1⟩,by rw[Du];simp only[go_sem, ↓reduceIte,Nat.reduceEqDiff,Nat.reduceAdd,Nat.reduceSub,Nat.reduceLeDiff,reduceCtorEq]<;>rfl,by rw[Cq];simp only[go_sem, ↓reduceIte,Nat.reduceEqDiff,Nat.reduceAdd,Nat.reduceSub,Nat.reduceLeDiff,reduceCtorEq]<;>rfl,cD,cD⟩,cD,fun y hy Rt=>by
    have h1:=dF (i:=y) (n:=s0.next) ab
    have h2:=jz y hy Rt
    have h3:=dU (a:=y) (b:=o) ab
    simp only[go_sem, ↓reduceIte,Nat.reduceEqDiff,Nat.reduceAdd,Nat.reduceSub,Nat.reduceLeDiff,reduceCtorEq,h1,h2,h3],sd (tw @vT (tw @oT @hT)),sd (tw @v5 (tw @o5 @h5)),sd @e2⟩
 ·rintro pre e0 s0 hpp ⟨l',rfl,hout,Co,jz,hT,h5,e2⟩ hK
  clear hK
  have lp:l'.Perm ts:=by
   have:∀{a b:List aa},(a.map ai).Perm (b.map ai)->a.Perm b:=fun {a b} rj=>by
    have h2:=rj.map (fun cs:List AV=>match cs with|[.int _ x,.int _ y,.int _ t]=>(⟨⟨x,y⟩,t⟩:aa)|_=>default)
    simpa[List.map_map,Function.comp_def,ai]using h2
   exact this hpp
  have ql:=lp.length_eq
  rcases hout with⟨Mx,e3⟩|⟨o,e3,og,on,ov⟩
  ·exfalso
   subst Mx
   exact h0 (List.eq_nil_of_length_eq_zero ql.symm)
  have gZ:l'≠[]:=fun e=>h0 (List.eq_nil_of_length_eq_zero (by rw[<-ql,e];rfl))
  (try((repeat(revert hN;revert N;apply Pn.out));refine wk (tw @GF.eq_1 (tw @GH.eq_1 (tw @e3 @e2))) ?_;(repeat(refine Pn.mk ?_;intro N hN))))
  refine .inr (bc _ _ _ _ _ (fun r σ1 hq=>?_) (z7 l' L ab gZ hR (lp.trans hp) ⟨s0.get,_⟩ o cD og))
  obtain⟨g1,x1⟩:=σ1
  obtain⟨o2,rfl,q1,q2,q3,q4⟩:=hq
  (try dsimp only at q1 q2 q3 q4)
  have k5:=(q4 ⟨71000000,σ.next⟩ cD).trans h5
  have o25:=dU (a:=⟨71000000,σ.next⟩) (b:=o2) cD
  refine hN _ _ ?_
  clear hN N
  (try((repeat(revert hN;revert N;apply Pn.out));refine wk (tw @GF.eq_1 (tw @GH.eq_1 (tw @e2 @k5))) ?_;(repeat(refine Pn.mk ?_;intro N hN))))
  exact eK (.inl rfl) (vs:=[.agg [.own o2 0 L.length]]) (by rw[GH];simp only[gY,kX,go_sem, ↓reduceIte,Nat.reduceEqDiff,Nat.reduceAdd,Nat.reduceSub,Nat.reduceLeDiff,reduceCtorEq,e2]) ⟨o2,rfl,sd (tw @o25 @q1),ab,cD,cD,fun y hy Rt=>by
   have h1:=dF (i:=y) (n:=σ.next) hy
   simp only[go_sem, ↓reduceIte,Nat.reduceEqDiff,Nat.reduceAdd,Nat.reduceSub,Nat.reduceLeDiff,reduceCtorEq,h1]
   exact(q4 y ab).trans (jz y hy Rt)⟩
theorem lz.three {g g':Rows} {n n':Nat} {c T O:Id} {s:aw} {ts:List aa} (h:lz g n c T O s ts) (hn:n<=n') (hc:g' c=g c) (hT:g' T=g T) (hO:g' O=g O):lz g' n' c T O s ts:=
 ⟨hc.trans h.row,hT.trans h.tl,by rw[hO];exact h.op,Nat.lt_of_lt_of_le h.cv hn,Nat.lt_of_lt_of_le h.tv hn,Nat.lt_of_lt_of_le h.ov hn,h.cT,h.cO,h.TO⟩
theorem zG (q:aa):∀l:List aa,(l++[q]).Perm (mh l q)
 |[]=>List.Perm.refl _
 |x::l=>by
  have ih:=zG q l
  rw[mh]
  split
  ·exact List.perm_append_comm (l₁:=x::l) (l₂:=[q])
  ·exact ih.cons x
structure qJ (s:aw) (S:ME):Prop where
 at_:∀q,gh (s.dJ.ay++S.1) q=gh S.2 q
 perm:(s.dJ.ay++S.1).Perm S.2
theorem qJ.fit {s:aw} {S:ME} (h:qJ s S) (p:af) (t:Int):eH s (s.dJ.ay++S.1) p t=eH s S.2 p t:=by
 have e:gh (s.dJ.ay++S.1)=gh S.2:=funext h.at_
 unfold eH
 rw[e]
theorem qJ.no {s:aw} {S:ME} (h:qJ s S) {p:af} (h0:ew S.2 p<0):ew (s.dJ.ay++S.1) p<0:=lr.2 fun t ht=>lr.1 h0 t (h.perm.subset ht)
theorem qJ.put {s:aw} {S:ME} (h:qJ s S) {x:aa} (h0:ew S.2 x.bQ<0):qJ s (S.1++[x],mh S.2 x) where
 at_ q:=by
  show gh (s.dJ.ay++(S.1++[x])) q=gh (mh S.2 x) q
  rw[<-List.append_assoc,qN q (lr.1 (h.no h0)),BC q (lr.1 h0),h.at_]
 perm:=by
  show(s.dJ.ay++(S.1++[x])).Perm (mh S.2 x)
  rw[<-List.append_assoc]
  exact(h.perm.append_right [x]).trans (zG x S.2)
def mc (l:List aa) (ps:List af) (q:af):List af:=if zF q=true/\ew l q<0 then E4 ps q else ps
def oN (l:List aa) (ps:List af) (p:af):Nat->List af
 |0=>ps
 |d+1=>mc l (oN l ps p d) (cN p d)
def oP (l:List aa):Nat->List af
 |0=>[]
 |i+1=>oN l (oP l i) (cP l i).bQ 4
def mb (l:List aa):List af:=oP l l.length
theorem AU {l:List aa} {ps:List af} (h:nF ps) (q:af):nF (mc l ps q):=by
 unfold mc;split
 ·exact Li h q
 ·exact h
theorem wR {l:List aa} {ps:List af} (h:nF ps) (p:af):∀d,nF (oN l ps p d)
 |0=>h
 |d+1=>AU (wR h p d) _
theorem wS (l:List aa):∀i,nF (oP l i)
 |0=>List.Pairwise.nil
 |i+1=>wR (wS l i) _ 4
theorem AS (l:List aa) (ps:List af) (q:af):(mc l ps q).length<=ps.length+1:=by
 unfold mc;split
 ·exact Lh ps q
 ·omega
theorem wQ (l:List aa) (ps:List af) (p:af):∀d,(oN l ps p d).length<=ps.length+d
 |0=>Nat.le_refl _
 |d+1=>by
  have:=wQ l ps p d
  have:=AS l (oN l ps p d) (cN p d)
  simp only[oN];omega
theorem qu (l:List aa):∀i,(oP l i).length<=i*4
 |0=>Nat.le_refl _
 |i+1=>by
  have:=qu l i
  have:=wQ l (oP l i) (cP l i).bQ 4
  simp only[oP];omega
theorem wJ (l:List aa) (ps:List af) (p:af) (x:af):∀d,x∈oN l ps p d↔x∈ps∨∃k,k<d/\x=cN p (k:Nat)/\zF x=true/\ew l x<0
 |0=>⟨.inl,fun h=>h.elim id fun⟨_,h,_⟩=>absurd h (Nat.not_lt_zero _)⟩
 |d+1=>by
  simp only[oN,mc]
  have ih:=wJ l ps p x d
  split
  ·rename_i h
   rw[KQ,ih]
   constructor
   ·rintro(rfl|h1|⟨k,h1,h2⟩)
    ·exact .inr ⟨d,Nat.lt_succ_self _,rfl,h⟩
    ·exact .inl h1
    ·exact .inr ⟨k,ab,h2⟩
   ·rintro(h1|⟨k,h1,h2⟩)
    ·exact .inr (.inl h1)
    ·by_cases hk:k=d
     ·subst hk;exact .inl h2.1
     ·exact .inr (.inr ⟨k,ab,h2⟩)
  ·rename_i h
   rw[ih]
   constructor
   ·rintro(h1|⟨k,h1,h2⟩)
    ·exact .inl h1
    ·exact .inr ⟨k,ab,h2⟩
   ·rintro(h1|⟨k,h1,h2⟩)
    ·exact .inl h1
    ·by_cases hk:k=d
     ·subst hk;rw[h2.1]at h2;exact absurd h2.2 h
     ·exact .inr ⟨k,ab,h2⟩
def I7 (l:List aa) (x:af):Prop:=zF x=true/\ew l x<0/\∃i d:Nat,i<l.length/\d<4/\x=cN (cP l i).bQ d
theorem wK (l:List aa) (x:af):∀i,x∈oP l i↔∃j d:Nat,j<i/\d<4/\x=cN (cP l j).bQ d/\zF x=true/\ew l x<0
 |0=>⟨fun h=>(by cases h),fun⟨_,_,h,_⟩=>absurd h (Nat.not_lt_zero _)⟩
 |i+1=>by
  simp only[oP]
  rw[wJ,wK l x i]
  constructor
  ·rintro(⟨j,d,h1,h2⟩|⟨d,h1,h2⟩)
   ·exact⟨j,d,ab,h2⟩
   ·exact⟨i,d,Nat.lt_succ_self _,h1,h2⟩
  ·rintro⟨j,d,h1,h2,h3⟩
   by_cases hj:j=i
   ·subst hj;exact .inr ⟨d,h2,h3⟩
   ·exact .inl ⟨j,d,ab,h2,h3⟩
theorem zm (l:List aa) (x:af):x∈mb l↔I7 l x:=by
 unfold mb I7
 rw[wK]
 exact⟨fun⟨j,d,h1,h2,h3,h4,h5⟩=>⟨h4,h5,j,d,h1,h2,h3⟩,fun⟨h4,h5,j,d,h1,h2,h3⟩=>⟨j,d,h1,h2,h3,h4,h5⟩⟩
end Go.Proofs.YtalkncaokeaifaaGreatDoor.V

namespace Go.Proofs.YtalkncaokeaifaaGreatDoor.V
open Go.RowKit Go.Shelf
attribute [local go_sem] Oper.semAt_some
structure pK (W:World) (v:Value) (l:List aa):Prop where
 sl:∃A c,v=.slice A l.length c/\(l.length<=c/\c<=maxLen)/\(l=[]∨∃b o,A=some ⟨b,o,none⟩/\∀i,i<l.length->W.cell? ⟨b,o+(i*3+0),none⟩=some (.int .i64 (cP l i).bQ.fu)/\W.cell? ⟨b,o+(i*3+1),none⟩=some (.int .i64 (cP l i).bQ.eW)/\W.cell? ⟨b,o+(i*3+2),none⟩=some (.int .i64 (cP l i).cK))
structure I6 (K:World->World->Prop) (v:Value) (l:List aa):Prop where
 refl:∀W,K W W
 trans:∀{A B C:World},K A B->K B C->K A C
 of:∀{W W':World},Below W.heap.size W W'->K W W'
 size:∀{W W':World},K W W'->W.heap.size<=W'.heap.size
 typed:∀{W W':World},K W W'->∀(b:Nat) (cells:Array Value) (T:TypeId) (fr:Nat×Nat),W.heap[b]? =some (Obj.cells cells T fr)->T≠162->T≠202->W'.heap[b]? =W.heap[b]?
 pl:∀{W W':World},K W W'->pK W v l->pK W' v l
theorem lg {W:World} {b x:Nat} {v:Value} (h:W.cell? ⟨b,x,none⟩=some v):b<W.heap.size:=by
 rcases Nat.lt_or_ge b W.heap.size with h1|h1
 ·exact h1
 ·simp[World.cell?,Array.getElem?_eq_none h1]at h
theorem pK.below {W W':World} {v:Value} {l:List aa} (h:pK W v l) (k:Below W.heap.size W W'):pK W' v l:=by
 obtain⟨A,c,rfl,hm,hc⟩:=h.sl
 refine⟨A,c,rfl,hm,?_⟩
 rcases hc with h0|⟨b,o,rfl,iZ⟩
 ·exact .inl h0
 ·refine .inr ⟨b,o,rfl,fun i hi=>?_⟩
  obtain⟨h1,h2,h3⟩:=iZ i hi
  have hb:=lg h1
  exact⟨(k.cell (p:=⟨b,_,none⟩) hb).trans h1,(k.cell (p:=⟨b,_,none⟩) hb).trans h2,(k.cell (p:=⟨b,_,none⟩) hb).trans h3⟩
theorem pK.eE {P:Program} {W:World} {v:Value} {l:List aa} (h:pK W v l):jA P W (fun b=>b<W.heap.size) (.sl (l.map ai)) v:=by
 obtain⟨A,c,rfl,hm,hc⟩:=h.sl
 rcases hc with rfl|⟨b,o,rfl,iZ⟩
 ·exact .Bd A c (by simpa using hm.2)
 by_cases Mx:l=[]
 ·subst Mx;exact .Bd _ c (by simpa using hm.2)
 ·have kC:0<l.length:=List.length_pos_iff.2 Mx
  have hb:=lg (iZ 0 kC).1
  refine .sl (l.map ai) b o l.length c 3 (fun i j=>if j=0 then .int .i64 (cP l i).bQ.fu else if j=1 then .int .i64 (cP l i).bQ.eW else .int .i64 (cP l i).cK) (by simp) hm.1 hm.2 hb (fun cs dW=>?_) (fun cs dW a ha=>?_) (fun i j hi hj=>?_) (fun i j cs a hi hj=>?_)
  ·obtain⟨x,_,rfl⟩:=List.mem_map.1 dW;rfl
  ·obtain⟨x,_,rfl⟩:=List.mem_map.1 dW
   simp[ai]at ha
   rcases ha with rfl|rfl|rfl<;>rfl
  ·obtain⟨h1,h2,h3⟩:=iZ i hi
   match j,hj with
   |0,_=>exact h1
   |1,_=>exact h2
   |2,_=>exact h3
   |j+3,hj=>omega
  ·have pN:i<l.length:=by have:=(List.getElem?_eq_some_iff.1 hi).1;simpa using this
   rw[jH pN]at hi
   injection hi with hi
   subst hi
   match j,hj with
   |0,hj=>simp[ai]at hj;subst hj;exact .int _ _
   |1,hj=>simp[ai]at hj;subst hj;exact .int _ _
   |2,hj=>simp[ai]at hj;subst hj;exact .int _ _
   |j+3,hj=>simp[ai]at hj
theorem BQ {P:Program} (hm:P.follows .mixedOrders=true) {f:Nat} {args:List AV} {vs:Array Value} {w:World} {r:AV} (h:az P f args r) (hr:∀g r0,gx g 6 r0=some r->r0=r) (hA:fE P w (fun b=>b<w.heap.size) (fun _=>none) args vs):
  Calls P f vs w fun e w'=>∃D ι u,e=.returned u/\dE P w' D ι r u/\Below w.heap.size w w':=by
 have hs:=ij hm (h 0) w.heap.size (fun b=>b<w.heap.size) (fun _=>none) w vs ⟨Nat.le_refl _,fun _ h=>h,fun id r h=>(by cases h),fun id jR r r' B B' h=>(by cases h)⟩ (fun id h=>absurd rfl h) hA
 refine hs.mono ?_
 rintro e w' ⟨r0,g',n',D',ι',u,rfl,⟨r',hz,rfl⟩,ed,hsim,_,_,hZ⟩
 have:=hr _ _ hz
 subst this
 exact⟨D',ι',u,rfl,hZ,ed.below⟩
theorem oF {g:Rows} {n:Nat} {a:AV} {k:IntKind} {m:Int} (h:gx g (n+1) a=some (.int k m)):a=.int k m:=by
 cases a<;>rw[gx]at h<;>simp_all
 all_goals (repeat' (split at h))<;>simp_all
theorem Eg {g:Rows} {a:AV} {x y:Int} (h:gx g 6 a=some (.agg [.int .i64 x,.int .i64 y])):a=.agg [.int .i64 x,.int .i64 y]:=by
 cases a with
 |agg cs=>
  rw[Ax]at h
  simp only[Option.map_eq_some_iff,AV.agg.injEq,exists_eq_right]at h
  match cs,h with
  |[],h=>rw[dD]at h;simp at h
  |[a],h=>
   rw[cQ,dD]at h
   cases ha:gx g 5 a<;>simp[ha]at h
  |[a,b],h=>
   rw[cQ,cQ,dD]at h
   cases ha:gx g 5 a<;>cases hb:gx g 5 b<;>simp[ha,hb]at h
   obtain⟨rfl,rfl⟩:=h
   rw[oF ha,oF hb]
  |a::b::c::r,h=>
   rw[cQ,cQ,cQ]at h
   cases ha:gx g 5 a<;>cases hb:gx g 5 b<;>cases hc:gx g 5 c<;>cases hd:eU g 5 r<;>simp[ha,hb,hc,hd]at h
 |_=>rw[gx]at h<;>simp_all<;>(repeat' (split at h))<;>simp_all
theorem Fk (W:World) (p:af) (d:Int) (hd:ir d 0 3=true) (hx:iB p.fu) (hy:iB p.eW):Calls Tryz.prog 105 #[.agg #[.int .i64 p.fu,.int .i64 p.eW],.int .i64 d] W fun e W'=>e=.returned (.agg #[.int .i64 (cN p d).fu,.int .i64 (cN p d).eW])/\Below W.heap.size W W':=by
 refine(BQ mixed (Fo p d hd hx hy) (fun g r0 h=>Eg h) ?_:Calls _ _ _ _ _).mono ?_
 ·exact mi (vs:= #[.int .i64 d]) (.agg _ _ (fun j=>if j=0 then .int .i64 p.fu else .int .i64 p.eW) rfl (fun a ha=>by simp[ao]at ha;rcases ha with rfl|rfl<;>rfl) (fun j hj=>by match j,hj with|0,_=>rfl|1,_=>rfl|j+2,hj=>simp[ao]at hj;omega) (fun j a ha=>by match j,ha with|0,ha=>simp[ao]at ha;subst ha;exact .int _ _|1,ha=>simp[ao]at ha;subst ha;exact .int _ _|j+2,ha=>simp[ao]at ha)) (mi (vs:= #[]) (.int _ _) xg)
 ·rintro e W' ⟨D,ι,u,rfl,hr,hB⟩
  refine⟨?_,hB⟩
  obtain⟨vs,f,rfl,fc,_,h1,h2⟩:=iy hr
  have v0:=h1 0 (by simp[ao])
  have v1:=h1 1 (by simp[ao])
  rw[dI (h2 0 _ rfl)]at v0
  rw[dI (h2 1 _ rfl)]at v1
  obtain⟨vl⟩:=vs
  match vl,fc with
  |[a,b],_=>
   simp at v0 v1
   rw[v0,v1]
theorem yq (W:World) (l:List aa) (v:Value) (hP:pK W v l) (p:af) (hR:mE l) (SE:l.length<=1048576):Calls Tryz.prog 155 #[.agg #[v],.agg #[.int .i64 p.fu,.int .i64 p.eW]] W fun e W'=>e=.returned (.int .i64 (ew l p))/\Below W.heap.size W W':=by
 refine(BQ mixed (HX l p hR SE) (fun g r0 h=>oF h) ?_:Calls _ _ _ _ _).mono ?_
 ·exact mi (vs:= #[.agg #[.int .i64 p.fu,.int .i64 p.eW]]) (.agg _ _ (fun _=>v) rfl (fun a ha=>by simp at ha;rw[ha];rfl) (fun j hj=>by match j,hj with|0,_=>rfl|j+1,hj=>simp at hj) (fun j a ha=>by match j,ha with|0,ha=>simp at ha;subst ha;exact hP.eE|j+1,ha=>simp at ha)) (mi (vs:= #[]) (.agg _ _ (fun j=>if j=0 then .int .i64 p.fu else .int .i64 p.eW) rfl (fun a ha=>by simp[ao]at ha;rcases ha with rfl|rfl<;>rfl) (fun j hj=>by match j,hj with|0,_=>rfl|1,_=>rfl|j+2,hj=>simp[ao]at hj;omega) (fun j a ha=>by match j,ha with|0,ha=>simp[ao]at ha;subst ha;exact .int _ _|1,ha=>simp[ao]at ha;subst ha;exact .int _ _|j+2,ha=>simp[ao]at ha)) xg)
 ·rintro e W' ⟨D,ι,u,rfl,hr,hB⟩
  exact⟨by rw[dI hr],hB⟩
theorem grown_of {W W':World} (h:Below W.heap.size W W'):W.grownBy W' none:=⟨h.os,h.tape,h.output,h.size,fun k hk _=>h.block k hk⟩
def CP (l:List aa) (i:Nat) (d:Int):List (Nat×Nat×Int):=if 0<=ew l (cN (cP l i).bQ d)then[(i,(ew l (cN (cP l i).bQ d)).toNat,d)]else[]
def kH (l:List aa) (i m:Nat):List (Nat×Nat×Int):=(List.range m).flatMap fun j:Nat=>CP l i (1-(j:Int))
def k9 (l:List aa) (n:Nat):List (Nat×Nat×Int):=(List.range n).flatMap fun i=>kH l i 2
theorem ma (l:List aa) (n:Nat):k9 l (n+1)=k9 l n++kH l n 2:=by simp[k9,List.range_succ]
theorem mT (l:List aa) (i m:Nat):kH l i (m+1)=kH l i m++CP l i (1-(m:Int)):=by simp[kH,List.range_succ]
theorem RI (l:List aa) {k m:Nat} (hk:k<l.length) (hm:m<=2):k9 l k++kH l k m <+:k9 l l.length:=by
 have h1:∀d,k9 l k <+:k9 l (k+d):=fun d=>by
  induction d with
  |zero=>exact List.prefix_refl _
  |succ d ih=>rw[<-Nat.add_assoc,ma l (k+d)];exact ih.trans (List.prefix_append _ _)
 have h2:∀d,k9 l (k+1) <+:k9 l (k+1+d):=fun d=>by
  induction d with
  |zero=>exact List.prefix_refl _
  |succ d ih=>rw[<-Nat.add_assoc,ma l (k+1+d)];exact ih.trans (List.prefix_append _ _)
 have h3:=h2 (l.length-(k+1))
 rw[show k+1+(l.length-(k+1))=l.length by omega,ma]at h3
 refine List.IsPrefix.trans ?_ h3
 have h4:kH l k m <+:kH l k 2:=by
  have:m=0∨m=1∨m=2:=ab
  rcases this with rfl|rfl|rfl
  ·exact List.nil_prefix
  ·rw[mT l k 1];exact List.prefix_append _ _
  ·exact List.prefix_refl _
 exact(List.prefix_append_right_inj _).2 h4
def S9 (l:List aa) (x:Nat×Nat×Int):Prop:=x.1<l.length/\x.2.1<l.length/\(0<=x.2.2/\x.2.2<=1)/\(x.2.1:Int)=ew l (cN (cP l x.1).bQ x.2.2)
def FQ (x:Nat×Nat×Int):Array Value:= #[.agg #[.int .i64 (x.1:Int),.int .i64 (x.2.1:Int)],.int .i64 x.2.2]
theorem NQ (l:List aa) (p:af) (h:0<l.length:=by omega):ew l p<(l.length:Int):=by
 unfold ew
 split<;>omega
theorem Vh (l:List aa) (hA:lR l) (q Ba:Nat) (vS:Value) (K:World->World->Prop) (kl:I6 K vS l) (J Jx:List (Nat×Nat×Int)->World->Prop) (n:Nat) (hn:1<=n)
  (hY:∀pre x W,J pre W->pre.length<(k9 l l.length).length->S9 l x->YieldAt Fence.wide (n-1) Tryz.prog q (FQ x) W fun e W'=>
   (e=.returned (.bool true)/\J (pre++[x]) W'/\K W W')∨(e=.returned (.bool false)/\Jx (pre++[x]) W'))
  (W:World) (hJ:AbidesFrom W.heap.size J) (QK:W.heap[Ba]? =some (.cells #[vS] 40 (0,0))) (hP:pK W vS l) (h0:J [] W):
  CallsIn Fence.wide n Tryz.prog 154 #[.func (.yield q) #[] #[],.pointer (some ⟨Ba,0,none⟩)] W fun e W'=>(∃v,e=.returned v)/\
   ((∃ys,ys=k9 l l.length/\J ys W')∨(∃pre,pre <+:k9 l l.length/\Jx pre W')):=by
 obtain⟨A,cp,rfl,_,_⟩:=hP.sl
 refine callsIn_of_wp Tryz.func154 rfl trivial ?_ rfl
 simp only[Tryz.ntmps154,List.size_toArray,List.length_cons,List.length_nil,Nat.reduceAdd,Nat.reduceSub,Array.replicate_succ,Array.replicate_zero,List.push_toArray,List.append_toArray,List.nil_append,List.cons_append]
 have jt:W.cell? ⟨Ba,0,none⟩=some (.slice A l.length cp):=by simp[World.cell?,QK]
 gi_wp2
 gi_loopw [11] (fun i wr=>∃k:Nat,k<=l.length/\i=.int .i64 k/\J (k9 l k) wr/\K W wr)
  (fun i _=>l.length-(intOf i).toNat)
 case atStart=>exact⟨0,Nat.zero_le _,rfl,h0,kl.refl _⟩
 case round=>
  obtain⟨k,hk,rfl,Pf,hKt⟩:=hrel
  by_cases eJ:k<l.length
  ·have dW:∃b o,A=some ⟨b,o,none⟩/\wr.cell? ⟨b,o+k*3,none⟩=some (.int .i64 (cP l k).bQ.fu)/\wr.cell? ⟨b,o+k*3+1,none⟩=some (.int .i64 (cP l k).bQ.eW)/\wr.cell? ⟨b,o+k*3+2,none⟩=some (.int .i64 (cP l k).cK):=by
    obtain⟨A',c',hv,_,hc⟩:=(kl.pl hKt hP).sl
    cases hv
    rcases hc with rfl|⟨b,o,rfl,iZ⟩
    ·simp at eJ
    ·obtain⟨h1,h2,h3⟩:=iZ k eJ
     exact⟨b,o,rfl,by simpa using h1,by rw[Nat.add_assoc];exact h2,by rw[Nat.add_assoc];exact h3⟩
   obtain⟨b,o,rfl,hx,hy',ht⟩:=dW
   gi_wp2
   obtain⟨W2,T5⟩:∃W2,(wr.alloc (.cells #[.int .i64 (cP l k).bQ.fu,.int .i64 (cP l k).bQ.eW,.int .i64 (cP l k).cK] 89)).alloc (.cells #[.int .i64 1,.int .i64 0] 2)=W2:=⟨_,rfl⟩
   have nK:Below wr.heap.size wr W2:=by rw[<-T5];exact((Below.refl _ wr).alloc (Nat.le_refl _) _).alloc (by simp) _
   have XJ:W2.heap[wr.heap.size]? =some (.cells #[.int .i64 (cP l k).bQ.fu,.int .i64 (cP l k).bQ.eW,.int .i64 (cP l k).cK] 89 (0,0)):=by
    rw[<-T5,Below.heap_alloc _ _ _ (by simp)];exact World.alloc_heap_new _ _
   have XI:W2.heap[wr.heap.size+1]? =some (.cells #[.int .i64 1,.int .i64 0] 2 (0,0)):=by
    have:=World.alloc_heap_new (wr.alloc (.cells #[.int .i64 (cP l k).bQ.fu,.int .i64 (cP l k).bQ.eW,.int .i64 (cP l k).cK] 89)) (.cells #[.int .i64 1,.int .i64 0] 2)
    rw[World.size_alloc]at this
    rw[<-T5];exact this
   have nL:K W W2:=kl.trans hKt (kl.of nK)
   have TM:J (k9 l k++kH l k 0) W2:=by
    have:=hJ _ _ _ none Pf (grown_of nK) (fun r h=>by cases h)
    simpa[kH]using this
   rw[T5]
   clear T5
   generalize wr=w1 at *
   gi_loopw [18] (fun j wr=>∃m:Nat,m<=2/\j=.int .i64 m/\J (k9 l k++kH l k m) wr/\K W2 wr)
    (fun j _=>2-(intOf j).toNat)
   case atStart=>exact⟨0,ab,rfl,TM,kl.refl _⟩
   case round=>
    obtain⟨m,hm,rfl,hJm,Pg⟩:=hrel
    have UA:m=0∨m=1∨m=2:=ab
    by_cases SL:m<2
    ·have hkd:=kl.typed Pg _ _ _ _ XI (by decide) (by decide)
     have Mw:=kl.typed Pg _ _ _ _ XJ (by decide) (by decide)
     have hka:=kl.typed (kl.trans nL Pg) _ _ _ _ QK (by decide) (by decide)
     have cd:wr.cell? ⟨w1.heap.size+1,m,none⟩=some (.int .i64 (1-(m:Int))):=by
      rw[World.cell?_of_block hkd]
      rcases UA with rfl|rfl|rfl
      ·simp[World.cell?,XI]
      ·simp[World.cell?,XI]
      ·omega
     have ct0:wr.cell? ⟨w1.heap.size,0,none⟩=some (.int .i64 (cP l k).bQ.fu):=by rw[World.cell?_of_block Mw];simp[World.cell?,XJ]
     have ct1:wr.cell? ⟨w1.heap.size,1,none⟩=some (.int .i64 (cP l k).bQ.eW):=by rw[World.cell?_of_block Mw];simp[World.cell?,XJ]
     have ca:wr.cell? ⟨Ba,0,none⟩=some (.slice (some ⟨b,o,none⟩) l.length cp):=by rw[World.cell?_of_block hka];simp[World.cell?,QK]
     have hPw:pK wr (.slice (some ⟨b,o,none⟩) l.length cp) l:=kl.pl (kl.trans nL Pg) hP
     have hba:Ba<wr.heap.size:=by
      have h1:=(Array.getElem?_eq_some_iff.1 QK).1
      have h2:=kl.size (kl.trans nL Pg)
      omega
     have hdm:ir (1-(m:Int)) 0 3=true:=jE ab
     have UM:=A4 (hA.pt eJ)
     have Py:=fun w0=>Fk w0 (cP l k).bQ (1-(m:Int)) hdm UM.1 UM.2
     have hPd:pK wr.drew (.slice (some ⟨b,o,none⟩) l.length cp) l:=hPw.below ⟨rfl,rfl,rfl,Nat.le_refl _,fun _ _=>rfl⟩
     have cad:wr.drew.cell? ⟨Ba,0,none⟩=some (.slice (some ⟨b,o,none⟩) l.length cp):=ca
     have ctd0:wr.drew.cell? ⟨w1.heap.size,0,none⟩=some (.int .i64 (cP l k).bQ.fu):=ct0
     have ctd1:wr.drew.cell? ⟨w1.heap.size,1,none⟩=some (.int .i64 (cP l k).bQ.eW):=ct1
     have hfw:=hA.Dq
     have Uy:=hA.MA
     have NB:=mixed
     gi_wp2
     gi_region_with_o (first|(refine⟨trivial,?_⟩;gi_at_call 105;refine(callsIn_wide.2 (Py _)).mono ?_;rintro e w3 ⟨rfl,Cj⟩;have ca3:=(Cj.cell (p:=⟨Ba,0,none⟩) hba).trans cad)|(refine⟨trivial,?_⟩;gi_at_call 155;refine(callsIn_wide.2 (yq _ l _ (hPd.below Cj) (cN (cP l k).bQ (1-(m:Int))) Uy ab)).mono ?_;rintro e w4 ⟨rfl,hB4⟩))
     all_goals
      have QJ:Below wr.heap.size wr w4:=(show Below wr.heap.size wr wr.drew from⟨rfl,rfl,rfl,Nat.le_refl _,fun _ _=>rfl⟩).trans (Cj.trans (hB4.mono Cj.size))
      have hJ4:J (k9 l k++kH l k m) w4:=hJ _ _ _ none hJm (grown_of QJ) (fun r h=>by cases h)
      have um:=RI l eJ (m:=m+1) ab
      rw[mT,<-List.append_assoc]at um
      have wi:=mT l k m
      have hw:wrap64 ((m:Int)+1)=((m+1:Nat):Int):=by unfold wrap64;omega
      by_cases AG:0<=ew l (cN (cP l k).bQ (1-(m:Int)))
      ·have im:((ew l (cN (cP l k).bQ (1-(m:Int)))).toNat:Int)=ew l (cN (cP l k).bQ (1-(m:Int))):=ab
       rw[CP,if_pos AG]at um wi
       obtain⟨fn,tmps,assign,body,hy,hR⟩:=hY _ (k,(ew l (cN (cP l k).bQ (1-(m:Int)))).toNat,1-(m:Int)) w4 hJ4 (by
        have:=um.length_le
        simp only[List.length_append,List.length_cons,List.length_nil]at this ⊢
        omega) ⟨eJ,by
        have:ew l (cN (cP l k).bQ (1-(m:Int)))<(l.length:Int):=NQ _ _
        show(ew l (cN (cP l k).bQ (1-(m:Int)))).toNat<l.length
        omega,⟨by show 0<=1-(m:Int);omega,by show 1-(m:Int)<=1;omega⟩,im⟩
       simp only[FQ,im]at hy
       gi_wp2
       refine hR.mono ?_
       rintro e W3 (⟨rfl,hJ3,Hs⟩|⟨rfl,hJx3⟩)
       ·gi_wp2
        go_roundw
        case rel=>exact⟨m+1,ab,by simp,by rw[wi,<-List.append_assoc];exact hJ3,kl.trans (kl.trans Pg (kl.of QJ)) Hs⟩
        case measure=>simp[intOf];omega
       ·gi_wp2
        refine bodyPost_ret (results_none rfl _ _ _) rfl ?_
        exact⟨⟨_,rfl⟩,.inr ⟨_,um,hJx3⟩⟩
      ·rw[CP,if_neg AG,List.append_nil]at wi
       gi_wp2
       refine⟨fun _ h=>(by cases h),?_⟩
       gi_wp2
       go_roundw
       case rel=>exact⟨m+1,ab,by simp,by rw[wi];exact hJ4,kl.trans Pg (kl.of QJ)⟩
       case measure=>simp[intOf];omega
    ·obtain rfl:m=2:=ab
     have hfw:=hA.Dq
     gi_wp2
     go_roundw
     case rel=>exact⟨k+1,ab,by simp,by rw[ma];exact hJm,kl.trans nL Pg⟩
     case measure=>simp[intOf];omega
  ·obtain rfl:k=l.length:=ab
   gi_wp2
   go_end0
   exact⟨⟨_,rfl⟩,.inl ⟨_,rfl,Pf⟩⟩
theorem AW (n:Nat) (vS:Value) (w:World):CallsIn Fence.wide n Tryz.prog 132 #[.agg #[vS]] w fun e w'=>e=.returned (.func (.func 154) #[] #[.pointer (some ⟨w.heap.size,0,none⟩)])/\w'=w.alloc (.cells #[vS] 40):=by
 refine callsIn_of_wp Tryz.func132 rfl trivial ?_ rfl
 simp only[Tryz.ntmps132,List.size_toArray,List.length_cons,List.length_nil,Nat.reduceAdd,Nat.reduceSub,Array.replicate_succ,Array.replicate_zero,List.push_toArray,List.append_toArray,List.nil_append,List.cons_append]
 gi_wp2
 go_ret
 exact⟨rfl,rfl⟩
abbrev P9 (l:List aa):Type:={x:Nat×Nat×Int // S9 l x}
theorem KT (l:List aa) (hA:lR l) (Ba n:Nat) (hn:1<=n) (vS:Value) (K:World->World->Prop) (kl:I6 K vS l) (w:World) (QK:w.heap[Ba]? =some (.cells #[vS] 40 (0,0))) (hP:pK w vS l):
  SeqStopsK Fence.wide n Tryz.prog 154 #[.pointer (some ⟨Ba,0,none⟩)] (fun x:P9 l=>FQ x.1) K (fun ys=>ys.map (·.1)=k9 l l.length) (fun _=>True) (k9 l l.length).length w:=fun q J Jx W hW hJ _ hY h0=>by
 refine(Vh l hA q Ba vS K kl (fun ys W=>∃zs:List (P9 l),zs.map (·.1)=ys/\J zs W) (fun ys W=>∃zs:List (P9 l),zs.map (·.1)=ys/\Jx zs W) n hn (fun pre x W1 TL eJ wj=>?_) W (fun s A B row ⟨zs,e,h⟩ hg hr=>⟨zs,e,hJ zs A B row h hg hr⟩) ((hW.block Ba (Array.getElem?_eq_some_iff.1 QK).1).trans QK) (hP.below hW) ⟨[],rfl,h0⟩).mono ?_
 ·obtain⟨zs,rfl,h1⟩:=TL
  refine YieldAt.mono (hY zs ⟨x,wj⟩ W1 h1 (by simpa using eJ)) ?_
  rintro e W' (⟨h2,h3,h4⟩|⟨h2,h3⟩)
  ·exact .inl ⟨h2,⟨zs++[⟨x,wj⟩],by simp,h3⟩,h4⟩
  ·exact .inr ⟨h2,⟨zs++[⟨x,wj⟩],by simp,h3⟩⟩
 ·rintro e W' ⟨h1,⟨ys,rfl,zs,h2,h3⟩|⟨pre,_,zs,h2,h3⟩⟩
  ·exact⟨h1,.inl ⟨zs,h2,h3⟩⟩
  ·exact⟨h1,.inr ⟨zs,trivial,h3⟩⟩
def Ac (s:aO) (l:List aa) (x:Nat×Nat×Int):List PB:=if 0<fX s (cP l x.1).cK x.2.2 (cP l x.2.1).cK then[⟨x.1,x.2.1,fX s (cP l x.1).cK x.2.2 (cP l x.2.1).cK⟩]else[]
theorem JB (s:aO) (l:List aa):dL s l=(k9 l l.length).flatMap (Ac s l):=by
 have h1:∀i d,lH s l i d=(CP l i d).flatMap (Ac s l):=fun i d=>by
  unfold lH CP
  by_cases h:0<=ew l (cN (cP l i).bQ d)
  ·rw[if_pos h]
   simp only[List.flatMap_cons,List.flatMap_nil,List.append_nil,Ac]
   by_cases h2:0<fX s (cP l i).cK d (cP l (ew l (cN (cP l i).bQ d)).toNat).cK
   ·rw[if_pos ⟨h,h2⟩,if_pos h2]
   ·rw[if_neg fun hc=>h2 hc.2,if_neg h2]
  ·rw[if_neg h,if_neg fun hc=>h hc.1];rfl
 unfold dL lf k9
 rw[List.flatMap_assoc]
 congr 1
 funext i
 unfold ig kH
 rw[List.flatMap_assoc]
 congr 1
 funext j
 exact h1 i _
end Go.Proofs.YtalkncaokeaifaaGreatDoor.V

namespace Go.Proofs.YtalkncaokeaifaaGreatDoor.V
structure Bq (n:Nat) (c f:Nat->Nat->Int) (x:Nat) (par:Nat->Int) (Q:List Nat) (i:Nat):Prop where
 nodup:Q.Nodup
 lt:∀v∈Q,v<n
 root:par x=(x:Int)
 mem:x∈Q
 iff:∀v,v<n->(0<=par v↔v∈Q)
 up:∀v∈Q,v≠x->∃u,u∈Q/\par v=(u:Int)/\Q.idxOf u<Q.idxOf v/\f u v<c u v
 done:∀j (_:j<i) (hl:j<Q.length) (v:Nat),v<n->f Q[j] v<c Q[j] v->v∈Q
 ile:i<=Q.length
section
variable {n:Nat} {c f:Nat->Nat->Int} {x:Nat} {par:Nat->Int} {Q:List Nat} {i:Nat}
theorem Bq.len (h:Bq n c f x par Q i):Q.length<=n:=rO n Q h.nodup h.lt
theorem Bq.start (hx:x<n):Bq n c f x (fun v=>if v=x then(x:Int)else -1) [x] 0:=by
 refine⟨by simp,fun v hv=>by simp at hv;omega,by simp,by simp,fun v hv=>?_,fun v hv gZ=>absurd (by simpa using hv) gZ,fun j hj=>ab,by simp⟩
 by_cases h:v=x
 ·simp[h]
 ·simp[h]
theorem Bq.visit (h:Bq n c f x par Q i) (hi:i<Q.length) {v:Nat} (hv:v<n) (hp:par v<0) (hr:f Q[i] v<c Q[i] v):Bq n c f x (fun w=>if w=v then(Q[i]:Int)else par w) (Q++[v]) i:=by
 have YG:v∉Q:=fun hm=>by have:=(h.iff v hv).2 hm;omega
 have Rs:x≠v:=fun e=>YG (e▸h.mem)
 have AG:∀u∈Q,(Q++[v]).idxOf u=Q.idxOf u:=fun u hu=>by rw[List.idxOf_append,if_pos hu]
 have wg:(Q++[v]).idxOf v=Q.length:=by rw[List.idxOf_append,if_neg YG];simp
 refine⟨?_,fun w hw=>?_,by simp only[if_neg Rs];exact h.root,by simp[h.mem],fun w hw=>?_,fun w hw gZ=>?_,fun j hj hl w hw Hy=>?_,by simp;omega⟩
 ·refine List.nodup_append.2 ⟨h.nodup,by simp,fun a ha b hb=>?_⟩
  rw[List.mem_singleton.1 hb]
  rintro rfl;exact YG ha
 ·rcases List.mem_append.1 hw with hw|hw
  ·exact h.lt w hw
  ·rw[List.mem_singleton.1 hw];exact hv
 ·by_cases Gb:w=v
  ·subst Gb;simp
  ·rw[if_neg Gb,h.iff w hw];simp[Gb]
 ·by_cases Gb:w=v
  ·subst Gb
   refine⟨Q[i],by simp,by simp,?_,hr⟩
   rw[AG _ (List.getElem_mem hi),wg]
   exact List.idxOf_lt_length_of_mem (List.getElem_mem hi)
  ·have hwQ:w∈Q:=by
    rcases List.mem_append.1 hw with hw|hw
    ·exact hw
    ·exact absurd (List.mem_singleton.1 hw) Gb
   obtain⟨u,h1,h2,h3,h4⟩:=h.up w hwQ gZ
   exact⟨u,by simp[h1],by rw[if_neg Gb];exact h2,by rw[AG u h1,AG w hwQ];exact h3,h4⟩
 ·have ja:j<Q.length:=by have:=h.ile;omega
  rw[List.getElem_append_left ja]at Hy
  exact List.mem_append_left _ (h.done j hj ja w hw Hy)
theorem Bq.next (h:Bq n c f x par Q i) (hi:i<Q.length) (eI:∀v,v<n->f Q[i] v<c Q[i] v->0<=par v):Bq n c f x par Q (i+1):=by
 refine⟨h.nodup,h.lt,h.root,h.mem,h.iff,h.up,fun j hj hl v hv hr=>?_,ab⟩
 by_cases mC:j=i
 ·subst mC;exact(h.iff v hv).1 (eI v hv hr)
 ·exact h.done j ab hl v hv hr
theorem Bq.cut (h:Bq n c f x par Q Q.length) {y:Nat} (hy:y<n) (hp:par y<0):∃S:Nat->Bool,S x=true/\S y=false/\∀u v,u<n->v<n->S u=true->S v=false->¬f u v<c u v:=by
 refine⟨fun v=>decide (v∈Q),by simp[h.mem],?_,fun u v hu hv h1 h2 hr=>?_⟩
 ·have:y∉Q:=fun hm=>by have:=(h.iff y hy).2 hm;omega
  simp[this]
 ·simp only[decide_eq_true_eq,decide_eq_false_iff_not]at h1 h2
  obtain⟨j,hj,rfl⟩:=List.getElem_of_mem h1
  exact h2 (h.done j hj hj v hv hr)
def uU (c f:Nat->Nat->Int) (Q:List Nat) (y k:Nat) (out:List Nat):Prop:=∃rest,out.reverse=k::rest/\(k::rest).getLast (by simp)=y/\qI f c (k::rest)/\(k::rest).Pairwise (fun a b=>Q.idxOf a<Q.idxOf b)/\∀v∈k::rest,v∈Q
theorem uU.start {y:Nat} (hy:y∈Q):uU c f Q y y [y]:=⟨[],rfl,rfl,trivial,by simp,by simpa using hy⟩
theorem uU.step {y k u:Nat} {out:List Nat} (h:uU c f Q y k out) (hu:u∈Q) (hi:Q.idxOf u<Q.idxOf k) (hr:f u k<c u k):uU c f Q y u (out++[u]):=by
 obtain⟨rest,h1,h2,h3,h4,h5⟩:=h
 refine⟨k::rest,by rw[List.reverse_append,h1];rfl,by rw[List.getLast_cons (by simp)];exact h2,⟨hr,h3⟩,?_,?_⟩
 ·refine List.pairwise_cons.2 ⟨fun b hb=>?_,h4⟩
  rcases List.mem_cons.1 hb with rfl|hb
  ·exact hi
  ·have:=(List.pairwise_cons.1 h4).1 b hb;omega
 ·intro v hv
  rcases List.mem_cons.1 hv with rfl|hv
  ·exact hu
  ·exact h5 v hv
theorem uU.len {y k:Nat} {out:List Nat} (h:uU c f Q y k out) (hq:∀v∈Q,v<n):out.length<=n:=by
 obtain⟨rest,h1,_,_,h4,h5⟩:=h
 rw[<-List.length_reverse,h1]
 refine rO n _ (h4.imp fun eJ he=>?_) fun v hv=>hq v (h5 v hv)
 subst he;omega
structure Tb (n:Nat) (c f:Nat->Nat->Int) (x y:Nat) (p:List Nat):Prop where
 way:∃r,p=x::r/\(x::r).getLast (by simp)=y
 nodup:p.Nodup
 room:qI f c p
 lt:∀v∈p,v<n
theorem uU.way {y:Nat} {out:List Nat} (h:uU c f Q y x out) (hq:∀v∈Q,v<n):Tb n c f x y out.reverse:=by
 obtain⟨rest,h1,h2,h3,h4,h5⟩:=h
 rw[h1]
 exact⟨⟨rest,rfl,h2⟩,h4.imp fun eJ he=>by subst he;omega,h3,fun v hv=>hq v (h5 v hv)⟩
end
end Go.Proofs.YtalkncaokeaifaaGreatDoor.V

namespace Go.Proofs.YtalkncaokeaifaaGreatDoor.V
open Go.RowKit
attribute [local irreducible] dH wpOps eB Call
attribute [local go_sem] ax eo dS ez ev cZ upd bD K.av bR AV.cells AV.cell rowOf rowsOf part ld rowAt eL bz bx cW dj eO bf cC dw er ea cR dq cw cu da db bp aI bZ bj ck cj dn dr dp bW br cz dm bh ar cq bH eM aT bL bq aH cU aQ cX AV.undef aW bd de di cY c6 bJ dv dy bE du dt cm cr List.getD_cons_zero List.getD_cons_succ List.getD_nil List.all_cons List.all_nil Bool.and_true Bool.true_and Bool.and_self Bool.not_true Bool.not_false Option.map_some Option.map_none Option.bind_some Option.bind_none List.length_cons List.length_nil List.take_succ_cons List.take_zero List.take_nil List.drop_succ_cons List.drop_zero List.drop_nil List.head?_cons List.map_cons List.map_nil List.getElem?_cons_zero List.getElem?_cons_succ List.cons_append List.nil_append List.append_nil List.length_map List.set_cons_zero List.set_cons_succ Nat.reduceMul eq_self Int.toNat_natCast Int.natCast_nonneg and_self true_and and_true decide_true decide_false Bool.false_eq_true Nat.zero_add Nat.add_zero List.contains_cons List.contains_nil Bool.or_false Bool.false_or beq_self_eq_true Nat.reduceBEq ne_eq not_true_eq_false not_false_eq_true Id.mk.injEq false_and and_false Nat.reduceLT Int.reduceLE Int.reduceLT Int.reduceToNat Int.reduceNeg Int.reduceAdd Nat.le_refl List.length_append beq_true beq_false Bool.not_eq_eq_eq_not or_false false_or dX ad ae aP aJ bt bI aD aS aA aL bU aZ
def lN (l:List Nat) (i x:Nat):Nat:=if x<i∨l.length-i<=x then l.getD (l.length-1-x) 0 else l.getD x 0
theorem zP (l:List Nat):l.map eN=ga (fun x=>l.getD x 0) l.length:=by
 refine List.ext_getElem? fun i=>?_
 by_cases h:i<l.length
 ·rw[iP h,List.getElem?_map,List.getElem?_eq_getElem h];simp[List.getD_eq_getElem?_getD,h]
 ·rw[List.getElem?_eq_none (by simp;omega),List.getElem?_eq_none (by rw[js];omega)]
theorem H3 (l:List Nat):ga (lN l 0) l.length=l.map eN:=by
 rw[zP]
 exact kj fun x hx=>by unfold lN;rw[if_neg ab]
theorem Lr (l:List Nat) {i:Nat} (h:l.length<=2*i+1) (hi:i<=l.length):ga (lN l i) l.length=l.reverse.map eN:=by
 rw[zP l.reverse,List.length_reverse]
 refine kj fun x hx=>?_
 have hr:l.reverse.getD x 0=l.getD (l.length-1-x) 0:=by
  rw[List.getD_eq_getElem?_getD,List.getElem?_reverse hx,List.getD_eq_getElem?_getD]
 rw[hr]
 unfold lN
 by_cases hc:x<i∨l.length-i<=x
 ·rw[if_pos hc]
 ·rw[if_neg hc]
  have:x=l.length-1-x:=ab
  rw[<-this]
theorem H4 (l:List Nat) (hp:0<l.length) (hl:l.length<=1048576) (o:Id) (σ:au) (ho:σ.get o=some ⟨true,1,l.map eN⟩) (SQ:o.cV<σ.next):
  Call Tryz.prog 179 [.own o 0 l.length] σ fun r σ'=>σ'.get o=some ⟨true,1,l.reverse.map eN⟩/\σ.next<=σ'.next/\∀i:Id,i.cV<σ.next->(i=o)=False->σ'.get i=σ.get i:=by
 refine eX fC rfl fun fb=>?_
 clear fb
 rw[<-H3]at ho
 have WN:IntKind.i64.wrap ((l.length:Int)-1)=((l.length-1:Nat):Int):=by rw[cH ab];omega
 (try((repeat(revert hN;revert N;apply Pn.out));refine wk @WN ?_;(repeat(refine Pn.mk ?_;intro N hN))))
 refine dc (fun m env st=>∃i:Nat,m=l.length-i/\2*i<=l.length+1/\i<=l.length/\env 2=.int .i64 (i:Int)/\env 3=.int .i64 ((l.length:Int)-1-i)/\st.get o=some ⟨true,1,ga (lN l i) l.length⟩/\σ.next<=st.next/\∀x:Id,x.cV<σ.next->(x=o)=False->st.get x=σ.get x) l.length ⟨0,rfl,ab,ab,by(simp only[go_sem, ↓reduceIte,Nat.reduceEqDiff,Nat.reduceAdd,Nat.reduceSub,Nat.reduceLeDiff,reduceCtorEq])<;>rfl,by(simp only[go_sem, ↓reduceIte,Nat.reduceEqDiff,Nat.reduceAdd,Nat.reduceSub,Nat.reduceLeDiff,reduceCtorEq,WN]);congr 1;omega,ho,cD,fun x _ _=>rfl⟩ ?_
 rintro m env_b st_b ⟨i,rfl,wc,pN,b2,b3,bg,bn,fG⟩ bkp
 have b0:=bkp 0 (by kernel_rfl)
 simp only[go_sem, ↓reduceIte,Nat.reduceEqDiff,Nat.reduceAdd,Nat.reduceSub,Nat.reduceLeDiff,reduceCtorEq]at b0
 clear bkp
 have tl:=js (lN l i) l.length
 have rC:=dF (i:=o) (n:=st_b.next) ab
 by_cases hi:(i:Int)<(l.length:Int)-1-i
 ·have im:i<l.length:=ab
  obtain⟨j,hj⟩:∃j,j=l.length-1-i:=⟨_,rfl⟩
  have pO:j<l.length:=ab
  have Uu:(l.length:Int)-1-i=(j:Int):=ab
  rw[Uu]at b3 hi
  have g1:=iP (f:=lN l i) im
  have g2:=iP (f:=lN l i) pO
  have e1:lN l i i=l.getD i 0:=by unfold lN;rw[if_neg ab]
  have e2:lN l i j=l.getD j 0:=by unfold lN;rw[if_neg ab]
  have PA:(ga (lN l i) l.length).set i (eN (l.getD j 0))=ga (fun x=>if x=i then l.getD j 0 else lN l i x) l.length:=uS im (if_pos rfl) fun x _ hx=>if_neg hx
  have Kr:(ga (fun x=>if x=i then l.getD j 0 else lN l i x) l.length).set j (eN (l.getD i 0))=ga (lN l (i+1)) l.length:=uS pO (by unfold lN;rw[if_pos ab];congr 1;omega) fun x hx SV=>by
   by_cases PH:x=i
   ·rw[if_pos PH];unfold lN;rw[if_pos ab];congr 1;omega
   ·rw[if_neg PH];unfold lN
    by_cases hc:x<i∨l.length-i<=x
    ·rw[if_pos hc,if_pos ab]
    ·rw[if_neg hc,if_neg ab]
  have tl2:=js (fun x=>if x=i then l.getD j 0 else lN l i x) l.length
  have g3:=iP (f:=fun x=>if x=i then l.getD j 0 else lN l i x) pO
  rw[e1]at g1
  rw[e2]at g2
  rw[if_neg ab,e2]at g3
  rw[eN]at g1 g2 g3 PA Kr
  have hii:(i:Int)<(l.length:Int):=ab
  have mC:(j:Int)<(l.length:Int):=ab
  have uq:IntKind.i64.wrap ((i:Int)+1)=((i+1:Nat):Int):=cE ab
  have nA:IntKind.i64.wrap ((j:Int)-1)=(l.length:Int)-1-((i+1:Nat):Int):=by rw[cH ab];omega
  (try((repeat(revert hN;revert N;apply Pn.out));refine wk (tw @b0 (tw @b2 (tw @b3 (tw @bg (tw @hi (tw @hii (tw @mC (tw @g1 (tw @g2 (tw @g3 (tw @PA (tw @Kr (tw @tl (tw @tl2 (tw @rC (tw @uq @nA)))))))))))))))) ?_;(repeat(refine Pn.mk ?_;intro N hN))))
  refine⟨_,?_,i+1,rfl,ab,ab,sd @uq,sd @nA,sd @Kr,cD,fun x hx IP=>?_⟩
  ·omega
  ·have:=fG x hx IP
   simp only[go_sem, ↓reduceIte,Nat.reduceEqDiff,Nat.reduceAdd,Nat.reduceSub,Nat.reduceLeDiff,reduceCtorEq,IP,this]
 ·rw[Lr l ab pN]at bg
  (try((repeat(revert hN;revert N;apply Pn.out));refine wk (tw @b0 (tw @b2 (tw @b3 (tw @bg @hi)))) ?_;(repeat(refine Pn.mk ?_;intro N hN))))
  exact eK (.inr rfl) (vs:=[]) (by simp only[gY,go_sem, ↓reduceIte,Nat.reduceEqDiff,Nat.reduceAdd,Nat.reduceSub,Nat.reduceLeDiff,reduceCtorEq]) ⟨bg,cD,fG⟩
theorem VX (cnt:Nat) (pn:1<=cnt) (hn:cnt<=1048576) (c f:Nat->Nat->Int) (x y:Nat) (hx:x<cnt) (hy:y<cnt):
  lQ Tryz.prog 158 [.fe (lj cnt c f),.int .i64 x,.int .i64 y] fun r=>(r=.bP/\∃S:Nat->Bool,S x=true/\S y=false/\∀u v,u<cnt->v<cnt->S u=true->S v=false->¬f u v<c u v)∨∃p:List Nat,r=.sl (p.map eN)/\Tb cnt c f x y p:=by
 refine lQ.body fC rfl fun hl n0=>?_
 clear hl
 have lM:=xF c cnt
 have jt:(0:Int)<=(cnt:Int):=ab
 have PH:(x:Int)<(cnt:Int):=ab
 have hyi:(y:Int)<(cnt:Int):=ab
 (try((repeat(revert hN;revert N;apply Pn.out));refine wk (tw @lj.eq_1 @lM) ?_;(repeat(refine Pn.mk ?_;intro N hN))))
 refine .inr (bc _ _ _ _ _ (fun r σ1 hq=>?_) (Lp cnt pn hn (-1) ⟨158002000,n0+1+1⟩ _ (sd @Nat.zero_add) cD))
 obtain⟨o,rfl,ho,NG,NH,jz⟩:=hq
 (try dsimp only at ho NG NH jz)
 refine hN _ _ ?_
 clear hN N
 have rC:=dF NH
 have oH:(cnt:Int)<=1048576:=ab
 have Ud:qU<qU+cnt:=ab
 have hZ:List.replicate cnt [AV.int .i64 (-1)]=gS (fun _=>-1) cnt:=by
  refine List.ext_getElem? fun i=>?_
  by_cases h:i<cnt
  ·rw[fQ h,List.getElem?_replicate,if_pos h];rfl
  ·rw[List.getElem?_eq_none (by simp;omega),List.getElem?_eq_none (by rw[fI];omega)]
 rw[hZ]at ho
 have Pz:(gS (fun _=>-1) cnt).set x (ah (x:Int))=gS (fun v=>if v=x then(x:Int)else -1) cnt:=xG hx (if_pos rfl) fun v _ hv=>if_neg hv
 have Mq:=fQ (f:=fun _=>-1) hx
 have tl0:=fI (fun _=>-1) cnt
 rw[ah]at Pz Mq
 (try((repeat(revert hN;revert N;apply Pn.out));refine wk (tw @lj.eq_1 (tw @lM (tw @jt (tw @oH @rC)))) ?_;(repeat(refine Pn.mk ?_;intro N hN))))
 refine L7 ?_
 simp only[go_sem, ↓reduceIte,Nat.reduceEqDiff,Nat.reduceAdd,Nat.reduceSub,Nat.reduceLeDiff,reduceCtorEq,Ud]
 refine hN _ _ ?_
 clear hN N
 (try((repeat(revert hN;revert N;apply Pn.out));refine wk (tw @ho (tw @rC (tw @Pz (tw @Mq (tw @tl0 @PH))))) ?_;(repeat(refine Pn.mk ?_;intro N hN))))
 obtain⟨C,hC⟩:∃C:Id,C=⟨158003001,σ1.next+1⟩:=⟨_,rfl⟩
 have UI:=dU (a:=o) (b:=C) (by rw[hC];(try dsimp only);omega)
 have hCv:C.cV=σ1.next+1:=by rw[hC]
 refine dc (fun m env st=>∃(par:Nat->Int) (Q:List Nat) (i:Nat),m=cnt-i/\Bq cnt c f x par Q i/\st.get o=some ⟨true,1,gS par cnt⟩/\st.get C=some ⟨true,qU+cnt,(Q.drop i).map eN⟩/\σ1.next+1<st.next) cnt ⟨_,[x],0,rfl,Bq.start hx,sd @rC,by rw[hC];simp only[go_sem, ↓reduceIte,Nat.reduceEqDiff,Nat.reduceAdd,Nat.reduceSub,Nat.reduceLeDiff,reduceCtorEq,rC];rfl,cD⟩ ?_
 rintro m env_b st_b ⟨par,Q,i,rfl,hB,bgo,bgC,bn⟩ bkp
 have b0:=bkp 0 (by kernel_rfl)
 have b1:=bkp 1 (by kernel_rfl)
 have b2:=bkp 2 (by kernel_rfl)
 have b7:=bkp 7 (by kernel_rfl)
 have b8:=bkp 8 (by kernel_rfl)
 have b9:=bkp 9 (by kernel_rfl)
 rw[<-hC]at b9
 simp only[go_sem, ↓reduceIte,Nat.reduceEqDiff,Nat.reduceAdd,Nat.reduceSub,Nat.reduceLeDiff,reduceCtorEq]at b0 b1 b2 b7 b8 b9
 clear bkp
 have hQn:=hB.len
 have pN:=hB.ile
 have QZ:((Q.drop i).map eN).length=Q.length-i:=by simp
 by_cases hi:i<Q.length
 ·have kC:(0:Int)<((Q.length-i:Nat):Int):=ab
  have sj:Q.drop i=Q[i]::Q.drop (i+1):=List.drop_eq_getElem_cons hi
  obtain⟨u,hu⟩:∃u,u=Q[i]:=⟨_,rfl⟩
  have UU:u<cnt:=by rw[hu];exact hB.lt _ (List.getElem_mem hi)
  rw[<-hu]at sj
  (try((repeat(revert hN;revert N;apply Pn.out));refine wk (tw @b0 (tw @b1 (tw @b2 (tw @b7 (tw @b8 (tw @b9 (tw @bgC (tw @QZ @kC)))))))) ?_;(repeat(refine Pn.mk ?_;intro N hN))))
  refine L7 ?_
  rw[sj,List.map_cons,show eN u=[.int .i64 (u:Int)]from rfl]at bgC
  simp only[go_sem, ↓reduceIte,Nat.reduceEqDiff,Nat.reduceAdd,Nat.reduceSub,Nat.reduceLeDiff,reduceCtorEq,b9,bgC]
  refine hN _ _ ?_
  clear hN N
  (try((repeat(revert hN;revert N;apply Pn.out));refine wk @b7 ?_;(repeat(refine Pn.mk ?_;intro N hN))))
  refine dc (fun m env st=>∃(v:Nat) (par':Nat->Int) (Q':List Nat),m=cnt-v/\v<=cnt/\env 36=.int .i64 (v:Int)/\Bq cnt c f x par' Q' i/\(∃h:i<Q'.length,Q'[i]=u)/\st.get o=some ⟨true,1,gS par' cnt⟩/\st.get C=some ⟨true,qU+cnt,(Q'.drop (i+1)).map eN⟩/\σ1.next+1<st.next/\∀w,w<v->f u w<c u w->0<=par' w) cnt ⟨0,par,Q,rfl,Nat.zero_le _,by(simp only[go_sem, ↓reduceIte,Nat.reduceEqDiff,Nat.reduceAdd,Nat.reduceSub,Nat.reduceLeDiff,reduceCtorEq])<;>rfl,hB,⟨hi,hu.symm⟩,sd (tw @UI @bgo),sd @UI,cD,fun w hw=>absurd hw (Nat.not_lt_zero w)⟩ ?_
  rintro m env_c st_c ⟨v,par',Q',rfl,YL,c36,ef,⟨qD,F9⟩,cgo,cgC,cn,eI⟩ ckp
  have c0:=ckp 0 (by kernel_rfl)
  have c1:=ckp 1 (by kernel_rfl)
  have c2:=ckp 2 (by kernel_rfl)
  have c7:=ckp 7 (by kernel_rfl)
  have c8:=ckp 8 (by kernel_rfl)
  have c9:=ckp 9 (by kernel_rfl)
  have Mn:=ckp 10 (by kernel_rfl)
  have Qq:=ckp 35 (by kernel_rfl)
  simp only[go_sem, ↓reduceIte,Nat.reduceEqDiff,Nat.reduceAdd,Nat.reduceSub,Nat.reduceLeDiff,reduceCtorEq,b0,b1,b2,b7,b8,b9]at c0 c1 c2 c7 c8 c9 Mn Qq
  clear ckp
  have tl:=fI par' cnt
  by_cases hv:(v:Int)<(cnt:Int)
  ·have EA:v<cnt:=ab
   have SG:=fQ (f:=par') EA
   have jz:=QD cnt c f u v UU EA
   have hw:IntKind.i64.wrap ((v:Int)+1)=((v+1:Nat):Int):=cE ab
   rw[ah]at SG
   rw[lj]at jz
   by_cases yi:par' v<0
   ·by_cases hr:f u v<c u v
    ·rw[decide_eq_true hr]at jz
     have iL:(gS par' cnt).set v (ah (u:Int))=gS (fun w=>if w=v then(u:Int)else par' w) cnt:=xG EA (if_pos rfl) fun w _ hw=>if_neg hw
     rw[ah]at iL
     have nK:=ef.visit qD EA yi (by rw[F9];exact hr)
     rw[F9]at nK
     have hQ2:=nK.len
     rw[List.length_append]at hQ2
     simp only[List.length_singleton]at hQ2
     have iq:qU+(Q'.drop (i+1)).length<qU+cnt:=by rw[List.length_drop];omega
     (repeat(first|((repeat(revert hN;revert N;apply Pn.out));refine wk (tw @lj.eq_1 (tw @c0 (tw @c7 (tw @c8 (tw @c9 (tw @Mn (tw @c36 (tw @Qq (tw @hv (tw @cgo (tw @SG (tw @tl (tw @yi @iL))))))))))))) ?_;(repeat(refine Pn.mk ?_;intro N hN)))|((try apply Or.inl);refine⟨_,az.x (jz) (sd (tw @lj.eq_1 (tw @c0 (tw @c7 (tw @c8 (tw @c9 (tw @Mn (tw @c36 (tw @Qq (tw @hv (tw @cgo (tw @SG (tw @tl (tw @yi @iL)))))))))))))),?_⟩;refine hN _ _ ?_;clear hN N)))
     refine L7 ?_
     have hq:(Q'.drop (i+1)).map eN++[[.int .i64 (v:Int)]]=((Q'++[v]).drop (i+1)).map eN:=by rw[List.drop_append_of_le_length ab,List.map_append];rfl
     simp only[go_sem, ↓reduceIte,Nat.reduceEqDiff,Nat.reduceAdd,Nat.reduceSub,Nat.reduceLeDiff,reduceCtorEq,c9,cgC,iq,UI,hq]
     refine hN _ _ ?_
     clear hN N
     (try((repeat(revert hN;revert N;apply Pn.out));refine wk (tw @c36 @hw) ?_;(repeat(refine Pn.mk ?_;intro N hN))))
     refine⟨_,?_,v+1,_,_,rfl,EA,sd @hw,nK,⟨by rw[List.length_append];omega,by rw[List.getElem_append_left qD];exact F9⟩,sd @UI,sd @UI,cD,fun w hw Hy=>?_⟩
     ·omega
     ·by_cases Gb:w=v
      ·rw[if_pos Gb];omega
      ·rw[if_neg Gb];exact eI w ab Hy
    ·rw[decide_eq_false hr]at jz
     (repeat(first|((repeat(revert hN;revert N;apply Pn.out));refine wk (tw @lj.eq_1 (tw @c0 (tw @c7 (tw @c8 (tw @c9 (tw @Mn (tw @c36 (tw @Qq (tw @hv (tw @cgo (tw @SG (tw @tl (tw @yi @hw))))))))))))) ?_;(repeat(refine Pn.mk ?_;intro N hN)))|((try apply Or.inl);refine⟨_,az.x (jz) (sd (tw @lj.eq_1 (tw @c0 (tw @c7 (tw @c8 (tw @c9 (tw @Mn (tw @c36 (tw @Qq (tw @hv (tw @cgo (tw @SG (tw @tl (tw @yi @hw)))))))))))))),?_⟩;refine hN _ _ ?_;clear hN N)))
     refine⟨_,?_,v+1,par',Q',rfl,EA,sd @hw,ef,⟨qD,F9⟩,sd @cgo,sd @cgC,cD,fun w hw Hy=>?_⟩
     ·omega
     ·by_cases Gb:w=v
      ·subst Gb;exact absurd Hy hr
      ·exact eI w ab Hy
   ·(try((repeat(revert hN;revert N;apply Pn.out));refine wk (tw @lj.eq_1 (tw @c0 (tw @c7 (tw @c8 (tw @c9 (tw @Mn (tw @c36 (tw @Qq (tw @hv (tw @cgo (tw @SG (tw @tl (tw @yi @hw))))))))))))) ?_;(repeat(refine Pn.mk ?_;intro N hN))))
    refine⟨_,?_,v+1,par',Q',rfl,EA,sd @hw,ef,⟨qD,F9⟩,sd @cgo,sd @cgC,cD,fun w hw Hy=>?_⟩
    ·omega
    ·by_cases Gb:w=v
     ·subst Gb;omega
     ·exact eI w ab Hy
  ·have YI:v=cnt:=ab
   subst YI
   (try((repeat(revert hN;revert N;apply Pn.out));refine wk (tw @c36 (tw @Qq @hv)) ?_;(repeat(refine Pn.mk ?_;intro N hN))))
   refine⟨_,?_,par',Q',i+1,rfl,ef.next qD fun w hw hr=>eI w hw (by rw[<-F9];exact hr),sd @cgo,sd @cgC,cD⟩
   omega
 ·have hiQ:i=Q.length:=ab
  subst hiQ
  have kC:¬(0:Int)<((Q.length-Q.length:Nat):Int):=ab
  have X6:=fQ (f:=par) hy
  have tl:=fI par cnt
  rw[ah]at X6
  by_cases yi:par y<0
  ·(try((repeat(revert hN;revert N;apply Pn.out));refine wk (tw @b0 (tw @b1 (tw @b2 (tw @b7 (tw @b8 (tw @b9 (tw @bgC (tw @QZ (tw @kC (tw @bgo (tw @X6 (tw @tl (tw @hyi @yi))))))))))))) ?_;(repeat(refine Pn.mk ?_;intro N hN))))
   exact⟨[.bP],sd @Nat.zero_add,.bP,kz _ _,.inl ⟨rfl,hB.cut hy yi⟩⟩
  ·(try((repeat(revert hN;revert N;apply Pn.out));refine wk (tw @b0 (tw @b1 (tw @b2 (tw @b7 (tw @b8 (tw @b9 (tw @bgC (tw @QZ (tw @kC (tw @bgo (tw @X6 (tw @tl (tw @hyi @yi))))))))))))) ?_;(repeat(refine Pn.mk ?_;intro N hN))))
   refine dc (fun m env st=>∃(k:Nat) (out:List Nat) (p:Id),m=Q.idxOf k/\env 13=.int .i64 (k:Int)/\env 12=.own p 0 out.length/\st.get p=some ⟨true,1,out.map eN⟩/\p.cV<st.next/\st_b.next<=p.cV/\k∈Q/\uU c f Q y k out/\st.get o=some ⟨true,1,gS par cnt⟩) (Q.idxOf y) ⟨y,[y],⟨158017001,st_b.next+1+1⟩,rfl,by(simp only[go_sem, ↓reduceIte,Nat.reduceEqDiff,Nat.reduceAdd,Nat.reduceSub,Nat.reduceLeDiff,reduceCtorEq]),by(simp only[go_sem, ↓reduceIte,Nat.reduceEqDiff,Nat.reduceAdd,Nat.reduceSub,Nat.reduceLeDiff,reduceCtorEq])<;>rfl,by(simp only[go_sem, ↓reduceIte,Nat.reduceEqDiff,Nat.reduceAdd,Nat.reduceSub,Nat.reduceLeDiff,reduceCtorEq])<;>rfl,cD,cD,(hB.iff y hy).1 ab,uU.start ((hB.iff y hy).1 ab),by(have hvb:=dF (i:=o) (n:=st_b.next) ab);simp only[go_sem, ↓reduceIte,Nat.reduceEqDiff,Nat.reduceAdd,Nat.reduceSub,Nat.reduceLeDiff,reduceCtorEq,hvb,bgo]⟩ ?_
   rintro m env_d st_d ⟨k,out,p,rfl,d13,d12,dgp,dpn,dpo,hkQ,uI,dgo⟩ dkp
   have d1:=dkp 1 (by kernel_rfl)
   have d8:=dkp 8 (by kernel_rfl)
   simp only[go_sem, ↓reduceIte,Nat.reduceEqDiff,Nat.reduceAdd,Nat.reduceSub,Nat.reduceLeDiff,reduceCtorEq,b1,b8]at d1 d8
   clear dkp
   have UY:=dF dpn
   have UX:=dF (i:=o) (n:=st_d.next) ab
   have ep:=dU (a:=o) (b:=p) ab
   have UL:=uI.len hB.lt
   have jv:=hB.lt k hkQ
   have fJ:(out.map eN).length=out.length:=by simp
   by_cases WB:k=x
   ·have hd:decide ((k:Int)=(x:Int))=true:=decide_eq_true (by rw[WB])
    have Yt:0<out.length:=by
     obtain⟨rest,h1,_⟩:=uI
     rw[<-List.length_reverse,h1];simp
    (try((repeat(revert hN;revert N;apply Pn.out));refine wk (tw @d1 (tw @d8 (tw @d12 (tw @d13 (tw @hd @Bool.not_true))))) ?_;(repeat(refine Pn.mk ?_;intro N hN))))
    refine .inr (bc _ _ _ _ _ (fun r σ2 hq=>?_) (H4 out Yt ab p _ dgp cD))
    obtain⟨Um,qm,Uj⟩:=hq
    refine hN _ _ ?_
    clear hN N
    (try((repeat(revert hN;revert N;apply Pn.out));refine wk @d12 ?_;(repeat(refine Pn.mk ?_;intro N hN))))
    refine⟨[.own p 0 out.length],sd @d12,.sl (out.reverse.map eN),?_,.inr ⟨out.reverse,rfl,by subst WB;exact uI.way hB.lt⟩⟩
    exact eT (sz:=1) Um (by simp) fun a=>Tw _ 4 a
   ·have hd:decide ((k:Int)=(x:Int))=false:=decide_eq_false fun h=>WB ab
    obtain⟨u,huQ,WE,AG,hr⟩:=hB.up k hkQ WB
    have je:=fQ (f:=par) jv
    rw[ah,WE]at je
    have hki:(k:Int)<(cnt:Int):=ab
    have e1:out.length+1<=16777216:=ab
    (try((repeat(revert hN;revert N;apply Pn.out));refine wk (tw @d1 (tw @d8 (tw @d12 (tw @d13 (tw @hd (tw @Bool.not_false (tw @dgo (tw @dgp (tw @je (tw @tl (tw @hki (tw @UY (tw @UX (tw @ep (tw @fJ @e1))))))))))))))) ?_;(repeat(refine Pn.mk ?_;intro N hN))))
    refine⟨_,AG,u,out++[u],⟨158021003,st_d.next+1+1⟩,rfl,sd @Nat.zero_add,by rw[List.length_append];simp only[go_sem, ↓reduceIte,Nat.reduceEqDiff,Nat.reduceAdd,Nat.reduceSub,Nat.reduceLeDiff,reduceCtorEq,List.length_cons,List.length_nil],by rw[List.map_append,List.map_cons,List.map_nil];simp only[go_sem, ↓reduceIte,Nat.reduceEqDiff,Nat.reduceAdd,Nat.reduceSub,Nat.reduceLeDiff,reduceCtorEq,eN],cD,cD,huQ,uI.step huQ AG hr,sd (tw @UX (tw @ep @dgo))⟩
theorem BE (b:Nat):∀(l:List Nat) (a:Nat) (f:Nat->Nat->Int),lU f ((a::l)++[b])=j6 (lU f (a::l)) ((a::l).getLast (by simp)) b
 |[],a,f=>rfl
 |c::l,a,f=>by
  rw[List.cons_append,List.cons_append,lU,<-List.cons_append,BE b l c (j6 f a c),lU,List.getLast_cons_cons]
theorem GR {p:List Nat} {f:Nat->Nat->Int} {i:Nat} (h1:1<=i) (hi:i<p.length):lU f (p.take (i+1))=j6 (lU f (p.take i)) (p[i-1]'ab) p[i]:=by
 rw[List.take_succ_eq_append_getElem hi]
 have gZ:p.take i≠[]:=by
  intro h
  have:(p.take i).length=0:=by rw[h];rfl
  rw[List.length_take]at this;omega
 obtain⟨a,l,Wt⟩:∃a l,p.take i=a::l:=by
  cases h:p.take i with
  |nil=>exact absurd h gZ
  |cons a l=>exact⟨a,l,rfl⟩
 have wg:(p.take i).getLast gZ=p[i-1]'ab:=by
  rw[List.getLast_eq_getElem,List.getElem_take]
  congr 1
  rw[List.length_take];omega
 simp only[Wt]at wg ⊢
 rw[BE,wg]
theorem HY (f:Nat->Nat->Int) (a b u v:Nat):j6 f a b u v<=f u v+1/\f u v-1<=j6 f a b u v:=by
 unfold j6 bump
 split<;>split<;>constructor<;>omega
theorem lV:∀(p:List Nat) (f:Nat->Nat->Int) (u v:Nat),lU f p u v<=f u v+p.length/\f u v-p.length<=lU f p u v
 |[],f,u,v=>by simp[lU]
 |[_],f,u,v=>by simp[lU];omega
 |a::b::r,f,u,v=>by
  rw[lU]
  have h1:=lV (b::r) (j6 f a b) u v
  have h2:=HY f a b u v
  simp only[List.length_cons]at h1 ⊢
  omega
theorem nW.push {g g':Rows} {X o1 o2:Id} {R1 R2:Nat->Id} {n nb:Nat} {c f:Nat->Nat->Int} (I:GM X o1 o2 R1 R2 n nb) (h:nW g X o1 o2 R1 R2 n c f) {a b:Nat} (ha:a<n) (hb:b<n) (rj:a≠b) (hA:g' (R2 a)=some ⟨true,1,gS (bump f a b 1 a) n⟩) (hB:g' (R2 b)=some ⟨true,1,gS (bump (bump f a b 1) b a (-1) b) n⟩) (hf:∀i:Id,i.cV<nb->(i=R2 a)=False->(i=R2 b)=False->g' i=g i):nW g' X o1 o2 R1 R2 n c (j6 f a b):=by
 have ne:∀{i:Id} {s:Nat},i.site=s->(s==134005006)=false->∀a,a<n->(i=R2 a)=False:=fun {i s} hi hs a ha=>by
  simp only[eq_iff_iff,iff_false]
  rintro rfl
  rw[I.PR a ha]at hi
  subst hi
  simp at hs
 refine⟨(hf _ I.vx (ne I.sx (by decide) _ ha) (ne I.sx (by decide) _ hb)).trans h.x,(hf _ I.v1 (ne I.s1 (by decide) _ ha) (ne I.s1 (by decide) _ hb)).trans h.t1,(hf _ I.v2 (ne I.s2 (by decide) _ ha) (ne I.s2 (by decide) _ hb)).trans h.t2,fun i hi=>(hf _ (I.Y9 i hi) (ne (I.WW i hi) (by decide) _ ha) (ne (I.WW i hi) (by decide) _ hb)).trans (h.r1 i hi),fun i hi=>?_⟩
 by_cases Ms:i=b
 ·subst Ms;exact hB
 ·by_cases Q3:i=a
  ·subst Q3
   rw[hA,j6,jQ Ms]
  ·rw[j6,jQ Ms,jQ Q3,hf _ (I.VR i hi) (by simp only[eq_iff_iff,iff_false];exact fun he=>Q3 (I.i2 i _ hi ha he)) (by simp only[eq_iff_iff,iff_false];exact fun he=>Ms (I.i2 i _ hi hb he))]
   exact h.r2 i hi
theorem R3 (cnt:Nat) (pn:1<=cnt) (hn:cnt<=1048576) (c:Nat->Nat->Int) (hc:∀u v,u<cnt->v<cnt->0<=c u v/\c u v<=16777216) (x y:Nat) (hx:x<cnt) (hy:y<cnt) (SX:x≠y) (t:Int) (ht:t<=1099511627776)
  (X o1 o2:Id) (R1 R2:Nat->Id) (nb:Nat) (I:GM X o1 o2 R1 R2 cnt nb) (σ:au) (hM:nW σ.get X o1 o2 R1 R2 cnt c (fun _ _=>0)) (UF:nb<=σ.next):
  Call Tryz.prog 135 [.ptr X 0 0,.int .i64 x,.int .i64 y,.int .i64 t] σ fun r σ'=>∃(k:Nat) (f:Nat->Nat->Int),r=.int .i64 k/\nh cnt c f x y k/\nW σ'.get X o1 o2 R1 R2 cnt c f/\((∃S:Nat->Bool,S x=true/\S y=false/\∀u v,u<cnt->v<cnt->S u=true->S v=false->¬f u v<c u v)∨t<=k)/\σ.next<=σ'.next:=by
 refine eX fC rfl fun hl=>?_
 clear hl
 have hxS:(fun v=>decide (v=x)) x=true:=by simp
 have hyS:(fun v=>decide (v=x)) y=false:=by simp;exact fun h=>SX h.symm
 obtain⟨top,YF⟩:∃top,top=lZ cnt (fun v=>decide (v=x)) c:=⟨_,rfl⟩
 (try((repeat(revert hN;revert N;apply Pn.out));refine wk @Nat.zero_add ?_;(repeat(refine Pn.mk ?_;intro N hN))))
 refine dc (fun m env st=>∃(k:Nat) (f:Nat->Nat->Int),m=(top-k).toNat/\env 9=.int .i64 (k:Int)/\nh cnt c f x y k/\nW st.get X o1 o2 R1 R2 cnt c f/\σ.next<=st.next/\(0<k->(k:Int)<=t)/\∀u v,-((k:Int)*(cnt:Int))<=f u v) (top-0).toNat ⟨0,fun _ _=>0,rfl,by(simp only[go_sem, ↓reduceIte,Nat.reduceEqDiff,Nat.reduceAdd,Nat.reduceSub,Nat.reduceLeDiff,reduceCtorEq])<;>rfl,nh.zero fun u v hu hv=>(hc u v hu hv).1,hM,cD,fun h=>absurd h (Nat.lt_irrefl 0),fun u v=>by simp⟩ ?_
 rintro m env_b st_b ⟨k,f,rfl,b9,hF,bM,bn,bk,blo⟩ bkp
 have b0:=bkp 0 (by kernel_rfl)
 have b1:=bkp 1 (by kernel_rfl)
 have b2:=bkp 2 (by kernel_rfl)
 have b3:=bkp 3 (by kernel_rfl)
 simp only[go_sem, ↓reduceIte,Nat.reduceEqDiff,Nat.reduceAdd,Nat.reduceSub,Nat.reduceLeDiff,reduceCtorEq]at b0 b1 b2 b3
 clear bkp
 have hz:ek (dX st_b.get) 6 [.ptr X 0 0,.int .i64 (x:Int),.int .i64 (y:Int)]=some [.fe (lj cnt c f),.int .i64 x,.int .i64 y]:=by simp only[ad,ae,bM.fz,aP,Option.map_some]
 (try((repeat(revert hN;revert N;apply Pn.out));refine wk (tw @b0 (tw @b1 (tw @b2 (tw @b3 @b9)))) ?_;(repeat(refine Pn.mk ?_;intro N hN))))
 refine .inr (bc _ _ _ _ _ (fun r σ1 hq=>?_) ((VX cnt pn hn c f x y hx hy).x mixed hz))
 obtain⟨Re,rfl⟩:=hq
 refine hN _ _ ?_
 clear hN N
 rcases Re with⟨rfl,S,QT,J0,XO⟩|⟨p,rfl,hW⟩
 ·(try((repeat(revert hN;revert N;apply Pn.out));refine wk (tw @b0 (tw @b1 (tw @b2 (tw @b3 (tw @b9 (tw @Bool.not_true @Bool.not_false)))))) ?_;(repeat(refine Pn.mk ?_;intro N hN))))
  refine eK (.inl rfl) (vs:=[.int .i64 (k:Int)]) (sd @Nat.zero_add) ⟨k,f,rfl,hF,by(try dsimp only);exact bM,.inl ⟨S,QT,J0,XO⟩,cD⟩
 ·obtain⟨⟨rs,rfl,wg⟩,po,iq,hplt⟩:=hW
  by_cases Mw:t<=(k:Int)
  ·(try((repeat(revert hN;revert N;apply Pn.out));refine wk (tw @b0 (tw @b1 (tw @b2 (tw @b3 (tw @b9 (tw @Mw (tw @Bool.not_true @Bool.not_false))))))) ?_;(repeat(refine Pn.mk ?_;intro N hN))))
   refine eK (.inl rfl) (vs:=[.int .i64 (k:Int)]) (sd @Nat.zero_add) ⟨k,f,rfl,hF,by(try dsimp only);exact bM,.inr Mw,cD⟩
  ·(try((repeat(revert hN;revert N;apply Pn.out));refine wk (tw @b0 (tw @b1 (tw @b2 (tw @b3 (tw @b9 (tw @Mw (tw @Bool.not_true @Bool.not_false))))))) ?_;(repeat(refine Pn.mk ?_;intro N hN))))
   have lp:=rO cnt _ po hplt
   have Uv:(k:Int)*(cnt:Int)<=1099511627776*1048576:=Int.mul_le_mul ab ab ab ab
   have hfb:=hF.bound (S:=fun v=>decide (v=x)) hxS hyS
   have hnear:=lV
   obtain⟨p,hp⟩:∃p,p=x::rs:=⟨_,rfl⟩
   have UD:eN x::List.map eN rs=p.map eN:=by rw[hp];rfl
   rw[UD]
   have NI:1<=p.length:=by rw[hp];simp
   have TH:=hF.aug wg po iq hplt
   rw[<-hp]at TH po iq hplt lp
   have Rk:p.take 1=[x]:=by rw[hp];rfl
   clear UD wg
   refine dc (fun m env st=>∃i:Nat,m=p.length-i/\1<=i/\i<=p.length/\env 11=.int .i64 (i:Int)/\nW st.get X o1 o2 R1 R2 cnt c (lU f (p.take i))/\st_b.next<=st.next) (p.length-1) ⟨1,rfl,Nat.le_refl _,NI,by(simp only[go_sem, ↓reduceIte,Nat.reduceEqDiff,Nat.reduceAdd,Nat.reduceSub,Nat.reduceLeDiff,reduceCtorEq])<;>rfl,by rw[Rk];exact bM,cD⟩ ?_
   rintro m env_c st_c ⟨i,rfl,Eu,pN,Iz,cM,cn⟩ ckp
   have c0:=ckp 0 (by kernel_rfl)
   have c1:=ckp 1 (by kernel_rfl)
   have c2:=ckp 2 (by kernel_rfl)
   have c3:=ckp 3 (by kernel_rfl)
   have c9:=ckp 9 (by kernel_rfl)
   have Mn:=ckp 10 (by kernel_rfl)
   simp only[go_sem, ↓reduceIte,Nat.reduceEqDiff,Nat.reduceAdd,Nat.reduceSub,Nat.reduceLeDiff,reduceCtorEq,b0,b1,b2,b3,b9]at c0 c1 c2 c3 c9 Mn
   clear ckp
   have fJ:(p.map eN).length=p.length:=by simp
   by_cases hi:(i:Int)<(p.length:Int)
   ·have im:i<p.length:=ab
    have qE:=GR (f:=f) Eu im
    obtain⟨a,ha⟩:∃a,a=p[i-1]'ab:=⟨_,rfl⟩
    obtain⟨b,hb⟩:∃b,b=p[i]:=⟨_,rfl⟩
    have F1:a<cnt:=by rw[ha];exact hplt _ (List.getElem_mem _)
    have F2:b<cnt:=by rw[hb];exact hplt _ (List.getElem_mem _)
    have rj:a≠b:=by
     rw[ha,hb]
     exact List.pairwise_iff_getElem.1 po (i-1) i ab im ab
    have Kb:(p.map eN)[i-1]? =some [.int .i64 (a:Int)]:=by rw[List.getElem?_map,List.getElem?_eq_getElem ab,ha];rfl
    have Q2:(p.map eN)[i]? =some [.int .i64 (b:Int)]:=by rw[List.getElem?_map,List.getElem?_eq_getElem im,hb];rfl
    rw[<-ha,<-hb]at qE
    have Yk:=lV (p.take i) f a b
    have Yl:=lV (p.take i) f b a
    rw[List.length_take]at Yk Yl
    have hl1:=blo b a
    have ql:=blo a b
    have PE:=hF.le a b F1 F2
    have Rn:=hF.le b a F2 F1
    have hca:=hc a b F1 F2
    have F3:=hc b a F2 F1
    generalize lU f (p.take i)=fl at *
    have gA:=r7 (R:=R2) (n:=cnt) F1
    have gB:=r7 (R:=R2) (n:=cnt) F2
    have rA:=cM.r2 _ F1
    have rB:=cM.r2 _ F2
    have cA:=fQ (f:=fl a) F2
    have cB:=fQ (f:=fl b) F1
    have sA:=oi (f:=fl) (a:=a) (d:=1) F2
    have Q9:bump fl a b 1 b=fl b:=jQ fun h=>rj h.symm
    have sB:=oi (f:=bump fl a b 1) (a:=b) (b:=a) (d:=-1) (n:=cnt) F1
    rw[Q9]at sB
    have gX:=cM.x
    have g2:=cM.t2
    have Em:(a:Int)<(cnt:Int):=ab
    have qj:(b:Int)<(cnt:Int):=ab
    have WN:IntKind.i64.wrap ((i:Int)-1)=((i-1:Nat):Int):=by rw[cH ab];omega
    have wc:((i-1:Nat):Int)<(p.length:Int):=ab
    have wA:IntKind.i64.wrap (fl a b+1)=fl a b+1:=cH ab
    have wB:IntKind.i64.wrap (fl b a-1)=fl b a+-1:=by rw[cH ab];omega
    have Rq:IntKind.i64.wrap ((i:Int)+1)=((i+1:Nat):Int):=cE ab
    have l2:=jU R2 cnt cnt
    have lA:=fI (fl a) cnt
    have lB:=fI (fl b) cnt
    have gZ:(R2 a=R2 b)=False:=by simp only[eq_iff_iff,iff_false];exact fun h=>rj (I.i2 _ _ F1 F2 h)
    have Kj:(R2 b=R2 a)=False:=by simp only[eq_iff_iff,iff_false];exact fun h=>rj (I.i2 _ _ F1 F2 h.symm)
    have xA:=qF I.sx (I.PR a F1) (by decide)
    have xB:=qF I.sx (I.PR b F2) (by decide)
    have yA:=qF I.s2 (I.PR a F1) (by decide)
    have yB:=qF I.s2 (I.PR b F2) (by decide)
    have qX:=dF (i:=X) (n:=st_c.next) (by have:=I.vx;omega)
    have q2:=dF (i:=o2) (n:=st_c.next) (by have:=I.v2;omega)
    have qA:=dF (i:=R2 a) (n:=st_c.next) (by have:=I.VR a F1;omega)
    have qB:=dF (i:=R2 b) (n:=st_c.next) (by have:=I.VR b F2;omega)
    rw[ah]at cA cB sA sB
    (try((repeat(revert hN;revert N;apply Pn.out));refine wk (tw @c0 (tw @c9 (tw @Mn (tw @Iz (tw @fJ (tw @hi (tw @wc (tw @Kb (tw @Q2 (tw @gA (tw @gB (tw @rA (tw @rB (tw @cA (tw @cB (tw @sA (tw @sB (tw @gX (tw @g2 (tw @Em (tw @qj (tw @WN (tw @wA (tw @wB (tw @Rq (tw @l2 (tw @lA (tw @lB (tw @gZ (tw @Kj (tw @xA (tw @xB (tw @yA (tw @yB (tw @qX (tw @q2 (tw @qA @qB))))))))))))))))))))))))))))))))))))) ?_;(repeat(refine Pn.mk ?_;intro N hN))))
    refine⟨_,?_,i+1,rfl,ab,ab,sd @Rq,?_,cD⟩
    ·omega
    ·rw[qE]
     refine cM.push I F1 F2 rj ?_ ?_ fun j hj h1 h2=>?_
     ·simp only[go_sem, ↓reduceIte,Nat.reduceEqDiff,Nat.reduceAdd,Nat.reduceSub,Nat.reduceLeDiff,reduceCtorEq,gZ]
     ·simp only[go_sem, ↓reduceIte,Nat.reduceEqDiff,Nat.reduceAdd,Nat.reduceSub,Nat.reduceLeDiff,reduceCtorEq,gZ]
     ·simp only[go_sem, ↓reduceIte,Nat.reduceEqDiff,Nat.reduceAdd,Nat.reduceSub,Nat.reduceLeDiff,reduceCtorEq,h1,h2]
   ·have Mt:i=p.length:=ab
    subst Mt
    rw[List.take_length]at cM
    have Ga:IntKind.i64.wrap ((k:Int)+1)=((k+1:Nat):Int):=cE ab
    have X3:=TH.bound (S:=fun v=>decide (v=x)) hxS hyS
    (try((repeat(revert hN;revert N;apply Pn.out));refine wk (tw @c0 (tw @c9 (tw @Mn (tw @Iz (tw @fJ (tw @hi @Ga)))))) ?_;(repeat(refine Pn.mk ?_;intro N hN))))
    refine⟨_,?_,k+1,_,rfl,sd @Ga,by rw[Int.natCast_add];exact TH,cM,cD,fun _=>ab,fun u v=>?_⟩
    ·rw[<-YF]at X3;omega
    ·have h1:=(lV p f u v).2
     have h2:=blo u v
     rw[Int.natCast_add,Int.add_mul]
     omega
theorem R0 (cnt:Nat) (pn:1<=cnt) (hn:cnt<=1048576) (c:Nat->Nat->Int) (hc:∀u v,u<cnt->v<cnt->0<=c u v/\c u v<=16777216) (x y:Nat) (hx:x<cnt) (hy:y<cnt) (SX:x≠y) (t:Int) (ht:t<=1099511627776)
  (X o1 o2:Id) (R1 R2:Nat->Id) (nb:Nat) (I:GM X o1 o2 R1 R2 cnt nb) (σ:au) (hM:nW σ.get X o1 o2 R1 R2 cnt c (fun _ _=>0)) (UF:nb<=σ.next):
  Call Tryz.prog 135 [.ptr X 0 0,.int .i64 x,.int .i64 y,.int .i64 t] σ fun r σ'=>∃val:Int,r=.int .i64 val/\(val<t↔∃S:Nat->Bool,S x=true/\S y=false/\lZ cnt S c<t)/\σ.next<=σ'.next:=by
 refine bc _ _ _ _ _ (fun r σ1 hq=>?_) (R3 cnt pn hn c hc x y hx hy SX t ht X o1 o2 R1 R2 nb I σ hM UF)
 obtain⟨k,f,rfl,hF,_,hS,hle⟩:=hq
 refine⟨(k:Int),rfl,⟨fun h=>?_,fun⟨S',h1,h2,h3⟩=>by have:=hF.bound h1 h2;omega⟩,hle⟩
 rcases hS with⟨S,QT,J0,XO⟩|h2
 ·exact⟨S,QT,J0,by rw[<-hF.full QT J0 XO];exact h⟩
 ·omega
noncomputable def tP (n:Nat) (bs:List PB) (t:Int):Bool:=@decide (sv n bs t) (Classical.propDecidable _)
theorem y8 {n:Nat} {bs:List PB} {t:Int} (h:sv n bs t):true=tP n bs t:=by simp[tP,h]
theorem Cr {n:Nat} {bs:List PB} {t:Int} (h:¬sv n bs t):false=tP n bs t:=by simp[tP,h]
theorem NF (cnt:Nat) (hn:cnt<=1048576) (bs:List PB) (hb:∀b∈bs,b.a<cnt/\b.b<cnt) (ed:∀b∈bs,0<=b.s/\b.s<=4) (iY:bs.length<=1048576) (t:Int) (ht:t<=1099511627776):
  az Tryz.prog 104 [.int .i64 cnt,.sl (bs.map dz),.int .i64 t] (.bool (tP cnt bs t)):=by
 refine az.body fC rfl fun hl n0=>?_
 clear hl
 have tN:=A8 bs (fun _ _=>0) (fun b h=>(ed b h).1) (fun _ _=>Int.le_refl _)
 have hle:=room_le bs (fun _ _=>0) 0 (fun b h=>(ed b h).2) (fun _ _=>Int.le_refl _) (Int.le_refl _)
 have iq:bs.foldl nG (fun _ _=>0)=kR bs:=rfl
 rw[iq]at tN hle
 (try((repeat(revert hN;revert N;apply Pn.out));refine wk @Nat.zero_add ?_;(repeat(refine Pn.mk ?_;intro N hN))))
 refine dc (fun m env st=>∃y:Nat,m=cnt+1-y/\1<=y/\env 7=.int .i64 (y:Int)/\y<=cnt+1/\∀z,1<=z->z<y->z<cnt->∀S:Nat->Bool,S 0=true->S z=false->t<=DW S bs) (cnt+1-1) ⟨1,rfl,Nat.le_refl _,by(simp only[go_sem, ↓reduceIte,Nat.reduceEqDiff,Nat.reduceAdd,Nat.reduceSub,Nat.reduceLeDiff,reduceCtorEq])<;>rfl,ab,fun z h1 h2=>ab⟩ ?_
 rintro m env_b st_b ⟨y,rfl,hy1,b7,hyl,eI⟩ bkp
 have b0:=bkp 0 (by kernel_rfl)
 have b1:=bkp 1 (by kernel_rfl)
 have b2:=bkp 2 (by kernel_rfl)
 simp only[go_sem, ↓reduceIte,Nat.reduceEqDiff,Nat.reduceAdd,Nat.reduceSub,Nat.reduceLeDiff,reduceCtorEq]at b0 b1 b2
 clear bkp
 by_cases hy:(y:Int)<(cnt:Int)
 ·have hyn:y<cnt:=ab
  (try((repeat(revert hN;revert N;apply Pn.out));refine wk (tw @b0 (tw @b1 (tw @b2 (tw @b7 @hy)))) ?_;(repeat(refine Pn.mk ?_;intro N hN))))
  refine .inr (bc _ _ _ _ _ (fun r σ1 hq=>?_) (CR cnt ab hn bs hb ed iY _))
  obtain⟨X,o1,o2,R1,R2,rfl,I,Ht,hM,_⟩:=hq
  refine hN _ _ ?_
  clear hN N
  (try((repeat(revert hN;revert N;apply Pn.out));refine wk (tw @b0 (tw @b1 (tw @b2 @b7))) ?_;(repeat(refine Pn.mk ?_;intro N hN))))
  have Rg:=R0 cnt ab hn (kR bs) (fun u v _ _=>⟨tN u v,by have:=hle u v;omega⟩) 0 y ab hyn ab t ht X o1 o2 R1 R2 σ1.next I
  refine .inr (bc _ _ _ _ _ (fun r σ2 hq=>?_) (Rg _ hM cD))
  obtain⟨val,rfl,wq,qm⟩:=hq
  refine hN _ _ ?_
  clear hN N
  by_cases eJ:val<t
  ·(try((repeat(revert hN;revert N;apply Pn.out));refine wk (tw @b0 (tw @b1 (tw @b2 (tw @b7 @eJ)))) ?_;(repeat(refine Pn.mk ?_;intro N hN))))
   obtain⟨S,h1,h2,h3⟩:=wq.1 eJ
   rw[BW hb]at h3
   exact dQ (b:=false) (.inl rfl) (sd @Nat.zero_add) (Cr fun h=>by have:=h S h1 ⟨y,hyn,h2⟩;omega)
  ·have hw:IntKind.i64.wrap ((y:Int)+1)=((y+1:Nat):Int):=cE ab
   (try((repeat(revert hN;revert N;apply Pn.out));refine wk (tw @b0 (tw @b1 (tw @b2 (tw @b7 (tw @eJ @hw))))) ?_;(repeat(refine Pn.mk ?_;intro N hN))))
   refine⟨_,?_,y+1,rfl,ab,sd (tw @b7 @hw),ab,fun z h1 h2 h3 S QT J0=>?_⟩
   ·omega
   ·by_cases hzy:z=y
    ·subst hzy
     rcases Int.lt_or_le (DW S bs) t with h|h
     ·exact absurd (wq.2 ⟨S,QT,J0,by rw[BW hb];exact h⟩) eJ
     ·exact h
    ·exact eI z h1 ab h3 S QT J0
 ·(try((repeat(revert hN;revert N;apply Pn.out));refine wk (tw @b0 (tw @b1 (tw @b2 (tw @b7 @hy)))) ?_;(repeat(refine Pn.mk ?_;intro N hN))))
  exact dQ (b:=true) (.inl rfl) (sd @Nat.zero_add) (y8 fun S h0 ⟨z,hz,hzf⟩=>by
   have:z≠0:=by rintro rfl;rw[h0]at hzf;cases hzf
   exact eI z ab ab hz S h0 hzf)
theorem Kk (cnt:Nat) (hn:cnt<=1048576) (bs:List PB) (hb:∀b∈bs,b.a<cnt/\b.b<cnt) (ed:∀b∈bs,0<=b.s/\b.s<=4) (iY:bs.length<=1048576) (t:Int) (ht:t<=1099511627776):
  az Tryz.prog 104 [.int .i64 cnt,Be bs,.int .i64 t] (.bool (tP cnt bs t)):=by
 have h:=NF cnt hn bs hb ed iY t ht
 cases bs with
 |nil=>exact h.cut mixed (.same _ (.bP (.same _ .nil)))
 |cons b r=>rw[Bf (by simp)];exact h
def DD:Prop:=∀(s:aO) (l:List aa),gO s->gV s l->az Tryz.prog 103 [.agg (aj s),.agg [.sl (l.map ai)]] (Be (dL s l))
noncomputable def uL (s:aO) (l:List aa) (t:Int):Bool:=if 64<mK s l t then false else tP (mK s l t) (ee (fP (cF t (dL s l))) (dL s l)) t
theorem EC (s:aO) (l:List aa) (t:Int):uL s l t=uc s l t:=by
 letI:=Classical.propDecidable (mH l.length (dL s l) t)
 unfold uL
 by_cases h:64<mK s l t
 ·rw[if_pos h]
  exact(xC (p:=False) ⟨False.elim,fun k=>by have:=k.1;unfold mK at h;omega⟩).symm.trans (by simp) |>.symm
 ·rw[if_neg h]
  by_cases hp:sv (mK s l t) (ee (fP (cF t (dL s l))) (dL s l)) t
  ·rw[<-y8 hp]
   exact((xC (p:=True) ⟨fun _=>⟨by unfold mK at h;omega,hp⟩,fun _=>trivial⟩).symm.trans (by simp)).symm
  ·rw[<-Cr hp]
   exact((xC (p:=False) ⟨False.elim,fun k=>hp k.2⟩).symm.trans (by simp)).symm
theorem LP (Xz:DD) (s:aO) (l:List aa) (t:Int) (ht:t<=1099511627776) (h1:1<=l.length) (hS:gO s) (hA:gV s l):az Tryz.prog 85 [.agg (aj s),.agg [.sl (l.map ai)],.int .i64 t] (.fN [.bool (uc s l t),.bool (decide ¬64<mK s l t)]):=by
 rw[<-EC]
 refine az.body fC rfl fun hl n0=>?_
 clear hl
 have hb:=G1 (l:=l) hS
 have iY:=vn (s:=s) hA.1
 have J8:=hA.1.Dq
 have IF:=Xz s l hS hA
 have Ud:=Am l.length h1 ab (dL s l) (fun b h=>⟨(hb b h).1,(hb b h).2.1⟩) ab t
 have hL:=CE (cF t (dL s l))
 have im:=Fg hL (fun b h=>⟨(hb b h).1,(hb b h).2.1⟩)
 have hlen:=(xx (fP (cF t (dL s l))) (dL s l)).1
 have nR:=l6 l.length (fP (cF t (dL s l)))
 have hho:=Kk (mK s l t) (by unfold mK;omega) (ee (fP (cF t (dL s l))) (dL s l)) (fun b h=>⟨(im b h).1,(im b h).2.1⟩) (fun b h=>by
  obtain⟨_,_,_,c,hc,dW⟩:=im b h
  rw[dW];have:=hb c hc;omega) ab t ht
 have fy:(l.map ai).length=l.length:=by simp
 have hzB:∀(g:Rows) (n:Nat) (bs:List PB),V.fz g (n+1) (Be bs)=some (Be bs):=fun g n bs=>by
  unfold Be;split
  ·exact aD _ _
  ·exact bI _ _ _
 rw[aj]at IF
 rw[<-mK]at Ud
 have xS:∀(g:Rows) (x:Int),ek (dX g) 6 [.int .i64 l.length,Be (dL s l),.int .i64 x]=some [.int .i64 l.length,Be (dL s l),.int .i64 x]:=fun g x=>by simp only[ad,ae,aP,hzB,Option.map_some]
 have hzh:∀(g:Rows) (x y:Int),ek (dX g) 6 [.int .i64 x,Be (ee (fP (cF t (dL s l))) (dL s l)),.int .i64 y]=some [.int .i64 x,Be (ee (fP (cF t (dL s l))) (dL s l)),.int .i64 y]:=fun g x y=>by simp only[ad,ae,aP,hzB,Option.map_some]
 generalize Be (dL s l)=B1 at *
 generalize Be (ee (fP (cF t (dL s l))) (dL s l))=B2 at *
 by_cases IC:(64:Int)<(mK s l t:Int)
 ·have JZ:64<mK s l t:=ab
  (repeat(first|((repeat(revert hN;revert N;apply Pn.out));refine wk (tw @aj.eq_1 (tw @IC @fy)) ?_;(repeat(refine Pn.mk ?_;intro N hN)))|((try apply Or.inl);refine⟨_,az.x (IF) (sd (tw @aj.eq_1 (tw @IC @fy))),?_⟩;refine hN _ _ ?_;clear hN N)))
  refine⟨_,az.x Ud (xS _ _),?_⟩
  refine hN _ _ ?_
  clear hN N
  (try((repeat(revert hN;revert N;apply Pn.out));refine wk @IC ?_;(repeat(refine Pn.mk ?_;intro N hN))))
  exact mj (.inl rfl) (r1:=.bool false) (r2:=.bool false) (sd @Nat.zero_add) (sd @Nat.zero_add) (by rw[uL,if_pos JZ,decide_eq_false fun h=>h JZ];simp only[gn,cQ,dD,iI,Option.map_some])
 ·have JZ:¬64<mK s l t:=ab
  (repeat(first|((repeat(revert hN;revert N;apply Pn.out));refine wk (tw @aj.eq_1 (tw @IC @fy)) ?_;(repeat(refine Pn.mk ?_;intro N hN)))|((try apply Or.inl);refine⟨_,az.x (IF) (sd (tw @aj.eq_1 (tw @IC @fy))),?_⟩;refine hN _ _ ?_;clear hN N)))
  refine⟨_,az.x Ud (xS _ _),?_⟩
  refine hN _ _ ?_
  clear hN N
  (try((repeat(revert hN;revert N;apply Pn.out));refine wk @IC ?_;(repeat(refine Pn.mk ?_;intro N hN))))
  refine .inl ⟨_,az.x hho (hzh _ _ _),?_⟩
  refine hN _ _ ?_
  clear hN N
  (try((repeat(revert hN;revert N;apply Pn.out));refine wk @Nat.zero_add ?_;(repeat(refine Pn.mk ?_;intro N hN))))
  exact mj (.inl rfl) (r1:=.bool (tP (mK s l t) (ee (fP (cF t (dL s l))) (dL s l)) t)) (r2:=.bool true) (sd @Nat.zero_add) (sd @Nat.zero_add) (by rw[uL,if_neg JZ,decide_eq_true JZ];simp only[gn,cQ,dD,iI,Option.map_some])
theorem ur (t:Int):az Tryz.prog 84 [.int .i64 t] (.bool (ir t 1 16)):=by
 refine az.body fC rfl fun hl n0=>?_
 clear hl
 have h:=fR t 1 16
 (repeat(first|((repeat(revert hN;revert N;apply Pn.out));refine wk @Nat.zero_add ?_;(repeat(refine Pn.mk ?_;intro N hN)))|((try apply Or.inl);refine⟨_,az.x (h) (sd @Nat.zero_add),?_⟩;refine hN _ _ ?_;clear hN N)))
 exact dQ (b:=ir t 1 16) (.inl rfl) (sd @Nat.zero_add) rfl
theorem pU (Xz:DD) (s:aw) (hn:j7 s.aq) (hg:s.aq.dx.length<=1048576) (ht:s.aq.ay.length<=1048576) (hs:∀t∈s.aq.ay,t.eD.length<=1048576) (hl:s.dJ.ay.length<=1048576):az Tryz.prog 41 [.agg (eb s)] (.bool (mu s)):=by
 refine az.body fC rfl fun fb n0=>?_
 clear fb
 by_cases h0:(s.dJ.ay.length:Int)=0
 ·have hd:decide ((s.dJ.ay.length:Int)=0)=true:=decide_eq_true h0
  (try((repeat(revert hN;revert N;apply Pn.out));refine wk (tw @eb.eq_1 @hd) ?_;(repeat(refine Pn.mk ?_;intro N hN))))
  exact dQ (b:=false) (.inl rfl) (sd @Nat.zero_add) (r6 fun h=>by have:=h.some;omega)
 have hd:decide ((s.dJ.ay.length:Int)=0)=false:=decide_eq_false h0
 have QV:=nj s.aq s.dJ.ay hn hg ht hs hl
 have TZ:=ur s.bu
 have key:az Tryz.prog 66 [.agg (aj s.aq),.agg [.sl (s.dJ.ay.map ai)],.int .i64 s.bu] (.fN [.bool (mu s),.int .i64 (if s7 s.aq&&xX s.aq s.dJ.ay then(if ir s.bu 1 16 then(if 64<mK s.aq s.dJ.ay s.bu then 4 else 0)else 2)else 1)]):=by
  refine az.body fC rfl fun fb n0=>?_
  clear fb
  rw[aj]at QV
  cases hA:s7 s.aq&&xX s.aq s.dJ.ay
  ·rw[hA]at QV
   have qn:mu s=false:=(r6 fun h=>by rw[rZ.2 h.set,oc.2 h.s6]at hA;cases hA).symm
   (repeat(first|((repeat(revert hN;revert N;apply Pn.out));refine wk @aj.eq_1 ?_;(repeat(refine Pn.mk ?_;intro N hN)))|((try apply Or.inl);refine⟨_,az.x (QV) (sd @aj.eq_1),?_⟩;refine hN _ _ ?_;clear hN N)))
   exact mj (.inl rfl) (r1:=.bool false) (r2:=.int .i64 1) (sd @Nat.zero_add) (sd @Nat.zero_add) (by rw[qn];simp only[gn,cQ,dD,iI,eV,Option.map_some];rfl)
  rw[hA]at QV
  simp only[Bool.and_eq_true]at hA
  have hS:=rZ.1 hA.1
  have hP:=oc.1 hA.2
  cases hT:ir s.bu 1 16
  ·rw[hT]at TZ
   have qn:mu s=false:=(r6 fun h=>by have:=h.uz;rw[hT]at this;cases this).symm
   (repeat(first|((repeat(revert hN;revert N;apply Pn.out));refine wk @aj.eq_1 ?_;(repeat(refine Pn.mk ?_;intro N hN)))|((try apply Or.inl);refine⟨_,az.x (QV) (sd @aj.eq_1),?_⟩;refine hN _ _ ?_;clear hN N)|((try apply Or.inl);refine⟨_,az.x (TZ) (sd @aj.eq_1),?_⟩;refine hN _ _ ?_;clear hN N)))
   exact mj (.inl rfl) (r1:=.bool false) (r2:=.int .i64 2) (sd @Nat.zero_add) (sd @Nat.zero_add) (by rw[qn];simp only[gn,cQ,dD,iI,eV,Option.map_some];rfl)
  have hti:=dZ hT
  rw[hT]at TZ
  have ed:=LP Xz s.aq s.dJ.ay s.bu ab ab hS hP
  rw[aj]at ed
  have hsy:mu s=uc s.aq s.dJ.ay s.bu:=by
   cases hB:uc s.aq s.dJ.ay s.bu
   ·exact(r6 fun h=>by have:=zN.2 h.holds;rw[hB]at this;cases this).symm
   ·exact(LR ⟨hS,hP,ab,hT,zN.1 hB⟩).symm
  by_cases IC:64<mK s.aq s.dJ.ay s.bu
  ·rw[decide_eq_false fun h=>h IC]at ed
   have qn:mu s=false:=(r6 fun h=>by have:=h.holds.1;unfold mK at IC;omega).symm
   (repeat(first|((repeat(revert hN;revert N;apply Pn.out));refine wk @aj.eq_1 ?_;(repeat(refine Pn.mk ?_;intro N hN)))|((try apply Or.inl);refine⟨_,az.x (QV) (sd @aj.eq_1),?_⟩;refine hN _ _ ?_;clear hN N)|((try apply Or.inl);refine⟨_,az.x (TZ) (sd @aj.eq_1),?_⟩;refine hN _ _ ?_;clear hN N)|((try apply Or.inl);refine⟨_,az.x (ed) (sd @aj.eq_1),?_⟩;refine hN _ _ ?_;clear hN N)))
   exact mj (.inl rfl) (r1:=.bool false) (r2:=.int .i64 4) (sd @Nat.zero_add) (sd @Nat.zero_add) (by rw[qn,if_pos IC];simp only[gn,cQ,dD,iI,eV,Option.map_some])
  ·rw[decide_eq_true IC,<-hsy]at ed
   (repeat(first|((repeat(revert hN;revert N;apply Pn.out));refine wk @aj.eq_1 ?_;(repeat(refine Pn.mk ?_;intro N hN)))|((try apply Or.inl);refine⟨_,az.x (QV) (sd @aj.eq_1),?_⟩;refine hN _ _ ?_;clear hN N)|((try apply Or.inl);refine⟨_,az.x (TZ) (sd @aj.eq_1),?_⟩;refine hN _ _ ?_;clear hN N)|((try apply Or.inl);refine⟨_,az.x (ed) (sd @aj.eq_1),?_⟩;refine hN _ _ ?_;clear hN N)))
   exact mj (.inl rfl) (r1:=.bool (mu s)) (r2:=.int .i64 0) (sd @Nat.zero_add) (sd @Nat.zero_add) (by rw[if_neg IC];simp only[gn,cQ,dD,iI,eV,Option.map_some])
 generalize hcode:(if s7 s.aq&&xX s.aq s.dJ.ay then(if ir s.bu 1 16 then(if 64<mK s.aq s.dJ.ay s.bu then(4:Int)else 0)else 2)else 1)=code at key
 rw[aj]at key
 cases hB:mu s
 ·rw[hB]at key
  (repeat(first|((repeat(revert hN;revert N;apply Pn.out));refine wk (tw @eb.eq_1 @hd) ?_;(repeat(refine Pn.mk ?_;intro N hN)))|((try apply Or.inl);refine⟨_,az.x (key) (sd (tw @eb.eq_1 @hd)),?_⟩;refine hN _ _ ?_;clear hN N)))
  exact dQ (b:=false) (.inl rfl) (sd @Nat.zero_add) rfl
 ·rw[hB]at key
  have hP:=mv.1 hB
  have hc:code=0:=by
   rw[<-hcode,rZ.2 hP.set,oc.2 hP.s6,hP.uz]
   have:=hP.holds.1
   simp only[Bool.and_self,if_true]
   rw[if_neg (by unfold mK;omega)]
  rw[hc]at key
  (repeat(first|((repeat(revert hN;revert N;apply Pn.out));refine wk (tw @eb.eq_1 @hd) ?_;(repeat(refine Pn.mk ?_;intro N hN)))|((try apply Or.inl);refine⟨_,az.x (key) (sd (tw @eb.eq_1 @hd)),?_⟩;refine hN _ _ ?_;clear hN N)))
  exact dQ (b:=true) (.inl rfl) (sd @Nat.zero_add) rfl
end Go.Proofs.YtalkncaokeaifaaGreatDoor.V

namespace Go.Proofs.YtalkncaokeaifaaGreatDoor.V
open Go.RowKit
variable {P:Program} {hs:Nat}
theorem Iu {q n i:Nat} {ops:Array Oper} {Q:Exit->Act->World->Prop} {K K':Act->World->Prop} {a:Act} {w:World} (po:∀(j:Nat) (o:Oper),ops[j]? =some o->∀c,o.op≠.defer c) (qn:¬LetsOut Q) (hK:∀a w,K a w->K' a w) (h:wpOp P ops Q i K a w):wpOpIn (Fence.wide.inRound q) n P ops Q i K' a w:=by
 unfold wpOp at h
 unfold wpOpIn
 split at h
 ·rename_i ho;simp only[ho];exact hK _ _ h
 ·rename_i o ho
  simp only[ho]
  split at h
  ·rename_i hw
   rw[if_pos hw]
   replace h:=h.resolve_right fun hc=>qn hc.2
   refine⟨fun _ _=>trivial,?_⟩
   rw[Oper.semAt_eq _ _ _ (po i o ho)]
   unfold Oper.wp at h
   generalize (execOp a.eval o).run P w=r at *
   cases r with
   |ok m w'=>
    cases m<;>simp only[Oper.upon,Oper.uponIn]at h ⊢
    case value=>exact hK _ _ h
    case skip=>exact hK _ _ h
    case defer=>exact hK _ _ h
    case enter f args=>
     refine⟨fun h=>by simp[Fence.wide]at h,CallsIn.inRound q (callsIn_wide.2 (h.mono fun e MC he=>?_))⟩
     cases e with
     |returned v=>exact hK _ _ he
     |panicked c=>exact he
     |outgrown=>exact he
    case row r args=>exact⟨fun h=>by simp[Fence.wide]at h,fun c cs _=>let ⟨v,MC,h1,s⟩:=h c cs;⟨v,MC,hK _ _ h1,stepsIn_wide.2 s⟩⟩
   |halt x w'=>cases x<;>simp only[Oper.upon,Oper.uponIn]at h ⊢;exact h
  ·rename_i hw
   rw[if_neg hw]
   exact⟨fun _ _=>trivial,hK _ _ h⟩
theorem qz {q n:Nat} {md:Region.Mode} {ops:Array Oper} {Q:Exit->Act->World->Prop} (po:∀(j:Nat) (o:Oper),ops[j]? =some o->∀c,o.op≠.defer c) (qn:¬LetsOut Q):∀(fuel:Nat) (listed:Array Bool) (a:Act) (w:World),wpAny P md ops Q fuel listed a w->wpAnyIn (Fence.wide.inRound q) n P md ops Q fuel listed a w
 |0,_,_,_,h=>h
 |fuel+1,listed,_,_,h=>⟨h.1,fun i hi=>Iu po qn (fun a w=>qz po qn fuel _ a w) (h.2 i hi)⟩
def Gf:Op->Bool
 | .defer _=>true
 |_=>false
theorem CU {ops:Array Oper} (h:(ops.all fun o=> !Gf o.op)=true):∀(j:Nat) (o:Oper),ops[j]? =some o->∀c,o.op≠.defer c:=fun j o hj c hc=>by
 have:=Array.all_eq_true_iff_forall_mem.1 h o (Array.mem_of_getElem? hj)
 rw[hc]at this
 simp[Gf]at this
theorem A6 (hm:P.follows .mixedOrders=true) {nt site0 id q n:Nat} {ops:Array Oper} {vl:List cJ} (h:qQ P nt site0 ops true false=some vl) (po:∀(j:Nat) (o:Oper),ops[j]? =some o->∀c,o.op≠.defer c)
  {K:Env->au->Prop} {env:Env} {σ:au} {a:Act} {w:World} {D:Nat->Prop} {ι:Names} {Q:Exit->Act->World->Prop} (hv:wpOps (Sound P) true vl K env σ) (ed:St P hs nt D ι env σ a w)
  (hK:∀iD σ' a' w' D' ι',K iD σ'->Step hs D ι w D' ι' w'->St P hs nt D' ι' iD σ' a' w'->a'.defers=a.defers->Q .normal a' w'):(Code.region id ops true).wpIn (Fence.wide.inRound q) n P Q a w:=by
 have eI:∃hidden tq,allM (ko P ops nt site0 true false (jd ops) hidden) ops.toList 0=some tq/\vl=tq/\ox ops tq (jd ops)=true:=by
  unfold qQ at h
  simp only[if_true,Bool.not_true,Bool.false_or]at h
  split at h
  ·rename_i tq h'
   split at h
   ·rename_i wj;simp at h;exact⟨_,tq,h',h.symm,wj⟩
   ·cases h
  ·cases h
 obtain⟨hidden,tq,eI,rfl,wj⟩:=eI
 obtain⟨rz,T0⟩:=ed.drew
 obtain⟨hlen,_⟩:=n9 eI
 have wh:vl.length=ops.size:=by rw[hlen];simp
 have Ej:=xN (X:=Sound P) (K:=K) (n:=σ.next) wj wh vl 0 (Array.replicate ops.size false) env σ.get (by simp) (by simp) (fun i hi=>by simp[hi]) (by simp[wh]) (fun k i h=>by
  exfalso
  rcases Nat.lt_or_ge k ops.size with hk|hk
  ·simp[hk]at h
  ·simp[Nat.not_lt.2 hk]at h) hv
 rw[wh]at Ej
 have hw:=yG (Q:=fun e a w=>e=.normal/\Q .normal a w) eI ops.size _ env σ.get a w.drew D ι (fun _=>False) Ej rz.s8 rz.used (fun _ h=>h.elim) rz.env rz.size fun iH g1 a1 w1 D1 ι1 U1 hk T S1 Xg E1 sM hd=>⟨rfl,hK iH ⟨g1,σ.next+1⟩ a1 w1 D1 ι1 hk (T0.trans T) ⟨S1,Xg.next,E1,sM⟩ hd⟩
 have im:=qz (q:=q) (n:=n) (Q:=fun e a w=>e=.normal/\Q .normal a w) po (by rintro⟨_,_,hc,_⟩;cases hc) ops.size _ a w.drew hw
 refine wpIn_mono (wpIn_region_any (id:=id) hm im) ?_
 rintro e a w ⟨rfl,h⟩
 exact h
end Go.Proofs.YtalkncaokeaifaaGreatDoor.V

namespace Go.Proofs.YtalkncaokeaifaaGreatDoor.V
open Go.RowKit Go.Shelf
attribute [local go_sem] Oper.semAt_some
def ib (n₀:Nat) (W W':World):Prop:=W.heap.size<=W'.heap.size/\(∀(b:Nat) (cells:Array Value) (T:TypeId) (fr:Nat×Nat),W.heap[b]? =some (Obj.cells cells T fr)->T≠162->T≠202->W'.heap[b]? =W.heap[b]?)/\∀k,k<n₀->k<W.heap.size->W'.heap[k]? =W.heap[k]?
theorem ib.trans {n₀:Nat} {A B C:World} (h:ib n₀ A B) (k:ib n₀ B C):ib n₀ A C:=⟨Nat.le_trans h.1 k.1,fun b cells T fr hb h1 h2=>by
 have e:=h.2.1 b cells T fr hb h1 h2
 rw[<-e]at hb ⊢
 exact k.2.1 b cells T fr hb h1 h2,fun b hb hs=>(k.2.2 b hb (Nat.lt_of_lt_of_le hs h.1)).trans (h.2.2 b hb hs)⟩
theorem ib.of {n₀:Nat} {W W':World} (h:Below W.heap.size W W'):ib n₀ W W':=⟨h.size,fun b cells T fr hb _ _=>h.block b (Array.getElem?_eq_some_iff.1 hb).1,fun k _ hs=>h.block k hs⟩
theorem ib.refl (n₀:Nat) (W:World):ib n₀ W W:=⟨Nat.le_refl _,fun _ _ _ _ _ _ _=>rfl,fun _ _ _=>rfl⟩
theorem ib.b {n₀ m:Nat} (hm:n₀<=m) (W:World) (l:Nat) (o o':Obj) (hl:m<=l) (h:W.heap[l]? =some o) (hc:o.isCells=false) (_:o.isWalk=false):ib n₀ W (W.putObj l o'):=by
 refine⟨by simp,fun b cells T fr hb _ _=>?_,fun k hk _=>World.putObj_heap_other ab⟩
 by_cases iY:b=l
 ·subst iY;rw[h]at hb;cases hb;cases hc
 ·exact World.putObj_heap_other iY
def MS (bs:List PB):List Value:=bs.flatMap fun b=>[.int .i64 b.a,.int .i64 b.b,.int .i64 b.s]
theorem Jp (bs:List PB) (b:PB):MS (bs++[b])=MS bs++[.int .i64 b.a,.int .i64 b.b,.int .i64 b.s]:=by simp[MS]
def nH (s:aO) (l:List aa) (pre:List (P9 l)):List PB:=(pre.map (·.1)).flatMap (Ac s l)
theorem yJ (s:aO) (l:List aa) (pre:List (P9 l)) (x:P9 l):nH s l (pre++[x])=nH s l pre++Ac s l x.1:=by simp[nH]
theorem Jo (s:aO) (l:List aa) (x:Nat×Nat×Int):(Ac s l x).length<=1:=by
 unfold Ac;split<;>simp
theorem Jq (s:aO) (l:List aa) (pre:List (P9 l)):(nH s l pre).length<=pre.length:=by
 unfold nH
 induction pre with
 |nil=>simp
 |cons x r ih=>
  have:=Jo s l x.1
  simp only[List.map_cons,List.flatMap_cons,List.length_append,List.length_cons]at ih ⊢
  omega
theorem zA (l:List aa) (i:Nat):∀m,(kH l i m).length<=m
 |0=>by simp[kH]
 |m+1=>by
  rw[mT,List.length_append]
  have:=zA l i m
  have:(CP l i (1-(m:Int))).length<=1:=by unfold CP;split<;>simp
  omega
theorem CQ (l:List aa):∀n,(k9 l n).length<=n*2
 |0=>by simp[k9]
 |n+1=>by
  rw[ma,List.length_append]
  have:=CQ l n
  have:=zA l n 2
  omega
theorem Cl {β:Type} (B:Nat) (c:Array Value) (t:TypeId) (fr:Nat×Nat):Own (fun(_:β) W=>W.heap[B]? =some (.cells c t fr)):=fun _ X _ row h hg hr=>(hg.block B (Array.getElem?_eq_some_iff.1 h).1 (fun e=>by
 obtain⟨o,ho,hc⟩:=hr B e.symm
 rw[h]at ho;cases ho;cases hc)).trans h
theorem ib.app {n₀:Nat} {W w1:World} {B k:Nat} {v v':Value} {xs:List Value} {tmp:Obj} (hv:Boxed W B 162 v) (fy:W.ownsRow n₀ 202 3 v k xs) (pW:(W.alloc tmp).grownBy w1 v.ownBlock) (hb:Below n₀ W (w1.setCell ⟨B,0,none⟩ v')):ib n₀ W (w1.setCell ⟨B,0,none⟩ v'):=by
 refine⟨hb.size,fun b cells T fr h h1 h2=>?_,fun k hk _=>hb.block k hk⟩
 have eJ:=(Array.getElem?_eq_some_iff.1 h).1
 have hbB:b≠B:=by
  rintro rfl
  rw[show W.heap[b]? = _ from hv]at h
  cases h
  exact h1 rfl
 have Ww:some b≠v.ownBlock:=by
  rcases fy.2 with⟨rfl,_⟩|⟨g,cap,cur,rfl,_,hg,_⟩
  ·simp[Value.ownBlock]
  ·intro e
   obtain rfl:b=g:=by simpa[Value.ownBlock]using e
   rw[hg]at h;cases h
   exact h2 rfl
 refine(Below.heap_setCell w1 ⟨B,0,none⟩ v' b hbB).trans ?_
 exact(pW.block b (by simp;omega) Ww).trans (Below.heap_alloc W tmp b eJ)
theorem Va {w:World} {vS:Value} {l:List aa} (hP:pK w vS l):I6 (ib w.heap.size) vS l where
 refl:=ib.refl _
 trans:=ib.trans
 of:=ib.of
 size h:=h.1
 typed h:=h.2.1
 pl {W W'} h hp:=by
  obtain⟨A,c,rfl,hm,hc⟩:=hp.sl
  refine⟨A,c,rfl,hm,?_⟩
  by_cases hl:l=[]
  ·exact .inl hl
  have kC:0<l.length:=List.length_pos_iff.2 hl
  rcases hc with h0|⟨b,o,rfl,iZ⟩
  ·exact absurd h0 hl
  obtain⟨A',c',e,_,jZ⟩:=hP.sl
  cases e
  rcases jZ with h0|⟨b',o',e,hcell'⟩
  ·exact absurd h0 hl
  cases e
  have hb:=lg (hcell' 0 kC).1
  have hk:=h.2.2 b hb (lg (iZ 0 kC).1)
  refine .inr ⟨b,o,rfl,fun i hi=>?_⟩
  have Ua:∀x,W'.cell? ⟨b,x,none⟩=W.cell? ⟨b,x,none⟩:=fun x=>World.cell?_of_block hk
  rw[Ua,Ua,Ua]
  exact iZ i hi
theorem rrE {P:Program} {nt site0:Nat} {ops:Array Oper} {vl:List cJ} (_:vz P ops site0 false (jd ops) (pw P false ops.toList 0) ops.toList 0=some vl:=by(conv=>lhs;cbv)<;>exact rfl) (h:qQ P nt site0 ops true false=some vl:=by kernel_rfl):qQ P nt site0 ops true false=some vl:=h
theorem KK (l:List Value) (d:Value):l=(List.range l.length).map fun i=>(⟨l⟩:Array Value).getD i d:=by
 refine List.ext_getElem (by simp) fun i h1 h2=>?_
 simp[h1]
theorem EW {X:fW} {d:Bool} {ops:List cJ} {K:Env->au->Prop} {env:Env} {σ:au} (h:dH X (.jo d ops) (fun _=>K) env σ):wpOps X d ops K env σ:=h
theorem vH (W:World) (T:TypeId) (x y z:Value):∀(j:Nat) (u:Value),[x,y,z][j]? =some u->(W.alloc (.cells #[x,y,z] T)).cell? ((⟨W.heap.size,0,none⟩:Addr).add j)=some u:=fun j u h=>by
 have hb:(W.alloc (.cells #[x,y,z] T)).heap[W.heap.size]? =some (.cells #[x,y,z] T (0,0)):=World.alloc_heap_new _ _
 have e:∀k,(W.alloc (.cells #[x,y,z] T)).cell? ⟨W.heap.size,k,none⟩=(#[x,y,z]:Array Value)[k]? :=fun k=>by
  unfold World.cell?
  rw[show(W.alloc (.cells #[x,y,z] T)).heap[(⟨W.heap.size,k,none⟩:Addr).block]? = _ from hb]
  rfl
 rw[show(⟨W.heap.size,0,none⟩:Addr).add j=⟨W.heap.size,j,none⟩ by simp[Addr.add];exact fun h=>h.symm,e]
 simpa using h
def JC (n b:Nat):Names:=fun id=>if id=⟨1,0⟩then some ⟨n,2,2,none⟩else if id=⟨2,0⟩then some ⟨n+1,1,1,none⟩else if id=⟨3,0⟩then some ⟨n+1+1,1,1,none⟩else if id=⟨4,0⟩then some ⟨b,2,2,none⟩else if id=⟨5,0⟩then some ⟨n+1+1+1,1,1,none⟩else none
def Pa (s:aO) (l:List aa) (i k:Nat):Rows:=fun id=>if id=⟨1,0⟩then some ⟨false,2,[aj s]⟩else if id=⟨2,0⟩then some ⟨false,1,[[.sl (l.map ai)]]⟩else if id=⟨4,0⟩then some ⟨false,2,[[.int .i64 (i:Int),.int .i64 (k:Int)]]⟩else none
def Qp (s:aO) (l:List aa) (i k:Nat) (d:Int):Env:=bD [.agg (aj s),.agg [.sl (l.map ai)],.ptr ⟨1,0⟩ 0 0,.ptr ⟨2,0⟩ 0 0,.bP,.ptr ⟨3,0⟩ 0 0,.ptr ⟨4,0⟩ 0 0,.int .i64 d,.undef,.agg [.sl (l.map ai)],.fn 154 [.ptr ⟨5,0⟩ 0 0],.agg [.int .i64 (i:Int),.int .i64 (k:Int)],.int .i64 d]
theorem Fb {P:Program} {W:World} {D:Nat->Prop} {ι:Names} {B:sr} {cells:Array Value} {T:TypeId} {cs:List AV} (hk:B.k=none) (hb:W.heap[B.b]? =some (.cells cells T (0,0))) (hC:cells.size=B.C) (hz:B.sz=cs.length) (hl:cs.length=cells.size) (hf:∀a∈cs,a.cell=true) (hr:∀(j:Nat) (a:AV),cs[j]? =some a->∃v,cells[j]? =some v/\dE P W D ι a v):gC P W D ι B ⟨false,cs.length,[cs]⟩:=
 jO.obj ⟨hz,⟨cells,T,hb,hC⟩,by simp;omega,fun c hc=>by simp at hc;rw[hc],fun c hc=>by simp at hc;rw[hc];exact hf,fun i j c a hi hj=>by
  match i,hi with
  |0,hi=>
   simp at hi;subst hi
   obtain⟨v,h1,h2⟩:=hr j a hj
   exact⟨v,by simp[World.cell?,hb,h1],h2⟩
  |i+1,hi=>simp at hi⟩ hk
theorem Kw:(Tryz.prog.info? 202).map (fun i=>(i.zero,i.size,i.bytes))=some (some (.agg #[.int .i64 0,.int .i64 0,.int .i64 0]),3,24):=by kernel_rfl
end Go.Proofs.YtalkncaokeaifaaGreatDoor.V

namespace Go.Proofs.YtalkncaokeaifaaGreatDoor.V
open Go.RowKit Go.Shelf
attribute [local go_sem] Oper.semAt_some
attribute [local irreducible] dH wpOps eB Call
attribute [local go_sem] ax eo dS ez ev cZ upd bD K.av bR AV.cells AV.cell rowOf rowsOf part ld rowAt eL bz bx cW dj eO bf cC dw er ea cR dq cw cu da db bp aI bZ bj ck cj dn dr dp bW br cz dm bh ar cq bH eM aT bL bq aH cU aQ cX AV.undef aW bd de di cY c6 bJ dv dy bE du dt cm cr List.getD_cons_zero List.getD_cons_succ List.getD_nil List.all_cons List.all_nil Bool.and_true Bool.true_and Bool.and_self Bool.not_true Bool.not_false Option.map_some Option.map_none Option.bind_some Option.bind_none List.length_cons List.length_nil List.take_succ_cons List.take_zero List.take_nil List.drop_succ_cons List.drop_zero List.drop_nil List.head?_cons List.map_cons List.map_nil List.getElem?_cons_zero List.getElem?_cons_succ List.cons_append List.nil_append List.append_nil List.length_map List.set_cons_zero List.set_cons_succ Nat.reduceMul eq_self Int.toNat_natCast Int.natCast_nonneg and_self true_and and_true decide_true decide_false Bool.false_eq_true Nat.zero_add Nat.add_zero List.contains_cons List.contains_nil Bool.or_false Bool.false_or beq_self_eq_true Nat.reduceBEq ne_eq not_true_eq_false not_false_eq_true Id.mk.injEq false_and and_false Nat.reduceLT Int.reduceLE Int.reduceLT Int.reduceToNat Int.reduceNeg Int.reduceAdd Nat.le_refl List.length_append beq_true beq_false Bool.not_eq_eq_eq_not or_false false_or dX ad ae aP aJ bt bI aD aS aA aL bU aZ
theorem JA (s:aO) (l:List aa) (hF:lS s) (hA:gV s l) (w:World) (Ag At:Option Addr) (ng cg nt ct:Nat) (vS:Value) (hT:jA Tryz.prog w (fun b=>b<w.heap.size) (.agg (aj s)) (.agg #[.slice Ag ng cg,.slice At nt ct])) (hP:pK w vS l):
  CallsIn Fence.wide 5 Tryz.prog 103 #[.agg #[.slice Ag ng cg,.slice At nt ct],.agg #[vS]] w fun e W'=>∃v,e=.returned v/\W'.ownsRow w.heap.size 202 3 v (dL s l).length (MS (dL s l))/\(v=.slice none 0 0↔dL s l=[])/\Below w.heap.size w W':=by
 obtain⟨A,cp,rfl,_,_⟩:=hP.sl
 obtain⟨i0,hi,IQ,sM,pZ⟩:=info_parts Kw
 refine callsIn_of_wp_marks Tryz.func103 rfl trivial ?_ rfl
 simp only[Tryz.ntmps103,List.size_toArray,List.length_cons,List.length_nil,Nat.reduceAdd,Nat.reduceSub,Array.replicate_succ,Array.replicate_zero,List.push_toArray,List.append_toArray,List.nil_append,List.cons_append]
 gi_wp2_with (refine⟨trivial,?_⟩;gi_at_call 132;refine(AW _ _ _).mono ?_;rintro e w' ⟨rfl,rfl⟩)
 have bT:((w.alloc (.cells #[.slice Ag ng cg,.slice At nt ct] 37)).heap[w.heap.size]?)=some (.cells #[.slice Ag ng cg,.slice At nt ct] 37 (0,0)):=World.alloc_heap_new _ _
 obtain⟨w1,uq⟩:∃w1,w.alloc (.cells #[.slice Ag ng cg,.slice At nt ct] 37)=w1:=⟨_,rfl⟩
 have SY:w1.heap.size=w.heap.size+1:=by rw[<-uq];simp
 have Bp:Below w.heap.size w w1:=by rw[<-uq];exact(Below.refl _ w).alloc (Nat.le_refl _) _
 rw[uq]at bT ⊢
 clear uq
 have bA:=Boxed.new w1 40 (.slice A l.length cp)
 have bO:=Boxed.new (w1.alloc (.cells #[.slice A l.length cp] 40)) 162 (.slice none 0 0)
 have bN:=Boxed.new ((w1.alloc (.cells #[.slice A l.length cp] 40)).alloc (.cells #[.slice none 0 0] 162)) 40 (.slice A l.length cp)
 replace bA:=(bA.alloc (.cells #[.slice none 0 0] 162)).alloc (.cells #[.slice A l.length cp] 40)
 replace bO:=bO.alloc (.cells #[.slice A l.length cp] 40)
 simp only[World.size_alloc,SY]at bA bO bN
 have nK:Below w1.heap.size w1 (((w1.alloc (.cells #[.slice A l.length cp] 40)).alloc (.cells #[.slice none 0 0] 162)).alloc (.cells #[.slice A l.length cp] 40)):=(((Below.refl _ w1).alloc (Nat.le_refl _) _).alloc (by simp) _).alloc (by simp;omega) _
 have fc:(((w1.alloc (.cells #[.slice A l.length cp] 40)).alloc (.cells #[.slice none 0 0] 162)).alloc (.cells #[.slice A l.length cp] 40)).heap.size=w.heap.size+4:=by simp;omega
 obtain⟨W0,Pk⟩:∃W0,((w1.alloc (.cells #[.slice A l.length cp] 40)).alloc (.cells #[.slice none 0 0] 162)).alloc (.cells #[.slice A l.length cp] 40)=W0:=⟨_,rfl⟩
 rw[Pk]at bA bO bN nK fc ⊢
 clear Pk
 have yd:Below w.heap.size w W0:=Bp.trans (nK.mono ab)
 replace bT:=(nK.block w.heap.size ab).trans bT
 have hP0:pK W0 (.slice A l.length cp) l:=hP.below yd
 have kl:=Va hP
 have iY:=vn (s:=s) hA.1
 refine wpIn_rangeFunc_ownH (n:=5) rfl ab (gf:=154) (lb:= #[.pointer (some ⟨w.heap.size+1+1+1,0,none⟩)]) rfl trivial (enters_of Tryz.func154 (by kernel_rfl) rfl)
  (KT l hA.1 (w.heap.size+1+1+1) (5-1) ab (.slice A l.length cp) (ib w.heap.size) kl W0 bN hP0) ib.trans (ib.b ab) (Below.refl _ _) (fun _=>rfl)
  (fun pre W=>((∃v,Boxed W (w.heap.size+1+1) 162 v/\W.ownsRow w.heap.size 202 3 v (nH s l pre).length (MS (nH s l pre))/\(v=.slice none 0 0↔nH s l pre=[]))/\(Boxed W (w.heap.size+1) 40 (.slice A l.length cp)/\W.heap[w.heap.size]? =some (.cells #[.slice Ag ng cg,.slice At nt ct] 37 (0,0))))/\Below w.heap.size w W)
  (fun _ _ _=>False)
  (OwnFrom.and (OwnFrom.and (Own.from (holdsRow_own w.heap.size (w.heap.size+1+1) 162 202 3 (fun pre=>(nH s l pre).length) (fun pre=>MS (nH s l pre)) (fun pre v=>v=.slice none 0 0↔nH s l pre=[])) _) (OwnFrom.and (Own.from (boxed_own _ _ _) _) (Own.from (Cl _ _ _ _) _))) (ownFrom_below (Nat.le_refl _) ab))
  (fun _ _ _ _ _ hs _ _=>hs)
  ⟨⟨⟨_,bO,World.ownsRow_nil _ _ _ _,by simp[nH]⟩,bA,bT⟩,yd⟩
  (fun x a' W=>∃Bx,w.heap.size+1+1<Bx/\W.heap[Bx]? =some (.cells #[.int .i64 (x.1.1:Int),.int .i64 (x.1.2.1:Int)] 208 (0,0))/\a'={tmps:= #[.agg #[.slice Ag ng cg,.slice At nt ct],.agg #[.slice A l.length cp],.pointer (some ⟨w.heap.size,0,none⟩),.pointer (some ⟨w.heap.size+1,0,none⟩),.slice none 0 0,.pointer (some ⟨w.heap.size+1+1,0,none⟩),.pointer (some ⟨Bx,0,none⟩),.int .i64 x.1.2.2,undef,.agg #[.slice A l.length cp],.func (.func 154) #[] #[.pointer (some ⟨w.heap.size+1+1+1,0,none⟩)],.agg #[.int .i64 (x.1.1:Int),.int .i64 (x.1.2.1:Int)],.int .i64 x.1.2.2,undef,undef,undef,undef,undef,undef,undef,undef,undef,undef,undef,undef,undef,undef,undef,undef,undef,undef,undef,undef,undef,undef,undef,undef,undef,undef,undef,undef,undef],defers:=[]})
  (fun x a' _ X Y row hs hg hr=>by obtain⟨Bx,h1,h2,h3⟩:=hs;exact⟨Bx,h1,Cl Bx _ _ _ () X Y row h2 hg (fun r e=>(hr r e).2),h3⟩)
  ?assign ?body ?done ?stop
 case assign=>
  rintro q pre ⟨⟨x0,x1,x2⟩,hx⟩ W K ⟨⟨⟨v,hv,fy,hnil⟩,bA1,bT1⟩,hB⟩ hK
  simp only[FQ]
  gi_wp2
  exact hK _ _ ((KeepsOthers.alloc _ _).from _) (ib.of ((Below.refl _ W).alloc (Nat.le_refl _) _)) ⟨⟨⟨v,hv.alloc _,fy.alloc _,hnil⟩,bA1.alloc _,(Below.heap_alloc _ _ _ (Array.getElem?_eq_some_iff.1 bT1).1).trans bT1⟩,hB.alloc hB.size _⟩ ⟨W.heap.size,hv.lt,World.alloc_heap_new _ _,rfl⟩
 case body=>
  rintro q pre ⟨⟨x0,x1,x2⟩,hx⟩ a' W hq hqr ⟨⟨⟨v,hv,fy,hnil⟩,bA1,bT1⟩,hB⟩ ⟨Bx,hBx,bX,rfl⟩ eJ
  obtain⟨HA,NN,Dw,-⟩:=id hx
  simp only at HA NN Dw bX
  obtain⟨A',c',e',_,hc⟩:=(hP.below hB).sl
  cases e'
  have dW:∃b o,A=some ⟨b,o,none⟩/\W.cell? ⟨b,o+x0*3+2,none⟩=some (.int .i64 (cP l x0).cK)/\W.cell? ⟨b,o+x1*3+2,none⟩=some (.int .i64 (cP l x1).cK):=by
   rcases hc with rfl|⟨b,o,rfl,iZ⟩
   ·simp at HA
   ·exact⟨b,o,rfl,by rw[Nat.add_assoc];exact(iZ x0 HA).2.2,by rw[Nat.add_assoc];exact(iZ x1 NN).2.2⟩
  obtain⟨b,o,rfl,cP0,cP1⟩:=dW
  have cT0:W.cell? ⟨w.heap.size,0,none⟩=some (.slice Ag ng cg):=by simp[World.cell?,bT1]
  have cT1:W.cell? ⟨w.heap.size,1,none⟩=some (.slice At nt ct):=by simp[World.cell?,bT1]
  have Xo:W.cell? ⟨Bx,0,none⟩=some (.int .i64 (x0:Int)):=by simp[World.cell?,bX]
  have Xp:W.cell? ⟨Bx,1,none⟩=some (.int .i64 (x1:Int)):=by simp[World.cell?,bX]
  have cA:=bA1.cell
  have dP0:W.drew.cell? ⟨b,o+x0*3+2,none⟩=some (.int .i64 (cP l x0).cK):=cP0
  have dP1:W.drew.cell? ⟨b,o+x1*3+2,none⟩=some (.int .i64 (cP l x1).cK):=cP1
  have dT0:W.drew.cell? ⟨w.heap.size,0,none⟩=some (.slice Ag ng cg):=cT0
  have dT1:W.drew.cell? ⟨w.heap.size,1,none⟩=some (.slice At nt ct):=cT1
  have dX0:W.drew.cell? ⟨Bx,0,none⟩=some (.int .i64 (x0:Int)):=Xo
  have dX1:W.drew.cell? ⟨Bx,1,none⟩=some (.int .i64 (x1:Int)):=Xp
  have dA:W.drew.cell? ⟨w.heap.size+1,0,none⟩=some (.slice (some ⟨b,o,none⟩) l.length cp):=cA
  have sL:∀i,i<l.length->cP l i∈l:=fun i hi=>by
   unfold cP
   rw[List.getD_eq_getElem?_getD,List.getElem?_eq_getElem hi]
   exact List.getElem_mem hi
  have NB:=mixed
  have hfw:=hA.1.Dq
  have hbv:=Jy s hF (cP l x0).cK x2 (cP l x1).cK (hA.2 _ (sL x0 HA)) (hA.2 _ (sL x1 NN)) (jE ab)
  have hTW:jA Tryz.prog W (fun b=>b<w.heap.size) (.agg (aj s)) (.agg #[.slice Ag ng cg,.slice At nt ct]):=hT.frame (fun b hb=>hB.block b hb) (fun _ h=>h)
  have hAW:jA Tryz.prog W (fun b=>b<w.heap.size) (.sl (l.map ai)) (.slice (some ⟨b,o,none⟩) l.length cp):=hP.eE.frame (fun b hb=>hB.block b hb) (fun _ h=>h)
  obtain⟨fT,XQ,XR⟩:∃f:Nat->Value,(∀j,j<(aj s).length->(#[Value.slice Ag ng cg,.slice At nt ct])[j]? =some (f j))/\∀j a,(aj s)[j]? =some a->jA Tryz.prog W (fun b=>b<w.heap.size) a (f j):=by
   cases hTW with
   |agg _ _ f _ _ h3 h4=>exact⟨f,h3,h4⟩
  have ed:St Tryz.prog W.heap.size 42 (fun b=>b<w.heap.size) (JC w.heap.size Bx) (Qp s l x0 x1 x2) ⟨Pa s l x0 x1,1⟩ {tmps:= #[.agg #[.slice Ag ng cg,.slice At nt ct],.agg #[.slice (some ⟨b,o,none⟩) l.length cp],.pointer (some ⟨w.heap.size,0,none⟩),.pointer (some ⟨w.heap.size+1,0,none⟩),.slice none 0 0,.pointer (some ⟨w.heap.size+1+1,0,none⟩),.pointer (some ⟨Bx,0,none⟩),.int .i64 x2,undef,.agg #[.slice (some ⟨b,o,none⟩) l.length cp],.func (.func 154) #[] #[.pointer (some ⟨w.heap.size+1+1+1,0,none⟩)],.agg #[.int .i64 (x0:Int),.int .i64 (x1:Int)],.int .i64 x2,undef,undef,undef,undef,undef,undef,undef,undef,undef,undef,undef,undef,undef,undef,undef,undef,undef,undef,undef,undef,undef,undef,undef,undef,undef,undef,undef,undef,undef],defers:=[]} W:=by
   have n1:(JC w.heap.size Bx) ⟨1,0⟩=some ⟨w.heap.size,2,2,none⟩:=rfl
   have n2:(JC w.heap.size Bx) ⟨2,0⟩=some ⟨w.heap.size+1,1,1,none⟩:=rfl
   have n3:(JC w.heap.size Bx) ⟨3,0⟩=some ⟨w.heap.size+1+1,1,1,none⟩:=rfl
   have n4:(JC w.heap.size Bx) ⟨4,0⟩=some ⟨Bx,2,2,none⟩:=rfl
   have n5:(JC w.heap.size Bx) ⟨5,0⟩=some ⟨w.heap.size+1+1+1,1,1,none⟩:=rfl
   have rp:∀(id:Id) (B:sr),(JC w.heap.size Bx) id=some B->B.k=none->dE Tryz.prog W (fun b=>b<w.heap.size) (JC w.heap.size Bx) (.ptr id 0 0) (.pointer (some ⟨B.b,0,none⟩)):=fun id B h hk=>by
    have:=dE.ptr (P:=Tryz.prog) (w:=W) (D:=fun b=>b<w.heap.size) id 0 0 B h hk
    simpa using this
   have ri:∀n:Int,dE Tryz.prog W (fun b=>b<w.heap.size) (JC w.heap.size Bx) (.int .i64 n) (.int .i64 n):=fun n=>.eE _ _ (.int _ _)
   have hA1:jA Tryz.prog W (fun b=>b<w.heap.size) (.agg [.sl (l.map ai)]) (.agg #[.slice (some ⟨b,o,none⟩) l.length cp]):=.agg _ _ (fun _=>.slice (some ⟨b,o,none⟩) l.length cp) rfl (fun a ha=>by simp at ha;rw[ha];rfl) (fun j hj=>by match j,hj with|0,_=>rfl|j+1,hj=>simp at hj) (fun j a ha=>by match j,ha with|0,ha=>simp at ha;subst ha;exact hAW|j+1,ha=>simp at ha)
   refine⟨⟨Nat.le_refl _,fun b hb=>Nat.lt_of_lt_of_le hb hB.size,fun id r hg=>?_,fun id jR r r' B B' h _ hw=>?_⟩,fun id hid=>?_,fun t=>?_,rfl⟩
   ·replace hg:Pa s l x0 x1 id=some r:=hg
    unfold Pa at hg
    split at hg
    ·rename_i e;subst e;injection hg with hg;subst hg
     exact⟨_,n1,Fb (cs:=aj s) rfl bT1 rfl rfl rfl (fun a ha=>by simp[aj]at ha;rcases ha with rfl|rfl<;>rfl) (fun j a ha=>⟨_,XQ j (List.getElem?_eq_some_iff.1 ha).1,.eE _ _ (XR j a ha)⟩),fun h=>(by cases h),fun h=>(by cases h)⟩
    ·split at hg
     ·rename_i e;subst e;injection hg with hg;subst hg
      exact⟨_,n2,Fb (cs:=[.sl (l.map ai)]) rfl bA1 rfl rfl rfl (fun a ha=>by simp at ha;rw[ha];rfl) (fun j a ha=>by match j,ha with|0,ha=>simp at ha;subst ha;exact⟨_,rfl,.eE _ _ hAW⟩|j+1,ha=>simp at ha),fun h=>(by cases h),fun h=>(by cases h)⟩
     ·split at hg
      ·rename_i e;subst e;injection hg with hg;subst hg
       exact⟨_,n4,Fb (cs:=[.int .i64 (x0:Int),.int .i64 (x1:Int)]) rfl bX rfl rfl rfl (fun a ha=>by simp at ha;rcases ha with rfl|rfl<;>rfl) (fun j a ha=>by match j,ha with|0,ha=>simp at ha;subst ha;exact⟨_,rfl,ri _⟩|1,ha=>simp at ha;subst ha;exact⟨_,rfl,ri _⟩|j+2,ha=>simp at ha),fun h=>(by cases h),fun h=>(by cases h)⟩
      ·cases hg
   ·exfalso
    replace h:Pa s l x0 x1 id=some r:=h
    unfold Pa at h
    split at h
    ·injection h with h;subst h;cases hw
    ·split at h
     ·injection h with h;subst h;cases hw
     ·split at h
      ·injection h with h;subst h;cases hw
      ·cases h
   ·left
    unfold JC at hid
    repeat' (split at hid)
    all_goals first|(rename_i e;subst e;exact Nat.zero_lt_one)|exact absurd rfl hid
   ·match t with
    |0=>exact .eE _ _ hTW
    |1=>exact .eE _ _ hA1
    |2=>exact rp _ _ n1 rfl
    |3=>exact rp _ _ n2 rfl
    |4=>exact .eE _ _ .bP
    |5=>exact rp _ _ n3 rfl
    |6=>exact rp _ _ n4 rfl
    |7=>exact ri _
    |8=>exact dE.undef
    |9=>exact .eE _ _ hA1
    |10=>exact .fn _ _ _ (fun _=>.pointer (some ⟨w.heap.size+1+1+1,0,none⟩)) (by kernel_rfl) rfl (fun j hj=>by match j,hj with|0,_=>rfl|j+1,hj=>simp at hj) (fun j a ha=>by match j,ha with|0,ha=>simp at ha;subst ha;exact rp _ _ n5 rfl|j+1,ha=>simp at ha)
    |11=>exact .agg _ _ (fun j=>if j=0 then .int .i64 (x0:Int)else .int .i64 (x1:Int)) rfl (fun a ha=>by simp at ha;rcases ha with rfl|rfl<;>rfl) (fun j hj=>by match j,hj with|0,_=>rfl|1,_=>rfl|j+2,hj=>simp at hj;omega) (fun j a ha=>by match j,ha with|0,ha=>simp at ha;subst ha;exact ri _|1,ha=>simp at ha;subst ha;exact ri _|j+2,ha=>simp at ha)
    |12=>exact ri _
    |13=>exact dE.undef
    |14=>exact dE.undef
    |15=>exact dE.undef
    |16=>exact dE.undef
    |17=>exact dE.undef
    |18=>exact dE.undef
    |19=>exact dE.undef
    |20=>exact dE.undef
    |21=>exact dE.undef
    |22=>exact dE.undef
    |23=>exact dE.undef
    |24=>exact dE.undef
    |25=>exact dE.undef
    |26=>exact dE.undef
    |27=>exact dE.undef
    |28=>exact dE.undef
    |29=>exact dE.undef
    |30=>exact dE.undef
    |31=>exact dE.undef
    |32=>exact dE.undef
    |33=>exact dE.undef
    |34=>exact dE.undef
    |35=>exact dE.undef
    |36=>exact dE.undef
    |37=>exact dE.undef
    |38=>exact dE.undef
    |39=>exact dE.undef
    |40=>exact dE.undef
    |41=>exact dE.undef
    |t+42=>exact dE.undef
  have hV:wpOps (Call Tryz.prog) true ?vl (fun e _=>e 5=.ptr ⟨3,0⟩ 0 0/\e 6=.ptr ⟨4,0⟩ 0 0/\e 8=.int .i64 (fX s (cP l x0).cK x2 (cP l x1).cK)) (Qp s l x0 x1 x2) ⟨Pa s l x0 x1,1⟩:= ?hv
  gi_wp2
  refine A6 mixed (rrE (nt:=42) (site0:=103005000)) (CU (by kernel_rfl)) (kY (fun _ _ _ _ h=>ij mixed h) kn (fun _ _ h=>h) _ _ _ hV) ed ?_
  rintro e1 σ1 ⟨tm,df⟩ w3 D1 ι1 ⟨h5,h6,h8⟩ T1 qK Er
  case hv=>
   refine EW ?_
   have e0:=jH HA
   have e1:=jH NN
   (repeat(first|((repeat(revert hN;revert N;apply Pn.out));refine wk (tw @e0 (tw @e1 (tw @Qp.eq_1 (tw @Pa.eq_1 (tw @ai.eq_1 @aj.eq_1))))) ?_;(repeat(refine Pn.mk ?_;intro N hN)))|((try apply Or.inl);refine⟨_,az.x (hbv) (sd (tw @e0 (tw @e1 (tw @Qp.eq_1 (tw @Pa.eq_1 (tw @ai.eq_1 @aj.eq_1)))))),?_⟩;refine hN _ _ ?_;clear hN N)))
   exact⟨sd @Qp.eq_1,sd @Qp.eq_1,sd @Qp.eq_1⟩
  ·have Cj:Below W.heap.size W w3:=T1.below
   have Cq:∀id B,JC w.heap.size Bx id=some B->ι1 id=some B:=T1.names
   have p5:tm.getD 5 undef=.pointer (some ⟨w.heap.size+1+1,0,none⟩):=by
    have g:=qK.env 5
    rw[h5]at g
    obtain⟨B,e,hB,_⟩:=gW g
    have h:=Cq ⟨3,0⟩ ⟨w.heap.size+1+1,1,1,none⟩ rfl
    rw[h]at hB;injection hB with hB;subst hB
    simpa using e
   have p6:tm.getD 6 undef=.pointer (some ⟨Bx,0,none⟩):=by
    have g:=qK.env 6
    rw[h6]at g
    obtain⟨B,e,hB,_⟩:=gW g
    have h:=Cq ⟨4,0⟩ ⟨Bx,2,2,none⟩ rfl
    rw[h]at hB;injection hB with hB;subst hB
    simpa using e
   have p8:tm.getD 8 undef=.int .i64 (fX s (cP l x0).cK x2 (cP l x1).cK):=by
    have g:=qK.env 8
    rw[h8]at g
    exact dI g
   have fc:=qK.size
   obtain⟨tl⟩:=tm
   obtain⟨f,Dv,hf⟩:∃f:Nat->Value,tl=[f 0,f 1,f 2,f 3,f 4,f 5,f 6,f 7,f 8,f 9,f 10,f 11,f 12,f 13,f 14,f 15,f 16,f 17,f 18,f 19,f 20,f 21,f 22,f 23,f 24,f 25,f 26,f 27,f 28,f 29,f 30,f 31,f 32,f 33,f 34,f 35,f 36,f 37,f 38,f 39,f 40,f 41]/\∀i,f i=(⟨tl⟩:Array Value).getD i undef:=by
    refine⟨fun i=>(⟨tl⟩:Array Value).getD i undef,?_,fun _=>rfl⟩
    have h:=KK tl undef
    rw[show tl.length=42 from fc]at h
    exact h
   rw[<-hf]at p5 p6 p8
   have X0:df=[]:=Er
   subst X0
   clear hf qK ed hV
   subst Dv
   rw[p5,p6,p8]
   have WM:=hv.kept (grown_of Cj) (by simp)
   have tQ:=fy.kept (grown_of Cj) (by rcases fy.2 with⟨e,_⟩|⟨_,_,_,e,_⟩<;>rw[e]<;>simp[Value.ownBlock])
   have hc3:=WM.cell
   have Ki:w.heap.size<=w3.heap.size:=Nat.le_trans hB.size Cj.size
   have eX0:w3.cell? ⟨Bx,0,none⟩=some (.int .i64 (x0:Int)):=(Cj.cell (p:=⟨Bx,0,none⟩) (Array.getElem?_eq_some_iff.1 bX).1).trans Xo
   have eX1:w3.cell? ⟨Bx,1,none⟩=some (.int .i64 (x1:Int)):=(Cj.cell (p:=⟨Bx,1,none⟩) (Array.getElem?_eq_some_iff.1 bX).1).trans Xp
   have lp:(nH s l pre).length<=2097152:=by
    have h1:=Jq s l pre
    have h2:=CQ l l.length
    omega
   have hKF:KeepsFrom (w.heap.size+4) W w3:=⟨Cj.size,fun k o _ hk _=>(Cj.block k (Array.getElem?_eq_some_iff.1 hk).1).trans hk⟩
   have hKT:ib w.heap.size W w3:=ib.of Cj
   have Xl:w3.heap[w.heap.size+1]? = _:=(Cj.block _ bA1.lt).trans bA1
   have Xm:=(Cj.block _ (Array.getElem?_eq_some_iff.1 bT1).1).trans bT1
   by_cases kC:0<fX s (cP l x0).cK x2 (cP l x1).cK
   ·have IF:nH s l (pre++[⟨(x0,x1,x2),hx⟩])=nH s l pre++[⟨x0,x1,fX s (cP l x0).cK x2 (cP l x1).cK⟩]:=by
     rw[yJ];simp only[Ac,if_pos kC]
    gi_wp2_with (gi_at_builtin;refine wpListIn_append_own _ rfl _ _ 162 rfl w.heap.size 202 i0 (.agg #[.int .i64 0,.int .i64 0,.int .i64 0]) 3 24 (by kernel_rfl) hi IQ sM pZ rfl (by decide) _ _ _ rfl (tQ.alloc _) ⟨w3.heap.size,0,none⟩ 1 1 [.int .i64 (x0:Int),.int .i64 (x1:Int),.int .i64 (fX s (cP l x0).cK x2 (cP l x1).cK)] rfl rfl (vH _ _ _ _ _) (by simp[Value.oneCell']) (by unfold maxLen;omega) ab (by simp;omega) ?_;intro v' w4 rn pW _;obtain⟨g',M4,rfl⟩:=ownsRow_succ rn;obtain⟨pq,IM,yj,rm,sI⟩:=WM.appended (by decide) tQ Ki ab rn pW;have Mw:=ib.app WM tQ pW sI;have oH:=pq.cell;have Pq:=pq.frozen)
    exact⟨hKF.trans (rm.from _),hKT.trans Mw,⟨⟨_,IM,by rw[IF,Jp,List.length_append];exact yj,by rw[IF];simp⟩,(Mw.2.1 _ _ _ _ Xl (by decide) (by decide)).trans Xl,(Mw.2.1 _ _ _ _ Xm (by decide) (by decide)).trans Xm⟩,hB.trans ((Cj.mono hB.size).trans sI)⟩
   ·have IF:nH s l (pre++[⟨(x0,x1,x2),hx⟩])=nH s l pre:=by
     rw[yJ];simp only[Ac,if_neg kC,List.append_nil]
    gi_wp2
    exact⟨hKF,hKT,⟨⟨v,WM,by rw[IF];exact tQ,by rw[IF];exact hnil⟩,Xl,Xm⟩,hB.trans (Cj.mono hB.size)⟩
 case done=>
  rintro D ys W hD Bt ⟨⟨⟨v,hv,fy,hnil⟩,_⟩,hB⟩ hK
  have hc:=hv.cell
  have IG:nH s l ys=dL s l:=by rw[JB,<-Bt];rfl
  rw[IG]at fy hnil
  gi_wp2
  refine⟨by simp,.inl ⟨_,_,rfl,run_takeDeferred hK,?_⟩⟩
  exact⟨_,results_tmp rfl _ _ _,v,rfl,ownsRow_putObj fy _ hK rfl,hnil,hB.trans (belowK_b (w:=w) (Nat.le_refl _) W D _ _ ab hK rfl rfl)⟩
 case stop=>
  rintro D c pre W _ _ h _
  exact h.elim
end Go.Proofs.YtalkncaokeaifaaGreatDoor.V

namespace Go.Proofs.YtalkncaokeaifaaGreatDoor.V
open Go.RowKit Go.Shelf
theorem FJ:∀{bs:List PB} {i j:Nat} {b:PB},bs[i]? =some b->j<3->(MS bs)[i*3+j]? =([.int .i64 b.a,.int .i64 b.b,.int .i64 b.s]:List Value)[j]?
 |c::bs,0,j,b,h,hj=>by
  simp at h;subst h
  simp only[MS,List.flatMap_cons,Nat.zero_mul,Nat.zero_add]
  rw[List.getElem?_append_left (by simpa using hj)]
 |c::bs,i+1,j,b,h,hj=>by
  simp only[List.getElem?_cons_succ]at h
  have:=FJ (bs:=bs) (i:=i) (j:=j) h hj
  simp only[MS,List.flatMap_cons]at this ⊢
  rw[List.getElem?_append_right (by simp;omega),<-this]
  congr 1
  simp;omega
theorem rD {P:Program} {w:World} {D:Nat->Prop} {rows:List (List AV)} {v:Value} (h:jA P w D (.sl rows) v):∃A n c,v=.slice A n c:=by
 cases h with
 |Bd a c _=>exact⟨_,_,_,rfl⟩
 |sl=>exact⟨_,_,_,rfl⟩
theorem mV {P:Program} {w:World} {D:Nat->Prop} {ι:Names} {rows:List (List AV)} {v:Value} (h:dE P w D ι (.sl rows) v):jA P w D (.sl rows) v:=by
 cases h with
 |eE _ _ h=>exact h
theorem Oi {P:Program} {w:World} {D:Nat->Prop} {l:List aa} {v:Value} (h:jA P w D (.sl (l.map ai)) v):pK w v l:=by
 generalize hr:l.map ai=rows at h
 cases h with
 |Bd a c hc=>
  have:l=[]:=by simpa using hr
  subst this
  exact⟨a,c,rfl,⟨Nat.zero_le _,hc⟩,.inl rfl⟩
 |sl _ b o n c sz vs h1 h2 h3 h4 h5 h5' h6 h7=>
  have hn:n=l.length:=by rw[<-h1,<-hr];simp
  subst hn
  refine⟨some ⟨b,o,none⟩,c,rfl,⟨h2,h3⟩,?_⟩
  by_cases hl:l=[]
  ·exact .inl hl
  refine .inr ⟨b,o,rfl,fun i hi=>?_⟩
  have hg:rows[i]? =some (ai (cP l i)):=by rw[<-hr];exact jH hi
  have fc:sz=3:=by rw[<-h5 _ (List.mem_of_getElem? hg)];rfl
  subst fc
  have k:∀(j:Nat) (x:Int),(ai (cP l i))[j]? =some (.int .i64 x)->j<3->w.cell? ⟨b,o+(i*3+j),none⟩=some (.int .i64 x):=fun j x hj h3=>by
   have:=h7 i j _ _ hg hj
   rw[h6 i j hi h3,dI (.eE (ι:=fun _=>none) _ _ this)]
  exact⟨k 0 _ rfl ab,k 1 _ rfl ab,k 2 _ rfl ab⟩
theorem Jz:DD:=by
 intro s l hS hA n
 refine fh ?_
 intro hs D ι w vs S U A
 obtain⟨u0,Rm,r0⟩:=A.2 0 _ rfl
 obtain⟨u1,PE,r1⟩:=A.2 1 _ rfl
 have eJ:∀b,D b->b<w.heap.size:=S.dead
 obtain⟨v0,f0,rfl,IQ,_,Wx,Yx⟩:=iy r0
 obtain⟨v1,f1,rfl,sM,_,Pq,Rc⟩:=iy r1
 have g0:=mV (Yx 0 _ rfl)
 have g1:=mV (Yx 1 _ rfl)
 have a0:=mV (Rc 0 _ rfl)
 obtain⟨Ag,ng,cg,eg⟩:=rD g0
 obtain⟨At,nt,ct,et⟩:=rD g1
 have e0:v0= #[.slice Ag ng cg,.slice At nt ct]:=by
  obtain⟨vl⟩:=v0
  have q0:=Wx 0 (by simp[aj])
  have q1:=Wx 1 (by simp[aj])
  rw[eg]at q0;rw[et]at q1
  match vl,IQ with
  |[a,b],_=>simp at q0 q1;rw[q0,q1]
 have e1:v1= #[f1 0]:=by
  obtain⟨vl⟩:=v1
  have q0:=Pq 0 (by simp)
  match vl,sM with
  |[a],_=>simp at q0;rw[q0]
 subst e0 e1
 have Xu:vs= #[.agg #[.slice Ag ng cg,.slice At nt ct],.agg #[f1 0]]:=by
  obtain⟨vl⟩:=vs
  have hz:=A.1
  match vl,hz with
  |[a,b],_=>simp at Rm PE;rw[Rm,PE]
 subst Xu
 have up:∀{a v},jA Tryz.prog w D a v->jA Tryz.prog w (fun b=>b<w.heap.size) a v:=fun h=>h.frame (fun _ _=>rfl) eJ
 have hT:jA Tryz.prog w (fun b=>b<w.heap.size) (.agg (aj s)) (.agg #[.slice Ag ng cg,.slice At nt ct]):=
  .agg _ _ f0 IQ (fun a ha=>by simp[aj]at ha;rcases ha with rfl|rfl<;>rfl) Wx (fun j a ha=>by
   match j,ha with
   |0,ha=>simp[aj]at ha;subst ha;exact up g0
   |1,ha=>simp[aj]at ha;subst ha;exact up g1
   |j+2,ha=>simp[aj]at ha)
 refine(callsIn_wide.1 (JA s l hS.form hA w Ag At ng cg nt ct (f1 0) hT (Oi a0))).mono ?_
 rintro e W' ⟨v,rfl,⟨hl,hown⟩,hnil,hB⟩
 have S':fZ Tryz.prog hs D ι (fun _=>none) W':=S.stay (fun b hb=>hB.block b hb) hB.size (fun _ h=>h) (fun b hb=>Nat.lt_of_lt_of_le (eJ b hb) hB.size) (fun _ h=>.inl h) (fun _ _ h=>h)
 have T:Step hs D ι w D ι W':=Step.stay S (fun b hb=>hB.block b hb) hB.size hB.os hB.tape hB.output (fun _ h=>h) (fun _ h=>.inl h) (fun _ _ h=>h)
 rcases hown with⟨rfl,h0⟩|⟨gb,cap,cur,rfl,Q2,hblk,hle,ye,dW,tR⟩
 ·have Eo:dL s l=[]:=hnil.1 rfl
  exact⟨.bP,_,n,D,ι,_,rfl,⟨.bP,kz _ _,by rw[Eo];rfl⟩,T,S',U,Nat.le_refl _,.eE _ _ .bP⟩
 ·have Eo:dL s l≠[]:=fun h=>by have:=hnil.2 h;cases this
  have jz:ι ⟨0,n⟩=none:=fresh U (fun h=>h)
  have hZ:∀{a v},dE Tryz.prog W' D ι a v->dE Tryz.prog W' D (jx ι ⟨0,n⟩ ⟨gb,3,cap*3,none⟩) a v:=fun h=>h.frame (fun _ _=>rfl) (fun _ h=>h) (eZ jz)
  have hR:gC Tryz.prog W' D (jx ι ⟨0,n⟩ ⟨gb,3,cap*3,none⟩) ⟨gb,3,cap*3,none⟩ ⟨true,3,(dL s l).map dz⟩:=by
   refine jO.obj ⟨rfl,⟨cur,_,hblk,dW⟩,?_,fun cs hc=>?_,fun cs hc a ha=>?_,fun i j cs a hi hj=>?_⟩ rfl
   ·simp only[List.length_map];exact Nat.mul_le_mul_right 3 hle
   ·obtain⟨b,_,rfl⟩:=List.mem_map.1 hc;rfl
   ·obtain⟨b,_,rfl⟩:=List.mem_map.1 hc
    simp[dz]at ha
    rcases ha with rfl|rfl|rfl<;>rfl
   ·rw[List.getElem?_map]at hi
    simp only[Option.map_eq_some_iff]at hi
    obtain⟨b,hb,rfl⟩:=hi
    have Yb:j<3:=by have:=(List.getElem?_eq_some_iff.1 hj).1;simpa[dz]using this
    have pN:=(List.getElem?_eq_some_iff.1 hb).1
    have hg:=FJ hb Yb
    rw[<-tR,List.getElem?_take,if_pos ab]at hg
    have key:∀x:Value,([.int .i64 b.a,.int .i64 b.b,.int .i64 b.s]:List Value)[j]? =some x->W'.cell? ⟨gb,i*3+j,none⟩=some x:=fun x hx=>by
     rw[hx]at hg
     have e:W'.cell? ⟨gb,i*3+j,none⟩=cur[i*3+j]? :=by
      unfold World.cell?
      rw[show W'.heap[(⟨gb,i*3+j,none⟩:Addr).block]? = _ from hblk]
      rfl
     rw[e,<-Array.getElem?_toList];exact hg
    match j,hj with
    |0,hj=>simp[dz]at hj;subst hj;exact⟨_,key _ rfl,.eE _ _ (.int _ _)⟩
    |1,hj=>simp[dz]at hj;subst hj;exact⟨_,key _ rfl,.eE _ _ (.int _ _)⟩
    |2,hj=>simp[dz]at hj;subst hj;exact⟨_,key _ rfl,.eE _ _ (.int _ _)⟩
    |j+3,hj=>simp[dz]at hj
  have S2:=fZ.add (r:=⟨true,3,(dL s l).map dz⟩) S S' jz Q2 hR
  refine⟨.own ⟨0,n⟩ 0 (dL s l).length,bz (fun _=>none) ⟨0,n⟩ ⟨true,3,(dL s l).map dz⟩,n+1,D,jx ι ⟨0,n⟩ ⟨gb,3,cap*3,none⟩,_,rfl,⟨Be (dL s l),?_,rfl⟩,T.trans (Step.stay S' (fun _ _=>rfl) (Nat.le_refl _) rfl rfl rfl (fun _ h=>h) (fun _ h=>.inl h) (eZ jz)),S2,U.upd.next,Nat.le_succ _,.own _ _ _ _ _ _ (eh _ _ _) rfl hle (.inr (by simp)) (by simp) ye⟩
  unfold Be
  rw[if_neg Eo]
  have hg:(bz (fun _=>none) (⟨0,n⟩:Id) ⟨true,3,(dL s l).map dz⟩:Rows) ⟨0,n⟩=some ⟨true,3,(dL s l).map dz⟩:=by simp[bz]
  have:=eT (n:=5) hg rfl fun b=>FZ _ 4 b
  simpa using this
end Go.Proofs.YtalkncaokeaifaaGreatDoor.V

namespace Go.Proofs.YtalkncaokeaifaaGreatDoor.V
open Go.RowKit
attribute [local irreducible] dH wpOps eB Call
attribute [local go_sem] ax eo dS ez ev cZ upd bD K.av bR AV.cells AV.cell rowOf rowsOf part ld rowAt eL bz bx cW dj eO bf cC dw er ea cR dq cw cu da db bp aI bZ bj ck cj dn dr dp bW br cz dm bh ar cq bH eM aT bL bq aH cU aQ cX AV.undef aW bd de di cY c6 bJ dv dy bE du dt cm cr List.getD_cons_zero List.getD_cons_succ List.getD_nil List.all_cons List.all_nil Bool.and_true Bool.true_and Bool.and_self Bool.not_true Bool.not_false Option.map_some Option.map_none Option.bind_some Option.bind_none List.length_cons List.length_nil List.take_succ_cons List.take_zero List.take_nil List.drop_succ_cons List.drop_zero List.drop_nil List.head?_cons List.map_cons List.map_nil List.getElem?_cons_zero List.getElem?_cons_succ List.cons_append List.nil_append List.append_nil List.length_map List.set_cons_zero List.set_cons_succ Nat.reduceMul eq_self Int.toNat_natCast Int.natCast_nonneg and_self true_and and_true decide_true decide_false Bool.false_eq_true Nat.zero_add Nat.add_zero List.contains_cons List.contains_nil Bool.or_false Bool.false_or beq_self_eq_true Nat.reduceBEq ne_eq not_true_eq_false not_false_eq_true Id.mk.injEq false_and and_false Nat.reduceLT Int.reduceLE Int.reduceLT Int.reduceToNat Int.reduceNeg Int.reduceAdd Nat.le_refl List.length_append beq_true beq_false Bool.not_eq_eq_eq_not or_false false_or dX ad ae aP aJ bt bI aD aS aA aL bU aZ
theorem AA (s:aw) (l:List aa) (hn:j7 s.aq) (hm:yF s) (hl:l.length<=1048576):az Tryz.prog 44 [.agg (eb s),.agg [.sl (l.map ai)]] (.int .i64 (if xW s l then 0 else 1)):=by
 refine az.body fC rfl fun fb n0=>?_
 clear fb
 have h1:=pU Jz s hn hm.s.g hm.s.t hm.s.s hm.a
 have h2:=nj s.aq l hn hm.s.g hm.s.t hm.s.s hl
 cases b1:mu s
 ·rw[b1]at h1
  rw[eb]at h1 ⊢
  (repeat(first|((repeat(revert hN;revert N;apply Pn.out));refine wk @Nat.zero_add ?_;(repeat(refine Pn.mk ?_;intro N hN)))|((try apply Or.inl);refine⟨_,az.x (h1) (sd @Nat.zero_add),?_⟩;refine hN _ _ ?_;clear hN N)))
  exact e7 (b:=1) (.inl rfl) (sd @Nat.zero_add) (by simp[xW,b1])
 have iL:s7 s.aq=true:=rZ.2 (mv.1 b1).set
 rw[b1]at h1
 rw[iL,Bool.true_and]at h2
 rw[eb]at h1 ⊢
 rw[aj]at h2
 cases b2:xX s.aq l
 ·rw[b2]at h2
  (repeat(first|((repeat(revert hN;revert N;apply Pn.out));refine wk @Nat.zero_add ?_;(repeat(refine Pn.mk ?_;intro N hN)))|((try apply Or.inl);refine⟨_,az.x (h1) (sd @Nat.zero_add),?_⟩;refine hN _ _ ?_;clear hN N)|((try apply Or.inl);refine⟨_,az.x (h2) (sd @Nat.zero_add),?_⟩;refine hN _ _ ?_;clear hN N)))
  exact e7 (b:=1) (.inl rfl) (sd @Nat.zero_add) (by simp[xW,b1,b2])
 ·rw[b2]at h2
  (repeat(first|((repeat(revert hN;revert N;apply Pn.out));refine wk @Nat.zero_add ?_;(repeat(refine Pn.mk ?_;intro N hN)))|((try apply Or.inl);refine⟨_,az.x (h1) (sd @Nat.zero_add),?_⟩;refine hN _ _ ?_;clear hN N)|((try apply Or.inl);refine⟨_,az.x (h2) (sd @Nat.zero_add),?_⟩;refine hN _ _ ?_;clear hN N)))
  exact e7 (b:=0) (.inl rfl) (sd @Nat.zero_add) (by simp[xW,b1,b2])
def ei (s:aw) (es:List aa) (i:Nat):List aa:=(es.take i).foldl (fun n x=>mh n x) s.dJ.ay
noncomputable def PM (s:aw) (es:List aa) (i:Nat):Bool:=eA s.aq (cP es i).cK&&eH s (ei s es i) (cP es i).bQ (cP es i).cK
noncomputable def iV (s:aw) (es:List aa) (i:Nat):Bool:=PM s es i&&decide ((ei s es i).length<500)
theorem HW (s:aw) (es:List aa):ei s es 0=s.dJ.ay:=rfl
theorem ki (s:aw) (es:List aa) {i:Nat} (hi:i<es.length):ei s es (i+1)=mh (ei s es i) (cP es i):=by
 unfold ei
 rw[xH hi,List.foldl_append];rfl
theorem FF {s:aw} {l:List aa} (hA:gV s.aq l) {x:aa} (hlen:l.length<500) (ht:eA s.aq x.cK=true) (hf:eH s l x.bQ x.cK=true) (hs:s.aq.ay.length<=160):gV s.aq (mh l x):=by
 have im:ir x.cK 0 159=true:=jE (by have h:=ht;unfold eA at h;have:=dZ h;omega)
 have hp:zF x.bQ=true:=by simp[eH]at hf;exact hf.1.1
 have h0:ew l x.bQ<0:=(DM hA x.bQ).1 (by simp[eH]at hf;exact hf.1.2)
 have hR:=Lg hA.1.MA h0
 refine⟨⟨by rw[xc];omega,fun i wc=>?_⟩,fun t WL=>?_⟩
 ·rcases jS.1 (gR wc)with h|h
  ·rw[MG,h]
   exact⟨hp,im,fun h1=>by have z:=hR (i-1) i ab wc;rw[h]at z;exact z⟩
  ·obtain⟨j,hj,ja⟩:=List.getElem_of_mem h
   have h1:=hA.1.ok j hj
   rw[MG,fx hj,ja]at h1
   exact⟨h1.1,h1.2.1,fun h0=>hR _ _ ab wc⟩
 ·rcases jS.1 WL with rfl|h
  ·exact ht
  ·exact hA.2 t h
theorem kI {s:aw} (hP:lE s) {es:List aa}:∀i,i<=es.length->(∀j,j<i->iV s es j=true)->gV s.aq (ei s es i)
 |0,_,_=>hP.s6
 |i+1,hi,h=>by
  have ih:=kI hP (es:=es) i ab fun j hj=>h j ab
  have hg:=h i ab
  rw[iV,Bool.and_eq_true,PM,Bool.and_eq_true]at hg
  rw[ki s es ab]
  exact FF ih (of_decide_eq_true hg.2) hg.1.1 hg.1.2 hP.set.xI
end Go.Proofs.YtalkncaokeaifaaGreatDoor.V
