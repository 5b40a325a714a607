/- Groups, by the reference. -/
import Derived.Test.YtgoljkjaameagaaGreatRqC
import Derived.Test.YtgoljkjaameagaaGreatRqB
import Derived.Shelf.SlSortCmp.WholeK
import Derived.Shelf.SlSortCmp.NoneTotal
import Derived.Ground.SlsfProg
import Derived.Test.YtgoljkjaameagaaGreatProg
import Derived.Maps.RangeRun
set_option linter.unusedVariables false
set_option linter.unusedSimpArgs false
set_option maxRecDepth 100000
set_option maxHeartbeats 16000000
namespace Go.Proofs.YtgoljkjaameagaaGreat.V
open Go.RowKit
attribute [local irreducible] dQ wpOps ft Call
attribute [local go_sem] aA eV ef e9 e8 cZ upd bQ K.av cr AV.cells AV.cell rowOf rowsOf part ld rowAt bD bL dm dD fE bu cK dO fa eF db dH cI cH dw dx bz aQ cz bx cD cC dF dI dG cw bC cJ dE bw az cF bZ fD bj cq bB aJ cX aX dn AV.undef bp br dy dC du dz cm dM dP bU dK dJ cE cG List.getD_cons_zero List.getD_cons_succ List.getD_nil List.all_cons List.all_nil Bool.and_true Bool.true_and Bool.and_self Bool.not_true Bool.not_false Option.map_some Option.map_none Option.bind_some Option.bind_none List.length_cons List.length_nil List.take_succ_cons List.take_zero List.take_nil List.drop_succ_cons List.drop_zero List.drop_nil List.head?_cons List.map_cons List.map_nil List.getElem?_cons_zero List.getElem?_cons_succ List.cons_append List.nil_append List.append_nil List.length_map List.set_cons_zero List.set_cons_succ Nat.reduceMul eq_self Int.toNat_natCast Int.natCast_nonneg and_self true_and and_true decide_true decide_false Bool.false_eq_true Nat.zero_add Nat.add_zero List.contains_cons List.contains_nil Bool.or_false Bool.false_or beq_self_eq_true Nat.reduceBEq ne_eq not_true_eq_false not_false_eq_true Id.mk.injEq false_and and_false Nat.reduceLT Int.reduceLE Int.reduceLT Int.reduceToNat Int.reduceNeg Int.reduceAdd Nat.le_refl List.length_append beq_true beq_false Bool.not_eq_eq_eq_not or_false false_or dR ab aj ay bo bJ aD aV aH aU cu bq
theorem BD (a b:Nat):aq Tryz.prog 192 [.int .i64 a,.int .i64 b] (.int .i64 (min a b:Nat)):=by
 refine aq.body eG rfl fun hl n0=>?_
 clear hl
 by_cases h:(a:Int)<(b:Int)
 ·(try((repeat(revert hN;revert N;apply Pn.out));refine wk @h ?_;(repeat(refine Pn.mk ?_;intro N hN))))
  exact cR (b:=(a:Int)) (.inl rfl) (sd @Nat.zero_add) ai
 ·(try((repeat(revert hN;revert N;apply Pn.out));refine wk @h ?_;(repeat(refine Pn.mk ?_;intro N hN))))
  exact cR (b:=(b:Int)) (.inl rfl) (sd @Nat.zero_add) ai
theorem BC (a b:Nat):aq Tryz.prog 191 [.int .i64 a,.int .i64 b] (.int .i64 (max a b:Nat)):=by
 refine aq.body eG rfl fun hl n0=>?_
 clear hl
 by_cases h:(b:Int)<(a:Int)
 ·(try((repeat(revert hN;revert N;apply Pn.out));refine wk @h ?_;(repeat(refine Pn.mk ?_;intro N hN))))
  exact cR (b:=(a:Int)) (.inl rfl) (sd @Nat.zero_add) ai
 ·(try((repeat(revert hN;revert N;apply Pn.out));refine wk @h ?_;(repeat(refine Pn.mk ?_;intro N hN))))
  exact cR (b:=(b:Int)) (.inl rfl) (sd @Nat.zero_add) ai
def dZ (f:Nat->Nat) (n:Nat):List (List AV):=(List.range n).map fun i=>eN (f i)
theorem gm (f:Nat->Nat) (n:Nat):(dZ f n).length=n:=by simp[dZ]
theorem fA {f:Nat->Nat} {n i:Nat} (h:i<n):(dZ f n)[i]? =some (eN (f i)):=by simp[dZ,h]
theorem gS {f g:Nat->Nat} {n:Nat} (h:∀i,i<n->f i=g i):dZ f n=dZ g n:=List.map_congr_left fun i hi=>by rw[h i (List.mem_range.1 hi)]
theorem oZ {f g:Nat->Nat} {n k v:Nat} (hk:k<n) (hv:g k=v) (h:∀i,i<n->i≠k->g i=f i):(dZ f n).set k (eN v)=dZ g n:=by
 refine List.ext_getElem? fun i=>?_
 rw[List.getElem?_set]
 by_cases hi:k=i
 ·subst hi
  rw[if_pos rfl,gm,if_pos hk,fA hk,hv]
 ·rw[if_neg hi]
  by_cases fP:i<n
  ·rw[fA fP,fA fP,h i fP (fun h=>hi h.symm)]
  ·rw[List.getElem?_eq_none (by rw[gm];omega),List.getElem?_eq_none (by rw[gm];omega)]
theorem BE (cnt:Nat) (hn:cnt<=1048576) (bs:List PB) (hb:∀b∈bs,b.a<cnt/\b.b<cnt) (pq:bs.length<=1048576):aq Tryz.prog 125 [.int .i64 cnt,.sl (bs.map aB)] (.sl ((fG cnt (eE bs)).map Ad)):=by
 refine aq.body eG rfl fun hl n0=>?_
 clear hl
 (try((repeat(revert hN;revert N;apply Pn.out));refine wk @Nat.zero_add ?_;(repeat(refine Pn.mk ?_;intro N hN))))
 refine bF (fun n env st=>∃k:Nat,n=(cnt)-k/\k<=(cnt)/\env 6=.int .i64 (k:Int)/\(∃o:Id,env 5=.own o 0 k/\st.get o=some ⟨true,1,dZ id k⟩/\o.cV<st.next)) (cnt) ⟨0,ai,ai,sl @Nat.zero_add,⟨⟨125001000,n0+1⟩,sd @Nat.zero_add,by simp only[go_sem, ↓reduceIte,Nat.reduceEqDiff,Nat.reduceAdd,Nat.reduceSub,Nat.reduceLeDiff,reduceCtorEq];rfl,bK⟩⟩ ?_
 rintro n_a env_a st_a ⟨k,rfl,ale,a6,lL⟩ ev
 have a0:=ev 0 (by kernel_rfl);have a1:=ev 1 (by kernel_rfl)
 simp only[go_sem, ↓reduceIte,Nat.reduceEqDiff,Nat.reduceAdd,Nat.reduceSub,Nat.reduceLeDiff,reduceCtorEq]at a0 a1
 clear ev
 obtain⟨o,a5,ag,tV⟩:=lL
 have tl:=gm id k
 have rJ:=eL tV
 by_cases hk:(k:Int)<(cnt:Int)
 ·have cY:∀{e:Env} {gg:Rows} {nx:Nat},(e 6=.int .i64 (IntKind.i64.wrap ((k:Int)+1)))->(∃o:Id,e 5=.own o 0 (k+1)/\gg o=some ⟨true,1,dZ id (k+1)⟩/\o.cV<nx)->∃m0,m0<(cnt)-k/\∃k:Nat,m0=(cnt)-k/\k<=(cnt)/\e 6=.int .i64 (k:Int)/\(∃o:Id,e 5=.own o 0 k/\gg o=some ⟨true,1,dZ id k⟩/\o.cV<nx):=fun x1 x2=>⟨_,ai,k+1,rfl,ai,(by rw[x1,aI ai]),x2⟩
  have fM:k<cnt:=ai
  have e1:k+1<=16777216:=ai
  have r9:dZ id k++[[.int .i64 (k:Int)]]=dZ id (k+1):=by simp[dZ,List.range_succ,eN]
  (try((repeat(revert hN;revert N;apply Pn.out));refine wk (tw @a6 (tw @a0 (tw @a1 (tw @a5 (tw @ag (tw @rJ (tw @hk (tw @tl (tw @e1 @r9))))))))) ?_;(repeat(refine Pn.mk ?_;intro N hN))))
  exact cY (sd (tw @a6 (tw @a0 @a1))) (⟨⟨125005003,st_a.next+1⟩,sd @Nat.zero_add,sd @r9,bK⟩)
 have ml:k=cnt:=ai
 subst ml
 have UX:st_a.get o=some ⟨true,1,dZ (eE (bs.take 0)) k⟩:=ag
 clear ag
 (try((repeat(revert hN;revert N;apply Pn.out));refine wk (tw @a6 (tw @a0 (tw @a1 @hk))) ?_;(repeat(refine Pn.mk ?_;intro N hN))))
 refine bF (fun n env st=>∃j:Nat,n=(bs.length)-j/\j<=(bs.length)/\env 7=.int .i64 (j:Int)/\st.get o=some ⟨true,1,dZ (eE (bs.take j)) k⟩/\(o.cV<st.next)) (bs.length) ⟨0,ai,ai,sl (tw @a6 (tw @a0 (tw @a1 (tw @a5 @UX)))),sl (tw @a6 (tw @a0 (tw @a1 (tw @a5 @UX)))),bK⟩ ?_
 rintro n_b env_b st_b ⟨j,rfl,ble,b7,bg0,bI0⟩ bfr
 have b0:=bfr 0 (by kernel_rfl);have b1:=bfr 1 (by kernel_rfl);have b5:=bfr 5 (by kernel_rfl)
 simp only[go_sem, ↓reduceIte,Nat.reduceEqDiff,Nat.reduceAdd,Nat.reduceSub,Nat.reduceLeDiff,reduceCtorEq,a6,a0,a1,a5,UX]at b0 b1 b5
 clear bfr
 by_cases hj:(j:Int)<(bs.length:Int)
 ·have j5:∀{e:Env} {gg:Rows} {nx:Nat},(e 7=.int .i64 (IntKind.i64.wrap ((j:Int)+1)))->(gg o=some ⟨true,1,dZ (eE (bs.take (j+1))) k⟩)->(o.cV<nx)->∃m0,m0<(bs.length)-j/\∃j:Nat,m0=(bs.length)-j/\j<=(bs.length)/\e 7=.int .i64 (j:Int)/\gg o=some ⟨true,1,dZ (eE (bs.take j)) k⟩/\(o.cV<nx):=fun x1 x2 x3=>⟨_,ai,j+1,rfl,ai,(by rw[x1,aI ai]),x2,x3⟩
  have hZ:j<bs.length:=ai
  have qi:(bs.map aB)[j]? =some (aB bs[j]):=by simp[hZ]
  have MS:=hb _ (List.getElem_mem hZ)
  have od:bs.take (j+1)=bs.take j++[bs[j]]:=List.take_succ_eq_append_getElem hZ
  have k9:eE (bs.take (j+1))=eQ (eE (bs.take j)) bs[j]:=by rw[od,u7]
  generalize eE (bs.take j)=L at *
  generalize bs[j]=b at *
  have hA:=fA (f:=L) MS.1
  have hB:=fA (f:=L) MS.2
  have SJ:=BD (L b.a) (L b.b)
  have SK:=BC (L b.a) (L b.b)
  have tl:=gm L k
  have gG:(b.a:Int)<(k:Int):=ai
  have fW:(b.b:Int)<(k:Int):=ai
  (try((repeat(revert hN;revert N;apply Pn.out));refine wk (tw @b7 (tw @bg0 (tw @b0 (tw @b1 (tw @b5 (tw @hj (tw @qi (tw @aB.eq_1 (tw @hA (tw @hB (tw @gG (tw @fW (tw @tl @eN.eq_1))))))))))))) ?_;(repeat(refine Pn.mk ?_;intro N hN))))
  refine bF (fun n env st=>∃i:Nat,n=(k)-i/\i<=(k)/\env 10=.int .i64 (i:Int)/\st.get o=some ⟨true,1,dZ (fun x=>if x<i then eQ L b x else L x) k⟩/\(o.cV<st.next)) (k) ⟨0,ai,ai,sl (tw @b7 (tw @bg0 (tw @b0 (tw @b1 (tw @b5 @Nat.not_lt_zero))))),sl (tw @b7 (tw @bg0 (tw @b0 (tw @b1 (tw @b5 @Nat.not_lt_zero))))),bK⟩ ?_
  rintro n_c env_c st_c ⟨i,rfl,cle,jm,cg0,cI0⟩ cfr
  have c0:=cfr 0 (by kernel_rfl);have c1:=cfr 1 (by kernel_rfl);have c5:=cfr 5 (by kernel_rfl);have c7:=cfr 7 (by kernel_rfl);have c8:=cfr 8 (by kernel_rfl);have c9:=cfr 9 (by kernel_rfl)
  simp only[go_sem, ↓reduceIte,Nat.reduceEqDiff,Nat.reduceAdd,Nat.reduceSub,Nat.reduceLeDiff,reduceCtorEq,b7,bg0,b0,b1,b5,Nat.not_lt_zero]at c0 c1 c5 c7 c8 c9
  clear cfr
  have hC:=fA (f:=fun x=>if x<i then eQ L b x else L x) (n:=k) (i:=i)
  have tc:=gm (fun x=>if x<i then eQ L b x else L x) k
  by_cases hi:(i:Int)<(k:Int)
  ·have gW:∀{e:Env} {gg:Rows} {nx:Nat},(e 10=.int .i64 (IntKind.i64.wrap ((i:Int)+1)))->(gg o=some ⟨true,1,dZ (fun x=>if x<(i+1)then eQ L b x else L x) k⟩)->(o.cV<nx)->∃m0,m0<(k)-i/\∃i:Nat,m0=(k)-i/\i<=(k)/\e 10=.int .i64 (i:Int)/\gg o=some ⟨true,1,dZ (fun x=>if x<i then eQ L b x else L x) k⟩/\(o.cV<nx):=fun x1 x2 x3=>⟨_,ai,i+1,rfl,ai,(by rw[x1,aI ai]),x2,x3⟩
   have fP:i<k:=ai
   replace hC:=hC fP
   rw[if_neg (Nat.lt_irrefl i)]at hC
   by_cases he:L i=max (L b.a) (L b.b)
   ·have tR:decide ((L i:Int)=((max (L b.a) (L b.b):Nat):Int))=true:=decide_eq_true (by rw[he])
    have eI:(dZ (fun x=>if x<i then eQ L b x else L x) k).set i (eN (min (L b.a) (L b.b)))=dZ (fun x=>if x<i+1 then eQ L b x else L x) k:=oZ fP (by rw[if_pos ai,eQ,if_pos he]) fun x hx CG=>by
     by_cases h:x<i
     ·rw[if_pos h,if_pos ai]
     ·rw[if_neg h,if_neg ai]
    rw[eN]at eI hC
    (repeat(first|((repeat(revert hN;revert N;apply Pn.out));refine wk (tw @jm (tw @cg0 (tw @c0 (tw @c1 (tw @c5 (tw @c7 (tw @c8 (tw @c9 (tw @hi (tw @hC (tw @tc (tw @tR @eI)))))))))))) ?_;(repeat(refine Pn.mk ?_;intro N hN)))|((try apply Or.inl);refine⟨_,aq.x (SJ) (sd (tw @jm (tw @cg0 (tw @c0 (tw @c1 (tw @c5 (tw @c7 (tw @c8 (tw @c9 (tw @hi (tw @hC (tw @tc (tw @tR @eI))))))))))))),?_⟩;refine hN _ _ ?_;clear hN N)|((try apply Or.inl);refine⟨_,aq.x (SK) (sd (tw @jm (tw @cg0 (tw @c0 (tw @c1 (tw @c5 (tw @c7 (tw @c8 (tw @c9 (tw @hi (tw @hC (tw @tc (tw @tR @eI))))))))))))),?_⟩;refine hN _ _ ?_;clear hN N)))
    refine gW ?_ ?_ bK
    all_goals simp only[go_sem, ↓reduceIte,Nat.reduceEqDiff,Nat.reduceAdd,Nat.reduceSub,Nat.reduceLeDiff,reduceCtorEq,jm,cg0,c0,c1,c5,c7,c8,c9]
   ·have tR:decide ((L i:Int)=((max (L b.a) (L b.b):Nat):Int))=false:=decide_eq_false fun h=>he ai
    have lT:dZ (fun x=>if x<i then eQ L b x else L x) k=dZ (fun x=>if x<i+1 then eQ L b x else L x) k:=gS fun x hx=>by
     by_cases h:x<i
     ·rw[if_pos h,if_pos ai]
     ·by_cases CG:x=i
      ·subst CG;rw[if_neg h,if_pos ai,eQ,if_neg he]
      ·rw[if_neg h,if_neg ai]
    rw[eN]at hC
    (repeat(first|((repeat(revert hN;revert N;apply Pn.out));refine wk (tw @jm (tw @cg0 (tw @c0 (tw @c1 (tw @c5 (tw @c7 (tw @c8 (tw @c9 (tw @hi (tw @hC (tw @tc @tR))))))))))) ?_;(repeat(refine Pn.mk ?_;intro N hN)))|((try apply Or.inl);refine⟨_,aq.x (SJ) (sd (tw @jm (tw @cg0 (tw @c0 (tw @c1 (tw @c5 (tw @c7 (tw @c8 (tw @c9 (tw @hi (tw @hC (tw @tc @tR)))))))))))),?_⟩;refine hN _ _ ?_;clear hN N)|((try apply Or.inl);refine⟨_,aq.x (SK) (sd (tw @jm (tw @cg0 (tw @c0 (tw @c1 (tw @c5 (tw @c7 (tw @c8 (tw @c9 (tw @hi (tw @hC (tw @tc @tR)))))))))))),?_⟩;refine hN _ _ ?_;clear hN N)))
    rw[lT]at cg0
    refine gW ?_ ?_ bK
    all_goals simp only[go_sem, ↓reduceIte,Nat.reduceEqDiff,Nat.reduceAdd,Nat.reduceSub,Nat.reduceLeDiff,reduceCtorEq,jm,cg0,c0,c1,c5,c7,c8,c9]
  ·have xU:i=k:=ai
   subst xU
   have ee:dZ (fun x=>if x<i then eQ L b x else L x) i=dZ (eQ L b) i:=gS fun x hx=>if_pos hx
   rw[ee]at cg0
   rw[<-k9]at cg0
   (try((repeat(revert hN;revert N;apply Pn.out));refine wk (tw @jm (tw @cg0 (tw @c0 (tw @c1 (tw @c5 (tw @c7 (tw @c8 (tw @c9 (tw @hi @tc))))))))) ?_;(repeat(refine Pn.mk ?_;intro N hN))))
   refine j5 ?_ ?_ bK
   all_goals simp only[go_sem, ↓reduceIte,Nat.reduceEqDiff,Nat.reduceAdd,Nat.reduceSub,Nat.reduceLeDiff,reduceCtorEq,b7,bg0,b0,b1,b5,jm,cg0,c0,c1,c5,c7,c8,c9]
 have gZ:j=bs.length:=ai
 subst gZ
 rw[List.take_length]at bg0
 have hL:=s7 bs
 generalize eE bs=L at *
 have tl:=gm L k
 (try((repeat(revert hN;revert N;apply Pn.out));refine wk (tw @b7 (tw @bg0 (tw @b0 (tw @b1 (tw @b5 @hj))))) ?_;(repeat(refine Pn.mk ?_;intro N hN))))
 have UY:o.cV<st_b.next:=bI0
 refine bF (fun n env st=>∃i:Nat,n=(k)-i/\i<=(k)/\env 12=.int .i64 (i:Int)/\st.get o=some ⟨true,1,dZ L k⟩/\(∃oo rows ids,env 11=.own oo 0 rows.length/\st.get oo=some ⟨true,1,rows⟩/\eH P3 st.get rows ((leads i L).map (members k L)) ids/\(∀x∈oo::ids,st_b.next<=x.cV/\x.cV<st.next)/\st_b.next<=st.next/\oo∉ids)) (k) ⟨0,ai,ai,sl (tw @b7 (tw @bg0 (tw @b0 (tw @b1 (tw @b5 (eL UY)))))),sl (tw @b7 (tw @bg0 (tw @b0 (tw @b1 (tw @b5 (eL UY)))))),⟨⟨125016000,st_b.next+1⟩,[],[],by(simp only[go_sem, ↓reduceIte,Nat.reduceEqDiff,Nat.reduceAdd,Nat.reduceSub,Nat.reduceLeDiff,reduceCtorEq])<;>rfl,sd @Nat.zero_add,.nil,fun x hx=>by rw[List.mem_singleton.1 hx];(try dsimp only);omega,bK,by simp⟩⟩ ?_
 rintro n_d env_d st_d ⟨i,rfl,dle,d12,dg0,dI0⟩ dfr
 have d0:=dfr 0 (by kernel_rfl);have d5:=dfr 5 (by kernel_rfl)
 simp only[go_sem, ↓reduceIte,Nat.reduceEqDiff,Nat.reduceAdd,Nat.reduceSub,Nat.reduceLeDiff,reduceCtorEq,b7,bg0,b0,b1,b5,eL UY]at d0 d5
 clear dfr
 obtain⟨oo,rows,ids,d11,dg,hR,ny,hle,tU⟩:=dI0
 have r9:=gN i L
 have rI:=hR.len
 by_cases hi:(i:Int)<(k:Int)
 ·have s9:∀{e:Env} {gg:Rows} {nx:Nat},(e 12=.int .i64 (IntKind.i64.wrap ((i:Int)+1)))->(gg o=some ⟨true,1,dZ L k⟩)->(∃oo rows ids,e 11=.own oo 0 rows.length/\gg oo=some ⟨true,1,rows⟩/\eH P3 gg rows ((leads (i+1) L).map (members k L)) ids/\(∀x∈oo::ids,st_b.next<=x.cV/\x.cV<nx)/\st_b.next<=nx/\oo∉ids)->∃m0,m0<(k)-i/\∃i:Nat,m0=(k)-i/\i<=(k)/\e 12=.int .i64 (i:Int)/\gg o=some ⟨true,1,dZ L k⟩/\(∃oo rows ids,e 11=.own oo 0 rows.length/\gg oo=some ⟨true,1,rows⟩/\eH P3 gg rows ((leads i L).map (members k L)) ids/\(∀x∈oo::ids,st_b.next<=x.cV/\x.cV<nx)/\st_b.next<=nx/\oo∉ids):=fun x1 x2 x3=>⟨_,ai,i+1,rfl,ai,(by rw[x1,aI ai]),x2,x3⟩
  have fP:i<k:=ai
  have hC:=fA (f:=L) fP
  have pd:=eL (i:=o) (n:=st_d.next) ai
  have RD:=eL (i:=oo) (n:=st_d.next) (ny oo (by simp)).2
  by_cases he:L i=i
  ·rw[if_pos he]at r9
   have tR:decide ((L i:Int)=(i:Int))=true:=decide_eq_true (by rw[he])
   rw[eN]at hC
   (try((repeat(revert hN;revert N;apply Pn.out));refine wk (tw @d12 (tw @dg0 (tw @d0 (tw @d5 (tw @d11 (tw @dg (tw @hi (tw @hC (tw @tl (tw @tR (tw @pd @RD))))))))))) ?_;(repeat(refine Pn.mk ?_;intro N hN))))
   refine bF (fun n env st=>∃m:Nat,n=((k-i))-m/\m<=((k-i))/\env 14=(.int .i64 ((i+m:Nat):Int))/\(∃pp:Id,env 13=.own pp 0 (members (i+m) L i).length/\st.get pp=some ⟨true,1,(members (i+m) L i).map eN⟩/\st_d.next<=pp.cV/\pp.cV<st.next/\(∀x:Id,x.cV<st_d.next->st.get x=st_d.get x)/\st_d.next<=st.next)) ((k-i)) ⟨0,ai,ai,sl (tw @d12 (tw @dg0 (tw @d0 (tw @d5 @d11)))),⟨⟨125021000,st_d.next+1+1⟩,by rw[show members (i+0) L i=[]from mD hL (Nat.le_refl i)];(simp only[go_sem, ↓reduceIte,Nat.reduceEqDiff,Nat.reduceAdd,Nat.reduceSub,Nat.reduceLeDiff,reduceCtorEq])<;>rfl,by rw[show members (i+0) L i=[]from mD hL (Nat.le_refl i)];(simp only[go_sem, ↓reduceIte,Nat.reduceEqDiff,Nat.reduceAdd,Nat.reduceSub,Nat.reduceLeDiff,reduceCtorEq])<;>rfl,bK,bK,fun x hx=>sd (eL hx),bK⟩⟩ ?_
   rintro n_f env_f st_f ⟨m,rfl,fle,f14,fI0⟩ ffr
   have f0:=ffr 0 (by kernel_rfl);have f5:=ffr 5 (by kernel_rfl);have f11:=ffr 11 (by kernel_rfl);have f12:=ffr 12 (by kernel_rfl)
   simp only[go_sem, ↓reduceIte,Nat.reduceEqDiff,Nat.reduceAdd,Nat.reduceSub,Nat.reduceLeDiff,reduceCtorEq,d12,dg0,d0,d5,d11]at f0 f5 f11 f12
   clear ffr
   obtain⟨pp,f13,fg,OK,IQ,kK,xd⟩:=fI0
   have xb:st_f.get o=some ⟨true,1,dZ L k⟩:=(kK o ai).trans dg0
   have UC:st_f.get oo=some ⟨true,1,rows⟩:=(kK oo (ny oo (by simp)).2).trans dg
   have Aj:=eL IQ
   have Bs:=eL (i:=o) (n:=st_f.next) ai
   have RE:=eL (i:=oo) (n:=st_f.next) (by have:=(ny oo (by simp)).2;omega)
   have OI:members (i+(m+1)) L i=members (i+m) L i++if L (i+m)=i then[i+m]else[]:=jd (i+m) L i
   have UN:(members (i+m) L i).length<=i+m:=by
    have:=List.length_filter_le (fun k=>L k==i) (List.range (i+m))
    simpa[members]using this
   have x1:=dr (a:=o) (b:=pp) ai
   have x2:=dr (a:=oo) (b:=pp) (by have:=(ny oo (by simp)).2;omega)
   have x3:=dr (a:=o) (b:=oo) (by have:=(ny oo (by simp)).1;omega)
   by_cases hm:m<k-i
   ·have qT:∀{e:Env} {gg:Rows} {nx:Nat},(e 14=(.int .i64 ((i+(m+1):Nat):Int)))->(∃pp:Id,e 13=.own pp 0 (members (i+(m+1)) L i).length/\gg pp=some ⟨true,1,(members (i+(m+1)) L i).map eN⟩/\st_d.next<=pp.cV/\pp.cV<nx/\(∀x:Id,x.cV<st_d.next->gg x=st_d.get x)/\st_d.next<=nx)->∃m0,m0<((k-i))-m/\∃m:Nat,m0=((k-i))-m/\m<=((k-i))/\e 14=(.int .i64 ((i+m:Nat):Int))/\(∃pp:Id,e 13=.own pp 0 (members (i+m) L i).length/\gg pp=some ⟨true,1,(members (i+m) L i).map eN⟩/\st_d.next<=pp.cV/\pp.cV<nx/\(∀x:Id,x.cV<st_d.next->gg x=st_d.get x)/\st_d.next<=nx):=fun x1 x2=>⟨_,ai,m+1,rfl,ai,x1,x2⟩
    have Rs:((i+m:Nat):Int)<(k:Int):=ai
    have T5:=fA (f:=L) (show i+m<k by omega)
    have hw:IntKind.i64.wrap (((i+m:Nat):Int)+1)=((i+(m+1):Nat):Int):=by rw[bP ai];omega
    rw[eN]at T5
    by_cases hq:L (i+m)=i
    ·have nu:decide ((L (i+m):Int)=(i:Int))=true:=decide_eq_true (by rw[hq])
     rw[if_pos hq]at OI
     have e1:(members (i+m) L i).length+1<=16777216:=ai
     have kP:((members (i+m) L i).map eN).length=(members (i+m) L i).length:=by simp
     (try((repeat(revert hN;revert N;apply Pn.out));refine wk (tw @f14 (tw @f0 (tw @f5 (tw @f11 (tw @f12 (tw @f13 (tw @fg (tw @xb (tw @Rs (tw @T5 (tw @tl (tw @nu (tw @Aj (tw @Bs (tw @x1 (tw @e1 @kP)))))))))))))))) ?_;(repeat(refine Pn.mk ?_;intro N hN))))
     exact qT (sd (tw @f14 (tw @f0 (tw @f5 (tw @f11 (tw @f12 (tw @xb (tw @hw (tw @Bs @x1))))))))) (⟨⟨125026003,st_f.next+1+1⟩,by rw[OI,List.length_append];simp only[go_sem, ↓reduceIte,Nat.reduceEqDiff,Nat.reduceAdd,Nat.reduceSub,Nat.reduceLeDiff,reduceCtorEq,List.length_cons,List.length_nil],by rw[OI,List.map_append,List.map_cons,List.map_nil];simp only[go_sem, ↓reduceIte,Nat.reduceEqDiff,Nat.reduceAdd,Nat.reduceSub,Nat.reduceLeDiff,reduceCtorEq,eN],bK,bK,fun x hx=>by
      have y1:=kK x hx
      have y2:=dr (a:=x) (b:=pp) ai
      simp only[go_sem, ↓reduceIte,Nat.reduceEqDiff,Nat.reduceAdd,Nat.reduceSub,Nat.reduceLeDiff,reduceCtorEq,eL (show x.cV<st_f.next by omega),y1,y2],bK⟩)
    ·have nu:decide ((L (i+m):Int)=(i:Int))=false:=decide_eq_false fun h=>hq ai
     rw[if_neg hq,List.append_nil]at OI
     (try((repeat(revert hN;revert N;apply Pn.out));refine wk (tw @f14 (tw @f0 (tw @f5 (tw @f11 (tw @f12 (tw @f13 (tw @fg (tw @xb (tw @Rs (tw @T5 (tw @tl (tw @nu (tw @Aj (tw @Bs @x1)))))))))))))) ?_;(repeat(refine Pn.mk ?_;intro N hN))))
     exact qT (sd (tw @f14 (tw @f0 (tw @f5 (tw @f11 (tw @f12 (tw @xb @hw))))))) (⟨pp,by rw[OI];simp only[go_sem, ↓reduceIte,Nat.reduceEqDiff,Nat.reduceAdd,Nat.reduceSub,Nat.reduceLeDiff,reduceCtorEq,f13],by rw[OI];simp only[go_sem, ↓reduceIte,Nat.reduceEqDiff,Nat.reduceAdd,Nat.reduceSub,Nat.reduceLeDiff,reduceCtorEq,fg],OK,bK,kK,bK⟩)
   ·have hmk:i+m=k:=ai
    have Rs:¬((i+m:Nat):Int)<(k:Int):=ai
    rw[hmk]at f13 fg UN
    have e1:rows.length+1<=16777216:=by
     have:=jz i L
     rw[rI,List.length_map];omega
    (try((repeat(revert hN;revert N;apply Pn.out));refine wk (tw @f14 (tw @f0 (tw @f5 (tw @f11 (tw @f12 (tw @f13 (tw @fg (tw @xb (tw @UC (tw @Rs (tw @Aj (tw @Bs (tw @RE (tw @x1 (tw @x2 @e1))))))))))))))) ?_;(repeat(refine Pn.mk ?_;intro N hN))))
    refine s9 ?_ ?_ (⟨⟨125027003,st_f.next+1⟩,rows++[[.own pp 0 (members k L i).length]],ids++[pp],by rw[List.length_append];simp only[go_sem, ↓reduceIte,Nat.reduceEqDiff,Nat.reduceAdd,Nat.reduceSub,Nat.reduceLeDiff,reduceCtorEq,List.length_cons,List.length_nil],sd @Nat.zero_add,by
      rw[r9,List.map_append]
      refine(hR.frame O9 fun x hx=>?_).app (.one ⟨pp,rfl,?_,rfl⟩)
      ·have h1:=ny x (by simp[hx])
       have y1:=kK x h1.2
       have y2:=dr (a:=x) (b:=pp) ai
       have y3:(x=oo)=False:=by
        simp only[eq_iff_iff,iff_false]
        rintro rfl
        exact tU hx
       simp only[go_sem, ↓reduceIte,Nat.reduceEqDiff,Nat.reduceAdd,Nat.reduceSub,Nat.reduceLeDiff,reduceCtorEq,eL (show x.cV<st_f.next by omega),y1,y2,y3]
      ·simp only[go_sem, ↓reduceIte,Nat.reduceEqDiff,Nat.reduceAdd,Nat.reduceSub,Nat.reduceLeDiff,reduceCtorEq,Aj,x2,fg],fun x hx=>by
      rcases List.mem_cons.1 hx with rfl|hx
      ·(try dsimp only);omega
      ·rcases List.mem_append.1 hx with hx|hx
       ·have:=ny x (by simp[hx]);(try dsimp only);omega
       ·rw[List.mem_singleton.1 hx];(try dsimp only);omega,bK,fun hc=>by
      rcases List.mem_append.1 hc with hc|hc
      ·have:=(ny _ (List.mem_cons_of_mem _ hc)).2;(try dsimp only at this);omega
      ·have:=List.mem_singleton.1 hc;rw[<-this]at IQ;(try dsimp only at IQ);omega⟩)
    all_goals simp only[go_sem, ↓reduceIte,Nat.reduceEqDiff,Nat.reduceAdd,Nat.reduceSub,Nat.reduceLeDiff,reduceCtorEq,f14,f0,f5,f11,f12,xb,Bs,x3]
  ·rw[if_neg he,List.append_nil]at r9
   have tR:decide ((L i:Int)=(i:Int))=false:=decide_eq_false fun h=>he ai
   rw[eN]at hC
   (try((repeat(revert hN;revert N;apply Pn.out));refine wk (tw @d12 (tw @dg0 (tw @d0 (tw @d5 (tw @d11 (tw @dg (tw @hi (tw @hC (tw @tl (tw @tR (tw @pd @RD))))))))))) ?_;(repeat(refine Pn.mk ?_;intro N hN))))
   refine s9 ?_ ?_ (⟨oo,rows,ids,sd @d11,sd @dg,by rw[r9];exact hR,fun x hx=>by have:=ny x hx;(try dsimp only);omega,bK,tU⟩)
   all_goals simp only[go_sem, ↓reduceIte,Nat.reduceEqDiff,Nat.reduceAdd,Nat.reduceSub,Nat.reduceLeDiff,reduceCtorEq,d12,dg0,d0,d5]
 ·have xU:i=k:=ai
  (try((repeat(revert hN;revert N;apply Pn.out));refine wk (tw @d12 (tw @dg0 (tw @d0 (tw @d5 (tw @d11 (tw @dg @hi)))))) ?_;(repeat(refine Pn.mk ?_;intro N hN))))
  refine vN (.inl rfl) (by simp only[go_sem, ↓reduceIte,Nat.reduceEqDiff,Nat.reduceAdd,Nat.reduceSub,Nat.reduceLeDiff,reduceCtorEq];rfl) ?_
  rw[qE dg (by simp) (rows':=(fG k L).map Ad) (by rw[List.drop_zero,List.take_of_length_le (Nat.le_refl _)];rw[xU]at hR;exact Ji 3 hR)]
theorem wj (n:Nat):List.replicate n [AV.int .i64 0]=dZ (fun _=>0) n:=by
 refine List.ext_getElem? fun i=>?_
 by_cases h:i<n
 ·rw[fA h,List.getElem?_replicate,if_pos h];rfl
 ·rw[List.getElem?_eq_none (by simp;omega),List.getElem?_eq_none (by rw[gm];omega)]
def dj (cnt:Nat) (L:Nat->Nat) (i m:Nat):Nat->Nat:=fun x=>if cN L x<i then cN L x else if x∈(members cnt L ((leads cnt L).getD i 0)).take m then i else 0
theorem oh (cnt:Nat) (L:Nat->Nat):dj cnt L 0 0=fun _=>0:=by funext x;simp[dj]
theorem tf (t:Int) (bs:List PB) (k:Nat) (h:k<bs.length):bc t (bs.take (k+1))=bc t (bs.take k)++if t<=(bs[k]).s then[bs[k]]else[]:=by
 unfold bc
 rw[List.take_succ_eq_append_getElem h,List.filter_append]
 congr 1
 by_cases h:t<=bs[k].s<;>simp[h]
theorem v7 {t:Int} {bs:List PB} {b:PB} (h:b∈bc t bs):b∈bs:=(List.mem_filter.1 h).1
theorem mK (t:Int) (bs:List PB):(bc t bs).length<=bs.length:=List.length_filter_le _ _
theorem BG (cnt:Nat) (hn:cnt<=1048576) (bs:List PB) (hb:∀b∈bs,b.a<cnt/\b.b<cnt) (pq:bs.length<=1048576) (t:Int):aq Tryz.prog 240 [.int .i64 cnt,.sl (bs.map aB),.int .i64 t] (.gn [.int .i64 (leads cnt (eE (bc t bs))).length,.sl ((fc (eE (bc t bs)) bs).map aB)]):=by
 refine aq.body eG rfl fun hl n0=>?_
 clear hl
 (try((repeat(revert hN;revert N;apply Pn.out));refine wk @Nat.zero_add ?_;(repeat(refine Pn.mk ?_;intro N hN))))
 refine bF (fun n env st=>∃k:Nat,n=(bs.length)-k/\k<=(bs.length)/\env 9=.int .i64 (k:Int)/\(∃o:Id,env 8=.own o 0 (bc t (bs.take k)).length/\st.get o=some ⟨true,3,(bc t (bs.take k)).map aB⟩/\o.cV<st.next)) (bs.length) ⟨0,ai,ai,sl @Nat.zero_add,⟨⟨240001000,n0+1⟩,by(simp only[go_sem, ↓reduceIte,Nat.reduceEqDiff,Nat.reduceAdd,Nat.reduceSub,Nat.reduceLeDiff,reduceCtorEq])<;>rfl,by(simp only[go_sem, ↓reduceIte,Nat.reduceEqDiff,Nat.reduceAdd,Nat.reduceSub,Nat.reduceLeDiff,reduceCtorEq])<;>rfl,bK⟩⟩ ?_
 rintro n_a env_a st_a ⟨k,rfl,ale,a9,lL⟩ ev
 have a0:=ev 0 (by kernel_rfl);have a1:=ev 1 (by kernel_rfl);have a2:=ev 2 (by kernel_rfl)
 simp only[go_sem, ↓reduceIte,Nat.reduceEqDiff,Nat.reduceAdd,Nat.reduceSub,Nat.reduceLeDiff,reduceCtorEq]at a0 a1 a2
 clear ev
 obtain⟨o,a8,ag,tV⟩:=lL
 have rJ:=eL tV
 by_cases hk:(k:Int)<(bs.length:Int)
 ·have cY:∀{e:Env} {gg:Rows} {nx:Nat},(e 9=.int .i64 (IntKind.i64.wrap ((k:Int)+1)))->(∃o:Id,e 8=.own o 0 (bc t (bs.take (k+1))).length/\gg o=some ⟨true,3,(bc t (bs.take (k+1))).map aB⟩/\o.cV<nx)->∃m0,m0<(bs.length)-k/\∃k:Nat,m0=(bs.length)-k/\k<=(bs.length)/\e 9=.int .i64 (k:Int)/\(∃o:Id,e 8=.own o 0 (bc t (bs.take k)).length/\gg o=some ⟨true,3,(bc t (bs.take k)).map aB⟩/\o.cV<nx):=fun x1 x2=>⟨_,ai,k+1,rfl,ai,(by rw[x1,aI ai]),x2⟩
  have fM:k<bs.length:=ai
  have eU:(bs.map aB)[k]? =some (aB bs[k]):=by simp[fM]
  have hs:=tf t bs k fM
  have Dx:=mK t (bs.take k)
  rw[List.length_take]at Dx
  by_cases hc:t<=(bs[k]).s
  ·rw[if_pos hc]at hs
   have e1:(bc t (bs.take k)).length+1<=16777216:=ai
   have kP:((bc t (bs.take k)).map aB).length=(bc t (bs.take k)).length:=by simp
   generalize bs[k]=b at *
   (try((repeat(revert hN;revert N;apply Pn.out));refine wk (tw @a9 (tw @a0 (tw @a1 (tw @a2 (tw @a8 (tw @ag (tw @rJ (tw @hk (tw @eU (tw @hc (tw @e1 (tw @kP @aB.eq_1)))))))))))) ?_;(repeat(refine Pn.mk ?_;intro N hN))))
   exact cY (sd (tw @a9 (tw @a0 (tw @a1 @a2)))) (⟨⟨240006006,st_a.next+1+1⟩,by rw[hs,List.length_append];simp only[go_sem, ↓reduceIte,Nat.reduceEqDiff,Nat.reduceAdd,Nat.reduceSub,Nat.reduceLeDiff,reduceCtorEq,List.length_cons,List.length_nil],by rw[hs,List.map_append,List.map_cons,List.map_nil];simp only[go_sem, ↓reduceIte,Nat.reduceEqDiff,Nat.reduceAdd,Nat.reduceSub,Nat.reduceLeDiff,reduceCtorEq,aB],bK⟩)
  ·rw[if_neg hc,List.append_nil]at hs
   generalize bs[k]=b at *
   (try((repeat(revert hN;revert N;apply Pn.out));refine wk (tw @a9 (tw @a0 (tw @a1 (tw @a2 (tw @a8 (tw @ag (tw @rJ (tw @hk (tw @eU (tw @hc @aB.eq_1)))))))))) ?_;(repeat(refine Pn.mk ?_;intro N hN))))
   exact cY (sd (tw @a9 (tw @a0 (tw @a1 @a2)))) (⟨o,by rw[hs];simp only[go_sem, ↓reduceIte,Nat.reduceEqDiff,Nat.reduceAdd,Nat.reduceSub,Nat.reduceLeDiff,reduceCtorEq,a8],by rw[hs];simp only[go_sem, ↓reduceIte,Nat.reduceEqDiff,Nat.reduceAdd,Nat.reduceSub,Nat.reduceLeDiff,reduceCtorEq,ag],bK⟩)
 have ml:k=bs.length:=ai
 subst ml
 rw[List.take_length]at a8 ag
 have Hw:=BE cnt hn (bc t bs) (fun b h=>hb b (v7 h)) (by have:=mK t bs;omega)
 have hL:=s7 (bc t bs)
 have Cy:fz (dR st_a.get) 6 (.own o 0 (bc t bs).length)=some (.sl ((bc t bs).map aB)):=gr (sz:=3) (by simp[dR,ag]) rfl fun b=>y4 _ 4 b
 have UB:∀x,de (dR st_a.get) 6 [.int .i64 x,.own o 0 (bc t bs).length]=some [.int .i64 x,.sl ((bc t bs).map aB)]:=fun x=>by simp only[ab,aj,ay,Cy,Option.map_some]
 (try((repeat(revert hN;revert N;apply Pn.out));refine wk (tw @a9 (tw @a0 (tw @a1 (tw @a2 (tw @a8 @hk))))) ?_;(repeat(refine Pn.mk ?_;intro N hN))))
 refine .inl ⟨_,aq.x Hw (UB _),?_⟩
 refine hN _ _ ?_
 clear hN N
 generalize eE (bc t bs)=L at *
 have r5:((fG cnt L).map Ad).length=(leads cnt L).length:=by simp[fG]
 have S6:=jz cnt L
 have jt:(0:Int)<=(cnt:Int):=ai
 have pr:(cnt:Int)<=((16777216:Nat):Int):=ai
 have gH:List.replicate cnt [AV.int .i64 0]=dZ (dj cnt L 0 0) cnt:=by rw[wj,oh]
 (try((repeat(revert hN;revert N;apply Pn.out));refine wk (tw @a9 (tw @a0 (tw @a1 (tw @a2 (tw @jt (tw @pr @Int.le_refl)))))) ?_;(repeat(refine Pn.mk ?_;intro N hN))))
 refine bF (fun n env st=>∃i:Nat,n=((leads cnt L).length)-i/\i<=((leads cnt L).length)/\env 12=.int .i64 (i:Int)/\st.get ⟨240008001,st_a.next+1+1⟩=some ⟨true,1,dZ (dj cnt L i 0) cnt⟩/\(st_a.next+1+1<st.next)) ((leads cnt L).length) ⟨0,ai,ai,sl (tw @a9 (tw @a0 (tw @a1 (tw @a2 @gH)))),sl (tw @a9 (tw @a0 (tw @a1 (tw @a2 @gH)))),bK⟩ ?_
 rintro n_c env_c st_c ⟨i,rfl,cle,yS,cg0,cI0⟩ cfr
 have c1:=cfr 1 (by kernel_rfl);have jm:=cfr 10 (by kernel_rfl);have nq:=cfr 11 (by kernel_rfl)
 simp only[go_sem, ↓reduceIte,Nat.reduceEqDiff,Nat.reduceAdd,Nat.reduceSub,Nat.reduceLeDiff,reduceCtorEq,a9,a0,a1,a2,gH]at c1 jm nq
 clear cfr
 by_cases hi:(i:Int)<((leads cnt L).length:Int)
 ·have gW:∀{e:Env} {gg:Rows} {nx:Nat},(e 12=.int .i64 (IntKind.i64.wrap ((i:Int)+1)))->(gg ⟨240008001,st_a.next+1+1⟩=some ⟨true,1,dZ (dj cnt L (i+1) 0) cnt⟩)->(st_a.next+1+1<nx)->∃m0,m0<((leads cnt L).length)-i/\∃i:Nat,m0=((leads cnt L).length)-i/\i<=((leads cnt L).length)/\e 12=.int .i64 (i:Int)/\gg ⟨240008001,st_a.next+1+1⟩=some ⟨true,1,dZ (dj cnt L i 0) cnt⟩/\(st_a.next+1+1<nx):=fun x1 x2 x3=>⟨_,ai,i+1,rfl,ai,(by rw[x1,aI ai]),x2,x3⟩
  have fP:i<(leads cnt L).length:=ai
  have kO:((fG cnt L).map Ad)[i]? =some (Ad (members cnt L (leads cnt L)[i])):=by simp[fG,fP]
  have tT:(leads cnt L).getD i 0=(leads cnt L)[i]:=by simp[List.getD_eq_getElem?_getD,fP]
  have kM:∀m,dj cnt L i m=fun x=>if cN L x<i then cN L x else if x∈(members cnt L (leads cnt L)[i]).take m then i else 0:=fun m=>by unfold dj;rw[tT]
  have qH:=fun x (hx:x<cnt)=>si hL (n:=cnt) (k:=x) (i:=i) hx fP
  have lu:(members cnt L (leads cnt L)[i]).Nodup:=List.nodup_range.filter _
  have OH:∀x∈members cnt L (leads cnt L)[i],x<cnt:=fun x hx=>(lh.1 hx).1
  have hMc:(members cnt L (leads cnt L)[i]).length<=cnt:=by
   have:=List.length_filter_le (fun k=>L k==(leads cnt L)[i]) (List.range cnt)
   simpa[members]using this
  generalize members cnt L (leads cnt L)[i]=M at *
  have Cx:(M.map eN).length=M.length:=by simp
  (try((repeat(revert hN;revert N;apply Pn.out));refine wk (tw @yS (tw @cg0 (tw @c1 (tw @jm (tw @nq (tw @hi @r5)))))) ?_;(repeat(refine Pn.mk ?_;intro N hN))))
  refine bF (fun n env st=>∃m:Nat,n=(M.length)-m/\m<=(M.length)/\env 13=.int .i64 (m:Int)/\st.get ⟨240008001,st_a.next+1+1⟩=some ⟨true,1,dZ (dj cnt L i m) cnt⟩/\(st_a.next+1+1<st.next)) (M.length) ⟨0,ai,ai,sl (tw @yS (tw @cg0 (tw @c1 (tw @jm @nq)))),sl (tw @yS (tw @cg0 (tw @c1 (tw @jm @nq)))),bK⟩ ?_
  rintro n_d env_d st_d ⟨m,rfl,dle,d13,dg0,dI0⟩ dfr
  have d1:=dfr 1 (by kernel_rfl);have d10:=dfr 10 (by kernel_rfl);have d11:=dfr 11 (by kernel_rfl);have d12:=dfr 12 (by kernel_rfl)
  simp only[go_sem, ↓reduceIte,Nat.reduceEqDiff,Nat.reduceAdd,Nat.reduceSub,Nat.reduceLeDiff,reduceCtorEq,yS,cg0,c1,jm,nq]at d1 d10 d11 d12
  clear dfr
  have tl:=gm (dj cnt L i m) cnt
  by_cases hm:(m:Int)<(M.length:Int)
  ·have s9:∀{e:Env} {gg:Rows} {nx:Nat},(e 13=.int .i64 (IntKind.i64.wrap ((m:Int)+1)))->(gg ⟨240008001,st_a.next+1+1⟩=some ⟨true,1,dZ (dj cnt L i (m+1)) cnt⟩)->(st_a.next+1+1<nx)->∃m0,m0<(M.length)-m/\∃m:Nat,m0=(M.length)-m/\m<=(M.length)/\e 13=.int .i64 (m:Int)/\gg ⟨240008001,st_a.next+1+1⟩=some ⟨true,1,dZ (dj cnt L i m) cnt⟩/\(st_a.next+1+1<nx):=fun x1 x2 x3=>⟨_,ai,m+1,rfl,ai,(by rw[x1,aI ai]),x2,x3⟩
   have zf:m<M.length:=ai
   have uP:(M.map eN)[m]? =some (eN M[m]):=by simp[zf]
   have uU:=OH _ (List.getElem_mem zf)
   have CG:(M[m]:Int)<(cnt:Int):=ai
   have CF:=fA (f:=dj cnt L i m) uU
   have eI:(dZ (dj cnt L i m) cnt).set M[m] (eN i)=dZ (dj cnt L i (m+1)) cnt:=oZ uU (by
    have h1:=(qH _ uU).1 (List.getElem_mem zf)
    rw[kM]
    simp only[]
    rw[if_neg ai,if_pos (by rw[List.take_succ_eq_append_getElem zf];exact List.mem_append_right _ (List.mem_singleton.2 rfl))]) fun x hx gP=>by
    rw[kM,kM]
    simp only[]
    rw[List.take_succ_eq_append_getElem zf]
    simp only[List.mem_append,List.mem_singleton,gP,or_false]
   rw[eN]at eI CF
   generalize M[m]=xm at *
   (try((repeat(revert hN;revert N;apply Pn.out));refine wk (tw @d13 (tw @dg0 (tw @d1 (tw @d10 (tw @d11 (tw @d12 (tw @hm (tw @hi (tw @kO (tw @r5 (tw @uP (tw @Cx (tw @CG (tw @CF (tw @tl (tw @eI (tw @Ad.eq_1 @eN.eq_1))))))))))))))))) ?_;(repeat(refine Pn.mk ?_;intro N hN))))
   refine s9 ?_ ?_ bK
   all_goals simp only[go_sem, ↓reduceIte,Nat.reduceEqDiff,Nat.reduceAdd,Nat.reduceSub,Nat.reduceLeDiff,reduceCtorEq,d13,dg0,d1,d10,d11,d12,eI]
  ·have kP:m=M.length:=ai
   subst kP
   have xd:dZ (dj cnt L i M.length) cnt=dZ (dj cnt L (i+1) 0) cnt:=gS fun x hx=>by
    rw[kM,List.take_length]
    simp only[dj,List.take_zero,List.not_mem_nil,if_false]
    have h1:=qH x hx
    by_cases h2:cN L x<i
    ·rw[if_pos h2,if_pos ai]
    ·rw[if_neg h2]
     by_cases h3:x∈M
     ·rw[if_pos h3,if_pos (by have:=h1.1 h3;omega),h1.1 h3]
     ·rw[if_neg h3,if_neg fun h4=>h3 (h1.2 ai)]
   (try((repeat(revert hN;revert N;apply Pn.out));refine wk (tw @d13 (tw @dg0 (tw @d1 (tw @d10 (tw @d11 (tw @d12 (tw @hm (tw @hi (tw @kO (tw @r5 (tw @Cx @Ad.eq_1))))))))))) ?_;(repeat(refine Pn.mk ?_;intro N hN))))
   refine gW ?_ ?_ bK
   all_goals simp only[go_sem, ↓reduceIte,Nat.reduceEqDiff,Nat.reduceAdd,Nat.reduceSub,Nat.reduceLeDiff,reduceCtorEq,yS,cg0,c1,jm,nq,d13,dg0,d1,d10,d11,d12,xd]
 have mi:i=(leads cnt L).length:=ai
 subst mi
 have tU:dZ (dj cnt L (leads cnt L).length 0) cnt=dZ (cN L) cnt:=gS fun x hx=>by rw[dj,if_pos (jR hL hx)]
 rw[tU]at cg0
 have tl:=gm (cN L) cnt
 (try((repeat(revert hN;revert N;apply Pn.out));refine wk (tw @yS (tw @cg0 (tw @c1 (tw @jm (tw @nq (tw @hi @r5)))))) ?_;(repeat(refine Pn.mk ?_;intro N hN))))
 have SS:st_a.next+1+1<st_c.next:=cI0
 refine bF (fun n env st=>∃j:Nat,n=(bs.length)-j/\j<=(bs.length)/\env 15=.int .i64 (j:Int)/\st.get ⟨240008001,st_a.next+1+1⟩=some ⟨true,1,dZ (cN L) cnt⟩/\(∃p:Id,env 14=.own p 0 (fc L (bs.take j)).length/\st.get p=some ⟨true,3,(fc L (bs.take j)).map aB⟩/\st_c.next<=p.cV/\p.cV<st.next)) (bs.length) ⟨0,ai,ai,sl (tw @yS (tw @cg0 (tw @c1 (tw @jm @nq)))),sl (tw @yS (tw @cg0 (tw @c1 (tw @jm @nq)))),⟨⟨240016000,st_c.next+1⟩,by(simp only[go_sem, ↓reduceIte,Nat.reduceEqDiff,Nat.reduceAdd,Nat.reduceSub,Nat.reduceLeDiff,reduceCtorEq])<;>rfl,by(simp only[go_sem, ↓reduceIte,Nat.reduceEqDiff,Nat.reduceAdd,Nat.reduceSub,Nat.reduceLeDiff,reduceCtorEq])<;>rfl,bK,bK⟩⟩ ?_
 rintro n_f env_f st_f ⟨j,rfl,fle,f15,fg0,fI0⟩ ffr
 have f1:=ffr 1 (by kernel_rfl);have f10:=ffr 10 (by kernel_rfl);have f11:=ffr 11 (by kernel_rfl)
 simp only[go_sem, ↓reduceIte,Nat.reduceEqDiff,Nat.reduceAdd,Nat.reduceSub,Nat.reduceLeDiff,reduceCtorEq,yS,cg0,c1,jm,nq]at f1 f10 f11
 clear ffr
 obtain⟨p,f14,fg,OK,IQ⟩:=fI0
 have x1:=dr (a:=⟨240008001,st_a.next+1+1⟩) (b:=p) bK
 have Aj:=eL IQ
 have hvn:st_a.next+1+1<st_f.next:=ai
 have I4:=eL (i:=⟨240008001,st_a.next+1+1⟩) (n:=st_f.next) hvn
 have Dx:=(mJ L (bs.take j)).2
 rw[List.length_take]at Dx
 by_cases hj:(j:Int)<(bs.length:Int)
 ·have qT:∀{e:Env} {gg:Rows} {nx:Nat},(e 15=.int .i64 (IntKind.i64.wrap ((j:Int)+1)))->(gg ⟨240008001,st_a.next+1+1⟩=some ⟨true,1,dZ (cN L) cnt⟩)->(∃p:Id,e 14=.own p 0 (fc L (bs.take (j+1))).length/\gg p=some ⟨true,3,(fc L (bs.take (j+1))).map aB⟩/\st_c.next<=p.cV/\p.cV<nx)->∃m0,m0<(bs.length)-j/\∃j:Nat,m0=(bs.length)-j/\j<=(bs.length)/\e 15=.int .i64 (j:Int)/\gg ⟨240008001,st_a.next+1+1⟩=some ⟨true,1,dZ (cN L) cnt⟩/\(∃p:Id,e 14=.own p 0 (fc L (bs.take j)).length/\gg p=some ⟨true,3,(fc L (bs.take j)).map aB⟩/\st_c.next<=p.cV/\p.cV<nx):=fun x1 x2 x3=>⟨_,ai,j+1,rfl,ai,(by rw[x1,aI ai]),x2,x3⟩
  have hZ:j<bs.length:=ai
  have qi:(bs.map aB)[j]? =some (aB bs[j]):=by simp[hZ]
  have MS:=hb _ (List.getElem_mem hZ)
  have hs:=zJ L (bs.take j) bs[j]
  rw[<-List.take_succ_eq_append_getElem hZ]at hs
  generalize bs[j]=b at *
  have hA:=fA (f:=cN L) MS.1
  have hB:=fA (f:=cN L) MS.2
  have gG:(b.a:Int)<(cnt:Int):=ai
  have fW:(b.b:Int)<(cnt:Int):=ai
  have SJ:=BD (cN L b.a) (cN L b.b)
  have SK:=BC (cN L b.a) (cN L b.b)
  rw[eN]at hA hB
  by_cases he:cN L b.a=cN L b.b
  ·rw[if_pos he,List.append_nil]at hs
   have tR:decide ((cN L b.a:Int)=(cN L b.b:Int))=true:=decide_eq_true (by rw[he])
   (try((repeat(revert hN;revert N;apply Pn.out));refine wk (tw @f15 (tw @fg0 (tw @f1 (tw @f10 (tw @f11 (tw @f14 (tw @fg (tw @hj (tw @qi (tw @hA (tw @hB (tw @gG (tw @fW (tw @tl (tw @tR (tw @x1 (tw @Aj @aB.eq_1))))))))))))))))) ?_;(repeat(refine Pn.mk ?_;intro N hN))))
   refine qT ?_ ?_ (⟨p,by rw[hs];simp only[go_sem, ↓reduceIte,Nat.reduceEqDiff,Nat.reduceAdd,Nat.reduceSub,Nat.reduceLeDiff,reduceCtorEq,f14],by rw[hs];simp only[go_sem, ↓reduceIte,Nat.reduceEqDiff,Nat.reduceAdd,Nat.reduceSub,Nat.reduceLeDiff,reduceCtorEq,fg],OK,bK⟩)
   all_goals simp only[go_sem, ↓reduceIte,Nat.reduceEqDiff,Nat.reduceAdd,Nat.reduceSub,Nat.reduceLeDiff,reduceCtorEq,f15,fg0,f1,f10,f11]
  ·rw[if_neg he]at hs
   have tR:decide ((cN L b.a:Int)=(cN L b.b:Int))=false:=decide_eq_false fun h=>he ai
   have e1:(fc L (bs.take j)).length+1<=16777216:=ai
   have kP:((fc L (bs.take j)).map aB).length=(fc L (bs.take j)).length:=by simp
   (repeat(first|((repeat(revert hN;revert N;apply Pn.out));refine wk (tw @f15 (tw @fg0 (tw @f1 (tw @f10 (tw @f11 (tw @f14 (tw @fg (tw @hj (tw @qi (tw @hA (tw @hB (tw @gG (tw @fW (tw @tl (tw @tR (tw @x1 (tw @Aj (tw @I4 (tw @e1 (tw @kP @aB.eq_1)))))))))))))))))))) ?_;(repeat(refine Pn.mk ?_;intro N hN)))|((try apply Or.inl);refine⟨_,aq.x (SJ) (sd (tw @f15 (tw @fg0 (tw @f1 (tw @f10 (tw @f11 (tw @f14 (tw @fg (tw @hj (tw @qi (tw @hA (tw @hB (tw @gG (tw @fW (tw @tl (tw @tR (tw @x1 (tw @Aj (tw @I4 (tw @e1 (tw @kP @aB.eq_1))))))))))))))))))))),?_⟩;refine hN _ _ ?_;clear hN N)|((try apply Or.inl);refine⟨_,aq.x (SK) (sd (tw @f15 (tw @fg0 (tw @f1 (tw @f10 (tw @f11 (tw @f14 (tw @fg (tw @hj (tw @qi (tw @hA (tw @hB (tw @gG (tw @fW (tw @tl (tw @tR (tw @x1 (tw @Aj (tw @I4 (tw @e1 (tw @kP @aB.eq_1))))))))))))))))))))),?_⟩;refine hN _ _ ?_;clear hN N)))
   refine qT ?_ ?_ (⟨⟨240023014,st_f.next+1+1+1+1⟩,by rw[hs,List.length_append];simp only[go_sem, ↓reduceIte,Nat.reduceEqDiff,Nat.reduceAdd,Nat.reduceSub,Nat.reduceLeDiff,reduceCtorEq,List.length_cons,List.length_nil],by rw[hs,List.map_append,List.map_cons,List.map_nil];simp only[go_sem, ↓reduceIte,Nat.reduceEqDiff,Nat.reduceAdd,Nat.reduceSub,Nat.reduceLeDiff,reduceCtorEq,aB],bK,bK⟩)
   all_goals simp only[go_sem, ↓reduceIte,Nat.reduceEqDiff,Nat.reduceAdd,Nat.reduceSub,Nat.reduceLeDiff,reduceCtorEq,f15,fg0,f1,f10,f11,x1,I4]
 ·have gZ:j=bs.length:=ai
  subst gZ
  rw[List.take_length]at f14 fg
  (try((repeat(revert hN;revert N;apply Pn.out));refine wk (tw @f15 (tw @fg0 (tw @f1 (tw @f10 (tw @f11 (tw @f14 (tw @hj @r5))))))) ?_;(repeat(refine Pn.mk ?_;intro N hN))))
  refine jh (.inl rfl) (r1:=.int .i64 ((leads cnt L).length:Int)) (sd @Nat.zero_add) (by simp only[go_sem, ↓reduceIte,Nat.reduceEqDiff,Nat.reduceAdd,Nat.reduceSub,Nat.reduceLeDiff,reduceCtorEq];rfl) ?_
  have h1:gq st_f.get 5 (.own p 0 (fc L bs).length)=some (.sl ((fc L bs).map aB)):=ig (sz:=3) fg rfl fun b=>tM _ 3 b
  simp only[eP,bW,cU,eC,h1,Option.map_some]
end Go.Proofs.YtgoljkjaameagaaGreat.V

namespace Go.Proofs.YtgoljkjaameagaaGreat.V
def EJ (bs:List PB) (e v:Nat):Prop:=(cW bs e).a=v∨(cW bs e).b=v
def iI (bs:List PB) (m v:Nat):List Nat:=(List.range m).filter fun i=>(cW bs i).a==v||(cW bs i).b==v
theorem qM {bs:List PB} {m v e:Nat}:e∈iI bs m v↔e<m/\EJ bs e v:=by simp[iI,EJ]
theorem Gw (bs:List PB) (m v:Nat):iI bs (m+1) v=iI bs m v++if (cW bs m).a=v∨(cW bs m).b=v then[m]else[]:=by
 unfold iI
 rw[List.range_succ,List.filter_append]
 congr 1
 by_cases h:(cW bs m).a=v<;>by_cases h2:(cW bs m).b=v<;>simp[h,h2]
theorem qL (bs:List PB) (m v:Nat):(iI bs m v).length<=m:=by
 have:=List.length_filter_le (fun i=>(cW bs i).a==v||(cW bs i).b==v) (List.range m)
 simpa[iI]using this
def mO (cnt:Nat) (bs:List PB):Prop:=∀e,e<bs.length->(cW bs e).a<cnt/\(cW bs e).b<cnt/\(cW bs e).a≠(cW bs e).b
theorem om {cnt:Nat} {bs:List PB} (h:mO cnt bs) {e v:Nat} (he:e<bs.length):cP bs e v<cnt:=by
 have:=h e he;unfold cP;split;exact this.2.1;exact this.1
theorem Jy {cnt:Nat} {bs:List PB} (h:mO cnt bs) {e v:Nat} (he:e<bs.length) (hi:EJ bs e v):cP bs e v≠v:=by
 have h1:=(h e he).2.2
 unfold cP
 split
 ·rename_i ha;rw[<-ha];exact fun h=>h1 h.symm
 ·rename_i ha;rcases hi with hi|hi
  ·exact absurd hi ha
  ·rw[<-hi];exact h1
theorem yq {bs:List PB} {e v:Nat}:EJ bs e (cP bs e v):=by
 unfold cP EJ;split
 ·exact .inr rfl
 ·exact .inl rfl
theorem oq {cnt:Nat} {bs:List PB} (h:mO cnt bs) {e v:Nat} (he:e<bs.length) (hi:EJ bs e v):cP bs e (cP bs e v)=v:=by
 have h1:=(h e he).2.2
 unfold cP
 by_cases ha:(cW bs e).a=v
 ·rw[if_pos ha,if_neg h1];exact ha
 ·rw[if_neg ha,if_pos rfl]
  rcases hi with hi|hi
  ·exact absurd hi ha
  ·exact hi
structure yM (cnt:Nat) (bs:List PB) (f:Nat->Int) (y:Nat) (out:Nat->Int):Prop where
 lo:∀v,v<cnt->-1<=out v/\out v<=cnt
 first:out y=0
 zero:∀v,v<cnt->out v=0->v=y
 down:∀v,v<cnt->0<out v->∃e,e<bs.length/\EJ bs e v/\0<fN bs f e v/\out (cP bs e v)=out v-1
 shut:∀e v,e<bs.length->EJ bs e v->0<=out (cP bs e v)->0<fN bs f e v->0<=out v
structure Aa (cnt:Nat) (bs:List PB) (f:Nat->Int) (y:Nat) (out:Nat->Int) (Q:List Nat) (i:Nat):Prop where
 nd:Q.Nodup
 lt:∀x∈Q,x<cnt
 iff:∀v,v<cnt->(0<=out v↔v∈Q)
 lo:∀v,v<cnt->-1<=out v
 first:out y=0
 up:∀j (h:j<Q.length),out Q[j]<=j
 zero:∀v,v<cnt->out v=0->v=y
 down:∀v,v<cnt->0<out v->∃e,e<bs.length/\EJ bs e v/\0<fN bs f e v/\out (cP bs e v)=out v-1
 shut:∀j (h:j<Q.length),j<i->∀e,e<bs.length->EJ bs e Q[j]->0<fN bs f e (cP bs e Q[j])->0<=out (cP bs e Q[j])
section
variable {cnt:Nat} {bs:List PB} {f:Nat->Int} {y:Nat} {out:Nat->Int} {Q:List Nat} {i:Nat}
theorem Aa.start (hy:y<cnt):Aa cnt bs f y (fun v=>if v=y then 0 else -1) [y] 0 where
 nd:=by simp
 lt:=fun x hx=>by rw[List.mem_singleton.1 hx];exact hy
 iff:=fun v _=>by
  by_cases h:v=y<;>simp[h]
 lo:=fun v _=>by split<;>omega
 first:=if_pos rfl
 up:=fun j h=>by
  have:j=0:=by simp at h;omega
  subst this;simp
 zero:=fun v _ h=>by
  by_cases hv:v=y
  ·exact hv
  ·rw[if_neg hv]at h;omega
 down:=fun v _ h=>by
  by_cases hv:v=y
  ·rw[if_pos hv]at h;omega
  ·rw[if_neg hv]at h;omega
 shut:=fun j h hj=>by omega
theorem Aa.len (h:Aa cnt bs f y out Q i):Q.length<=cnt:=oi cnt Q h.nd h.lt
theorem Aa.visit (h:Aa cnt bs f y out Q i) (ok:mO cnt bs) (hi:i<Q.length) {e:Nat} (he:e<bs.length) (pb:EJ bs e Q[i]) (jP:out (cP bs e Q[i])<0) (fV:0<fN bs f e (cP bs e Q[i])):
  Aa cnt bs f y (fun v=>if v=cP bs e Q[i]then out Q[i]+1 else out v) (Q++[cP bs e Q[i]]) i:=by
 have Nb:0<=out Q[i]:=(h.iff _ (h.lt _ (List.getElem_mem hi))).2 (List.getElem_mem hi)
 have hq:=om ok (v:=Q[i]) he
 have gP:=Jy ok he pb
 have Ta:=oq ok he pb
 have US:cP bs e Q[i]∉Q:=fun hm=>by have:=(h.iff _ hq).2 hm;omega
 have kM:=h.up i hi
 generalize hw:cP bs e Q[i]=w at *
 have qN:∀v,0<=out v->(if v=w then out Q[i]+1 else out v)=out v:=fun v hv=>by
  rw[if_neg];rintro rfl;omega
 have mono:∀v,0<=out v->0<=(if v=w then out Q[i]+1 else out v):=fun v hv=>by rw[qN v hv];exact hv
 refine⟨?_,?_,?_,?_,?_,?_,?_,?_,?_⟩
 ·rw[List.nodup_append]
  exact⟨h.nd,by simp,fun a ha b hb=>by rw[List.mem_singleton.1 hb];rintro rfl;exact US ha⟩
 ·intro x hx
  rcases List.mem_append.1 hx with hx|hx
  ·exact h.lt x hx
  ·rw[List.mem_singleton.1 hx];exact hq
 ·intro v hv
  by_cases HA:v=w
  ·subst HA;simp;omega
  ·rw[if_neg HA,h.iff v hv];simp[HA]
 ·intro v hv
  by_cases HA:v=w
  ·rw[if_pos HA];omega
  ·rw[if_neg HA];exact h.lo v hv
 ·rw[qN y (by rw[h.first];exact Int.le_refl _)];exact h.first
 ·intro j hj
  by_cases gZ:j<Q.length
  ·rw[List.getElem_append_left gZ,qN _ ((h.iff _ (h.lt _ (List.getElem_mem gZ))).2 (List.getElem_mem gZ))]
   exact h.up j gZ
  ·have Lm:j=Q.length:=by simp at hj;omega
   subst Lm
   simp
   omega
 ·intro v hv h0
  by_cases HA:v=w
  ·rw[if_pos HA]at h0;omega
  ·rw[if_neg HA]at h0;exact h.zero v hv h0
 ·intro v hv h0
  by_cases HA:v=w
  ·subst HA
   rw[if_pos rfl]
   refine⟨e,he,by rw[<-hw];exact yq,fV,?_⟩
   rw[Ta,qN _ Nb];omega
  ·rw[if_neg HA]at h0 ⊢
   obtain⟨e',h1,h2,h3,h4⟩:=h.down v hv h0
   exact⟨e',h1,h2,h3,by rw[qN _ ai];exact h4⟩
 ·intro j hj mj e' Lg M0 hr
  have gZ:j<Q.length:=ai
  rw[List.getElem_append_left gZ]at M0 hr ⊢
  exact mono _ (h.shut j gZ mj e' Lg M0 hr)
theorem Aa.next (h:Aa cnt bs f y out Q i) (hi:i<Q.length) (hs:∀e∈iI bs bs.length Q[i],0<fN bs f e (cP bs e Q[i])->0<=out (cP bs e Q[i])):Aa cnt bs f y out Q (i+1):=
 ⟨h.nd,h.lt,h.iff,h.lo,h.first,h.up,h.zero,h.down,fun j hj mj e he pb hr=>by
  by_cases Lm:j=i
  ·subst Lm;exact hs e (qM.2 ⟨he,pb⟩) hr
  ·exact h.shut j hj ai e he pb hr⟩
theorem Aa.done (h:Aa cnt bs f y out Q i) (ok:mO cnt bs) (hi:Q.length<=i):yM cnt bs f y out where
 lo:=fun v hv=>⟨h.lo v hv,by
  by_cases h0:0<=out v
  ·obtain⟨j,hj,rfl⟩:=List.getElem_of_mem ((h.iff v hv).1 h0)
   have:=h.up j hj
   have:=h.len
   omega
  ·omega⟩
 first:=h.first
 zero:=h.zero
 down:=h.down
 shut:=fun e v he pb h0 hr=>by
  obtain⟨j,hj,Qe⟩:=List.getElem_of_mem ((h.iff _ (om ok he)).1 h0)
  have h2:=h.shut j hj ai e he (by rw[Qe];exact yq)
  rw[Qe,oq ok he pb]at h2
  exact h2 hr
end
end Go.Proofs.YtgoljkjaameagaaGreat.V

namespace Go.Proofs.YtgoljkjaameagaaGreat.V
open Go.RowKit
attribute [local irreducible] dQ wpOps ft Call
attribute [local go_sem] aA eV ef e9 e8 cZ upd bQ K.av cr AV.cells AV.cell rowOf rowsOf part ld rowAt bD bL dm dD fE bu cK dO fa eF db dH cI cH dw dx bz aQ cz bx cD cC dF dI dG cw bC cJ dE bw az cF bZ fD bj cq bB aJ cX aX dn AV.undef bp br dy dC du dz cm dM dP bU dK dJ cE cG List.getD_cons_zero List.getD_cons_succ List.getD_nil List.all_cons List.all_nil Bool.and_true Bool.true_and Bool.and_self Bool.not_true Bool.not_false Option.map_some Option.map_none Option.bind_some Option.bind_none List.length_cons List.length_nil List.take_succ_cons List.take_zero List.take_nil List.drop_succ_cons List.drop_zero List.drop_nil List.head?_cons List.map_cons List.map_nil List.getElem?_cons_zero List.getElem?_cons_succ List.cons_append List.nil_append List.append_nil List.length_map List.set_cons_zero List.set_cons_succ Nat.reduceMul eq_self Int.toNat_natCast Int.natCast_nonneg and_self true_and and_true decide_true decide_false Bool.false_eq_true Nat.zero_add Nat.add_zero List.contains_cons List.contains_nil Bool.or_false Bool.false_or beq_self_eq_true Nat.reduceBEq ne_eq not_true_eq_false not_false_eq_true Id.mk.injEq false_and and_false Nat.reduceLT Int.reduceLE Int.reduceLT Int.reduceToNat Int.reduceNeg Int.reduceAdd Nat.le_refl List.length_append beq_true beq_false Bool.not_eq_eq_eq_not or_false false_or dR ab aj ay bo bJ aD aV aH aU cu bq
def mN (P:Program) (f:Nat) (args:List AV) (R:AV->Prop):Prop:=∀n:Nat,Call P f args ⟨fun _=>none,n⟩ fun r0 σ'=>∃r',gq σ'.get 6 r0=some r'/\R r'
theorem Gc {P:Program} {f:Nat} {args eS:List AV} {g:Rows} {n:Nat} {R:AV->Prop} (hv:de (dR g) 6 args=some eS) (h:Sound P f eS ⟨fun _=>none,n⟩ fun r0 σ'=>∃r',gq σ'.get 6 r0=some r'/\R r'):Sound P f args ⟨g,n⟩ fun r σ'=>R r/\σ'=⟨g,n⟩:=by
 intro hs D ι w vs S U A
 refine(xw (g0:=g) (K:=R) ⟨eS,hv,h⟩ (fun _ _ h=>h) S U A).mono ?_
 rintro e w' ⟨r,D',u,rfl,hR,T,S',hr⟩
 exact⟨r,g,n,D',ι,u,rfl,⟨hR,rfl⟩,T,S',U,Nat.le_refl _,hr⟩
theorem mN.x {P:Program} (hm:P.follows .mixedOrders=true) {f:Nat} {args eS:List AV} {R:AV->Prop} (h:mN P f eS R) {σ:au} (hv:de (dR σ.get) 6 args=some eS):Call P f args σ fun r σ'=>R r/\σ'=σ:=
 fB (Gc hv (fR hm (h σ.next)))
theorem mN.body {P:Program} {f:Nat} {args:List AV} {R:AV->Prop} {nt na:Nat} {body:VC} {res:List nh} (hf:lP P f=some ⟨nt,na,body,res⟩) (ha:na=args.length) (h:(∀a∈args,eR a)->∀n:Nat,dQ (Call P) body (kb res fun r0 σ'=>∃r',gq σ'.get 6 r0=some r'/\R r') (bQ args) ⟨fun _=>none,n⟩):mN P f args R:=fun n=>lJ hf ha fun hl=>h hl n
def ej (f:Nat->Int) (n:Nat):List (List AV):=(List.range n).map fun i=>bt (f i)
theorem dY (f:Nat->Int) (n:Nat):(ej f n).length=n:=by simp[ej]
theorem ec {f:Nat->Int} {n i:Nat} (h:i<n):(ej f n)[i]? =some (bt (f i)):=by simp[ej,h]
theorem kH {f g:Nat->Int} {n k:Nat} {v:Int} (hk:k<n) (hv:g k=v) (h:∀i,i<n->i≠k->g i=f i):(ej f n).set k (bt v)=ej g n:=by
 refine List.ext_getElem? fun i=>?_
 rw[List.getElem?_set]
 by_cases hi:k=i
 ·subst hi
  rw[if_pos rfl,dY,if_pos hk,ec hk,hv]
 ·rw[if_neg hi]
  by_cases fP:i<n
  ·rw[ec fP,ec fP,h i fP (fun h=>hi h.symm)]
  ·rw[List.getElem?_eq_none (by rw[dY];omega),List.getElem?_eq_none (by rw[dY];omega)]
theorem Hh (f:Nat->Int) (n:Nat):ej f (n+1)=ej f n++[bt (f n)]:=by simp[ej,List.range_succ]
theorem fzI (g:Rows) (n:Nat) (a:Int):de g (n+1) (bt a)=some (bt a):=by simp[bt,ab,aj,ay]
theorem TV (g:Rows) (n:Nat) (a:Int):eB g (n+1) (bt a)=some (bt a):=by simp[bt,bW,cU,eC]
theorem J6 {g:Rows} {f:Nat->Int} {n m:Nat}:gU g (m+1) (ej f n)=some (ej f n):=by
 have:ej f n=((List.range n).map f).map bt:=by simp[ej]
 rw[this];exact nX fun x=>TV g m x
theorem zS {g:Rows} {f:Nat->Int} {n m:Nat}:ew g (m+1) (ej f n)=some (ej f n):=by
 have:ej f n=((List.range n).map f).map bt:=by simp[ej]
 rw[this];exact mA fun x=>fzI g m x
def Pu (l:List Nat):AV:=if l=[]then .bS else .sl (l.map eN)
def pG (cnt:Nat) (bs:List PB) (m:Nat):List (List AV):=(List.range cnt).map fun v=>[Pu (iI bs m v)]
theorem CQ {cnt:Nat} {bs:List PB} {m v:Nat} (h:v<cnt):(pG cnt bs m)[v]? =some [Pu (iI bs m v)]:=by simp[pG,h]
def fU (cnt:Nat) (bs:List PB) (f:Nat->Int):List AV:=[.int .i64 cnt,.sl (bs.map aB),.sl (pG cnt bs bs.length),.sl (ej f bs.length)]
theorem tG {bs:List PB} {e:Nat} (h:e<bs.length):(bs.map aB)[e]? =some (aB (cW bs e)):=getD_map aB h
def Small (bs:List PB) (f:Nat->Int):Prop:=∀e,e<bs.length->(0<=(cW bs e).s/\(cW bs e).s<=4)/\-4<=f e/\f e<=4
theorem JR (cnt:Nat) (bs:List PB) (f:Nat->Int) (hs:Small bs f) (e v:Nat) (he:e<bs.length):aq Tryz.prog 297 [.dt (fU cnt bs f),.int .i64 v,.int .i64 e] (.gn [.int .i64 (fN bs f e v),.int .i64 (cP bs e v)]):=by
 refine aq.body eG rfl fun hl n0=>?_
 clear hl
 have hb:=tG he
 have hf:=ec (f:=f) he
 obtain⟨⟨s0,s1⟩,s2,s3⟩:=hs e he
 have w1:IntKind.i64.wrap ((cW bs e).s-f e)=(cW bs e).s-f e:=bP ai
 have w2:IntKind.i64.wrap ((cW bs e).s+f e)=(cW bs e).s+f e:=bP ai
 unfold fN cP
 generalize cW bs e=b at *
 by_cases h:b.a=v
 ·have hd:decide ((b.a:Int)=(v:Int))=true:=decide_eq_true (by rw[h])
  (try((repeat(revert hN;revert N;apply Pn.out));refine wk (tw @fU.eq_1 (tw @hb (tw @hf (tw @aB.eq_1 (tw @bt.eq_1 (tw @hd (tw @w1 @w2))))))) ?_;(repeat(refine Pn.mk ?_;intro N hN))))
  refine jh (.inl rfl) (by simp only[go_sem, ↓reduceIte,Nat.reduceEqDiff,Nat.reduceAdd,Nat.reduceSub,Nat.reduceLeDiff,reduceCtorEq];rfl) (by simp only[go_sem, ↓reduceIte,Nat.reduceEqDiff,Nat.reduceAdd,Nat.reduceSub,Nat.reduceLeDiff,reduceCtorEq];rfl) ?_
  simp only[eP,bW,cU,eC,Option.map_some,if_pos h]
 ·have hd:decide ((b.a:Int)=(v:Int))=false:=decide_eq_false fun hc=>h ai
  (try((repeat(revert hN;revert N;apply Pn.out));refine wk (tw @fU.eq_1 (tw @hb (tw @hf (tw @aB.eq_1 (tw @bt.eq_1 (tw @hd (tw @w1 @w2))))))) ?_;(repeat(refine Pn.mk ?_;intro N hN))))
  refine jh (.inl rfl) (by simp only[go_sem, ↓reduceIte,Nat.reduceEqDiff,Nat.reduceAdd,Nat.reduceSub,Nat.reduceLeDiff,reduceCtorEq];rfl) (by simp only[go_sem, ↓reduceIte,Nat.reduceEqDiff,Nat.reduceAdd,Nat.reduceSub,Nat.reduceLeDiff,reduceCtorEq];rfl) ?_
  simp only[eP,bW,cU,eC,Option.map_some,if_neg h]
theorem FD (cnt:Nat) (hn:cnt<=1048576) (bs:List PB) (ok:mO cnt bs) (pq:bs.length<=1048576) (f:Nat->Int) (hs:Small bs f) (y:Nat) (hy:y<cnt):
  mN Tryz.prog 253 [.dt (fU cnt bs f),.int .i64 y] fun r=>∃out,r=.sl (ej out cnt)/\yM cnt bs f y out:=by
 refine mN.body eG rfl fun hl n0=>?_
 clear hl
 (try((repeat(revert hN;revert N;apply Pn.out));refine wk @fU.eq_1 ?_;(repeat(refine Pn.mk ?_;intro N hN))))
 refine bF (fun n env st=>∃k:Nat,n=(cnt)-k/\k<=(cnt)/\env 6=.int .i64 (k:Int)/\(∃o:Id,env 5=.own o 0 k/\st.get o=some ⟨true,1,ej (fun _=>-1) k⟩/\o.cV<st.next)) (cnt) ⟨0,ai,ai,sl @fU.eq_1,⟨⟨253001000,n0+1⟩,by(simp only[go_sem, ↓reduceIte,Nat.reduceEqDiff,Nat.reduceAdd,Nat.reduceSub,Nat.reduceLeDiff,reduceCtorEq])<;>rfl,by(simp only[go_sem, ↓reduceIte,Nat.reduceEqDiff,Nat.reduceAdd,Nat.reduceSub,Nat.reduceLeDiff,reduceCtorEq])<;>rfl,bK⟩⟩ ?_
 rintro n_a env_a st_a ⟨k,rfl,ale,a6,lL⟩ ev
 have a0:=ev 0 (by kernel_rfl);have a1:=ev 1 (by kernel_rfl)
 simp only[go_sem, ↓reduceIte,Nat.reduceEqDiff,Nat.reduceAdd,Nat.reduceSub,Nat.reduceLeDiff,reduceCtorEq,fU]at a0 a1
 clear ev
 obtain⟨o,a5,ag,tV⟩:=lL
 have tl:=dY (fun _=>-1) k
 have rJ:=eL tV
 by_cases hk:(k:Int)<(cnt:Int)
 ·have cY:∀{e:Env} {gg:Rows} {nx:Nat},(e 6=.int .i64 (IntKind.i64.wrap ((k:Int)+1)))->(∃o:Id,e 5=.own o 0 (k+1)/\gg o=some ⟨true,1,ej (fun _=>-1) (k+1)⟩/\o.cV<nx)->∃m0,m0<(cnt)-k/\∃k:Nat,m0=(cnt)-k/\k<=(cnt)/\e 6=.int .i64 (k:Int)/\(∃o:Id,e 5=.own o 0 k/\gg o=some ⟨true,1,ej (fun _=>-1) k⟩/\o.cV<nx):=fun x1 x2=>⟨_,ai,k+1,rfl,ai,(by rw[x1,aI ai]),x2⟩
  have e1:k+1<=16777216:=ai
  have r9:ej (fun _=>-1) k++[[.int .i64 (-1)]]=ej (fun _=>-1) (k+1):=(Hh _ _).symm
  (try((repeat(revert hN;revert N;apply Pn.out));refine wk (tw @a6 (tw @a0 (tw @a1 (tw @a5 (tw @ag (tw @rJ (tw @hk (tw @tl (tw @e1 (tw @r9 @fU.eq_1)))))))))) ?_;(repeat(refine Pn.mk ?_;intro N hN))))
  exact cY (sd (tw @a6 (tw @a0 (tw @a1 @fU.eq_1)))) (⟨⟨253005002,st_a.next+1⟩,sd @Nat.zero_add,sd @r9,bK⟩)
 have ml:k=cnt:=ai
 subst ml
 have Tj:(y:Int)<(k:Int):=ai
 have hym:=ec (f:=fun _=>-1) hy
 have Bp:(ej (fun _=>-1) k).set y (bt 0)=ej (fun v=>if v=y then 0 else -1) k:=kH hy (if_pos rfl) fun i _ hi=>if_neg hi
 rw[bt]at Bp hym
 (try((repeat(revert hN;revert N;apply Pn.out));refine wk (tw @a6 (tw @a0 (tw @a1 (tw @a5 (tw @ag (tw @rJ (tw @hk (tw @tl (tw @Tj (tw @hym (tw @Bp @fU.eq_1))))))))))) ?_;(repeat(refine Pn.mk ?_;intro N hN))))
 refine bF (fun m env st=>∃(i:Nat) (out:Nat->Int) (Q:List Nat) (p:Id),m=k-i/\env 8=.int .i64 (i:Int)/\env 7=.own p 0 Q.length/\st.get p=some ⟨true,1,Q.map eN⟩/\st.get o=some ⟨true,1,ej out k⟩/\o.cV<p.cV/\p.cV<st.next/\Aa k bs f y out Q i/\i<=Q.length) k ⟨0,_,[y],⟨253007001,st_a.next+1+1⟩,ai,by(simp only[go_sem, ↓reduceIte,Nat.reduceEqDiff,Nat.reduceAdd,Nat.reduceSub,Nat.reduceLeDiff,reduceCtorEq])<;>rfl,by(simp only[go_sem, ↓reduceIte,Nat.reduceEqDiff,Nat.reduceAdd,Nat.reduceSub,Nat.reduceLeDiff,reduceCtorEq])<;>rfl,by(simp only[go_sem, ↓reduceIte,Nat.reduceEqDiff,Nat.reduceAdd,Nat.reduceSub,Nat.reduceLeDiff,reduceCtorEq])<;>rfl,sd @rJ,bK,bK,Aa.start hy,by simp⟩ ?_
 rintro n env_b st_b ⟨i,out,Q,p,rfl,b8,b7,bgp,bgo,ez,hpn,hB,hiq⟩ bfr
 have b0:=bfr 0 (by kernel_rfl)
 have b5:=bfr 5 (by kernel_rfl)
 simp only[go_sem, ↓reduceIte,Nat.reduceEqDiff,Nat.reduceAdd,Nat.reduceSub,Nat.reduceLeDiff,reduceCtorEq,a6,a0,a1,a5,fU]at b0 b5
 clear bfr
 have hql:=hB.len
 have To:=dY out k
 have hqm:(Q.map eN).length=Q.length:=by simp
 have Aj:=eL hpn
 have pd:=eL (i:=o) (n:=st_b.next) ai
 by_cases hi:(i:Int)<(Q.length:Int)
 ·have fP:i<Q.length:=ai
  have kO:(Q.map eN)[i]? =some (eN Q[i]):=by simp[fP]
  have Nb:=hB.lt _ (List.getElem_mem fP)
  obtain⟨vt,OX⟩:∃vt,vt=Q[i]:=⟨_,rfl⟩
  rw[<-OX]at kO Nb
  have hA:=CQ (cnt:=k) (bs:=bs) (m:=bs.length) Nb
  have Lz:(vt:Int)<(k:Int):=ai
  have mi:=qL bs bs.length vt
  have hme:∀x,x<(iI bs bs.length vt).length->(iI bs bs.length vt).getD x 0<bs.length/\EJ bs ((iI bs bs.length vt).getD x 0) vt:=fun x hx=>by
   rw[List.getD_eq_getElem?_getD,List.getElem?_eq_getElem hx]
   exact qM.1 (List.getElem_mem hx)
  have Qh:∀e∈iI bs bs.length vt,∃x,x<(iI bs bs.length vt).length/\(iI bs bs.length vt).getD x 0=e:=fun e he=>by
   obtain⟨x,hx,rfl⟩:=List.getElem_of_mem he
   exact⟨x,hx,by rw[List.getD_eq_getElem?_getD,List.getElem?_eq_getElem hx];rfl⟩
  generalize hIn:iI bs bs.length vt=I at *
  unfold Pu at hA
  by_cases Ui:I=[]
  ·rw[if_pos Ui]at hA
   have hI1:I.length=0:=by rw[Ui];rfl
   (try((repeat(revert hN;revert N;apply Pn.out));refine wk (tw @b0 (tw @b5 (tw @b7 (tw @b8 (tw @bgp (tw @hi (tw @kO (tw @hqm (tw @eN.eq_1 @fU.eq_1))))))))) ?_;(repeat(refine Pn.mk ?_;intro N hN))))
   refine bF (fun n env st=>∃x:Nat,n=(I.length)-x/\x<=(I.length)/\env 10=.int .i64 (x:Int)/\(∃(iD:Nat->Int) (Q':List Nat) (p':Id),env 7=.own p' 0 Q'.length/\st.get p'=some ⟨true,1,Q'.map eN⟩/\st.get o=some ⟨true,1,ej iD k⟩/\o.cV<p'.cV/\p'.cV<st.next/\Aa k bs f y iD Q' i/\(∃h:i<Q'.length,Q'[i]=vt)/\(∀z,z<x->0<fN bs f (I.getD z 0) (cP bs (I.getD z 0) vt)->0<=iD (cP bs (I.getD z 0) vt)))) (I.length) ⟨0,ai,ai,sl (tw @b0 (tw @b5 (tw @b8 @fU.eq_1))),⟨out,Q,p,sd @b7,sd @bgp,sd @bgo,ez,bK,hB,⟨fP,OX.symm⟩,fun z hz=>ai⟩⟩ ?_
   rintro n_c env_c st_c ⟨x,rfl,cle,jm,cI0⟩ cfr
   have c0:=cfr 0 (by kernel_rfl);have c5:=cfr 5 (by kernel_rfl);have c8:=cfr 8 (by kernel_rfl);have c9:=cfr 9 (by kernel_rfl)
   simp only[go_sem, ↓reduceIte,Nat.reduceEqDiff,Nat.reduceAdd,Nat.reduceSub,Nat.reduceLeDiff,reduceCtorEq,b0,b5,b8,fU]at c0 c5 c8 c9
   clear cfr
   obtain⟨iD,Q',p',c7,H9,xJ,Dv,OL,dW,⟨xc,p4⟩,KC⟩:=cI0
   have U6:=dW.len
   have Pz:=dY iD k
   have ON:(Q'.map eN).length=Q'.length:=by simp
   have zk:=eL OL
   have lU:=eL (i:=o) (n:=st_c.next) ai
   have x1:=dr Dv
   have hx:¬(x:Int)<((0:Nat):Int):=ai
   have hxe:x=I.length:=ai
   have hw:IntKind.i64.wrap ((i:Int)+1)=((i+1:Nat):Int):=aI ai
   (try((repeat(revert hN;revert N;apply Pn.out));refine wk (tw @jm (tw @c0 (tw @c5 (tw @c8 (tw @c9 (tw @c7 (tw @hx (tw @hA (tw @Lz @fU.eq_1))))))))) ?_;(repeat(refine Pn.mk ?_;intro N hN))))
   refine⟨_,?_,i+1,iD,Q',p',rfl,sd (tw @jm (tw @c0 (tw @c5 (tw @c8 (tw @c9 @hw))))),sd @c7,sd @H9,sd @xJ,Dv,bK,dW.next xc fun e he hr=>?_,ai⟩
   ·omega
   ·rw[p4,hIn]at he
    rw[p4]at hr ⊢
    obtain⟨z,hz,rfl⟩:=Qh e he
    exact KC z ai hr
  ·rw[if_neg Ui]at hA
   have pV:(I.map eN).length=I.length:=by simp
   (try((repeat(revert hN;revert N;apply Pn.out));refine wk (tw @b0 (tw @b5 (tw @b7 (tw @b8 (tw @bgp (tw @hi (tw @kO (tw @hqm (tw @eN.eq_1 @fU.eq_1))))))))) ?_;(repeat(refine Pn.mk ?_;intro N hN))))
   refine bF (fun n env st=>∃x:Nat,n=(I.length)-x/\x<=(I.length)/\env 10=.int .i64 (x:Int)/\(∃(iD:Nat->Int) (Q':List Nat) (p':Id),env 7=.own p' 0 Q'.length/\st.get p'=some ⟨true,1,Q'.map eN⟩/\st.get o=some ⟨true,1,ej iD k⟩/\o.cV<p'.cV/\p'.cV<st.next/\Aa k bs f y iD Q' i/\(∃h:i<Q'.length,Q'[i]=vt)/\(∀z,z<x->0<fN bs f (I.getD z 0) (cP bs (I.getD z 0) vt)->0<=iD (cP bs (I.getD z 0) vt)))) (I.length) ⟨0,ai,ai,sl (tw @b0 (tw @b5 (tw @b8 @fU.eq_1))),⟨out,Q,p,sd @b7,sd @bgp,sd @bgo,ez,bK,hB,⟨fP,OX.symm⟩,fun z hz=>ai⟩⟩ ?_
   rintro n_c env_c st_c ⟨x,rfl,cle,jm,cI0⟩ cfr
   have c0:=cfr 0 (by kernel_rfl);have c5:=cfr 5 (by kernel_rfl);have c8:=cfr 8 (by kernel_rfl);have c9:=cfr 9 (by kernel_rfl)
   simp only[go_sem, ↓reduceIte,Nat.reduceEqDiff,Nat.reduceAdd,Nat.reduceSub,Nat.reduceLeDiff,reduceCtorEq,b0,b5,b8,fU]at c0 c5 c8 c9
   clear cfr
   obtain⟨iD,Q',p',c7,H9,xJ,Dv,OL,dW,⟨xc,p4⟩,KC⟩:=cI0
   have U6:=dW.len
   have Pz:=dY iD k
   have ON:(Q'.map eN).length=Q'.length:=by simp
   have zk:=eL OL
   have lU:=eL (i:=o) (n:=st_c.next) ai
   have x1:=dr Dv
   by_cases hx:(x:Int)<(I.length:Int)
   ·have gW:∀{e:Env} {gg:Rows} {nx:Nat},(e 10=.int .i64 (IntKind.i64.wrap ((x:Int)+1)))->(∃(iD:Nat->Int) (Q':List Nat) (p':Id),e 7=.own p' 0 Q'.length/\gg p'=some ⟨true,1,Q'.map eN⟩/\gg o=some ⟨true,1,ej iD k⟩/\o.cV<p'.cV/\p'.cV<nx/\Aa k bs f y iD Q' i/\(∃h:i<Q'.length,Q'[i]=vt)/\(∀z,z<(x+1)->0<fN bs f (I.getD z 0) (cP bs (I.getD z 0) vt)->0<=iD (cP bs (I.getD z 0) vt)))->∃m0,m0<(I.length)-x/\∃x:Nat,m0=(I.length)-x/\x<=(I.length)/\e 10=.int .i64 (x:Int)/\(∃(iD:Nat->Int) (Q':List Nat) (p':Id),e 7=.own p' 0 Q'.length/\gg p'=some ⟨true,1,Q'.map eN⟩/\gg o=some ⟨true,1,ej iD k⟩/\o.cV<p'.cV/\p'.cV<nx/\Aa k bs f y iD Q' i/\(∃h:i<Q'.length,Q'[i]=vt)/\(∀z,z<x->0<fN bs f (I.getD z 0) (cP bs (I.getD z 0) vt)->0<=iD (cP bs (I.getD z 0) vt))):=fun x1 x2=>⟨_,ai,x+1,rfl,ai,(by rw[x1,aI ai]),x2⟩
    have Qs:x<I.length:=ai
    have Og:(I.map eN)[x]? =some (eN (I.getD x 0)):=getD_map eN Qs
    obtain⟨he,pb⟩:=hme x Qs
    obtain⟨e,SV⟩:∃e,e=I.getD x 0:=⟨_,rfl⟩
    rw[<-SV]at Og he pb
    have iC:=tG he
    have hq:=om ok (v:=vt) he
    have Ta:=oq ok he pb
    have OP:=JR k bs f hs e (cP bs e vt) he
    have Rg:=ok e he
    have nB:IntKind.i64.wrap (((cW bs e).a:Int)+((cW bs e).b:Int))=((cW bs e).a:Int)+((cW bs e).b:Int):=bP ai
    have pe:IntKind.i64.wrap (((cW bs e).a:Int)+((cW bs e).b:Int)-(vt:Int))=(cP bs e vt:Int):=by
     rw[bP ai]
     unfold cP
     rcases pb with h1|h1
     ·rw[if_pos h1];omega
     ·rw[if_neg fun h2=>Rg.2.2 (h2.trans h1.symm)];omega
    have Qm:(cP bs e vt:Int)<(k:Int):=ai
    have OA:=ec (f:=iD) hq
    have Lj:=ec (f:=iD) Nb
    rw[fU]at OP
    have kM:=dW.up i xc
    rw[p4]at kM
    have ju:=dW.lo vt Nb
    have I5:IntKind.i64.wrap (iD vt+1)=iD vt+1:=bP ai
    rw[bt]at OA Lj
    generalize Af:cW bs e=b at *
    by_cases jP:iD (cP bs e vt)<0
    ·by_cases fV:0<fN bs f e (cP bs e vt)
     ·have hV:=dW.visit ok xc (e:=e) he (by rw[p4];exact pb) (by rw[p4];exact jP) (by rw[p4];exact fV)
      rw[p4]at hV
      have eI:(ej iD k).set (cP bs e vt) (bt (iD vt+1))=ej (fun v=>if v=cP bs e vt then iD vt+1 else iD v) k:=kH hq (if_pos rfl) fun v _ hv=>if_neg hv
      rw[bt]at eI
      have e1:Q'.length+1<=16777216:=ai
      (repeat(first|((repeat(revert hN;revert N;apply Pn.out));refine wk (tw @jm (tw @c0 (tw @c5 (tw @c8 (tw @c9 (tw @c7 (tw @H9 (tw @xJ (tw @hx (tw @hA (tw @pV (tw @Og (tw @Lz (tw @iC (tw @nB (tw @pe (tw @Qm (tw @OA (tw @Lj (tw @jP (tw @fV (tw @I5 (tw @eI (tw @ON (tw @Pz (tw @zk (tw @lU (tw @x1 (tw @e1 (tw @eN.eq_1 (tw @aB.eq_1 @fU.eq_1))))))))))))))))))))))))))))))) ?_;(repeat(refine Pn.mk ?_;intro N hN)))|((try apply Or.inl);refine⟨_,aq.x (OP) (sd (tw @jm (tw @c0 (tw @c5 (tw @c8 (tw @c9 (tw @c7 (tw @H9 (tw @xJ (tw @hx (tw @hA (tw @pV (tw @Og (tw @Lz (tw @iC (tw @nB (tw @pe (tw @Qm (tw @OA (tw @Lj (tw @jP (tw @fV (tw @I5 (tw @eI (tw @ON (tw @Pz (tw @zk (tw @lU (tw @x1 (tw @e1 (tw @eN.eq_1 (tw @aB.eq_1 @fU.eq_1)))))))))))))))))))))))))))))))),?_⟩;refine hN _ _ ?_;clear hN N)))
      exact gW (sd (tw @jm (tw @c0 (tw @c5 (tw @c8 @c9))))) (⟨_,Q'++[cP bs e vt],⟨253020003,st_c.next+1+1+1+1+1+1⟩,by rw[List.length_append];simp only[go_sem, ↓reduceIte,Nat.reduceEqDiff,Nat.reduceAdd,Nat.reduceSub,Nat.reduceLeDiff,reduceCtorEq,List.length_cons,List.length_nil],by rw[List.map_append,List.map_cons,List.map_nil];simp only[go_sem, ↓reduceIte,Nat.reduceEqDiff,Nat.reduceAdd,Nat.reduceSub,Nat.reduceLeDiff,reduceCtorEq,eN],sd (tw @lU @x1),bK,bK,hV,⟨by simp;omega,by rw[List.getElem_append_left xc];exact p4⟩,fun z hz hr=>by
       by_cases RM:z=x
       ·subst RM
        rw[<-SV,if_pos rfl]
        have:=(dW.iff vt Nb).2 (by rw[<-p4];exact List.getElem_mem xc)
        omega
       ·have:=KC z ai hr
        split
        ·have:=(dW.iff vt Nb).2 (by rw[<-p4];exact List.getElem_mem xc)
         omega
        ·exact this⟩)
     ·(repeat(first|((repeat(revert hN;revert N;apply Pn.out));refine wk (tw @jm (tw @c0 (tw @c5 (tw @c8 (tw @c9 (tw @c7 (tw @H9 (tw @xJ (tw @hx (tw @hA (tw @pV (tw @Og (tw @Lz (tw @iC (tw @nB (tw @pe (tw @Qm (tw @OA (tw @jP (tw @fV (tw @Pz (tw @zk (tw @lU (tw @x1 (tw @eN.eq_1 (tw @aB.eq_1 @fU.eq_1)))))))))))))))))))))))))) ?_;(repeat(refine Pn.mk ?_;intro N hN)))|((try apply Or.inl);refine⟨_,aq.x (OP) (sd (tw @jm (tw @c0 (tw @c5 (tw @c8 (tw @c9 (tw @c7 (tw @H9 (tw @xJ (tw @hx (tw @hA (tw @pV (tw @Og (tw @Lz (tw @iC (tw @nB (tw @pe (tw @Qm (tw @OA (tw @jP (tw @fV (tw @Pz (tw @zk (tw @lU (tw @x1 (tw @eN.eq_1 (tw @aB.eq_1 @fU.eq_1))))))))))))))))))))))))))),?_⟩;refine hN _ _ ?_;clear hN N)))
      exact gW (sd (tw @jm (tw @c0 (tw @c5 (tw @c8 @c9))))) (⟨iD,Q',p',sd @c7,sd (tw @H9 @zk),sd (tw @xJ @lU),Dv,bK,dW,⟨xc,p4⟩,fun z hz hr=>by
       by_cases RM:z=x
       ·subst RM;rw[<-SV]at hr;exact absurd hr fV
       ·exact KC z ai hr⟩)
    ·(repeat(first|((repeat(revert hN;revert N;apply Pn.out));refine wk (tw @jm (tw @c0 (tw @c5 (tw @c8 (tw @c9 (tw @c7 (tw @H9 (tw @xJ (tw @hx (tw @hA (tw @pV (tw @Og (tw @Lz (tw @iC (tw @nB (tw @pe (tw @Qm (tw @OA (tw @jP (tw @Pz (tw @zk (tw @lU (tw @x1 (tw @eN.eq_1 (tw @aB.eq_1 @fU.eq_1))))))))))))))))))))))))) ?_;(repeat(refine Pn.mk ?_;intro N hN)))|((try apply Or.inl);refine⟨_,aq.x (OP) (sd (tw @jm (tw @c0 (tw @c5 (tw @c8 (tw @c9 (tw @c7 (tw @H9 (tw @xJ (tw @hx (tw @hA (tw @pV (tw @Og (tw @Lz (tw @iC (tw @nB (tw @pe (tw @Qm (tw @OA (tw @jP (tw @Pz (tw @zk (tw @lU (tw @x1 (tw @eN.eq_1 (tw @aB.eq_1 @fU.eq_1)))))))))))))))))))))))))),?_⟩;refine hN _ _ ?_;clear hN N)))
     exact gW (sd (tw @jm (tw @c0 (tw @c5 (tw @c8 @c9))))) (⟨iD,Q',p',sd @c7,sd (tw @H9 @zk),sd (tw @xJ @lU),Dv,bK,dW,⟨xc,p4⟩,fun z hz hr=>by
      by_cases RM:z=x
      ·subst RM;rw[<-SV];omega
      ·exact KC z ai hr⟩)
   ·have hxe:x=I.length:=ai
    have hw:IntKind.i64.wrap ((i:Int)+1)=((i+1:Nat):Int):=aI ai
    (try((repeat(revert hN;revert N;apply Pn.out));refine wk (tw @jm (tw @c0 (tw @c5 (tw @c8 (tw @c9 (tw @c7 (tw @hx (tw @hA (tw @pV (tw @Lz @fU.eq_1)))))))))) ?_;(repeat(refine Pn.mk ?_;intro N hN))))
    refine⟨_,?_,i+1,iD,Q',p',rfl,sd (tw @jm (tw @c0 (tw @c5 (tw @c8 (tw @c9 @hw))))),sd @c7,sd @H9,sd @xJ,Dv,bK,dW.next xc fun e he hr=>?_,ai⟩
    ·omega
    ·rw[p4,hIn]at he
     rw[p4]at hr ⊢
     obtain⟨z,hz,rfl⟩:=Qh e he
     exact KC z ai hr
 ·(try((repeat(revert hN;revert N;apply Pn.out));refine wk (tw @b0 (tw @b5 (tw @b7 (tw @b8 (tw @hi @fU.eq_1))))) ?_;(repeat(refine Pn.mk ?_;intro N hN))))
  have r4:gq st_b.get 6 (.own o 0 k)=some (.sl (ej out k)):=qE bgo (by rw[To];omega) (by rw[List.drop_zero,List.take_of_length_le (by rw[To];omega)];exact J6)
  exact⟨_,rfl,_,by simp only[go_sem, ↓reduceIte,Nat.reduceEqDiff,Nat.reduceAdd,Nat.reduceSub,Nat.reduceLeDiff,reduceCtorEq,eX];exact r4,out,rfl,hB.done ok ai⟩
end Go.Proofs.YtgoljkjaameagaaGreat.V

namespace Go.Proofs.YtgoljkjaameagaaGreat.V
open Go.RowKit
attribute [local irreducible] dQ wpOps ft Call
attribute [local go_sem] aA eV ef e9 e8 cZ upd bQ K.av cr AV.cells AV.cell rowOf rowsOf part ld rowAt bD bL dm dD fE bu cK dO fa eF db dH cI cH dw dx bz aQ cz bx cD cC dF dI dG cw bC cJ dE bw az cF bZ fD bj cq bB aJ cX aX dn AV.undef bp br dy dC du dz cm dM dP bU dK dJ cE cG List.getD_cons_zero List.getD_cons_succ List.getD_nil List.all_cons List.all_nil Bool.and_true Bool.true_and Bool.and_self Bool.not_true Bool.not_false Option.map_some Option.map_none Option.bind_some Option.bind_none List.length_cons List.length_nil List.take_succ_cons List.take_zero List.take_nil List.drop_succ_cons List.drop_zero List.drop_nil List.head?_cons List.map_cons List.map_nil List.getElem?_cons_zero List.getElem?_cons_succ List.cons_append List.nil_append List.append_nil List.length_map List.set_cons_zero List.set_cons_succ eq_self Int.toNat_natCast Int.natCast_nonneg and_self true_and and_true decide_true decide_false Bool.false_eq_true Nat.zero_add Nat.add_zero List.contains_cons List.contains_nil Bool.or_false Bool.false_or beq_self_eq_true ne_eq not_true_eq_false not_false_eq_true Id.mk.injEq false_and and_false Nat.le_refl List.length_append beq_true beq_false Bool.not_eq_eq_eq_not or_false false_or dR ab aj ay bo bJ aD aV aH aU cu bq
def P0:Cv (List Nat):=fun g cs x ids=>(x=[]/\cs=[.bS]/\ids=[])∨∃id,cs=[.own id 0 x.length]/\0<x.length/\g id=some ⟨true,1,x.map eN⟩/\ids=[id]
theorem Nj:wO P0 1 where
 frame:=fun h hf=>by
  rcases h with h|⟨id,h1,h0,h2,h3⟩
  ·exact .inl h
  ·subst h3;exact .inr ⟨id,h1,h0,(hf id (by simp)).trans h2,rfl⟩
 len:=fun h=>by rcases h with⟨_,h,_⟩|⟨id,h,_⟩<;>subst h<;>rfl
 cell:=fun h=>by rcases h with⟨_,h,_⟩|⟨id,h,_⟩<;>subst h<;>rfl
 live:=fun h i hi=>by
  rcases h with⟨_,_,h⟩|⟨id,h1,h0,h2,h3⟩
  ·subst h;cases hi
  ·subst h3
   have:i=id:=by simpa using hi
   subst this
   exact⟨_,h2,rfl,by simp[tC]⟩
 small:=by simp[tC]
theorem Pa {g:Rows} {rows:List (List AV)} {xs:List (List Nat)} {ids:List Id} (n:Nat) (h:eH P0 g rows xs ids):ew (dR g) (n+2) rows=some (xs.map fun l=>[Pu l]):=
 h.fz (fun {cs x ids} h=>by
  rcases h with⟨h0,h1,_⟩|⟨id,h1,h0,h2,_⟩
  ·subst h0 h1;rw[ab,aj,aD];rfl
  ·have gP:x≠[]:=by rintro rfl;simp at h0
   subst h1
   rw[ab,aj,gr (e:=eN) (sz:=1) (by simp[dR,h2]) rfl fun a=>SD _ n a]
   simp[Pu,gP])
theorem eH.R5 {α:Type} {R:Cv α} {sz:Nat} {g:Rows} {rows:List (List AV)} {xs:List α} {ids:List Id} (ok:wO R sz) (h:eH R g rows xs ids) (lu:ids.Nodup) (k:Nat) (hk:k<xs.length):
  ∃cs ic,rows[k]? =some cs/\R g cs xs[k] ic/\(∀i∈ic,i∈ids)/\∀(g':Rows) lH x' Qu,R g' lH x' Qu->(∀i∈ids,i∉ic->g' i=g i)->Qu.Nodup->(∀i∈Qu,i∉ids)->∃DE,eH R g' (rows.set k lH) (xs.set k x') DE/\DE.Nodup/\∀i∈DE,i∈Qu∨i∈ids:=by
 obtain⟨r1,cs,r2,i1,ic,i2,rfl,rfl,rfl,h3,h4,h5⟩:=h.split k hk
 obtain⟨n1,n2,n3⟩:=List.nodup_append.1 lu
 obtain⟨nc,n5,n4⟩:=List.nodup_append.1 n2
 refine⟨cs,ic,by simp,h4,fun i hi=>by simp[hi],fun g' lH x' Qu hR hf hn' jY=>⟨i1++(Qu++i2),?_,?_,fun i hi=>?_⟩⟩
 ·have e:xs.set r1.length x'=xs.take r1.length++x'::xs.drop (r1.length+1):=by rw[List.set_eq_take_append_cons_drop,if_pos hk]
  have e2:(r1++cs::r2).set r1.length lH=r1++lH::r2:=by simp
  rw[e,e2]
  refine(h3.frame ok fun i hi=>hf i (by simp[hi]) fun hc=>n3 i hi i (by simp[hc]) rfl).app (.cons hR (h5.frame ok fun i hi=>hf i (by simp[hi]) fun hc=>n4 i hc i hi rfl))
 ·rw[List.nodup_append,List.nodup_append]
  refine⟨n1,⟨hn',n5,fun x hx y hy he=>?_⟩,fun x hx y hy he=>?_⟩
  ·subst he;exact jY x hx (by simp[hy])
  ·subst he
   rcases List.mem_append.1 hy with hy|hy
   ·exact jY x hy (by simp[hx])
   ·exact n3 x hx x (by simp[hy]) rfl
 ·rcases List.mem_append.1 hi with hi|hi
  ·exact .inr (by simp[hi])
  ·rcases List.mem_append.1 hi with hi|hi
   ·exact .inl hi
   ·exact .inr (by simp[hi])
def qk (A:Id) (lo:Nat) (L:List (List Nat)) (g:Rows) (nx:Nat):Prop:=∃rows ids,g A=some ⟨true,1,rows⟩/\eH P0 g rows L ids/\ids.Nodup/\∀i∈ids,lo<i.cV/\i.cV<nx
def ck (cnt:Nat) (bs:List PB) (A F:Id):List AV:=[.int .i64 cnt,.sl (bs.map aB),.own A 0 cnt,.own F 0 bs.length]
def kQ (cnt:Nat) (bs:List PB) (m:Nat):List (List Nat):=(List.range cnt).map fun v=>iI bs m v
theorem jc (cnt:Nat) (bs:List PB) (m:Nat):(kQ cnt bs m).length=cnt:=by simp[kQ]
structure nF (cnt:Nat) (bs:List PB) (f:Nat->Int) (X A F:Id) (g:Rows) (nx:Nat):Prop where
 x:g X=some ⟨true,4,[ck cnt bs A F]⟩
 a:qk A F.cV (kQ cnt bs bs.length) g nx
 f:g F=some ⟨true,1,ej f bs.length⟩
 xa:X.cV<A.cV
 af:A.cV<F.cV
 fn:F.cV<nx
theorem qk.fz {A:Id} {lo cnt:Nat} {bs:List PB} {m nx n:Nat} {g:Rows} (h:qk A lo (kQ cnt bs m) g nx):V.fz (dR g) (n+3) (.own A 0 cnt)=some (.sl (pG cnt bs m)):=by
 obtain⟨rows,ids,h1,h2,_,_⟩:=h
 have hl:=h2.len
 rw[jc]at hl
 rw[gV]
 simp only[dR,h1,Option.map_some,if_true]
 rw[if_pos ai,List.drop_zero,List.take_of_length_le ai]
 have:=Pa n h2
 rw[this]
 simp[kQ,pG]
theorem nF.fz {cnt:Nat} {bs:List PB} {f:Nat->Int} {X A F:Id} {g:Rows} {nx:Nat} (h:nF cnt bs f X A F g nx):V.fz (dR g) 6 (.ptr X 0 0)=some (.dt (fU cnt bs f)):=by
 have hF:dR g F=some ⟨true,1,ej f bs.length⟩:=by simp[dR,h.f]
 have hX:dR g X=some ⟨true,4,[ck cnt bs A F]⟩:=by simp[dR,h.x]
 have hf:V.fz (dR g) 5 (.own F 0 bs.length)=some (.sl (ej f bs.length)):=by
  rw[gV]
  simp only[hF,if_true]
  rw[if_pos (by rw[dY];omega),List.drop_zero,List.take_of_length_le (by rw[dY];omega),zS];rfl
 have ha:=h.a.fz (n:=2)
 rw[aU]
 simp only[hX,if_true,List.getElem?_cons_zero,List.drop_zero,ck,ab,aj,ay,bJ,ha,hf,Option.map_some,fU]
theorem Gv (cnt:Nat) (bs:List PB):kQ cnt bs 0=List.replicate cnt []:=by
 refine List.ext_getElem? fun i=>?_
 simp only[kQ,List.getElem?_map,List.getElem?_replicate]
 by_cases h:i<cnt
 ·rw[List.getElem?_range h,if_pos h];rfl
 ·rw[List.getElem?_eq_none (by simpa using h),if_neg h];rfl
theorem yC (g:Rows):∀n:Nat,eH P0 g (List.replicate n [.bS]) (List.replicate n []) []
 |0=>.nil
 |n+1=>.cons (i1:=[]) (.inl ⟨rfl,rfl,rfl⟩) (yC g n)
def xi (cnt:Nat) (bs:List PB) (m:Nat):List (List Nat):=(kQ cnt bs m).set (cW bs m).a (iI bs m (cW bs m).a++[m])
theorem Bw {cnt:Nat} {bs:List PB} {m v:Nat} (hv:v<cnt) (gP:(cW bs m).a≠v):(xi cnt bs m)[v]? =some (iI bs m v):=by
 unfold xi
 rw[List.getElem?_set_ne gP]
 simp[kQ,hv]
theorem Gu {cnt:Nat} {bs:List PB} {m:Nat} (ha:(cW bs m).a<cnt) (hb:(cW bs m).b<cnt) (gP:(cW bs m).a≠(cW bs m).b):(xi cnt bs m).set (cW bs m).b (iI bs m (cW bs m).b++[m])=kQ cnt bs (m+1):=by
 refine List.ext_getElem? fun i=>?_
 by_cases hi:i<cnt
 ·have hr:(kQ cnt bs (m+1))[i]? =some (iI bs (m+1) i):=by simp[kQ,hi]
  rw[hr,Gw]
  by_cases h1:(cW bs m).b=i
  ·rw[List.getElem?_set,if_pos h1,if_pos (by simp[xi,jc];omega),if_pos (.inr h1),h1]
  ·rw[List.getElem?_set_ne h1]
   by_cases h2:(cW bs m).a=i
   ·unfold xi
    rw[List.getElem?_set,if_pos h2,if_pos (by rw[jc];omega),if_pos (.inl h2),h2]
   ·rw[Bw hi h2,if_neg (fun h=>h.elim h2 h1),List.append_nil]
 ·rw[List.getElem?_eq_none (by simp[xi,jc];omega),List.getElem?_eq_none (by rw[jc];omega)]
theorem kp {α:Type} {l:List α} {k:Nat} {x:α} (h:l[k]? =some x) (hk:k<l.length):l[k]=x:=by
 rw[List.getElem?_eq_getElem hk]at h;exact Option.some.inj h
theorem Fv {A K:Id} {lo RZ nx k j:Nat} {L:List (List Nat)} {La:List Nat} {g:Rows} {rows:List (List AV)} {ids:List Id} (hR:eH P0 g rows L ids) (lu:ids.Nodup) (ny:∀i∈ids,lo<i.cV/\i.cV<RZ) (hA:A.cV<=lo) (hL:L[k]? =some La) (hK1:RZ<=K.cV) (Ou:K.cV<nx) (ju:lo<RZ):
  ∃cs,rows[k]? =some cs/\((La=[]/\cs=[.bS])∨∃id:Id,cs=[.own id 0 La.length]/\0<La.length/\g id=some ⟨true,1,La.map eN⟩/\id.cV<RZ/\lo<id.cV)/\
   ∀g':Rows,g' A=some ⟨true,1,rows.set k [.own K 0 (La.length+1)]⟩->g' K=some ⟨true,1,La.map eN++[[.int .i64 j]]⟩->(∀i:Id,i.cV<RZ->(i=A)=False->(∀id,cs=[.own id 0 La.length]->(i=id)=False)->g' i=g i)->qk A lo (L.set k (La++[j])) g' nx:=by
 have hk:k<L.length:=(List.getElem?_eq_some_iff.1 hL).1
 have Uj:=kp hL hk
 obtain⟨cs,ic,dS,Qa,Rn,uT⟩:=hR.R5 Nj lu k hk
 rw[Uj]at Qa
 refine⟨cs,dS,?_,fun g' h1 h2 h3=>?_⟩
 ·rcases Qa with⟨h1,h2,_⟩|⟨id,h1,h2,h3,h4⟩
  ·exact .inl ⟨h1,h2⟩
  ·subst h4
   have:=ny id (Rn id (by simp))
   exact .inr ⟨id,h1,h2,h3,this.2,this.1⟩
 ·obtain⟨DE,q1,q2,q3⟩:=uT g' [.own K 0 (La.length+1)] (La++[j]) [K] (.inr ⟨K,by simp,by simp,by rw[h2];simp[eN],rfl⟩) (fun i hi S9=>by
   refine h3 i (ny i hi).2 ?_ fun id hid=>?_
   ·simp only[eq_iff_iff,iff_false];rintro rfl;have:=ny _ hi;omega
   ·simp only[eq_iff_iff,iff_false]
    rintro rfl
    rcases Qa with⟨_,h4,_⟩|⟨jG,h4,_,_,h5⟩
    ·rw[hid]at h4;cases h4
    ·rw[hid]at h4
     simp only[List.cons.injEq,AV.own.injEq,and_true]at h4
     rw[h5,h4]at S9
     exact S9 (by simp)) (by simp) fun i hi hc=>by
   rw[List.mem_singleton.1 hi]at hc;have:=ny _ hc;omega
  refine⟨_,DE,h1,q1,q2,fun i hi=>?_⟩
  rcases q3 i hi with h|h
  ·rw[List.mem_singleton.1 h];omega
  ·have:=ny i h;omega
theorem Mw {P:Program} {Q:Ex->Env->au->Prop} {c:VC} {env:Env} {σ:au} (I:Env->au->Prop) (h2:∀e s,I e s->Q .normal e s) (h1:∀N':Env->au->Prop,(∀e s,I e s->N' e s)->dQ (Call P) c (cX N' Q) env σ):dQ (Call P) c Q env σ:=by
 refine jk (fun _ _ _ _ h=>h) aY c _ _ env σ (fun x e s h=>?_) (h1 I fun _ _ h=>h)
 cases x with
 |normal=>exact h2 e s h
 |exit id=>exact h
 |ret=>exact h
end Go.Proofs.YtgoljkjaameagaaGreat.V

namespace Go.Proofs.YtgoljkjaameagaaGreat.V
open Go.RowKit
attribute [local irreducible] dQ wpOps ft Call
attribute [local go_sem] aA eV ef e9 e8 cZ upd bQ K.av cr AV.cells AV.cell rowOf rowsOf part ld rowAt bD bL dm dD fE bu cK dO fa eF db dH cI cH dw dx bz aQ cz bx cD cC dF dI dG cw bC cJ dE bw az cF bZ fD bj cq bB aJ cX aX dn AV.undef bp br dy dC du dz cm dM dP bU dK dJ cE cG List.getD_cons_zero List.getD_cons_succ List.getD_nil List.all_cons List.all_nil Bool.and_true Bool.true_and Bool.and_self Bool.not_true Bool.not_false Option.map_some Option.map_none Option.bind_some Option.bind_none List.length_cons List.length_nil List.take_succ_cons List.take_zero List.take_nil List.drop_succ_cons List.drop_zero List.drop_nil List.head?_cons List.map_cons List.map_nil List.getElem?_cons_zero List.getElem?_cons_succ List.cons_append List.nil_append List.append_nil List.length_map List.set_cons_zero List.set_cons_succ Nat.reduceMul eq_self Int.toNat_natCast Int.natCast_nonneg and_self true_and and_true decide_true decide_false Bool.false_eq_true Nat.zero_add Nat.add_zero List.contains_cons List.contains_nil Bool.or_false Bool.false_or beq_self_eq_true Nat.reduceBEq ne_eq not_true_eq_false not_false_eq_true Id.mk.injEq false_and and_false Nat.reduceLT Int.reduceLE Int.reduceLT Int.reduceToNat Int.reduceNeg Int.reduceAdd Nat.le_refl List.length_append beq_true beq_false Bool.not_eq_eq_eq_not or_false false_or dR ab aj ay bo bJ aD aV aH aU cu bq
theorem Jb (cnt:Nat) (hn:cnt<=1048576) (bs:List PB) (ok:mO cnt bs) (pq:bs.length<=1048576) (σ:au):
  Call Tryz.prog 251 [.int .i64 cnt,.sl (bs.map aB)] σ fun r σ'=>∃X A F,r=.ptr X 0 0/\σ.next<=X.cV/\nF cnt bs (fun _=>0) X A F σ'.get σ'.next:=by
 refine HF NO rfl fun hl=>?_
 try simp only[q]
 clear hl
 have jt:(0:Int)<=(cnt:Int):=ai
 have pr:(cnt:Int)<=((16777216:Nat):Int):=ai
 have Q4:(0:Int)<=(bs.length:Int):=ai
 have Kt:(bs.length:Int)<=((16777216:Nat):Int):=ai
 have hz:List.replicate bs.length [AV.int .i64 0]=ej (fun _=>0) bs.length:=by
  refine List.ext_getElem? fun i=>?_
  by_cases h:i<bs.length
  ·rw[ec h,List.getElem?_replicate,if_pos h];rfl
  ·rw[List.getElem?_eq_none (by simp;omega),List.getElem?_eq_none (by rw[dY];omega)]
 (try((repeat(revert hN;revert N;apply Pn.out));refine wk (tw @jt (tw @pr (tw @Q4 (tw @Kt (tw @Int.le_refl @hz))))) ?_;(repeat(refine Pn.mk ?_;intro N hN))))
 obtain⟨X,hX⟩:∃X:Id,X=⟨251001003,σ.next+1⟩:=⟨_,rfl⟩
 obtain⟨A,hA⟩:∃X:Id,X=⟨251002002,σ.next+1+1⟩:=⟨_,rfl⟩
 obtain⟨F,hF⟩:∃X:Id,X=⟨251003003,σ.next+1+1+1⟩:=⟨_,rfl⟩
 have hXA:X.cV<A.cV:=by rw[hX,hA];(try dsimp only);omega
 have hAF:A.cV<F.cV:=by rw[hA,hF];(try dsimp only);omega
 have hXs:σ.next<=X.cV:=by rw[hX];(try dsimp only);omega
 refine bF (fun n env st=>∃j:Nat,n=(bs.length)-j/\j<=(bs.length)/\env 6=.int .i64 (j:Int)/\env 5=(.ptr X 0 0)/\st.get X=some ⟨true,4,[ck cnt bs A F]⟩/\st.get F=some ⟨true,1,ej (fun _=>0) bs.length⟩/\(qk A F.cV (kQ cnt bs j) st.get st.next/\F.cV<st.next)) (bs.length) ⟨0,ai,ai,by(try simp only[go_sem, ↓reduceIte,Nat.reduceEqDiff,Nat.reduceAdd,Nat.reduceSub,Nat.reduceLeDiff,reduceCtorEq,hX,hF,hA,ck,hz]);try rfl,by(try simp only[go_sem, ↓reduceIte,Nat.reduceEqDiff,Nat.reduceAdd,Nat.reduceSub,Nat.reduceLeDiff,reduceCtorEq,hX,hF,hA,ck,hz]);try rfl,by(try simp only[go_sem, ↓reduceIte,Nat.reduceEqDiff,Nat.reduceAdd,Nat.reduceSub,Nat.reduceLeDiff,reduceCtorEq,hX,hF,hA,ck,hz]);try rfl,by(try simp only[go_sem, ↓reduceIte,Nat.reduceEqDiff,Nat.reduceAdd,Nat.reduceSub,Nat.reduceLeDiff,reduceCtorEq,hX,hF,hA,ck,hz]);try rfl,⟨⟨List.replicate cnt [.bS],[],by rw[hA];(simp only[go_sem, ↓reduceIte,Nat.reduceEqDiff,Nat.reduceAdd,Nat.reduceSub,Nat.reduceLeDiff,reduceCtorEq])<;>rfl,by rw[Gv];exact yC _ _,List.nodup_nil,fun i hi=>by cases hi⟩,by rw[hF];(try dsimp only);omega⟩⟩ ?_
 rintro n_a env_a st_a ⟨j,rfl,ale,a6,a5,ag0,ag1,lL⟩ ev
 have a0:=ev 0 (by kernel_rfl);have a1:=ev 1 (by kernel_rfl)
 simp only[go_sem, ↓reduceIte,Nat.reduceEqDiff,Nat.reduceAdd,Nat.reduceSub,Nat.reduceLeDiff,reduceCtorEq,hX,hF,hA,ck,hz]at a0 a1
 clear ev
 obtain⟨⟨rows,ids,ag,hR,lu,ny⟩,hFn⟩:=lL
 have x1:=dr hXA
 have x2:=dr hAF
 have x3:=dr (a:=X) (b:=F) ai
 have vX:=eL (i:=X) (n:=st_a.next) ai
 have vA:=eL (i:=A) (n:=st_a.next) ai
 have vF:=eL (i:=F) (n:=st_a.next) ai
 by_cases hj:(j:Int)<(bs.length:Int)
 ·have cY:∀{e:Env} {gg:Rows} {nx:Nat},(e 6=.int .i64 (IntKind.i64.wrap ((j:Int)+1)))->(e 5=(.ptr X 0 0))->(gg X=some ⟨true,4,[ck cnt bs A F]⟩)->(gg F=some ⟨true,1,ej (fun _=>0) bs.length⟩)->(qk A F.cV (kQ cnt bs (j+1)) gg nx/\F.cV<nx)->∃m0,m0<(bs.length)-j/\∃j:Nat,m0=(bs.length)-j/\j<=(bs.length)/\e 6=.int .i64 (j:Int)/\e 5=(.ptr X 0 0)/\gg X=some ⟨true,4,[ck cnt bs A F]⟩/\gg F=some ⟨true,1,ej (fun _=>0) bs.length⟩/\(qk A F.cV (kQ cnt bs j) gg nx/\F.cV<nx):=fun x1 x2 x3 x4 x5=>⟨_,ai,j+1,rfl,ai,(by rw[x1,aI ai]),x2,x3,x4,x5⟩
  have hZ:j<bs.length:=ai
  have iC:=tG hZ
  obtain⟨ha1,Q5,gP⟩:=ok j hZ
  have gG:((cW bs j).a:Int)<(cnt:Int):=ai
  have fW:((cW bs j).b:Int)<(cnt:Int):=ai
  have xd:=Gu (m:=j) ha1 Q5 gP
  have e1:=qL bs j (cW bs j).a
  have e2:=qL bs j (cW bs j).b
  have Rl:(xi cnt bs j)[(cW bs j).b]? =some (iI bs j (cW bs j).b):=Bw Q5 gP
  have Rk:(kQ cnt bs j)[(cW bs j).a]? =some (iI bs j (cW bs j).a):=by simp[kQ,ha1]
  have TY:xi cnt bs j=(kQ cnt bs j).set (cW bs j).a (iI bs j (cW bs j).a++[j]):=rfl
  have SO:(xi cnt bs j).length=cnt:=by rw[TY,List.length_set,jc]
  have iR:=hR.len
  rw[jc]at iR
  obtain⟨cs7,ja,IB,IS⟩:=Fv (A:=A) (K:=⟨251007022,st_a.next+1⟩) (nx:=st_a.next+1+1) (j:=j) hR lu ny ai Rk bK bK hFn
  rw[<-TY]at IS
  obtain⟨c7,rfl⟩:∃c,cs7=[c]:=by
   rcases IB with⟨_,h⟩|⟨id,h,_⟩<;>exact⟨_,h⟩
  generalize iI bs j (cW bs j).a=La at *
  generalize iI bs j (cW bs j).b=Lb at *
  generalize cW bs j=b at *
  generalize xi cnt bs j=LA at *
  clear TY
  (try((repeat(revert hN;revert N;apply Pn.out));refine wk (tw @a6 (tw @a5 (tw @ag0 (tw @ag1 (tw @a0 (tw @a1 (tw @hj (tw @iC (tw @aB.eq_1 (tw @ag (tw @ja (tw @gG (tw @fW (tw @iR (tw @x1 (tw @x2 (tw @x3 (tw @vX (tw @vA (tw @vF @ck.eq_1)))))))))))))))))))) ?_;(repeat(refine Pn.mk ?_;intro N hN))))
  refine Kj (fun e s=>e 0=.int .i64 cnt/\e 1=.sl (bs.map aB)/\e 5=.ptr X 0 0/\e 6=.int .i64 j/\s.get X=some ⟨true,4,[ck cnt bs A F]⟩/\s.get F=some ⟨true,1,ej (fun _=>0) bs.length⟩/\qk A F.cV LA s.get s.next/\F.cV<s.next) ?_ ?_
  ·rintro e1 s1 ⟨m0,m1,m5,m6,mX,mF,⟨rows1,ids1,mg,mR,mnd,mver⟩,mn⟩
   refine hN _ _ ?_
   clear hN N
   have iS:=mR.len
   rw[SO]at iS
   have wX:=eL (i:=X) (n:=s1.next) ai
   have wA:=eL (i:=A) (n:=s1.next) ai
   have wF:=eL (i:=F) (n:=s1.next) ai
   obtain⟨cs8,jb,IC,IT⟩:=Fv (A:=A) (K:=⟨251008022,s1.next⟩) (nx:=s1.next+1) (j:=j) mR mnd mver ai Rl bK bK mn
   rw[xd]at IT
   obtain⟨c8,rfl⟩:∃c,cs8=[c]:=by
    rcases IC with⟨_,h⟩|⟨id,h,_⟩<;>exact⟨_,h⟩
   (try((repeat(revert hN;revert N;apply Pn.out));refine wk (tw @m0 (tw @m1 (tw @m5 (tw @m6 (tw @mX (tw @mF (tw @hj (tw @iC (tw @aB.eq_1 (tw @mg (tw @jb (tw @gG (tw @fW (tw @iS (tw @x1 (tw @x2 (tw @x3 (tw @wX (tw @wA (tw @wF @ck.eq_1)))))))))))))))))))) ?_;(repeat(refine Pn.mk ?_;intro N hN))))
   refine Mw (fun e s=>e 0=.int .i64 cnt/\e 1=.sl (bs.map aB)/\e 5=.ptr X 0 0/\e 6=.int .i64 j/\s.get X=some ⟨true,4,[ck cnt bs A F]⟩/\s.get F=some ⟨true,1,ej (fun _=>0) bs.length⟩/\qk A F.cV (kQ cnt bs (j+1)) s.get s.next/\F.cV<s.next) ?_ ?_
   ·rintro e2 s2 ⟨p0,p1,p5,p6,pX,pF,pL,pn⟩
    simp only[cX,aX]
    refine hN _ _ ?_
    clear hN N
    (try((repeat(revert hN;revert N;apply Pn.out));refine wk (tw @p0 (tw @p1 (tw @p5 @p6))) ?_;(repeat(refine Pn.mk ?_;intro N hN))))
    refine cY ?_ ?_ ?_ ?_ (⟨by obtain⟨r,i,q1,q2,q3,q4⟩:=pL;exact⟨r,i,sd @q1,q2,q3,fun x hx=>by have:=q4 x hx;(try dsimp only);omega⟩,bK⟩)
    all_goals simp only[go_sem, ↓reduceIte,Nat.reduceEqDiff,Nat.reduceAdd,Nat.reduceSub,Nat.reduceLeDiff,reduceCtorEq,p0,p1,p5,p6,pX,pF]
   ·intro N hN
    rcases IC with⟨QY,zb⟩|⟨id,zb,hLp,hid,Lk,xT⟩
    ·simp only[List.cons.injEq,and_true]at zb
     subst zb
     subst QY
     refine fm ?_ ?_<;>(try((repeat(revert hN;revert N;apply Pn.out));refine wk (tw @m0 (tw @m1 (tw @m5 (tw @m6 (tw @mX (tw @mF (tw @hj (tw @iC (tw @aB.eq_1 (tw @mg (tw @jb (tw @gG (tw @fW (tw @iS (tw @x1 (tw @x2 (tw @x3 (tw @wX (tw @wA (tw @wF @ck.eq_1)))))))))))))))))))) ?_;(repeat(refine Pn.mk ?_;intro N hN))))<;>(try refine fm ?_ ?_)<;>(try((repeat(revert hN;revert N;apply Pn.out));refine wk (tw @m0 (tw @m1 (tw @m5 (tw @m6 (tw @mX (tw @mF (tw @hj (tw @iC (tw @aB.eq_1 (tw @mg (tw @jb (tw @gG (tw @fW (tw @iS (tw @x1 (tw @x2 (tw @x3 (tw @wX (tw @wA (tw @wF @ck.eq_1)))))))))))))))))))) ?_;(repeat(refine Pn.mk ?_;intro N hN))))<;>(try refine fm ?_ ?_)<;>(try((repeat(revert hN;revert N;apply Pn.out));refine wk (tw @m0 (tw @m1 (tw @m5 (tw @m6 (tw @mX (tw @mF (tw @hj (tw @iC (tw @aB.eq_1 (tw @mg (tw @jb (tw @gG (tw @fW (tw @iS (tw @x1 (tw @x2 (tw @x3 (tw @wX (tw @wA (tw @wF @ck.eq_1)))))))))))))))))))) ?_;(repeat(refine Pn.mk ?_;intro N hN))))<;>(try refine fm ?_ ?_)<;>(try((repeat(revert hN;revert N;apply Pn.out));refine wk (tw @m0 (tw @m1 (tw @m5 (tw @m6 (tw @mX (tw @mF (tw @hj (tw @iC (tw @aB.eq_1 (tw @mg (tw @jb (tw @gG (tw @fW (tw @iS (tw @x1 (tw @x2 (tw @x3 (tw @wX (tw @wA (tw @wF @ck.eq_1)))))))))))))))))))) ?_;(repeat(refine Pn.mk ?_;intro N hN))))<;>(try refine fm ?_ ?_)<;>(try((repeat(revert hN;revert N;apply Pn.out));refine wk (tw @m0 (tw @m1 (tw @m5 (tw @m6 (tw @mX (tw @mF (tw @hj (tw @iC (tw @aB.eq_1 (tw @mg (tw @jb (tw @gG (tw @fW (tw @iS (tw @x1 (tw @x2 (tw @x3 (tw @wX (tw @wA (tw @wF @ck.eq_1)))))))))))))))))))) ?_;(repeat(refine Pn.mk ?_;intro N hN))))<;>(try refine fm ?_ ?_)<;>(try((repeat(revert hN;revert N;apply Pn.out));refine wk (tw @m0 (tw @m1 (tw @m5 (tw @m6 (tw @mX (tw @mF (tw @hj (tw @iC (tw @aB.eq_1 (tw @mg (tw @jb (tw @gG (tw @fW (tw @iS (tw @x1 (tw @x2 (tw @x3 (tw @wX (tw @wA (tw @wF @ck.eq_1)))))))))))))))))))) ?_;(repeat(refine Pn.mk ?_;intro N hN))))
     all_goals
      refine⟨by simp only[go_sem, ↓reduceIte,Nat.reduceEqDiff,Nat.reduceAdd,Nat.reduceSub,Nat.reduceLeDiff,reduceCtorEq,m0,m1,m5,m6,mX,mF,hj,iC,aB,mg,jb,gG,fW,iS,x1,x2,x3,wX,wA,wF,ck],by simp only[go_sem, ↓reduceIte,Nat.reduceEqDiff,Nat.reduceAdd,Nat.reduceSub,Nat.reduceLeDiff,reduceCtorEq,m0,m1,m5,m6,mX,mF,hj,iC,aB,mg,jb,gG,fW,iS,x1,x2,x3,wX,wA,wF,ck],by simp only[go_sem, ↓reduceIte,Nat.reduceEqDiff,Nat.reduceAdd,Nat.reduceSub,Nat.reduceLeDiff,reduceCtorEq,m0,m1,m5,m6,mX,mF,hj,iC,aB,mg,jb,gG,fW,iS,x1,x2,x3,wX,wA,wF,ck],by simp only[go_sem, ↓reduceIte,Nat.reduceEqDiff,Nat.reduceAdd,Nat.reduceSub,Nat.reduceLeDiff,reduceCtorEq,m0,m1,m5,m6,mX,mF,hj,iC,aB,mg,jb,gG,fW,iS,x1,x2,x3,wX,wA,wF,ck],by simp only[go_sem, ↓reduceIte,Nat.reduceEqDiff,Nat.reduceAdd,Nat.reduceSub,Nat.reduceLeDiff,reduceCtorEq,m0,m1,m5,m6,mX,mF,hj,iC,aB,mg,jb,gG,fW,iS,x1,x2,x3,wX,wA,wF,ck],by simp only[go_sem, ↓reduceIte,Nat.reduceEqDiff,Nat.reduceAdd,Nat.reduceSub,Nat.reduceLeDiff,reduceCtorEq,m0,m1,m5,m6,mX,mF,hj,iC,aB,mg,jb,gG,fW,iS,x1,x2,x3,wX,wA,wF,ck],IT _ (by simp only[go_sem, ↓reduceIte,Nat.reduceEqDiff,Nat.reduceAdd,Nat.reduceSub,Nat.reduceLeDiff,reduceCtorEq,m0,m1,m5,m6,mX,mF,hj,iC,aB,mg,jb,gG,fW,iS,x1,x2,x3,wX,wA,wF,ck,List.length_nil]) (by simp only[go_sem, ↓reduceIte,Nat.reduceEqDiff,Nat.reduceAdd,Nat.reduceSub,Nat.reduceLeDiff,reduceCtorEq,m0,m1,m5,m6,mX,mF,hj,iC,aB,mg,jb,gG,fW,iS,x1,x2,x3,wX,wA,wF,ck,List.map_nil,List.nil_append]) (fun i hi OC fP=>?_),bK⟩
      clear fP
      simp only[go_sem, ↓reduceIte,Nat.reduceEqDiff,Nat.reduceAdd,Nat.reduceSub,Nat.reduceLeDiff,reduceCtorEq,wX,wA,wF,eL hi,OC]
    ·simp only[List.cons.injEq,and_true]at zb
     subst zb
     have rD:=eL Lk
     have y1:=dr (a:=A) (b:=id) ai
     have y2:=dr (a:=F) (b:=id) xT
     have y3:=dr (a:=X) (b:=id) ai
     have e3:Lb.length+1<=16777216:=ai
     have z1:(Lb.map eN).length=Lb.length:=by simp
     refine fm ?_ ?_<;>(try((repeat(revert hN;revert N;apply Pn.out));refine wk (tw @m0 (tw @m1 (tw @m5 (tw @m6 (tw @mX (tw @mF (tw @hj (tw @iC (tw @aB.eq_1 (tw @mg (tw @jb (tw @gG (tw @fW (tw @iS (tw @x1 (tw @x2 (tw @x3 (tw @wX (tw @wA (tw @wF (tw @ck.eq_1 (tw @hid (tw @rD (tw @y1 (tw @y2 (tw @y3 (tw @e3 @z1))))))))))))))))))))))))))) ?_;(repeat(refine Pn.mk ?_;intro N hN))))<;>(try refine fm ?_ ?_)<;>(try((repeat(revert hN;revert N;apply Pn.out));refine wk (tw @m0 (tw @m1 (tw @m5 (tw @m6 (tw @mX (tw @mF (tw @hj (tw @iC (tw @aB.eq_1 (tw @mg (tw @jb (tw @gG (tw @fW (tw @iS (tw @x1 (tw @x2 (tw @x3 (tw @wX (tw @wA (tw @wF (tw @ck.eq_1 (tw @hid (tw @rD (tw @y1 (tw @y2 (tw @y3 (tw @e3 @z1))))))))))))))))))))))))))) ?_;(repeat(refine Pn.mk ?_;intro N hN))))<;>(try refine fm ?_ ?_)<;>(try((repeat(revert hN;revert N;apply Pn.out));refine wk (tw @m0 (tw @m1 (tw @m5 (tw @m6 (tw @mX (tw @mF (tw @hj (tw @iC (tw @aB.eq_1 (tw @mg (tw @jb (tw @gG (tw @fW (tw @iS (tw @x1 (tw @x2 (tw @x3 (tw @wX (tw @wA (tw @wF (tw @ck.eq_1 (tw @hid (tw @rD (tw @y1 (tw @y2 (tw @y3 (tw @e3 @z1))))))))))))))))))))))))))) ?_;(repeat(refine Pn.mk ?_;intro N hN))))<;>(try refine fm ?_ ?_)<;>(try((repeat(revert hN;revert N;apply Pn.out));refine wk (tw @m0 (tw @m1 (tw @m5 (tw @m6 (tw @mX (tw @mF (tw @hj (tw @iC (tw @aB.eq_1 (tw @mg (tw @jb (tw @gG (tw @fW (tw @iS (tw @x1 (tw @x2 (tw @x3 (tw @wX (tw @wA (tw @wF (tw @ck.eq_1 (tw @hid (tw @rD (tw @y1 (tw @y2 (tw @y3 (tw @e3 @z1))))))))))))))))))))))))))) ?_;(repeat(refine Pn.mk ?_;intro N hN))))<;>(try refine fm ?_ ?_)<;>(try((repeat(revert hN;revert N;apply Pn.out));refine wk (tw @m0 (tw @m1 (tw @m5 (tw @m6 (tw @mX (tw @mF (tw @hj (tw @iC (tw @aB.eq_1 (tw @mg (tw @jb (tw @gG (tw @fW (tw @iS (tw @x1 (tw @x2 (tw @x3 (tw @wX (tw @wA (tw @wF (tw @ck.eq_1 (tw @hid (tw @rD (tw @y1 (tw @y2 (tw @y3 (tw @e3 @z1))))))))))))))))))))))))))) ?_;(repeat(refine Pn.mk ?_;intro N hN))))<;>(try refine fm ?_ ?_)<;>(try((repeat(revert hN;revert N;apply Pn.out));refine wk (tw @m0 (tw @m1 (tw @m5 (tw @m6 (tw @mX (tw @mF (tw @hj (tw @iC (tw @aB.eq_1 (tw @mg (tw @jb (tw @gG (tw @fW (tw @iS (tw @x1 (tw @x2 (tw @x3 (tw @wX (tw @wA (tw @wF (tw @ck.eq_1 (tw @hid (tw @rD (tw @y1 (tw @y2 (tw @y3 (tw @e3 @z1))))))))))))))))))))))))))) ?_;(repeat(refine Pn.mk ?_;intro N hN))))
     all_goals
      refine⟨by simp only[go_sem, ↓reduceIte,Nat.reduceEqDiff,Nat.reduceAdd,Nat.reduceSub,Nat.reduceLeDiff,reduceCtorEq,m0,m1,m5,m6,mX,mF,hj,iC,aB,mg,jb,gG,fW,iS,x1,x2,x3,wX,wA,wF,ck,hid,rD,y1,y2,y3,e3,z1],by simp only[go_sem, ↓reduceIte,Nat.reduceEqDiff,Nat.reduceAdd,Nat.reduceSub,Nat.reduceLeDiff,reduceCtorEq,m0,m1,m5,m6,mX,mF,hj,iC,aB,mg,jb,gG,fW,iS,x1,x2,x3,wX,wA,wF,ck,hid,rD,y1,y2,y3,e3,z1],by simp only[go_sem, ↓reduceIte,Nat.reduceEqDiff,Nat.reduceAdd,Nat.reduceSub,Nat.reduceLeDiff,reduceCtorEq,m0,m1,m5,m6,mX,mF,hj,iC,aB,mg,jb,gG,fW,iS,x1,x2,x3,wX,wA,wF,ck,hid,rD,y1,y2,y3,e3,z1],by simp only[go_sem, ↓reduceIte,Nat.reduceEqDiff,Nat.reduceAdd,Nat.reduceSub,Nat.reduceLeDiff,reduceCtorEq,m0,m1,m5,m6,mX,mF,hj,iC,aB,mg,jb,gG,fW,iS,x1,x2,x3,wX,wA,wF,ck,hid,rD,y1,y2,y3,e3,z1],by simp only[go_sem, ↓reduceIte,Nat.reduceEqDiff,Nat.reduceAdd,Nat.reduceSub,Nat.reduceLeDiff,reduceCtorEq,m0,m1,m5,m6,mX,mF,hj,iC,aB,mg,jb,gG,fW,iS,x1,x2,x3,wX,wA,wF,ck,hid,rD,y1,y2,y3,e3,z1],by simp only[go_sem, ↓reduceIte,Nat.reduceEqDiff,Nat.reduceAdd,Nat.reduceSub,Nat.reduceLeDiff,reduceCtorEq,m0,m1,m5,m6,mX,mF,hj,iC,aB,mg,jb,gG,fW,iS,x1,x2,x3,wX,wA,wF,ck,hid,rD,y1,y2,y3,e3,z1],IT _ (by simp only[go_sem, ↓reduceIte,Nat.reduceEqDiff,Nat.reduceAdd,Nat.reduceSub,Nat.reduceLeDiff,reduceCtorEq,m0,m1,m5,m6,mX,mF,hj,iC,aB,mg,jb,gG,fW,iS,x1,x2,x3,wX,wA,wF,ck,hid,rD,y1,y2,y3,e3,z1,List.length_nil]) (by simp only[go_sem, ↓reduceIte,Nat.reduceEqDiff,Nat.reduceAdd,Nat.reduceSub,Nat.reduceLeDiff,reduceCtorEq,m0,m1,m5,m6,mX,mF,hj,iC,aB,mg,jb,gG,fW,iS,x1,x2,x3,wX,wA,wF,ck,hid,rD,y1,y2,y3,e3,z1,List.map_nil,List.nil_append]) (fun i hi OC fP=>?_),bK⟩
      have gP:=fP id rfl
      simp only[go_sem, ↓reduceIte,Nat.reduceEqDiff,Nat.reduceAdd,Nat.reduceSub,Nat.reduceLeDiff,reduceCtorEq,wX,wA,wF,eL hi,OC,gP]
  ·intro N hN
   rcases IB with⟨QY,zb⟩|⟨id,zb,hLp,hid,Lk,xT⟩
   ·simp only[List.cons.injEq,and_true]at zb
    subst zb
    subst QY
    refine fm ?_ ?_<;>(try((repeat(revert hN;revert N;apply Pn.out));refine wk (tw @a6 (tw @a5 (tw @ag0 (tw @ag1 (tw @a0 (tw @a1 (tw @hj (tw @iC (tw @aB.eq_1 (tw @ag (tw @ja (tw @gG (tw @fW (tw @iR (tw @x1 (tw @x2 (tw @x3 (tw @vX (tw @vA (tw @vF @ck.eq_1)))))))))))))))))))) ?_;(repeat(refine Pn.mk ?_;intro N hN))))<;>(try refine fm ?_ ?_)<;>(try((repeat(revert hN;revert N;apply Pn.out));refine wk (tw @a6 (tw @a5 (tw @ag0 (tw @ag1 (tw @a0 (tw @a1 (tw @hj (tw @iC (tw @aB.eq_1 (tw @ag (tw @ja (tw @gG (tw @fW (tw @iR (tw @x1 (tw @x2 (tw @x3 (tw @vX (tw @vA (tw @vF @ck.eq_1)))))))))))))))))))) ?_;(repeat(refine Pn.mk ?_;intro N hN))))<;>(try refine fm ?_ ?_)<;>(try((repeat(revert hN;revert N;apply Pn.out));refine wk (tw @a6 (tw @a5 (tw @ag0 (tw @ag1 (tw @a0 (tw @a1 (tw @hj (tw @iC (tw @aB.eq_1 (tw @ag (tw @ja (tw @gG (tw @fW (tw @iR (tw @x1 (tw @x2 (tw @x3 (tw @vX (tw @vA (tw @vF @ck.eq_1)))))))))))))))))))) ?_;(repeat(refine Pn.mk ?_;intro N hN))))<;>(try refine fm ?_ ?_)<;>(try((repeat(revert hN;revert N;apply Pn.out));refine wk (tw @a6 (tw @a5 (tw @ag0 (tw @ag1 (tw @a0 (tw @a1 (tw @hj (tw @iC (tw @aB.eq_1 (tw @ag (tw @ja (tw @gG (tw @fW (tw @iR (tw @x1 (tw @x2 (tw @x3 (tw @vX (tw @vA (tw @vF @ck.eq_1)))))))))))))))))))) ?_;(repeat(refine Pn.mk ?_;intro N hN))))<;>(try refine fm ?_ ?_)<;>(try((repeat(revert hN;revert N;apply Pn.out));refine wk (tw @a6 (tw @a5 (tw @ag0 (tw @ag1 (tw @a0 (tw @a1 (tw @hj (tw @iC (tw @aB.eq_1 (tw @ag (tw @ja (tw @gG (tw @fW (tw @iR (tw @x1 (tw @x2 (tw @x3 (tw @vX (tw @vA (tw @vF @ck.eq_1)))))))))))))))))))) ?_;(repeat(refine Pn.mk ?_;intro N hN))))<;>(try refine fm ?_ ?_)<;>(try((repeat(revert hN;revert N;apply Pn.out));refine wk (tw @a6 (tw @a5 (tw @ag0 (tw @ag1 (tw @a0 (tw @a1 (tw @hj (tw @iC (tw @aB.eq_1 (tw @ag (tw @ja (tw @gG (tw @fW (tw @iR (tw @x1 (tw @x2 (tw @x3 (tw @vX (tw @vA (tw @vF @ck.eq_1)))))))))))))))))))) ?_;(repeat(refine Pn.mk ?_;intro N hN))))
    all_goals
     refine⟨by simp only[go_sem, ↓reduceIte,Nat.reduceEqDiff,Nat.reduceAdd,Nat.reduceSub,Nat.reduceLeDiff,reduceCtorEq,a6,a5,ag0,ag1,a0,a1,hj,iC,aB,ag,ja,gG,fW,iR,x1,x2,x3,vX,vA,vF,ck],by simp only[go_sem, ↓reduceIte,Nat.reduceEqDiff,Nat.reduceAdd,Nat.reduceSub,Nat.reduceLeDiff,reduceCtorEq,a6,a5,ag0,ag1,a0,a1,hj,iC,aB,ag,ja,gG,fW,iR,x1,x2,x3,vX,vA,vF,ck],by simp only[go_sem, ↓reduceIte,Nat.reduceEqDiff,Nat.reduceAdd,Nat.reduceSub,Nat.reduceLeDiff,reduceCtorEq,a6,a5,ag0,ag1,a0,a1,hj,iC,aB,ag,ja,gG,fW,iR,x1,x2,x3,vX,vA,vF,ck],by simp only[go_sem, ↓reduceIte,Nat.reduceEqDiff,Nat.reduceAdd,Nat.reduceSub,Nat.reduceLeDiff,reduceCtorEq,a6,a5,ag0,ag1,a0,a1,hj,iC,aB,ag,ja,gG,fW,iR,x1,x2,x3,vX,vA,vF,ck],by simp only[go_sem, ↓reduceIte,Nat.reduceEqDiff,Nat.reduceAdd,Nat.reduceSub,Nat.reduceLeDiff,reduceCtorEq,a6,a5,ag0,ag1,a0,a1,hj,iC,aB,ag,ja,gG,fW,iR,x1,x2,x3,vX,vA,vF,ck],by simp only[go_sem, ↓reduceIte,Nat.reduceEqDiff,Nat.reduceAdd,Nat.reduceSub,Nat.reduceLeDiff,reduceCtorEq,a6,a5,ag0,ag1,a0,a1,hj,iC,aB,ag,ja,gG,fW,iR,x1,x2,x3,vX,vA,vF,ck],IS _ (by simp only[go_sem, ↓reduceIte,Nat.reduceEqDiff,Nat.reduceAdd,Nat.reduceSub,Nat.reduceLeDiff,reduceCtorEq,a6,a5,ag0,ag1,a0,a1,hj,iC,aB,ag,ja,gG,fW,iR,x1,x2,x3,vX,vA,vF,ck,List.length_nil]) (by simp only[go_sem, ↓reduceIte,Nat.reduceEqDiff,Nat.reduceAdd,Nat.reduceSub,Nat.reduceLeDiff,reduceCtorEq,a6,a5,ag0,ag1,a0,a1,hj,iC,aB,ag,ja,gG,fW,iR,x1,x2,x3,vX,vA,vF,ck,List.map_nil,List.nil_append]) (fun i hi OC fP=>?_),bK⟩
     clear fP
     simp only[go_sem, ↓reduceIte,Nat.reduceEqDiff,Nat.reduceAdd,Nat.reduceSub,Nat.reduceLeDiff,reduceCtorEq,vX,vA,vF,eL hi,OC]
   ·simp only[List.cons.injEq,and_true]at zb
    subst zb
    have rD:=eL Lk
    have y1:=dr (a:=A) (b:=id) ai
    have y2:=dr (a:=F) (b:=id) xT
    have y3:=dr (a:=X) (b:=id) ai
    have e3:La.length+1<=16777216:=ai
    have z1:(La.map eN).length=La.length:=by simp
    refine fm ?_ ?_<;>(try((repeat(revert hN;revert N;apply Pn.out));refine wk (tw @a6 (tw @a5 (tw @ag0 (tw @ag1 (tw @a0 (tw @a1 (tw @hj (tw @iC (tw @aB.eq_1 (tw @ag (tw @ja (tw @gG (tw @fW (tw @iR (tw @x1 (tw @x2 (tw @x3 (tw @vX (tw @vA (tw @vF (tw @ck.eq_1 (tw @hid (tw @rD (tw @y1 (tw @y2 (tw @y3 (tw @e3 @z1))))))))))))))))))))))))))) ?_;(repeat(refine Pn.mk ?_;intro N hN))))<;>(try refine fm ?_ ?_)<;>(try((repeat(revert hN;revert N;apply Pn.out));refine wk (tw @a6 (tw @a5 (tw @ag0 (tw @ag1 (tw @a0 (tw @a1 (tw @hj (tw @iC (tw @aB.eq_1 (tw @ag (tw @ja (tw @gG (tw @fW (tw @iR (tw @x1 (tw @x2 (tw @x3 (tw @vX (tw @vA (tw @vF (tw @ck.eq_1 (tw @hid (tw @rD (tw @y1 (tw @y2 (tw @y3 (tw @e3 @z1))))))))))))))))))))))))))) ?_;(repeat(refine Pn.mk ?_;intro N hN))))<;>(try refine fm ?_ ?_)<;>(try((repeat(revert hN;revert N;apply Pn.out));refine wk (tw @a6 (tw @a5 (tw @ag0 (tw @ag1 (tw @a0 (tw @a1 (tw @hj (tw @iC (tw @aB.eq_1 (tw @ag (tw @ja (tw @gG (tw @fW (tw @iR (tw @x1 (tw @x2 (tw @x3 (tw @vX (tw @vA (tw @vF (tw @ck.eq_1 (tw @hid (tw @rD (tw @y1 (tw @y2 (tw @y3 (tw @e3 @z1))))))))))))))))))))))))))) ?_;(repeat(refine Pn.mk ?_;intro N hN))))<;>(try refine fm ?_ ?_)<;>(try((repeat(revert hN;revert N;apply Pn.out));refine wk (tw @a6 (tw @a5 (tw @ag0 (tw @ag1 (tw @a0 (tw @a1 (tw @hj (tw @iC (tw @aB.eq_1 (tw @ag (tw @ja (tw @gG (tw @fW (tw @iR (tw @x1 (tw @x2 (tw @x3 (tw @vX (tw @vA (tw @vF (tw @ck.eq_1 (tw @hid (tw @rD (tw @y1 (tw @y2 (tw @y3 (tw @e3 @z1))))))))))))))))))))))))))) ?_;(repeat(refine Pn.mk ?_;intro N hN))))<;>(try refine fm ?_ ?_)<;>(try((repeat(revert hN;revert N;apply Pn.out));refine wk (tw @a6 (tw @a5 (tw @ag0 (tw @ag1 (tw @a0 (tw @a1 (tw @hj (tw @iC (tw @aB.eq_1 (tw @ag (tw @ja (tw @gG (tw @fW (tw @iR (tw @x1 (tw @x2 (tw @x3 (tw @vX (tw @vA (tw @vF (tw @ck.eq_1 (tw @hid (tw @rD (tw @y1 (tw @y2 (tw @y3 (tw @e3 @z1))))))))))))))))))))))))))) ?_;(repeat(refine Pn.mk ?_;intro N hN))))<;>(try refine fm ?_ ?_)<;>(try((repeat(revert hN;revert N;apply Pn.out));refine wk (tw @a6 (tw @a5 (tw @ag0 (tw @ag1 (tw @a0 (tw @a1 (tw @hj (tw @iC (tw @aB.eq_1 (tw @ag (tw @ja (tw @gG (tw @fW (tw @iR (tw @x1 (tw @x2 (tw @x3 (tw @vX (tw @vA (tw @vF (tw @ck.eq_1 (tw @hid (tw @rD (tw @y1 (tw @y2 (tw @y3 (tw @e3 @z1))))))))))))))))))))))))))) ?_;(repeat(refine Pn.mk ?_;intro N hN))))
    all_goals
     refine⟨by simp only[go_sem, ↓reduceIte,Nat.reduceEqDiff,Nat.reduceAdd,Nat.reduceSub,Nat.reduceLeDiff,reduceCtorEq,a6,a5,ag0,ag1,a0,a1,hj,iC,aB,ag,ja,gG,fW,iR,x1,x2,x3,vX,vA,vF,ck,hid,rD,y1,y2,y3,e3,z1],by simp only[go_sem, ↓reduceIte,Nat.reduceEqDiff,Nat.reduceAdd,Nat.reduceSub,Nat.reduceLeDiff,reduceCtorEq,a6,a5,ag0,ag1,a0,a1,hj,iC,aB,ag,ja,gG,fW,iR,x1,x2,x3,vX,vA,vF,ck,hid,rD,y1,y2,y3,e3,z1],by simp only[go_sem, ↓reduceIte,Nat.reduceEqDiff,Nat.reduceAdd,Nat.reduceSub,Nat.reduceLeDiff,reduceCtorEq,a6,a5,ag0,ag1,a0,a1,hj,iC,aB,ag,ja,gG,fW,iR,x1,x2,x3,vX,vA,vF,ck,hid,rD,y1,y2,y3,e3,z1],by simp only[go_sem, ↓reduceIte,Nat.reduceEqDiff,Nat.reduceAdd,Nat.reduceSub,Nat.reduceLeDiff,reduceCtorEq,a6,a5,ag0,ag1,a0,a1,hj,iC,aB,ag,ja,gG,fW,iR,x1,x2,x3,vX,vA,vF,ck,hid,rD,y1,y2,y3,e3,z1],by simp only[go_sem, ↓reduceIte,Nat.reduceEqDiff,Nat.reduceAdd,Nat.reduceSub,Nat.reduceLeDiff,reduceCtorEq,a6,a5,ag0,ag1,a0,a1,hj,iC,aB,ag,ja,gG,fW,iR,x1,x2,x3,vX,vA,vF,ck,hid,rD,y1,y2,y3,e3,z1],by simp only[go_sem, ↓reduceIte,Nat.reduceEqDiff,Nat.reduceAdd,Nat.reduceSub,Nat.reduceLeDiff,reduceCtorEq,a6,a5,ag0,ag1,a0,a1,hj,iC,aB,ag,ja,gG,fW,iR,x1,x2,x3,vX,vA,vF,ck,hid,rD,y1,y2,y3,e3,z1],IS _ (by simp only[go_sem, ↓reduceIte,Nat.reduceEqDiff,Nat.reduceAdd,Nat.reduceSub,Nat.reduceLeDiff,reduceCtorEq,a6,a5,ag0,ag1,a0,a1,hj,iC,aB,ag,ja,gG,fW,iR,x1,x2,x3,vX,vA,vF,ck,hid,rD,y1,y2,y3,e3,z1,List.length_nil]) (by simp only[go_sem, ↓reduceIte,Nat.reduceEqDiff,Nat.reduceAdd,Nat.reduceSub,Nat.reduceLeDiff,reduceCtorEq,a6,a5,ag0,ag1,a0,a1,hj,iC,aB,ag,ja,gG,fW,iR,x1,x2,x3,vX,vA,vF,ck,hid,rD,y1,y2,y3,e3,z1,List.map_nil,List.nil_append]) (fun i hi OC fP=>?_),bK⟩
     have gP:=fP id rfl
     simp only[go_sem, ↓reduceIte,Nat.reduceEqDiff,Nat.reduceAdd,Nat.reduceSub,Nat.reduceLeDiff,reduceCtorEq,vX,vA,vF,eL hi,OC,gP]
 ·have gZ:j=bs.length:=ai
  subst gZ
  (try((repeat(revert hN;revert N;apply Pn.out));refine wk (tw @a6 (tw @a5 (tw @ag0 (tw @ag1 (tw @a0 (tw @a1 @hj)))))) ?_;(repeat(refine Pn.mk ?_;intro N hN))))
  exact fJ (.inl rfl) (by simp only[fj,gJ,go_sem, ↓reduceIte,Nat.reduceEqDiff,Nat.reduceAdd,Nat.reduceSub,Nat.reduceLeDiff,reduceCtorEq];rfl) ⟨X,A,F,rfl,hXs,⟨ag0,⟨rows,ids,ag,hR,lu,fun x hx=>by have:=ny x hx;(try dsimp only);omega⟩,ag1,hXA,hAF,bK⟩⟩
theorem qk.frame {A:Id} {lo nx xn:Nat} {L:List (List Nat)} {g g':Rows} (h:qk A lo L g nx) (hA:A.cV<nx) (hf:∀i:Id,i.cV<nx->lo<i.cV∨i=A->g' i=g i) (hn:nx<=xn):qk A lo L g' xn:=by
 obtain⟨rows,ids,h1,h2,h3,h4⟩:=h
 refine⟨rows,ids,(hf A hA (.inr rfl)).trans h1,h2.frame Nj fun i hi=>hf i (h4 i hi).2 (.inl (h4 i hi).1),h3,fun i hi=>?_⟩
 have:=h4 i hi;omega
theorem nF.frame {cnt:Nat} {bs:List PB} {f:Nat->Int} {X A F:Id} {g g':Rows} {nx xn:Nat} (h:nF cnt bs f X A F g nx) (hf:∀i:Id,i.cV<nx->g' i=g i) (hn:nx<=xn):nF cnt bs f X A F g' xn:=by
 have h1:=h.xa;have h2:=h.af;have h3:=h.fn
 exact⟨(hf X ai).trans h.x,h.a.frame ai (fun i hi _=>hf i hi) hn,(hf F h3).trans h.f,h1,h2,ai⟩
theorem nF.QT {cnt:Nat} {bs:List PB} {f f':Nat->Int} {X A F:Id} {g g':Rows} {nx xn:Nat} (h:nF cnt bs f X A F g nx) (hF:g' F=some ⟨true,1,ej f' bs.length⟩) (hf:∀i:Id,i.cV<nx->(i=F)=False->g' i=g i) (hn:nx<=xn):nF cnt bs f' X A F g' xn:=by
 have h1:=h.xa;have h2:=h.af;have h3:=h.fn
 refine⟨(hf X ai (dr ai).1).trans h.x,h.a.frame ai (fun i hi ju=>hf i hi ?_) hn,hF,h1,h2,ai⟩
 rcases ju with ju|rfl
 ·exact(dr ju).2
 ·exact(dr h2).1
theorem Pg (cnt:Nat) (bs:List PB) (f:Nat->Int) (hs:Small bs f) (e v:Nat) (he:e<bs.length) (X A F:Id) (σ:au) (nx:Nat) (hS:nF cnt bs f X A F σ.get nx) (hn:nx<=σ.next):
  Call Tryz.prog 298 [.ptr X 0 0,.int .i64 v,.int .i64 e] σ fun r σ'=>nF cnt bs (tb bs f e v) X A F σ'.get nx/\σ.next<=σ'.next/\∀i:Id,(i=F)=False->σ'.get i=σ.get i:=by
 refine fo eG rfl fun hl=>?_
 clear hl
 have hX:=hS.x
 have hF:=hS.f
 have hb:=tG he
 have Uz:=ec (f:=f) he
 have tl:=dY f bs.length
 obtain⟨⟨s0,s1⟩,s2,s3⟩:=hs e he
 have hei:(e:Int)<(bs.length:Int):=ai
 have w1:IntKind.i64.wrap (f e+1)=f e+1:=bP ai
 have w2:IntKind.i64.wrap (f e-1)=f e+-1:=by rw[bP ai];omega
 rw[bt]at Uz
 unfold tb
 by_cases h:(cW bs e).a=v
 ·have eI:(ej f bs.length).set e (bt (f e+1))=ej (fun j=>f j+if j=e then(if (cW bs e).a=v then 1 else -1)else 0) bs.length:=kH he (by rw[if_pos rfl,if_pos h]) fun i _ hi=>by rw[if_neg hi,Int.add_zero]
  rw[bt]at eI
  generalize SR:cW bs e=b at *
  have hd:decide ((b.a:Int)=(v:Int))=true:=decide_eq_true (by rw[h])
  (try((repeat(revert hN;revert N;apply Pn.out));refine wk (tw @hX (tw @hF (tw @hb (tw @Uz (tw @tl (tw @hei (tw @w1 (tw @eI (tw @hd (tw @aB.eq_1 @ck.eq_1)))))))))) ?_;(repeat(refine Pn.mk ?_;intro N hN))))
  exact fJ (.inr rfl) (vs:=[]) rfl ⟨hS.QT (sd @Nat.zero_add) (fun i hi gP=>sd @gP) (Nat.le_refl _),bK,fun i gP=>sd @gP⟩
 ·have eI:(ej f bs.length).set e (bt (f e+-1))=ej (fun j=>f j+if j=e then(if (cW bs e).a=v then 1 else -1)else 0) bs.length:=kH he (by rw[if_pos rfl,if_neg h]) fun i _ hi=>by rw[if_neg hi,Int.add_zero]
  rw[bt]at eI
  generalize SR:cW bs e=b at *
  have hd:decide ((b.a:Int)=(v:Int))=false:=decide_eq_false fun hc=>h ai
  (try((repeat(revert hN;revert N;apply Pn.out));refine wk (tw @hX (tw @hF (tw @hb (tw @Uz (tw @tl (tw @hei (tw @w2 (tw @eI (tw @hd (tw @aB.eq_1 @ck.eq_1)))))))))) ?_;(repeat(refine Pn.mk ?_;intro N hN))))
  exact fJ (.inr rfl) (vs:=[]) rfl ⟨hS.QT (sd @Nat.zero_add) (fun i hi gP=>sd @gP) (Nat.le_refl _),bK,fun i gP=>sd @gP⟩
structure nG (bs:List PB) (out:Nat->Int) (f f':Nat->Int) (x v:Nat):Prop where
 le:∀i,i<bs.length->f' i<=(cW bs i).s/\-(cW bs i).s<=f' i
 cut:∀S:Nat->Bool,FY S bs f'=FY S bs f+bi (S x)-bi (S v)
 yn:∀e,e<bs.length->out (cW bs e).a<=out v->out (cW bs e).b<=out v->f' e=f e
section
variable {cnt:Nat} {bs:List PB} {out:Nat->Int} {f f':Nat->Int} {x v y:Nat}
theorem nG.start (h:∀i,i<bs.length->f i<=(cW bs i).s/\-(cW bs i).s<=f i):nG bs out f f x x:=⟨h,fun S=>ai,fun _ _ _ _=>rfl⟩
theorem nG.step (h:nG bs out f f' x v) {e:Nat} (he:e<bs.length) (hi:EJ bs e v) (hr:0<fN bs f' e v) (hd:out (cP bs e v)=out v-1):nG bs out f (tb bs f' e v) x (cP bs e v):=by
 refine⟨fun i mi=>?_,fun S=>?_,fun i mi ha hb=>?_⟩
 ·have h1:=h.le i mi
  unfold tb
  by_cases Hy:i=e
  ·subst Hy
   rw[if_pos rfl]
   unfold fN at hr
   split at hr<;>rename_i hc
   ·rw[if_pos hc];omega
   ·rw[if_neg hc];omega
  ·rw[if_neg Hy];omega
 ·rw[FZ he hi,h.cut S];omega
 ·have Hy:i≠e:=by
   rintro rfl
   rcases hi with hi|hi
   ·rw[hi]at ha;omega
   ·rw[hi]at hb;omega
  unfold tb
  rw[if_neg Hy,Int.add_zero]
  exact h.yn i mi ai ai
theorem nG.goes (h:nG bs out f f' x v) (hs:yM cnt bs f y out) (hv:v<cnt) (h0:0<out v):∃e∈iI bs bs.length v,0<fN bs f' e v/\out (cP bs e v)=out v-1:=by
 obtain⟨e,h1,h2,h3,h4⟩:=hs.down v hv h0
 refine⟨e,qM.2 ⟨h1,h2⟩,?_,h4⟩
 have hf:f' e=f e:=by
  refine h.yn e h1 ?_ ?_
  ·unfold cP at h4
   split at h4
   ·rename_i ha;rw[ha];exact Int.le_refl _
   ·omega
  ·unfold cP at h4
   rcases h2 with h2|h2
   ·rw[if_pos h2]at h4;omega
   ·rw[h2];exact Int.le_refl _
 unfold fN at h3 ⊢
 rw[hf];exact h3
theorem nG.done {val:Int} (h:nG bs out f f' x y) (hf:jL bs f x y val):jL bs f' x y (val+1):=
 ⟨h.le,fun S hx hy=>by rw[h.cut S,hf.cut S hx hy,hx,hy];simp[bi]⟩
theorem Et {val:Int} (hs:yM cnt bs f y out) (ok:mO cnt bs) (hf:jL bs f x y val) (hx:out x<0):∃S:Nat->Bool,S x=true/\S y=false/\val=iP S bs:=by
 refine⟨fun v=>decide (out v<0),decide_eq_true hx,decide_eq_false (by rw[hs.first];omega),hf.full (decide_eq_true hx) (decide_eq_false (by rw[hs.first];omega)) fun i hi pW=>⟨fun h1 h2 hr=>?_,fun h1 h2 hr=>?_⟩⟩
 ·have Oe:=of_decide_eq_true h1
  have w8:=of_decide_eq_false h2
  have:=hs.shut i (cW bs i).a hi (.inl rfl) (by unfold cP;rw[if_pos rfl];omega) hr
  omega
 ·have Oe:=of_decide_eq_true h1
  have w8:=of_decide_eq_false h2
  have:=hs.shut i (cW bs i).b hi (.inr rfl) (by unfold cP;rw[if_neg pW];omega) hr
  omega
end
theorem vY {bs:List PB} {f:Nat->Int} (eb:∀e,e<bs.length->0<=(cW bs e).s/\(cW bs e).s<=4) (h:∀i,i<bs.length->f i<=(cW bs i).s/\-(cW bs i).s<=f i):Small bs f:=fun e he=>by
 have:=eb e he;have:=h e he;omega
theorem qk.at_ {A:Id} {lo nx v:Nat} {L:List (List Nat)} {l:List Nat} {g:Rows} (h:qk A lo L g nx) (hv:L[v]? =some l) (hl:0<l.length):∃(rows:List (List AV)) (id:Id),g A=some ⟨true,1,rows⟩/\rows.length=L.length/\rows[v]? =some [.own id 0 l.length]/\g id=some ⟨true,1,l.map eN⟩/\lo<id.cV/\id.cV<nx:=by
 obtain⟨rows,ids,h1,h2,h3,h4⟩:=h
 have hk:v<L.length:=(List.getElem?_eq_some_iff.1 hv).1
 obtain⟨cs,ic,dS,hR,Rn⟩:=h2.at_ v hk
 rw[kp hv hk]at hR
 rcases hR with⟨h5,_⟩|⟨id,rfl,_,h6,rfl⟩
 ·subst h5;simp at hl
 ·have:=h4 id (Rn id (by simp))
  exact⟨rows,id,h1,h2.len,dS,h6,this.1,this.2⟩
theorem Od (cnt:Nat) (hn:cnt<=1048576) (bs:List PB) (ok:mO cnt bs) (pq:bs.length<=1048576) (eb:∀e,e<bs.length->0<=(cW bs e).s/\(cW bs e).s<=4) (f:Nat->Int) (x y:Nat) (hx:x<cnt) (hy:y<cnt) (RJ:x≠y) (val:Int) (hf:jL bs f x y val)
  (X A F:Id) (σ:au) (nb:Nat) (hS:nF cnt bs f X A F σ.get nb) (xd:nb<=σ.next):
  Call Tryz.prog 252 [.ptr X 0 0,.int .i64 x,.int .i64 y] σ fun r σ'=>∃b f',r=.bool b/\nF cnt bs f' X A F σ'.get nb/\σ.next<=σ'.next/\(∀i:Id,i.cV<nb->(i=F)=False->σ'.get i=σ.get i)/\
   (b=false->f'=f/\∃S:Nat->Bool,S x=true/\S y=false/\val=iP S bs)/\(b=true->jL bs f' x y (val+1)):=by
 refine fo eG rfl fun hl=>?_
 clear hl
 have CG:(x:Int)<(cnt:Int):=ai
 have hz:∀(g:Rows),(∀i:Id,i.cV<nb->g i=σ.get i)->de (dR g) 6 [.ptr X 0 0,.int .i64 (y:Int)]=some [.dt (fU cnt bs f),.int .i64 y]:=fun g hg=>by
  have:=(hS.frame hg (Nat.le_refl _)).fz
  simp only[ab,aj,this,ay,Option.map_some]
 (try((repeat(revert hN;revert N;apply Pn.out));refine wk @Nat.zero_add ?_;(repeat(refine Pn.mk ?_;intro N hN))))
 refine .inr (aY _ _ _ _ _ (fun r σ1 hq=>?_) ((FD cnt hn bs ok pq f (vY eb hf.le) y hy).x mixed (hz _ (fun i hi=>rfl))))
 obtain⟨⟨out,rfl,OR⟩,rfl⟩:=hq
 refine hN _ _ ?_
 clear hN N
 have hox:=ec (f:=out) hx
 have tl:=dY out cnt
 by_cases jP:out x<0
 ·(try((repeat(revert hN;revert N;apply Pn.out));refine wk (tw @hox (tw @jP (tw @CG (tw @tl @bt.eq_1)))) ?_;(repeat(refine Pn.mk ?_;intro N hN))))
  exact fJ (.inl rfl) (vs:=[.bool false]) (sd @Nat.zero_add) ⟨false,f,rfl,hS.frame (fun i hi=>rfl) (Nat.le_refl _),bK,fun i _ _=>rfl,fun _=>⟨rfl,Et OR ok hf jP⟩,fun h=>by cases h⟩
 (try((repeat(revert hN;revert N;apply Pn.out));refine wk (tw @hox (tw @jP (tw @CG (tw @tl @bt.eq_1)))) ?_;(repeat(refine Pn.mk ?_;intro N hN))))
 refine bF (fun m env st=>∃(v:Nat) (f':Nat->Int),m=(out v).toNat/\v<cnt/\0<=out v/\env 8=.int .i64 (v:Int)/\nG bs out f f' x v/\nF cnt bs f' X A F st.get nb/\(∀i:Id,i.cV<nb->(i=F)=False->st.get i=σ.get i)/\σ.next<=st.next) (out x).toNat ⟨x,f,rfl,hx,ai,by(simp only[go_sem, ↓reduceIte,Nat.reduceEqDiff,Nat.reduceAdd,Nat.reduceSub,Nat.reduceLeDiff,reduceCtorEq]),nG.start hf.le,hS.frame (fun i hi=>rfl) (Nat.le_refl _),fun i _ _=>rfl,bK⟩ ?_
 rintro m env_b st_b ⟨v,f',rfl,hv,rJ,b8,hW,hN1,kK,hle⟩ bfr
 have b0:=bfr 0 (by kernel_rfl)
 have b2:=bfr 2 (by kernel_rfl)
 have b7:=bfr 7 (by kernel_rfl)
 simp only[go_sem, ↓reduceIte,Nat.reduceEqDiff,Nat.reduceAdd,Nat.reduceSub,Nat.reduceLeDiff,reduceCtorEq]at b0 b2 b7
 clear bfr
 by_cases Th:v=y
 ·have hd:decide ((v:Int)=(y:Int))=true:=decide_eq_true (by rw[Th])
  subst Th
  (try((repeat(revert hN;revert N;apply Pn.out));refine wk (tw @b0 (tw @b2 (tw @b7 (tw @b8 @hd)))) ?_;(repeat(refine Pn.mk ?_;intro N hN))))
  exact fJ (.inl rfl) (vs:=[.bool true]) (sd @Nat.zero_add) ⟨true,f',rfl,hN1,bK,kK,fun h=>(by cases h),fun _=>hW.done hf⟩
 have hd:decide ((v:Int)=(y:Int))=false:=decide_eq_false fun h=>Th ai
 have Aj:0<out v:=by
  have:=OR.zero v hv
  rcases Int.lt_or_eq_of_le rJ with h|h
  ·exact h
  ·exact absurd (this h.symm) Th
 have MY:=hW.goes OR hv Aj
 have hIm:∀ed∈iI bs bs.length v,ed<bs.length/\EJ bs ed v:=fun ed h=>qM.1 h
 have hIL:(kQ cnt bs bs.length)[v]? =some (iI bs bs.length v):=by simp[kQ,hv]
 have hIl:=qL bs bs.length v
 generalize iI bs bs.length v=I at *
 have hIp:0<I.length:=by
  obtain⟨ed,h,_⟩:=MY
  exact List.length_pos_of_mem h
 obtain⟨rows,id,hgA,rI,k8,hid,hid1,hid2⟩:=hN1.a.at_ hIL hIp
 rw[jc]at rI
 have hgX:=hN1.x
 have Dy:(v:Int)<(cnt:Int):=ai
 have tV:=ec (f:=out) hv
 have nB:IntKind.i64.wrap (out v-1)=out v-1:=bP (by have:=OR.lo v hv;omega)
 have pV:(I.map eN).length=I.length:=by simp
 have Ly:=vY eb hW.le
 have lf:∀(g:Rows),(∀i:Id,i.cV<nb->g i=st_b.get i)->∀ed:Nat,de (dR g) 6 [.ptr X 0 0,.int .i64 (v:Int),.int .i64 (ed:Int)]=some [.dt (fU cnt bs f'),.int .i64 v,.int .i64 ed]:=fun g hg ed=>by
  have:=(hN1.frame hg (Nat.le_refl _)).fz
  simp only[ab,aj,this,ay,Option.map_some]
 rw[bt]at tV
 (try((repeat(revert hN;revert N;apply Pn.out));refine wk (tw @b0 (tw @b2 (tw @b7 (tw @b8 @hd)))) ?_;(repeat(refine Pn.mk ?_;intro N hN))))
 refine bF (fun n env st=>∃k:Nat,n=(I.length)-k/\k<=(I.length)/\env 11=.int .i64 (k:Int)/\(∃(ta EP:Int),env 9=.int .i64 ta/\env 10=.int .i64 EP/\((ta<0/\∀z,z<k->¬(0<fN bs f' (I.getD z 0) v/\out (cP bs (I.getD z 0) v)=out v-1))∨∃ed:Nat,ed∈I/\EP=(ed:Int)/\ta=(cP bs ed v:Int)/\0<fN bs f' ed v/\out (cP bs ed v)=out v-1))/\((∀i:Id,st.get i=st_b.get i)/\st_b.next<=st.next)) (I.length) ⟨0,ai,ai,sl (tw @b0 (tw @b2 (tw @b7 @b8))),⟨-1,0,by(simp only[go_sem, ↓reduceIte,Nat.reduceEqDiff,Nat.reduceAdd,Nat.reduceSub,Nat.reduceLeDiff,reduceCtorEq]),by(simp only[go_sem, ↓reduceIte,Nat.reduceEqDiff,Nat.reduceAdd,Nat.reduceSub,Nat.reduceLeDiff,reduceCtorEq]),.inl ⟨ai,fun z hz=>ai⟩⟩,⟨fun i=>rfl,bK⟩⟩ ?_
 rintro n_c env_c st_c ⟨k,rfl,cle,nq,cI0,cI1⟩ cfr
 have c0:=cfr 0 (by kernel_rfl);have c2:=cfr 2 (by kernel_rfl);have c7:=cfr 7 (by kernel_rfl);have c8:=cfr 8 (by kernel_rfl)
 simp only[go_sem, ↓reduceIte,Nat.reduceEqDiff,Nat.reduceAdd,Nat.reduceSub,Nat.reduceLeDiff,reduceCtorEq,b0,b2,b7,b8]at c0 c2 c7 c8
 clear cfr
 obtain⟨ta,EP,c9,jm,IA⟩:=cI0
 obtain⟨lT,SS⟩:=cI1
 have Dr:=(lT X).trans hgX
 have Dq:=(lT A).trans hgA
 have zd:=(lT id).trans hid
 by_cases hk:(k:Int)<(I.length:Int)
 ·have gW:∀{e:Env} {gg:Rows} {nx:Nat},(e 11=.int .i64 (IntKind.i64.wrap ((k:Int)+1)))->(∃(ta EP:Int),e 9=.int .i64 ta/\e 10=.int .i64 EP/\((ta<0/\∀z,z<(k+1)->¬(0<fN bs f' (I.getD z 0) v/\out (cP bs (I.getD z 0) v)=out v-1))∨∃ed:Nat,ed∈I/\EP=(ed:Int)/\ta=(cP bs ed v:Int)/\0<fN bs f' ed v/\out (cP bs ed v)=out v-1))->((∀i:Id,gg i=st_b.get i)/\st_b.next<=nx)->∃m0,m0<(I.length)-k/\∃k:Nat,m0=(I.length)-k/\k<=(I.length)/\e 11=.int .i64 (k:Int)/\(∃(ta EP:Int),e 9=.int .i64 ta/\e 10=.int .i64 EP/\((ta<0/\∀z,z<k->¬(0<fN bs f' (I.getD z 0) v/\out (cP bs (I.getD z 0) v)=out v-1))∨∃ed:Nat,ed∈I/\EP=(ed:Int)/\ta=(cP bs ed v:Int)/\0<fN bs f' ed v/\out (cP bs ed v)=out v-1))/\((∀i:Id,gg i=st_b.get i)/\st_b.next<=nx):=fun x1 x2 x3=>⟨_,ai,k+1,rfl,ai,(by rw[x1,aI ai]),x2,x3⟩
  have fM:k<I.length:=ai
  have eU:(I.map eN)[k]? =some (eN (I.getD k 0)):=getD_map eN fM
  have r8:I.getD k 0∈I:=by rw[List.getD_eq_getElem?_getD,List.getElem?_eq_getElem fM];exact List.getElem_mem fM
  obtain⟨he,pb⟩:=hIm _ r8
  have OP:=JR cnt bs f' Ly (I.getD k 0) v he
  have sV:=lf st_c.get (fun i _=>lT i) (I.getD k 0)
  have hq:=om ok (v:=v) he
  have Qk:=ec (f:=out) hq
  obtain⟨ed,hed⟩:∃ed,ed=I.getD k 0:=⟨_,rfl⟩
  rw[<-hed]at eU he pb OP sV hq Qk r8
  rw[bt]at Qk
  rw[eN]at eU
  (try((repeat(revert hN;revert N;apply Pn.out));refine wk (tw @nq (tw @c0 (tw @c2 (tw @c7 (tw @c8 (tw @c9 (tw @jm (tw @hk (tw @Dr (tw @Dq (tw @zd (tw @k8 (tw @rI (tw @Dy (tw @eU (tw @pV @ck.eq_1)))))))))))))))) ?_;(repeat(refine Pn.mk ?_;intro N hN))))
  refine .inl ⟨_,aq.x OP sV,?_⟩
  refine hN _ _ ?_
  clear hN N
  have stay:∀k',k'=k+1->(¬(0<fN bs f' ed v/\out (cP bs ed v)=out v-1))->((ta<0/\∀z,z<k'->¬(0<fN bs f' (I.getD z 0) v/\out (cP bs (I.getD z 0) v)=out v-1))∨∃ed:Nat,ed∈I/\EP=(ed:Int)/\ta=(cP bs ed v:Int)/\0<fN bs f' ed v/\out (cP bs ed v)=out v-1):=fun k' Gm lv=>by
   rcases IA with⟨h1,h2⟩|h
   ·refine .inl ⟨h1,fun z hz=>?_⟩
    by_cases DD:z=k
    ·subst DD;rw[<-hed];exact lv
    ·exact h2 z ai
   ·exact .inr h
  by_cases hr:0<fN bs f' ed v
  ·by_cases Kw:out (cP bs ed v)=out v-1
   ·have nu:decide (out (cP bs ed v)=out v-1)=true:=decide_eq_true Kw
    have found:∃QK:Nat,QK∈I/\(ed:Int)=(QK:Int)/\(cP bs ed v:Int)=(cP bs QK v:Int)/\0<fN bs f' QK v/\out (cP bs QK v)=out v-1:=⟨ed,r8,rfl,rfl,hr,Kw⟩
    by_cases Ai:ta<0
    ·(try((repeat(revert hN;revert N;apply Pn.out));refine wk (tw @nq (tw @c0 (tw @c2 (tw @c7 (tw @c8 (tw @c9 (tw @jm (tw @hk (tw @Dr (tw @Dq (tw @zd (tw @k8 (tw @rI (tw @Dy (tw @eU (tw @pV (tw @hr (tw @Qk (tw @tV (tw @nB (tw @nu (tw @Ai @ck.eq_1)))))))))))))))))))))) ?_;(repeat(refine Pn.mk ?_;intro N hN))))
     exact gW (sd (tw @nq (tw @c0 (tw @c2 (tw @c7 @c8))))) (⟨_,_,sd @Nat.zero_add,sd @Nat.zero_add,.inr found⟩) (⟨lT,bK⟩)
    ·by_cases eh:(cP bs ed v:Int)<ta
     ·(try((repeat(revert hN;revert N;apply Pn.out));refine wk (tw @nq (tw @c0 (tw @c2 (tw @c7 (tw @c8 (tw @c9 (tw @jm (tw @hk (tw @Dr (tw @Dq (tw @zd (tw @k8 (tw @rI (tw @Dy (tw @eU (tw @pV (tw @hr (tw @Qk (tw @tV (tw @nB (tw @nu (tw @Ai (tw @eh @ck.eq_1))))))))))))))))))))))) ?_;(repeat(refine Pn.mk ?_;intro N hN))))
      exact gW (sd (tw @nq (tw @c0 (tw @c2 (tw @c7 @c8))))) (⟨_,_,sd @Nat.zero_add,sd @Nat.zero_add,.inr found⟩) (⟨lT,bK⟩)
     ·(try((repeat(revert hN;revert N;apply Pn.out));refine wk (tw @nq (tw @c0 (tw @c2 (tw @c7 (tw @c8 (tw @c9 (tw @jm (tw @hk (tw @Dr (tw @Dq (tw @zd (tw @k8 (tw @rI (tw @Dy (tw @eU (tw @pV (tw @hr (tw @Qk (tw @tV (tw @nB (tw @nu (tw @Ai (tw @eh @ck.eq_1))))))))))))))))))))))) ?_;(repeat(refine Pn.mk ?_;intro N hN))))
      exact gW (sd (tw @nq (tw @c0 (tw @c2 (tw @c7 @c8))))) (⟨ta,EP,sd @c9,sd @jm,by
       rcases IA with⟨h1,_⟩|h
       ·exact absurd h1 Ai
       ·exact .inr h⟩) (⟨lT,bK⟩)
   ·have nu:decide (out (cP bs ed v)=out v-1)=false:=decide_eq_false Kw
    (try((repeat(revert hN;revert N;apply Pn.out));refine wk (tw @nq (tw @c0 (tw @c2 (tw @c7 (tw @c8 (tw @c9 (tw @jm (tw @hk (tw @Dr (tw @Dq (tw @zd (tw @k8 (tw @rI (tw @Dy (tw @eU (tw @pV (tw @hr (tw @Qk (tw @tV (tw @nB (tw @nu @ck.eq_1))))))))))))))))))))) ?_;(repeat(refine Pn.mk ?_;intro N hN))))
    exact gW (sd (tw @nq (tw @c0 (tw @c2 (tw @c7 @c8))))) (⟨ta,EP,sd @c9,sd @jm,stay _ rfl fun h=>Kw h.2⟩) (⟨lT,bK⟩)
  ·(try((repeat(revert hN;revert N;apply Pn.out));refine wk (tw @nq (tw @c0 (tw @c2 (tw @c7 (tw @c8 (tw @c9 (tw @jm (tw @hk (tw @Dr (tw @Dq (tw @zd (tw @k8 (tw @rI (tw @Dy (tw @eU (tw @pV (tw @hr @ck.eq_1))))))))))))))))) ?_;(repeat(refine Pn.mk ?_;intro N hN))))
   exact gW (sd (tw @nq (tw @c0 (tw @c2 (tw @c7 @c8))))) (⟨ta,EP,sd @c9,sd @jm,stay _ rfl fun h=>hr h.1⟩) (⟨lT,bK⟩)
 ·have ml:k=I.length:=ai
  have UA:∃ed:Nat,ed∈I/\EP=(ed:Int)/\ta=(cP bs ed v:Int)/\0<fN bs f' ed v/\out (cP bs ed v)=out v-1:=by
   rcases IA with⟨h1,h2⟩|h
   ·exfalso
    obtain⟨ed,he,hq⟩:=MY
    obtain⟨z,hz,rfl⟩:=List.getElem_of_mem he
    refine h2 z ai ?_
    rw[List.getD_eq_getElem?_getD,List.getElem?_eq_getElem hz];exact hq
   ·exact h
  obtain⟨ed,r8,rfl,rfl,hr,Kw⟩:=UA
  obtain⟨he,pb⟩:=hIm _ r8
  (try((repeat(revert hN;revert N;apply Pn.out));refine wk (tw @nq (tw @c0 (tw @c2 (tw @c7 (tw @c8 (tw @c9 (tw @jm (tw @hk (tw @Dr (tw @Dq (tw @zd (tw @k8 (tw @rI (tw @Dy (tw @pV @ck.eq_1))))))))))))))) ?_;(repeat(refine Pn.mk ?_;intro N hN))))
  refine .inr (aY _ _ _ _ _ (fun r σ1 hq=>?_) (Pg cnt bs f' Ly ed v he X A F ⟨st_c.get,_⟩ nb (hN1.frame (fun i _=>lT i) (Nat.le_refl _)) bK))
  obtain⟨SL,mC,IG⟩:=hq
  (try dsimp only at mC IG)
  refine hN _ _ ?_
  clear hN N
  (try((repeat(revert hN;revert N;apply Pn.out));refine wk (tw @nq (tw @c0 (tw @c2 (tw @c7 (tw @c8 @c9))))) ?_;(repeat(refine Pn.mk ?_;intro N hN))))
  refine⟨_,?_,cP bs ed v,tb bs f' ed v,rfl,om ok he,ai,sd @Nat.zero_add,hW.step he pb hr Kw,SL,fun i hi hF=>by rw[IG i hF,lT i,kK i hi hF],bK⟩
  omega
def sI (P:Program) (f:Nat) (args:List AV) (R:AV->Prop):Prop:=∀σ:au,Call P f args ⟨V.ro σ.get,σ.next⟩ fun r0 σ'=>∃r',V.fz σ'.get 6 r0=some r'/\R r'
theorem Dg {P:Program} {f:Nat} {args:List AV} {g:Rows} {n:Nat} {R:AV->Prop} (h:Sound P f args ⟨V.ro g,n⟩ fun r0 σ'=>∃r',V.fz σ'.get 6 r0=some r'/\R r'):Sound P f args ⟨g,n⟩ fun r σ'=>R r/\σ'=⟨g,n⟩:=by
 intro hs D ι w vs S U A
 refine(Ao (g0:=g) (K:=R) h (fun _ _ h=>h) S U A).mono ?_
 rintro e w' ⟨r,D',u,rfl,hR,T,S',hr⟩
 exact⟨r,g,n,D',ι,u,rfl,⟨hR,rfl⟩,T,S',U,Nat.le_refl _,hr⟩
theorem sI.x {P:Program} (hm:P.follows .mixedOrders=true) {f:Nat} {args:List AV} {R:AV->Prop} (h:sI P f args R) {σ:au}:Call P f args σ fun r σ'=>R r/\σ'=σ:=
 fB (Dg (fR hm (h σ)))
theorem sI.body {P:Program} {f:Nat} {args:List AV} {R:AV->Prop} {nt na:Nat} {body:VC} {res:List nh} (hf:lP P f=some ⟨nt,na,body,res⟩) (ha:na=args.length) (h:(∀a∈args,eR a)->∀σ:au,dQ (Call P) body (kb res fun r0 σ'=>∃r',V.fz σ'.get 6 r0=some r'/\R r') (bQ args) ⟨V.ro σ.get,σ.next⟩):sI P f args R:=fun σ=>lJ hf ha fun hl=>h hl σ
theorem LR {g:Rows} {rows:List (List AV)} {xs:List (List Nat)} {ids:List Id} (n:Nat) (h:eH P0 g rows xs ids):ew g (n+2) rows=some (xs.map fun l=>[Pu l]):=by
 induction h with
 |nil=>rw[ew];rfl
 |cons h1 _ ih=>
  rename_i x _ _ _ _ _
  rcases h1 with⟨h0,h1,_⟩|⟨id,h1,h0,h2,_⟩
  ·subst h0 h1;rw[ew,ih,ab,aj,aD];rfl
  ·have gP:x≠[]:=by rintro rfl;simp at h0
   subst h1
   rw[ew,ih,ab,aj,gr (e:=eN) (sz:=1) h2 rfl fun a=>SD _ n a]
   simp[Pu,gP]
theorem nF.fz0 {cnt:Nat} {bs:List PB} {f:Nat->Int} {X A F:Id} {g:Rows} {nx:Nat} (h:nF cnt bs f X A F g nx):V.fz g 5 (.ptr X 0 0)=some (.dt (fU cnt bs f)):=by
 have hf:V.fz g 4 (.own F 0 bs.length)=some (.sl (ej f bs.length)):=by
  rw[gV]
  simp only[h.f,if_true]
  rw[if_pos (by rw[dY];omega),List.drop_zero,List.take_of_length_le (by rw[dY];omega),zS];rfl
 have ha:V.fz g 4 (.own A 0 cnt)=some (.sl (pG cnt bs bs.length)):=by
  obtain⟨rows,ids,h1,h2,_,_⟩:=h.a
  have hl:=h2.len
  rw[jc]at hl
  rw[gV]
  simp only[h1,if_true]
  rw[if_pos ai,List.drop_zero,List.take_of_length_le ai,LR 1 h2]
  simp[kQ,pG]
 rw[aU]
 simp only[h.x,if_true,List.getElem?_cons_zero,List.drop_zero,ck,ab,aj,ay,bJ,ha,hf,Option.map_some,fU]
theorem ER {S:Nat->Bool}:∀bs:List PB,(∀b∈bs,b.s<=4)->iP S bs<=4*bs.length
 |[],_=>by simp[iP]
 |b::bs,h=>by
  rw[rU]
  have:=ER (S:=S) bs fun x hx=>h x (List.mem_cons_of_mem _ hx)
  have:=h b (by simp)
  simp only[List.length_cons]
  split<;>omega
theorem jL.zero {bs:List PB} {x y:Nat} (h:∀e,e<bs.length->0<=(cW bs e).s/\(cW bs e).s<=4):jL bs (fun _=>0) x y 0:=
 ⟨fun i hi=>by have:=h i hi;omega,fun S _ _=>jE fun i _=>by simp⟩
theorem KO {bs:List PB} {b:PB} (h:b∈bs):∃e,e<bs.length/\cW bs e=b:=by
 obtain⟨e,he,rfl⟩:=List.getElem_of_mem h
 exact⟨e,he,by simp[cW,List.getD_eq_getElem?_getD,he]⟩
theorem GG (cnt:Nat) (hn:cnt<=1048576) (bs:List PB) (ok:mO cnt bs) (pq:bs.length<=1048576) (eb:∀e,e<bs.length->0<=(cW bs e).s/\(cW bs e).s<=4) (x y:Nat) (hx:x<cnt) (hy:y<cnt) (RJ:x≠y):
  sI Tryz.prog 193 [.int .i64 cnt,.sl (bs.map aB),.int .i64 x,.int .i64 y] fun r=>∃f val,r=.gn [.dt (fU cnt bs f),.int .i64 val]/\jL bs f x y val/\∃S:Nat->Bool,S x=true/\S y=false/\val=iP S bs:=by
 refine sI.body eG rfl fun hl σ=>?_
 clear hl
 (try((repeat(revert hN;revert N;apply Pn.out));refine wk @Nat.zero_add ?_;(repeat(refine Pn.mk ?_;intro N hN))))
 refine .inr (aY _ _ _ _ _ (fun r σ1 hq=>?_) (Jb cnt hn bs ok pq _))
 obtain⟨X,A,F,rfl,hX,hS⟩:=hq
 refine hN _ _ ?_
 clear hN N
 have hS0:∀f val,jL bs f x y val->val<=iP (fun v=>decide (v=x)) bs:=fun f val hf=>hf.bound (decide_eq_true rfl) (decide_eq_false fun h=>RJ h.symm)
 have htot:=ER (S:=fun v=>decide (v=x)) bs fun b hb=>by
  obtain⟨e,he,rfl⟩:=KO hb
  exact(eb e he).2
 generalize iP (fun v=>decide (v=x)) bs=T at *
 (try((repeat(revert hN;revert N;apply Pn.out));refine wk @Nat.zero_add ?_;(repeat(refine Pn.mk ?_;intro N hN))))
 refine bF (fun m env st=>∃(f:Nat->Int) (val:Int),m=(T-val).toNat/\0<=val/\env 10=.ptr X 0 0/\env 11=.int .i64 val/\jL bs f x y val/\nF cnt bs f X A F st.get σ1.next/\σ1.next<=st.next) T.toNat ⟨_,0,by simp,ai,by(simp only[go_sem, ↓reduceIte,Nat.reduceEqDiff,Nat.reduceAdd,Nat.reduceSub,Nat.reduceLeDiff,reduceCtorEq]),by(simp only[go_sem, ↓reduceIte,Nat.reduceEqDiff,Nat.reduceAdd,Nat.reduceSub,Nat.reduceLeDiff,reduceCtorEq]),jL.zero eb,hS.frame (fun i hi=>rfl) (Nat.le_refl _),bK⟩ ?_
 rintro m env_b st_b ⟨f,val,rfl,rJ,b10,b11,hf,hN1,hle⟩ bfr
 have b2:=bfr 2 (by kernel_rfl)
 have b3:=bfr 3 (by kernel_rfl)
 simp only[go_sem, ↓reduceIte,Nat.reduceEqDiff,Nat.reduceAdd,Nat.reduceSub,Nat.reduceLeDiff,reduceCtorEq]at b2 b3
 clear bfr
 (try((repeat(revert hN;revert N;apply Pn.out));refine wk (tw @b2 (tw @b3 @b10)) ?_;(repeat(refine Pn.mk ?_;intro N hN))))
 refine .inr (aY _ _ _ _ _ (fun r σ2 hq=>?_) (Od cnt hn bs ok pq eb f x y hx hy RJ val hf X A F ⟨st_b.get,_⟩ σ1.next hN1 bK))
 obtain⟨b,f',rfl,SL,mC,_,lv,Vi⟩:=hq
 (try dsimp only at mC)
 refine hN _ _ ?_
 clear hN N
 cases b with
 |true=>
  have lI:=Vi rfl
  have Kt:=hS0 _ _ hf
  have Gf:=hS0 _ _ lI
  have hw:IntKind.i64.wrap (val+1)=val+1:=bP ai
  (try((repeat(revert hN;revert N;apply Pn.out));refine wk (tw @b10 (tw @b11 @hw)) ?_;(repeat(refine Pn.mk ?_;intro N hN))))
  exact⟨_,ai,f',val+1,rfl,ai,sd @b10,sd (tw @b11 @hw),lI,SL,bK⟩
 |false=>
  obtain⟨rfl,S,h1,h2,h3⟩:=lv rfl
  (try((repeat(revert hN;revert N;apply Pn.out));refine wk (tw @b10 @b11) ?_;(repeat(refine Pn.mk ?_;intro N hN))))
  have hz:=SL.fz0
  exact⟨[.ptr X 0 0,.int .i64 val],sd @Nat.zero_add,.gn [.dt (fU cnt bs f'),.int .i64 val],by simp only[eX,bq,ab,aj,hz,ay,Option.map_some],f',val,rfl,hf,S,h1,h2,h3⟩
theorem GH (cnt:Nat) (hn:cnt<=1048576) (bs:List PB) (ok:mO cnt bs) (pq:bs.length<=1048576) (f:Nat->Int) (hs:Small bs f) (y:Nat) (hy:y<cnt):
  mN Tryz.prog 194 [.dt (fU cnt bs f),.int .i64 y] fun r=>∃l:List Nat,r=.sl (l.map eN)/\l.length<=cnt:=by
 refine mN.body eG rfl fun hl n0=>?_
 clear hl
 have hz:∀g:Rows,de (dR g) 6 [.dt (fU cnt bs f),.int .i64 (y:Int)]=some [.dt (fU cnt bs f),.int .i64 y]:=fun g=>by simp only[ab,aj,aH,ay,Option.map_some]
 (try((repeat(revert hN;revert N;apply Pn.out));refine wk @Nat.zero_add ?_;(repeat(refine Pn.mk ?_;intro N hN))))
 refine .inr (aY _ _ _ _ _ (fun r σ1 hq=>?_) ((FD cnt hn bs ok pq f hs y hy).x mixed (hz _)))
 obtain⟨⟨out,rfl,OR⟩,rfl⟩:=hq
 refine hN _ _ ?_
 clear hN N
 (try((repeat(revert hN;revert N;apply Pn.out));refine wk @fU.eq_1 ?_;(repeat(refine Pn.mk ?_;intro N hN))))
 refine bF (fun n env st=>∃k:Nat,n=(cnt)-k/\k<=(cnt)/\env 7=.int .i64 (k:Int)/\(∃(o:Id) (l:List Nat),env 6=.own o 0 l.length/\st.get o=some ⟨true,1,l.map eN⟩/\o.cV<st.next/\l.length<=k)) (cnt) ⟨0,ai,ai,sl @fU.eq_1,⟨⟨194002000,n0+1+1+1⟩,[],by(simp only[go_sem, ↓reduceIte,Nat.reduceEqDiff,Nat.reduceAdd,Nat.reduceSub,Nat.reduceLeDiff,reduceCtorEq])<;>rfl,by(simp only[go_sem, ↓reduceIte,Nat.reduceEqDiff,Nat.reduceAdd,Nat.reduceSub,Nat.reduceLeDiff,reduceCtorEq])<;>rfl,bK,by simp⟩⟩ ?_
 rintro n_a env_a st_a ⟨k,rfl,ale,a7,lL⟩ ev
 have a0:=ev 0 (by kernel_rfl);have a5:=ev 5 (by kernel_rfl)
 simp only[go_sem, ↓reduceIte,Nat.reduceEqDiff,Nat.reduceAdd,Nat.reduceSub,Nat.reduceLeDiff,reduceCtorEq,fU]at a0 a5
 clear ev
 obtain⟨o,l,a6,ag,tV,IL⟩:=lL
 have rJ:=eL tV
 have kP:(l.map eN).length=l.length:=by simp
 by_cases hk:(k:Int)<(cnt:Int)
 ·have cY:∀{e:Env} {gg:Rows} {nx:Nat},(e 7=.int .i64 (IntKind.i64.wrap ((k:Int)+1)))->(∃(o:Id) (l:List Nat),e 6=.own o 0 l.length/\gg o=some ⟨true,1,l.map eN⟩/\o.cV<nx/\l.length<=(k+1))->∃m0,m0<(cnt)-k/\∃k:Nat,m0=(cnt)-k/\k<=(cnt)/\e 7=.int .i64 (k:Int)/\(∃(o:Id) (l:List Nat),e 6=.own o 0 l.length/\gg o=some ⟨true,1,l.map eN⟩/\o.cV<nx/\l.length<=k):=fun x1 x2=>⟨_,ai,k+1,rfl,ai,(by rw[x1,aI ai]),x2⟩
  have uS:=ec (f:=out) (show k<cnt by omega)
  rw[bt]at uS
  have e1:l.length+1<=16777216:=ai
  by_cases h0:0<=out k
  ·(try((repeat(revert hN;revert N;apply Pn.out));refine wk (tw @a7 (tw @a0 (tw @a5 (tw @a6 (tw @ag (tw @rJ (tw @hk (tw @uS (tw @h0 (tw @e1 (tw @kP @fU.eq_1))))))))))) ?_;(repeat(refine Pn.mk ?_;intro N hN))))
   exact cY (sd (tw @a7 (tw @a0 (tw @a5 @fU.eq_1)))) (⟨⟨194007003,st_a.next+1+1⟩,l++[k],by rw[List.length_append];simp only[go_sem, ↓reduceIte,Nat.reduceEqDiff,Nat.reduceAdd,Nat.reduceSub,Nat.reduceLeDiff,reduceCtorEq,List.length_cons,List.length_nil],by rw[List.map_append,List.map_cons,List.map_nil];simp only[go_sem, ↓reduceIte,Nat.reduceEqDiff,Nat.reduceAdd,Nat.reduceSub,Nat.reduceLeDiff,reduceCtorEq,eN],bK,by simp;omega⟩)
  ·(try((repeat(revert hN;revert N;apply Pn.out));refine wk (tw @a7 (tw @a0 (tw @a5 (tw @a6 (tw @ag (tw @rJ (tw @hk (tw @uS (tw @h0 (tw @kP @fU.eq_1)))))))))) ?_;(repeat(refine Pn.mk ?_;intro N hN))))
   exact cY (sd (tw @a7 (tw @a0 (tw @a5 @fU.eq_1)))) (⟨o,l,sd @a6,sd @ag,bK,ai⟩)
 ·(try((repeat(revert hN;revert N;apply Pn.out));refine wk (tw @a7 (tw @a0 (tw @a5 (tw @a6 (tw @hk @fU.eq_1))))) ?_;(repeat(refine Pn.mk ?_;intro N hN))))
  have r4:gq st_a.get 6 (.own o 0 l.length)=some (.sl (l.map eN)):=ig ag rfl fun b=>Oa _ 4 b
  exact⟨_,rfl,_,by simp only[go_sem, ↓reduceIte,Nat.reduceEqDiff,Nat.reduceAdd,Nat.reduceSub,Nat.reduceLeDiff,reduceCtorEq,eX];exact r4,l,rfl,ai⟩
theorem BF (v1 v2:Int) (l1 l2:List Nat) (h1:l1.length<=1048576) (h2:l2.length<=1048576):
  mN Tryz.prog 195 [.int .i64 v1,.sl (l1.map eN),.int .i64 v2,.sl (l2.map eN)] fun r=>∃b,r=.bool b/\(v1<v2->b=true)/\(v2<v1->b=false):=by
 refine mN.body eG rfl fun hl n0=>?_
 clear hl
 have ret:∀{t:Nat} {env:Env} {σ:au} {b:Bool} {x:Ex},(x=.ret∨x=.normal)->env t=.bool b->((v1<v2->b=true)/\(v2<v1->b=false))->kb [.tmp t] (fun r0 σ'=>∃r',gq σ'.get 6 r0=some r'/\∃b,r'=.bool b/\(v1<v2->b=true)/\(v2<v1->b=false)) x env σ:=by
  intro t env σ b x hx he hb
  have:∃vs,fj env σ.get [.tmp t]=some vs/\∃r',gq σ.get 6 (eX vs)=some r'/\∃b,r'=.bool b/\(v1<v2->b=true)/\(v2<v1->b=false):=⟨[env t],rfl,.bool b,by rw[he];exact fF _ _ _,b,rfl,hb⟩
  rcases hx with rfl|rfl
  ·exact this
  ·exact this
 have m1:(l1.map eN).length=l1.length:=by simp
 have m2:(l2.map eN).length=l2.length:=by simp
 by_cases hv:v1=v2
 ·have hd:decide (v1=v2)=true:=decide_eq_true hv
  by_cases IL:(l1.length:Int)=(l2.length:Int)
  ·have nu:decide ((l1.length:Int)=(l2.length:Int))=true:=decide_eq_true IL
   have Rb:decide (l1.length=l2.length)=true:=decide_eq_true ai
   (try((repeat(revert hN;revert N;apply Pn.out));refine wk (tw @hd (tw @nu (tw @Rb (tw @m1 @m2)))) ?_;(repeat(refine Pn.mk ?_;intro N hN))))
   refine bF (fun n env st=>∃k:Nat,n=(l1.length)-k/\k<=(l1.length)/\env 9=.int .i64 (k:Int)) (l1.length) ⟨0,ai,ai,sl @Nat.zero_add⟩ ?_
   rintro n_a env_a st_a ⟨k,rfl,ale,a9⟩ ev
   have a1:=ev 1 (by kernel_rfl);have a3:=ev 3 (by kernel_rfl)
   simp only[go_sem, ↓reduceIte,Nat.reduceEqDiff,Nat.reduceAdd,Nat.reduceSub,Nat.reduceLeDiff,reduceCtorEq]at a1 a3
   clear ev
   by_cases hk:(k:Int)<(l1.length:Int)
   ·have cY:∀{e:Env},(e 9=.int .i64 (IntKind.i64.wrap ((k:Int)+1)))->∃m0,m0<(l1.length)-k/\∃k:Nat,m0=(l1.length)-k/\k<=(l1.length)/\e 9=.int .i64 (k:Int):=fun x1=>⟨_,ai,k+1,rfl,ai,(by rw[x1,aI ai])⟩
    have g1:(l1.map eN)[k]? =some (eN (l1.getD k 0)):=getD_map eN ai
    have g2:(l2.map eN)[k]? =some (eN (l2.getD k 0)):=getD_map eN ai
    rw[eN]at g1 g2
    by_cases he:((l1.getD k 0:Nat):Int)=((l2.getD k 0:Nat):Int)
    ·have Rc:decide (((l1.getD k 0:Nat):Int)=((l2.getD k 0:Nat):Int))=true:=decide_eq_true he
     have Ut:decide (l1.getD k 0=l2.getD k 0)=true:=decide_eq_true ai
     (try((repeat(revert hN;revert N;apply Pn.out));refine wk (tw @a9 (tw @a1 (tw @a3 (tw @hk (tw @m1 (tw @g1 (tw @g2 (tw @Rc @Ut)))))))) ?_;(repeat(refine Pn.mk ?_;intro N hN))))
     exact cY (sd (tw @a9 (tw @a1 @a3)))
    ·have Rc:decide (((l1.getD k 0:Nat):Int)=((l2.getD k 0:Nat):Int))=false:=decide_eq_false he
     have Ut:decide (l1.getD k 0=l2.getD k 0)=false:=decide_eq_false ai
     (try((repeat(revert hN;revert N;apply Pn.out));refine wk (tw @a9 (tw @a1 (tw @a3 (tw @hk (tw @m1 (tw @g1 (tw @g2 (tw @Rc @Ut)))))))) ?_;(repeat(refine Pn.mk ?_;intro N hN))))
     exact ret (.inl rfl) (by simp only[go_sem, ↓reduceIte,Nat.reduceEqDiff,Nat.reduceAdd,Nat.reduceSub,Nat.reduceLeDiff,reduceCtorEq];rfl) ⟨fun h=>ai,fun h=>ai⟩
   ·(try((repeat(revert hN;revert N;apply Pn.out));refine wk (tw @a9 (tw @a1 (tw @a3 (tw @hk @m1)))) ?_;(repeat(refine Pn.mk ?_;intro N hN))))
    exact ret (b:=false) (.inl rfl) (sd @Nat.zero_add) ⟨fun h=>ai,fun h=>ai⟩
  ·have nu:decide ((l1.length:Int)=(l2.length:Int))=false:=decide_eq_false IL
   have Rb:decide (l1.length=l2.length)=false:=decide_eq_false ai
   (try((repeat(revert hN;revert N;apply Pn.out));refine wk (tw @hd (tw @nu (tw @Rb (tw @m1 @m2)))) ?_;(repeat(refine Pn.mk ?_;intro N hN))))
   exact ret (.inl rfl) (by simp only[go_sem, ↓reduceIte,Nat.reduceEqDiff,Nat.reduceAdd,Nat.reduceSub,Nat.reduceLeDiff,reduceCtorEq];rfl) ⟨fun h=>ai,fun h=>ai⟩
 ·have hd:decide (v1=v2)=false:=decide_eq_false hv
  (try((repeat(revert hN;revert N;apply Pn.out));refine wk @hd ?_;(repeat(refine Pn.mk ?_;intro N hN))))
  exact ret (b:=decide (v1<v2)) (.inl rfl) (sd @Nat.zero_add) ⟨fun h=>decide_eq_true h,fun h=>decide_eq_false ai⟩
def ue (bs:List PB) (cnt:Nat) (iW:Int) (k:Nat):Prop:=(k=1/\iW= -1)∨(0<=iW/\(∀z,1<=z->z<k->∀S:Nat->Bool,S 0=true->S z=false->iW<=iP S bs)/\∃S:Nat->Bool,S 0=true/\(∃z,z<cnt/\S z=false)/\iW=iP S bs)
theorem jL.nn {bs:List PB} {val:Int} {S:Nat->Bool} (eb:∀e,e<bs.length->0<=(cW bs e).s/\(cW bs e).s<=4) (h:val=iP S bs):0<=val:=by
 rw[h,uy]
 have:=rl (f:=fun _=>0) (g:=fun i=>if S (cW bs i).a=S (cW bs i).b then 0 else(cW bs i).s) (n:=bs.length) fun i hi=>by
  have:=eb i hi
  split<;>omega
 rw[jE fun _ _=>rfl]at this
 exact this
theorem ue.done {bs:List PB} {cnt:Nat} {iW:Int} (hc:2<=cnt) (h:ue bs cnt iW cnt) (t:Int):t<=iW↔kh cnt bs t:=by
 rcases h with⟨h,_⟩|⟨_,h1,S,h2,⟨z,hz,lf⟩,h3⟩
 ·omega
 ·constructor
  ·intro ht S h0 ⟨y,hy,hy2⟩
   have:y≠0:=by rintro rfl;rw[h0]at hy2;cases hy2
   have:=h1 y ai hy S h0 hy2
   omega
  ·intro hH
   rw[h3];exact hH S h2 ⟨z,hz,lf⟩
theorem zo (cnt:Nat) (h2:2<=cnt) (hn:cnt<=1048576) (bs:List PB) (ok:mO cnt bs) (pq:bs.length<=1048576) (eb:∀e,e<bs.length->0<=(cW bs e).s/\(cW bs e).s<=4):
  sI Tryz.prog 126 [.int .i64 cnt,.sl (bs.map aB)] fun r=>∃iW p,r=.gn [.int .i64 iW,p]/\∀t:Int,t<=iW↔kh cnt bs t:=by
 refine sI.body eG rfl fun hl σ=>?_
 clear hl
 (try((repeat(revert hN;revert N;apply Pn.out));refine wk @Nat.zero_add ?_;(repeat(refine Pn.mk ?_;intro N hN))))
 have z0:∀(g:Rows) (id:Id),g id=some ⟨true,1,[]⟩->V.fz (dR g) 6 (.own id 0 0)=some (.sl (([]:List Nat).map eN))/\V.fz g 5 (.own id 0 0)=some (.sl (([]:List Nat).map eN)):=fun g id h=>by
  have h':dR g id=some ⟨true,1,[]⟩:=by simp[dR,h]
  constructor
  ·rw[gV];simp only[h',if_true];rw[if_pos (by simp)];simp[nW]
  ·rw[gV];simp only[h,if_true];rw[if_pos (by simp)];simp[nW]
 refine bF (fun m env st=>∃(k:Nat) (iW:Int) (l:List Nat) (p:AV),m=cnt-k/\1<=k/\k<=cnt/\env 8=.int .i64 (k:Int)/\env 6=.int .i64 iW/\env 7=p/\V.fz (dR st.get) 6 p=some (.sl (l.map eN))/\V.fz st.get 5 p=some (.sl (l.map eN))/\l.length<=cnt/\ue bs cnt iW k) (cnt-1) ⟨1,-1,[],.own ⟨126002000,σ.next+1+1⟩ 0 0,rfl,ai,ai,by(simp only[go_sem, ↓reduceIte,Nat.reduceEqDiff,Nat.reduceAdd,Nat.reduceSub,Nat.reduceLeDiff,reduceCtorEq])<;>rfl,by(simp only[go_sem, ↓reduceIte,Nat.reduceEqDiff,Nat.reduceAdd,Nat.reduceSub,Nat.reduceLeDiff,reduceCtorEq])<;>rfl,by(simp only[go_sem, ↓reduceIte,Nat.reduceEqDiff,Nat.reduceAdd,Nat.reduceSub,Nat.reduceLeDiff,reduceCtorEq])<;>rfl,(z0 _ _ (sd @Nat.zero_add)).1,(z0 _ _ (sd @Nat.zero_add)).2,by simp,.inl ⟨rfl,rfl⟩⟩ ?_
 rintro m env_b st_b ⟨k,iW,l,p,rfl,wL,uQ,b8,b6,b7,Al,lf,hl,hB⟩ bfr
 have b0:=bfr 0 (by kernel_rfl)
 have b1:=bfr 1 (by kernel_rfl)
 simp only[go_sem, ↓reduceIte,Nat.reduceEqDiff,Nat.reduceAdd,Nat.reduceSub,Nat.reduceLeDiff,reduceCtorEq]at b0 b1
 clear bfr z0
 by_cases hk:(k:Int)<(cnt:Int)
 ·have fM:k<cnt:=ai
  have hFl:=GG cnt hn bs ok pq eb 0 k ai fM ai
  rw[show(((0:Nat):Int))=0 from rfl]at hFl
  (try((repeat(revert hN;revert N;apply Pn.out));refine wk (tw @b0 (tw @b1 (tw @b6 (tw @b7 (tw @b8 @hk))))) ?_;(repeat(refine Pn.mk ?_;intro N hN))))
  refine .inr (aY _ _ _ _ _ (fun r σ1 hq=>?_) (hFl.x mixed))
  obtain⟨⟨f,val,rfl,hf,S,Ov,Ow,SM⟩,rfl⟩:=hq
  refine hN _ _ ?_
  clear hN N
  have Ly:=vY eb hf.le
  have sa:=jL.nn (val:=val) eb SM
  (try((repeat(revert hN;revert N;apply Pn.out));refine wk (tw @b0 (tw @b1 (tw @b6 (tw @b7 @b8)))) ?_;(repeat(refine Pn.mk ?_;intro N hN))))
  refine .inr (aY _ _ _ _ _ (fun r σ1 hq=>?_) ((GH cnt hn bs ok pq f Ly k fM).x mixed (by simp only[ab,aj,aH,ay,Option.map_some])))
  obtain⟨⟨l',rfl,Kz⟩,rfl⟩:=hq
  refine hN _ _ ?_
  clear hN N
  have hw:IntKind.i64.wrap ((k:Int)+1)=((k+1:Nat):Int):=aI ai
  have Sb:(∀z,1<=z->z<k->∀S:Nat->Bool,S 0=true->S z=false->val<=iP S bs)->ue bs cnt val (k+1):=fun h=>.inr ⟨sa,fun z Al lf S' h0 h1=>by
   by_cases sV:z=k
   ·subst sV;exact hf.bound h0 h1
   ·exact h z Al ai S' h0 h1,S,Ov,⟨k,fM,Ow⟩,SM⟩
  by_cases jP:iW<0
  ·have Bf:k=1:=by
    rcases hB with⟨h,_⟩|⟨h,_⟩
    ·exact h
    ·omega
   (try((repeat(revert hN;revert N;apply Pn.out));refine wk (tw @b0 (tw @b1 (tw @b6 (tw @b7 (tw @b8 (tw @jP @hw)))))) ?_;(repeat(refine Pn.mk ?_;intro N hN))))
   refine⟨_,?_,k+1,val,l',.sl (l'.map eN),rfl,ai,ai,sd (tw @b8 @hw),sd @Nat.zero_add,sd @Nat.zero_add,bJ _ _ _,bJ _ _ _,Kz,Sb fun z h1 h2=>ai⟩
   omega
  ·have Bf:(∀z,1<=z->z<k->∀S:Nat->Bool,S 0=true->S z=false->iW<=iP S bs)/\∃S:Nat->Bool,S 0=true/\(∃z,z<cnt/\S z=false)/\iW=iP S bs:=by
    rcases hB with⟨_,h⟩|⟨_,h⟩
    ·omega
    ·exact h
   (try((repeat(revert hN;revert N;apply Pn.out));refine wk (tw @b0 (tw @b1 (tw @b6 (tw @b7 (tw @b8 (tw @jP @hw)))))) ?_;(repeat(refine Pn.mk ?_;intro N hN))))
   refine .inr (aY _ _ _ _ _ (fun r σ1 hq=>?_) ((BF val iW l' l ai ai).x mixed (by simp only[ab,aj,bJ,ay,Al,Option.map_some])))
   obtain⟨⟨b,rfl,Kt,Gf⟩,rfl⟩:=hq
   refine hN _ _ ?_
   clear hN N
   cases b with
   |true=>
    have Ve:val<=iW:=by
     rcases Int.lt_or_le iW val with h|h
     ·exact absurd (Gf h) (by simp)
     ·exact h
    (try((repeat(revert hN;revert N;apply Pn.out));refine wk (tw @b0 (tw @b1 (tw @b6 (tw @b7 (tw @b8 @hw))))) ?_;(repeat(refine Pn.mk ?_;intro N hN))))
    refine⟨_,?_,k+1,val,l',.sl (l'.map eN),rfl,ai,ai,sd (tw @b8 @hw),sd @Nat.zero_add,sd @Nat.zero_add,bJ _ _ _,bJ _ _ _,Kz,Sb fun z h1 h2 S' h3 h4=>by have:=Bf.1 z h1 h2 S' h3 h4;omega⟩
    omega
   |false=>
    have Ve:iW<=val:=by
     rcases Int.lt_or_le val iW with h|h
     ·exact absurd (Kt h) (by simp)
     ·exact h
    (try((repeat(revert hN;revert N;apply Pn.out));refine wk (tw @b0 (tw @b1 (tw @b6 (tw @b7 (tw @b8 @hw))))) ?_;(repeat(refine Pn.mk ?_;intro N hN))))
    refine⟨_,?_,k+1,iW,l,p,rfl,ai,ai,sd (tw @b8 @hw),sd @b6,sd @b7,Al,lf,hl,.inr ⟨ai,fun z h1 h2 S' h3 h4=>?_,Bf.2⟩⟩
    ·omega
    ·by_cases sV:z=k
     ·subst sV;have:=hf.bound h3 h4;omega
     ·exact Bf.1 z h1 ai S' h3 h4
 ·have ml:k=cnt:=ai
  (try((repeat(revert hN;revert N;apply Pn.out));refine wk (tw @b0 (tw @b1 (tw @b6 (tw @b7 (tw @b8 @hk))))) ?_;(repeat(refine Pn.mk ?_;intro N hN))))
  exact⟨[.int .i64 iW,p],sd @Nat.zero_add,.gn [.int .i64 iW,.sl (l.map eN)],by simp only[eX,bq,ab,aj,lf,ay,Option.map_some],iW,_,rfl,ue.done h2 (ml▸hB)⟩
theorem Mr {s:ax} (hS:lK s) (a d:Int):vZ s (ei (ek s a) d)<=4:=by
 have hF:=hS.form
 have fP:ei (ek s a) d=0∨(0<=ei (ek s a) d/\ei (ek s a) d<=s.aw.length):=by
  unfold ei ek
  rw[List.getD_eq_getElem?_getD,List.getD_eq_getElem?_getD]
  rcases ht:s.ah[a.toNat]? with _|t
  ·exact .inl (by simp[DU])
  ·have Va:=List.mem_of_getElem? ht
   simp only[Option.getD_some]
   rcases hg:t.b4[d.toNat]? with _|g
   ·exact .inl rfl
   ·exact .inr (hF.xS t Va g (List.mem_of_getElem? hg))
 unfold vZ
 by_cases h0:ei (ek s a) d=0
 ·rw[if_pos h0];omega
 ·rw[if_neg h0]
  have hk:(ei (ek s a) d-1).toNat<s.aw.length:=ai
  have:=dX (hS.TW _ hk).2.1
  unfold po at this
  unfold rX
  omega
theorem H3 {s:ax} (hS:lK s) (a d b:Int):iM s a d b<=4:=by
 unfold iM
 split
 ·exact Mr hS a d
 ·omega
theorem FT {s:ax} {l:List ae} (hS:lK s) {i:Nat} (hi:i<l.length) {d:Int}:∀b∈mz s l i d,b.a<l.length/\b.b<l.length/\0<=b.s/\b.s<=4:=by
 intro b hb
 unfold mz at hb
 split at hb
 ·rename_i h
  simp only[List.mem_singleton]at hb
  subst hb
  exact⟨hi,(lg h.1).1,by simp only;omega,H3 hS ..⟩
 ·cases hb
theorem xG {s:ax} {l:List ae} (hS:lK s):∀b∈dh s l,b.a<l.length/\b.b<l.length/\0<=b.s/\b.s<=4:=by
 intro b hb
 simp only[dh,gK,ga,List.mem_flatMap,List.mem_range]at hb
 obtain⟨i,hi,j,_,hb⟩:=hb
 exact FT hS hi b hb
theorem pH {s:ax} {l:List ae} (hF:kg l):(dh s l).length<=1000:=by
 have:=sL s l l.length
 have:=hF.Hu
 rw[dh];omega
theorem HU {bs:List PB} {e:Nat} (h:e<bs.length):cW bs e∈bs:=by
 rw[cW,List.getD_eq_getElem?_getD,List.getElem?_eq_getElem h];exact List.getElem_mem h
theorem Gq {n:Nat} {bs:List PB} {t:Int} (h:n<2):kh n bs t:=fun S h0 ⟨y,hy,hf⟩=>by
 have:y=0:=ai
 subst this;rw[h0]at hf;cases hf
def il (s:ax) (l:List ae) (t:Int):Nat:=(leads l.length (eE (bc t (dh s l)))).length
noncomputable def nf (s:ax) (l:List ae) (t:Int):Bool:=@decide (oK l.length (dh s l) t) (Classical.propDecidable _)
def rW (s:ax) (l:List ae) (t:Int):Int:=if 64<il s l t then 4 else 0
theorem l7 {s:ax} {l:List ae} {t:Int} {p:Prop} [Decidable p] (h:p↔oK l.length (dh s l) t):decide p=nf s l t:=by
 letI:=Classical.propDecidable (oK l.length (dh s l) t)
 unfold nf
 by_cases hp:p
 ·rw[decide_eq_true hp];exact(decide_eq_true (h.1 hp)).symm
 ·rw[decide_eq_false hp];exact(decide_eq_false fun k=>hp (h.2 k)).symm
theorem BH (s:ax) (l:List ae) (t:Int) (hS:lK s) (hA:pC s l):aq Tryz.prog 168 [.dt (ad s),.dt [.sl (l.map aa)],.int .i64 t] (.gn [.bool (nf s l t),.int .i64 (rW s l t)]):=by
 refine aq.body eG rfl fun hl n0=>?_
 clear hl
 have hb:=xG (l:=l) hS
 have pq:=pH (s:=s) hA.1
 have Lh:=hA.1.Hu
 have Af:=DJ s l hS.form hA
 have KC:=BG l.length ai (dh s l) (fun b h=>⟨(hb b h).1,(hb b h).2.1⟩) ai t
 have hL:=s7 (bc t (dh s l))
 have fP:=El hL (fun b h=>⟨(hb b h).1,(hb b h).2.1⟩)
 have hlen:=(mJ (eE (bc t (dh s l))) (dh s l)).2
 have lS:=jz l.length (eE (bc t (dh s l)))
 have gh:(l.map aa).length=l.length:=by simp
 by_cases tt:(64:Int)<(il s l t:Int)
 ·have tu:64<il s l t:=ai
  have hd:nf s l t=false:=(l7 (p:=False) ⟨False.elim,fun h=>by have:=h.1;unfold il at tu;omega⟩).symm.trans (by simp)
  rw[il]at tt
  (repeat(first|((repeat(revert hN;revert N;apply Pn.out));refine wk (tw @ad.eq_1 (tw @tt @gh)) ?_;(repeat(refine Pn.mk ?_;intro N hN)))|((try apply Or.inl);refine⟨_,aq.x (Af) (sd (tw @ad.eq_1 (tw @tt @gh))),?_⟩;refine hN _ _ ?_;clear hN N)|((try apply Or.inl);refine⟨_,aq.x (KC) (sd (tw @ad.eq_1 (tw @tt @gh))),?_⟩;refine hN _ _ ?_;clear hN N)))
  exact jh (.inl rfl) (r1:=.bool false) (r2:=.int .i64 4) (sd @Nat.zero_add) (sd @Nat.zero_add) (by rw[hd,rW,if_pos tu];simp only[eP,bW,cU,fF,eC,Option.map_some])
 have tu:¬64<il s l t:=ai
 have hf:rW s l t=0:=by rw[rW,if_neg tu]
 by_cases h2:(il s l t:Int)<2
 ·have hd:nf s l t=true:=(l7 (p:=True) ⟨fun _=>⟨by unfold il at tu;omega,Gq (by unfold il at h2;omega)⟩,fun _=>trivial⟩).symm.trans (by simp)
  rw[il]at tt h2
  (repeat(first|((repeat(revert hN;revert N;apply Pn.out));refine wk (tw @ad.eq_1 (tw @tt (tw @h2 @gh))) ?_;(repeat(refine Pn.mk ?_;intro N hN)))|((try apply Or.inl);refine⟨_,aq.x (Af) (sd (tw @ad.eq_1 (tw @tt (tw @h2 @gh)))),?_⟩;refine hN _ _ ?_;clear hN N)|((try apply Or.inl);refine⟨_,aq.x (KC) (sd (tw @ad.eq_1 (tw @tt (tw @h2 @gh)))),?_⟩;refine hN _ _ ?_;clear hN N)))
  exact jh (.inl rfl) (r1:=.bool true) (r2:=.int .i64 0) (sd @Nat.zero_add) (sd @Nat.zero_add) (by rw[hd,hf];simp only[eP,bW,cU,fF,eC,Option.map_some])
 have OZ:=zo (il s l t) ai (by unfold il;omega) (fc (eE (bc t (dh s l))) (dh s l)) (fun e he=>by have:=fP _ (HU he);exact⟨this.1,this.2.1,this.2.2.1⟩) ai (fun e he=>by
  obtain⟨_,_,_,c,hc,dS⟩:=fP _ (HU he)
  rw[dS];have:=hb c hc;omega)
 rw[il]at tt h2 OZ
 (repeat(first|((repeat(revert hN;revert N;apply Pn.out));refine wk (tw @ad.eq_1 (tw @tt (tw @h2 @gh))) ?_;(repeat(refine Pn.mk ?_;intro N hN)))|((try apply Or.inl);refine⟨_,aq.x (Af) (sd (tw @ad.eq_1 (tw @tt (tw @h2 @gh)))),?_⟩;refine hN _ _ ?_;clear hN N)|((try apply Or.inl);refine⟨_,aq.x (KC) (sd (tw @ad.eq_1 (tw @tt (tw @h2 @gh)))),?_⟩;refine hN _ _ ?_;clear hN N)))
 refine .inr (aY _ _ _ _ _ (fun r σ1 hq=>?_) (OZ.x mixed))
 obtain⟨⟨iW,p,rfl,Q6⟩,rfl⟩:=hq
 refine hN _ _ ?_
 clear hN N
 (try((repeat(revert hN;revert N;apply Pn.out));refine wk @Nat.zero_add ?_;(repeat(refine Pn.mk ?_;intro N hN))))
 exact jh (.inl rfl) (r1:=.bool (decide (t<=iW))) (r2:=.int .i64 0) (sd @Nat.zero_add) (sd @Nat.zero_add) (by
  rw[hf,l7 (s:=s) (l:=l) (t:=t) (p:=t<=iW) ((Q6 t).trans (Du.trans ⟨fun h=>⟨by unfold il at tu;omega,h⟩,fun h=>h.2⟩))]
  simp only[eP,bW,cU,fF,eC,Option.map_some])
theorem sg (t:Int):aq Tryz.prog 123 [.int .i64 t] (.bool (gM t 1 16)):=by
 refine aq.body eG rfl fun hl n0=>?_
 clear hl
 have h:=jH t 1 16
 (repeat(first|((repeat(revert hN;revert N;apply Pn.out));refine wk @Nat.zero_add ?_;(repeat(refine Pn.mk ?_;intro N hN)))|((try apply Or.inl);refine⟨_,aq.x (h) (sd @Nat.zero_add),?_⟩;refine hN _ _ ?_;clear hN N)))
 exact bd (b:=gM t 1 16) (.inl rfl) (sd @Nat.zero_add) rfl
structure CO (s:dc):Prop where
 set:lK s.aM
 Ml:pC s.aM s.cj.ah
 some:1<=s.cj.ah.length
 Ms:gM s.aC 1 16=true
 holds:oK s.cj.ah.length (dh s.aM s.cj.ah) s.aC
noncomputable def kT (s:dc):Bool:=@decide (CO s) (Classical.propDecidable _)
theorem wb {s:dc}:kT s=true↔CO s:=by simp[kT]
theorem jK {s:dc} (h:¬CO s):false=kT s:=by simp[kT,h]
theorem Ch {s:dc} (h:CO s):true=kT s:=by simp[kT,h]
theorem oX {s:ax} {l:List ae} {t:Int}:nf s l t=true↔oK l.length (dh s l) t:=by simp[nf]
theorem Fs (s:dc) (hn:fZ s.aM) (hg:s.aM.aw.length<=1048576) (ht:s.aM.ah.length<=1048576):aq Tryz.prog 94 [.dt (bY s)] (.bool (kT s)):=by
 refine aq.body eG rfl fun hl n0=>?_
 clear hl
 have h1:=(LK s.aM hn hg ht).cut mixed (.ptr _ [.sl (s.cj.ah.map aa),.int .i64 s.aC] .nil)
 by_cases hS:lK s.aM
 ·rw[lZ.2 hS]at h1
  have h2:=(Fq s.aM s.cj.ah).cut mixed (.ptr _ [.sl (s.cj.ah.map aa),.int .i64 s.aC] (.ptr _ [.int .i64 s.aC] .nil))
  by_cases hA:pC s.aM s.cj.ah
  ·rw[km.2 hA]at h2
   by_cases h0:(s.cj.ah.length:Int)=0
   ·have hd:decide ((s.cj.ah.length:Int)=0)=true:=decide_eq_true h0
    have lv:false=kT s:=jK fun h=>by have:=h.some;omega
    generalize gh:(s.cj.ah.map aa).length=len at *
    (repeat(first|((repeat(revert hN;revert N;apply Pn.out));refine wk (tw @bY.eq_1 (tw @ad.eq_1 @hd)) ?_;(repeat(refine Pn.mk ?_;intro N hN)))|((try apply Or.inl);refine⟨_,aq.x (h1) (sd (tw @bY.eq_1 (tw @ad.eq_1 @hd))),?_⟩;refine hN _ _ ?_;clear hN N)|((try apply Or.inl);refine⟨_,aq.x (h2) (sd (tw @bY.eq_1 (tw @ad.eq_1 @hd))),?_⟩;refine hN _ _ ?_;clear hN N)))
    exact bd (b:=false) (.inl rfl) (sd @Nat.zero_add) lv
   ·have hd:decide ((s.cj.ah.length:Int)=0)=false:=decide_eq_false h0
    have h3:=sg s.aC
    cases hT:gM s.aC 1 16
    ·rw[hT]at h3
     (repeat(first|((repeat(revert hN;revert N;apply Pn.out));refine wk (tw @bY.eq_1 (tw @ad.eq_1 @hd)) ?_;(repeat(refine Pn.mk ?_;intro N hN)))|((try apply Or.inl);refine⟨_,aq.x (h1) (sd (tw @bY.eq_1 (tw @ad.eq_1 @hd))),?_⟩;refine hN _ _ ?_;clear hN N)|((try apply Or.inl);refine⟨_,aq.x (h2) (sd (tw @bY.eq_1 (tw @ad.eq_1 @hd))),?_⟩;refine hN _ _ ?_;clear hN N)|((try apply Or.inl);refine⟨_,aq.x (h3) (sd (tw @bY.eq_1 (tw @ad.eq_1 @hd))),?_⟩;refine hN _ _ ?_;clear hN N)))
     exact bd (b:=false) (.inl rfl) (sd @Nat.zero_add) (jK fun h=>by have:=h.Ms;rw[hT]at this;cases this)
    ·rw[hT]at h3
     have h4:=(BH s.aM s.cj.ah s.aC hS hA).cut mixed (.ptr _ [.sl (s.cj.ah.map aa),.int .i64 s.aC] (.ptr _ [.int .i64 s.aC] (.same _ .nil)))
     cases hB:nf s.aM s.cj.ah s.aC
     ·rw[hB]at h4
      (repeat(first|((repeat(revert hN;revert N;apply Pn.out));refine wk (tw @bY.eq_1 (tw @ad.eq_1 @hd)) ?_;(repeat(refine Pn.mk ?_;intro N hN)))|((try apply Or.inl);refine⟨_,aq.x (h1) (sd (tw @bY.eq_1 (tw @ad.eq_1 @hd))),?_⟩;refine hN _ _ ?_;clear hN N)|((try apply Or.inl);refine⟨_,aq.x (h2) (sd (tw @bY.eq_1 (tw @ad.eq_1 @hd))),?_⟩;refine hN _ _ ?_;clear hN N)|((try apply Or.inl);refine⟨_,aq.x (h3) (sd (tw @bY.eq_1 (tw @ad.eq_1 @hd))),?_⟩;refine hN _ _ ?_;clear hN N)|((try apply Or.inl);refine⟨_,aq.x (h4) (sd (tw @bY.eq_1 (tw @ad.eq_1 @hd))),?_⟩;refine hN _ _ ?_;clear hN N)))
      exact bd (b:=false) (.inl rfl) (sd @Nat.zero_add) (jK fun h=>by have:=oX.2 h.holds;rw[hB]at this;cases this)
     ·have hP:=oX.1 hB
      have hf:rW s.aM s.cj.ah s.aC=0:=by
       have:=hP.1
       rw[rW,if_neg (by unfold il;omega)]
      rw[hB,hf]at h4
      (repeat(first|((repeat(revert hN;revert N;apply Pn.out));refine wk (tw @bY.eq_1 (tw @ad.eq_1 @hd)) ?_;(repeat(refine Pn.mk ?_;intro N hN)))|((try apply Or.inl);refine⟨_,aq.x (h1) (sd (tw @bY.eq_1 (tw @ad.eq_1 @hd))),?_⟩;refine hN _ _ ?_;clear hN N)|((try apply Or.inl);refine⟨_,aq.x (h2) (sd (tw @bY.eq_1 (tw @ad.eq_1 @hd))),?_⟩;refine hN _ _ ?_;clear hN N)|((try apply Or.inl);refine⟨_,aq.x (h3) (sd (tw @bY.eq_1 (tw @ad.eq_1 @hd))),?_⟩;refine hN _ _ ?_;clear hN N)|((try apply Or.inl);refine⟨_,aq.x (h4) (sd (tw @bY.eq_1 (tw @ad.eq_1 @hd))),?_⟩;refine hN _ _ ?_;clear hN N)))
      exact bd (b:=true) (.inl rfl) (sd @Nat.zero_add) (Ch ⟨hS,hA,ai,hT,hP⟩)
  ·have hb:nj s.aM s.cj.ah=false:=Bool.eq_false_iff.2 fun h=>hA (km.1 h)
   rw[hb]at h2
   (repeat(first|((repeat(revert hN;revert N;apply Pn.out));refine wk (tw @bY.eq_1 @ad.eq_1) ?_;(repeat(refine Pn.mk ?_;intro N hN)))|((try apply Or.inl);refine⟨_,aq.x (h1) (sd (tw @bY.eq_1 @ad.eq_1)),?_⟩;refine hN _ _ ?_;clear hN N)|((try apply Or.inl);refine⟨_,aq.x (h2) (sd (tw @bY.eq_1 @ad.eq_1)),?_⟩;refine hN _ _ ?_;clear hN N)))
   exact bd (b:=false) (.inl rfl) (sd @Nat.zero_add) (jK fun h=>hA h.Ml)
 ·have hb:re s.aM=false:=Bool.eq_false_iff.2 fun h=>hS (lZ.1 h)
  rw[hb]at h1
  (repeat(first|((repeat(revert hN;revert N;apply Pn.out));refine wk (tw @bY.eq_1 @ad.eq_1) ?_;(repeat(refine Pn.mk ?_;intro N hN)))|((try apply Or.inl);refine⟨_,aq.x (h1) (sd (tw @bY.eq_1 @ad.eq_1)),?_⟩;refine hN _ _ ?_;clear hN N)))
  exact bd (b:=false) (.inl rfl) (sd @Nat.zero_add) (jK fun h=>hS h.set)
def nN (s:ax) (f:aO->Int) (p:aO) (t:Int):Nat->Int
 |0=>0
 |d+1=>nN s f p t d+if 0<=f (eK p d)then iM s t d (f (eK p d))else 0
def QD (s:ax) (f:aO->Int) (p:aO) (t:Int):Int:=nN s f p t 4
def FL (la lb:List ae):Bool:=la.all fun t=>decide (nk lb t.bE=t.bR)
abbrev mP:MK:=⟨true,[.tI,.tI]⟩
theorem BP (p:aO):∀(ts:List ae) (i:Nat),gI mP (ar p) (ts.map aa) i=some (if pf ts p<ts.length then some (i+pf ts p)else none)
 |[],i=>by simp[gI,pf]
 |t::ts,i=>by
  have e:eF mP.ts (ar p) ((aa t).take mP.ks)=some (decide (p=t.bE)):=by
   have h:(p=t.bE)↔(p.fb=t.bE.fb/\p.eT=t.bE.eT):=⟨fun h=>by rw[h];exact⟨rfl,rfl⟩,fun h=>D9 h.1 h.2⟩
   simp[MK.ks,ar,aa,eF,fa,h]
  have ih:=BP p ts (i+1)
  rw[List.map_cons]
  unfold gI
  rw[e]
  by_cases h:p=t.bE
  ·rw[decide_eq_true h]
   have h0:pf (t::ts) p=0:=by simp[pf,List.findIdx_cons,h]
   simp[h0]
  ·rw[decide_eq_false h]
   have h0:pf (t::ts) p=pf ts p+1:=by
    simp[pf,List.findIdx_cons,Ne.symm h]
   simp only[ih,h0,List.length_cons,Nat.add_lt_add_iff_right]
   congr 1
   split<;>simp;omega
theorem yk (ts:List ae) (p:aO):gu mP (.agg [.int .i64 p.fb,.int .i64 p.eT]) (ts.map aa)=some (if 0<=eO ts p then some (eO ts p).toNat else none):=by
 have h:=BP p ts 0
 unfold gu
 rw[if_pos ⟨rfl,rfl,rfl⟩]
 show gI mP (ar p) _ 0= _
 rw[h]
 unfold eO
 split<;>simp
theorem GP {ts:List ae} {p:aO} (h:0<=eO ts p):gu mP (.agg [.int .i64 p.fb,.int .i64 p.eT]) (ts.map aa)=some (some (eO ts p).toNat):=by rw[yk,if_pos h]
theorem DR {ts:List ae} {p:aO} (h:eO ts p<0):gu mP (.agg [.int .i64 p.fb,.int .i64 p.eT]) (ts.map aa)=some none:=by rw[yk,if_neg ai]
structure Cry (g:Rows) (n:Nat) (c T O:Id) (s:dc) (ts:List ae):Prop where
 row:∃b,g c=some ⟨b,6,[[.sl (s.aM.aw.map cL),.sl (s.aM.ah.map bV),.sl (s.cj.ah.map aa),.int .i64 s.aC,.map T mP,.map O mP]]⟩
 tl:∃b,g T=some ⟨b,mP.ua,ts.map aa⟩
 cv:c.cV<n
 tv:T.cV<n
 ov:O.cV<n
noncomputable def N7 (s:dc) (ts:List ae) (p:aO) (t:Int):Bool:=D8 p&&decide (nk ts p<0)&&decide (s.aC<=QD s.aM (nk ts) p t)
def OW (rows:List (List AV)):Prop:=∀r∈rows,∃(x y:Int) (v:AV),r=[.int .i64 x,.int .i64 y,v]
def LookK (σ:au) (O:Id) (g:Rows) (n:Nat):Prop:=σ.next<=n/\(∀x:Id,x.cV<σ.next->x≠O->g x=σ.get x)/\∃rows,g O=some ⟨true,mP.ua,rows⟩/\OW rows
structure Ts (g:Rows) (n:Nat) (c T O:Id) (s:dc) (ts:List ae):Prop where
 row:g c=some ⟨true,6,[[.sl (s.aM.aw.map cL),.sl (s.aM.ah.map bV),.sl (s.cj.ah.map aa),.int .i64 s.aC,.map T mP,.map O mP]]⟩
 tl:g T=some ⟨true,mP.ua,ts.map aa⟩
 op:∃rows,g O=some ⟨true,mP.ua,rows⟩/\OW rows
 cv:c.cV<n
 tv:T.cV<n
 ov:O.cV<n
 cT:c≠T
 cO:c≠O
 TO:T≠O
theorem Bu {l:List ae} {p:aO}:eO l p<0↔∀t∈l,t.bE≠p:=by
 unfold eO pf
 by_cases h:(l.findIdx fun c=>decide (c.bE=p))<l.length
 ·rw[if_pos h]
  obtain⟨t,ht,h2⟩:=List.findIdx_lt_length.1 h
  exact⟨fun h=>ai,fun h=>absurd (by simpa using h2) (h t ht)⟩
 ·rw[if_neg h]
  exact⟨fun _ t ht e=>h (List.findIdx_lt_length.2 ⟨t,ht,by simp[e]⟩),fun _=>ai⟩
end Go.Proofs.YtgoljkjaameagaaGreat.V

namespace Go.Proofs.YtgoljkjaameagaaGreat.V
open Go.RowKit
def iE:List ae->ae->List ae
 |[],q=>[q]
 |x::r,q=>if jI q.bE x.bE=true then q::x::r else x::iE r q
theorem BM {q x:ae}:∀{l:List ae},x∈iE l q↔x=q∨x∈l
 |[]=>by simp[iE]
 |y::r=>by
  have ih:=@BM q x r
  rw[iE]
  split
  ·simp
  ·simp only[List.mem_cons,ih]
   constructor
   ·rintro(h|h|h)<;>simp[h]
   ·rintro(h|h|h)<;>simp[h]
theorem lW (q:ae):∀l:List ae,(iE l q).length=l.length+1
 |[]=>rfl
 |y::r=>by
  have ih:=lW q r
  rw[iE]
  split
  ·simp
  ·simp[ih]
theorem ou {l:List ae}:nI l↔l.Pairwise fun a b=>jI a.bE b.bE=true:=by
 rw[List.pairwise_iff_getElem]
 constructor
 ·intro h i j hi hj Gk
  have:=h i j Gk hj
  rwa [eZ hi,eZ hj]at this
 ·intro h i j Gk hj
  have:=h i j ai hj Gk
  rwa [eZ ai,eZ hj]
theorem zl {l:List ae} {p:aO}:eO l p<0↔∀t∈l,t.bE≠p:=Bu
theorem JG {q:ae}:∀{l:List ae},nI l->eO l q.bE<0->nI (iE l q):=by
 intro l
 rw[ou,ou,zl]
 induction l with
 |nil=>intro _ _;exact List.pairwise_singleton _ _
 |cons y r ih=>
  intro h hn
  obtain⟨h1,h2⟩:=List.pairwise_cons.1 h
  rw[iE]
  split
  ·rename_i hl
   refine List.pairwise_cons.2 ⟨fun x hx=>?_,h⟩
   rcases List.mem_cons.1 hx with rfl|hx
   ·exact hl
   ·exact jA hl (h1 x hx)
  ·rename_i hl
   rw[Bool.not_eq_true]at hl
   refine List.pairwise_cons.2 ⟨fun x hx=>?_,ih h2 fun t ht=>hn t (by simp[ht])⟩
   rcases BM.1 hx with rfl|hx
   ·exact Fw hl fun e=>hn y (by simp) e.symm
   ·exact h1 x hx
theorem jy (x:ae) (r:List ae) (p:aO):nk (x::r) p=if x.bE=p then x.bR else nk r p:=by
 unfold nk eO pf
 rw[List.findIdx_cons]
 by_cases h:x.bE=p
 ·simp[h,bG]
 ·simp only[h,decide_false,cond_false,List.length_cons,Nat.add_lt_add_iff_right,if_false]
  by_cases hl:(r.findIdx fun c=>decide (c.bE=p))<r.length
  ·rw[if_pos hl,if_pos hl,if_pos ai,if_pos ai]
   simp[bG]
  ·rw[if_neg hl,if_neg hl];rfl
theorem HT {q:ae} (p:aO):∀{l:List ae},(∀t∈l,t.bE≠q.bE)->nk (iE l q) p=if q.bE=p then q.bR else nk l p
 |[],_=>by rw[iE,jy]
 |x::r,h=>by
  have ih:=@HT q p r fun t ht=>h t (by simp[ht])
  rw[iE]
  split
  ·rw[jy]
  ·rw[jy,ih,jy]
   by_cases h1:x.bE=p
   ·have h2:q.bE≠p:=fun e=>h x (by simp) (h1.trans e.symm)
    rw[if_pos h1,if_neg h2,if_pos h1]
   ·rw[if_neg h1,if_neg h1]
theorem KN {q:ae} (p:aO):∀{l:List ae},(∀t∈l,t.bE≠q.bE)->nk (l++[q]) p=if q.bE=p then q.bR else nk l p
 |[],_=>by rw[List.nil_append,jy]
 |x::r,h=>by
  have ih:=@KN q p r fun t ht=>h t (by simp[ht])
  rw[List.cons_append,jy,ih,jy]
  by_cases h1:x.bE=p
  ·have h2:q.bE≠p:=fun e=>h x (by simp) (h1.trans e.symm)
   rw[if_pos h1,if_neg h2,if_pos h1]
  ·rw[if_neg h1,if_neg h1]
theorem GR {α:Type} [DecidableEq α]:∀{xs ys:List α},xs.Nodup->(∀x∈xs,x∈ys)->xs.length<=ys.length
 |[],_,_,_=>Nat.zero_le _
 |x::xs,ys,hn,h=>by
  obtain⟨h1,h2⟩:=List.nodup_cons.1 hn
  have hx:=h x (by simp)
  have:=@GR α _ xs (ys.erase x) h2 fun y hy=>(List.mem_erase_of_ne fun e=>h1 (by rw[<-e];exact hy)).2 (h y (by simp[hy]))
  rw[List.length_erase_of_mem hx]at this
  have:=List.length_pos_of_mem hx
  rw[List.length_cons];omega
theorem Qx {l:List ae} (h:nI l):l.Nodup:=by
 rw[ou]at h
 refine List.Pairwise.imp (fun {a b} pW e=>?_) h
 rw[e,j9]at pW;cases pW
abbrev CL:=List ae×List ae
noncomputable def Tk (s:dc) (st:CL) (x:ae):CL:=if N7 s st.2 x.bE x.bR=true then(st.1++[x],iE st.2 x)else st
structure InsI (s:dc) (l:List ae) (st:CL):Prop where
 Nk:nI st.2
 sub:∀x∈st.2,x∈l
 done:∀x∈st.1,x∈l
 len:st.2.length=s.cj.ah.length+st.1.length
theorem QS {s:dc} {l:List ae} (hA:pC s.aM l) {now:List ae} (hs:∀x∈now,x∈l) {p:aO} {t:Int} (h:N7 s now p t=true):eO now p<0:=by
 rcases Int.lt_or_le (eO now p) 0 with h0|h0
 ·exact h0
 ·exfalso
  obtain⟨h1,_⟩:=lg h0
  have h2:=(dX (hA.2 _ (hs _ (jf h1)))).1
  simp[N7,nk,h0]at h
  omega
structure SysW (s:dc):Prop where
 set:lK s.aM
 Ml:pC s.aM s.cj.ah
 some:1<=s.cj.ah.length
 Ms:gM s.aC 1 16=true
end Go.Proofs.YtgoljkjaameagaaGreat.V

namespace Go.Proofs.YtgoljkjaameagaaGreat.V
open Go.RowKit
attribute [local irreducible] dQ wpOps ft Call
attribute [local go_sem] aA eV ef e9 e8 cZ upd bQ K.av cr AV.cells AV.cell rowOf rowsOf part ld rowAt bD bL dm dD fE bu cK dO fa eF db dH cI cH dw dx bz aQ cz bx cD cC dF dI dG cw bC cJ dE bw az cF bZ fD bj cq bB aJ cX aX dn AV.undef bp br dy dC du dz cm dM dP bU dK dJ cE cG List.getD_cons_zero List.getD_cons_succ List.getD_nil List.all_cons List.all_nil Bool.and_true Bool.true_and Bool.and_self Bool.not_true Bool.not_false Option.map_some Option.map_none Option.bind_some Option.bind_none List.length_cons List.length_nil List.take_succ_cons List.take_zero List.take_nil List.drop_succ_cons List.drop_zero List.drop_nil List.head?_cons List.map_cons List.map_nil List.getElem?_cons_zero List.getElem?_cons_succ List.cons_append List.nil_append List.append_nil List.length_map List.set_cons_zero List.set_cons_succ Nat.reduceMul eq_self Int.toNat_natCast Int.natCast_nonneg and_self true_and and_true decide_true decide_false Bool.false_eq_true Nat.zero_add Nat.add_zero List.contains_cons List.contains_nil Bool.or_false Bool.false_or beq_self_eq_true Nat.reduceBEq ne_eq not_true_eq_false not_false_eq_true Id.mk.injEq false_and and_false Nat.reduceLT Int.reduceLE Int.reduceLT Int.reduceToNat Int.reduceNeg Int.reduceAdd Nat.le_refl List.length_append beq_true beq_false Bool.not_eq_eq_eq_not or_false false_or dR ab aj ay bo bJ aD aV aH aU cu bq
theorem four {k:Int} (h1:1<=k) (h4:k<=4):k=1∨k=2∨k=3∨k=4:=ai
theorem Ic {a k:Int} (h1:1<=k) (h4:k<=4) (h0:a<0):0-((0-a+k-1) / k)=a / k:=by
 rcases four h1 h4 with rfl|rfl|rfl|rfl<;>omega
theorem lR {a k:Int} (h1:1<=k) (h4:k<=4) (ha: -1000000<=a) (hb:a<=1000000): -1000000<=a / k/\a / k<=1000000:=by
 rcases four h1 h4 with rfl|rfl|rfl|rfl<;>omega
theorem J8 {a k:Int} (h1:1<=k) (h4:k<=4) (h0:0<=a):a.tmod k=a-k*(a / k):=by
 rw[Int.tmod_eq_emod_of_nonneg h0]
 rcases four h1 h4 with rfl|rfl|rfl|rfl<;>omega
theorem uY (a k:Int) (h1:1<=k) (h4:k<=4) (ha: -1000000<=a) (hb:a<=1000000):aq Tryz.prog 274 [.int .i64 a,.int .i64 k] (.gn [.int .i64 (a / k),.int .i64 (a-k*(a / k))]):=by
 refine aq.body eG rfl fun hl n0=>?_
 clear hl
 have r6:¬k=0:=ai
 have hB:=lR h1 h4 ha hb
 by_cases h0:a<0
 ·obtain⟨b,rfl⟩:∃b:Int,a= -b:=⟨-a,ai⟩
  have hd:(-b).tdiv k= -(b / k):=by rw[Int.neg_tdiv,Int.tdiv_eq_ediv_of_nonneg ai]
  have hr:(-b).tmod k= -(b-k*(b / k)):=by rw[Int.neg_tmod,J8 h1 h4 ai]
  have Af:=lR (a:=b) h1 h4 ai ai
  have hmd:0<=b-k*(b / k)/\b-k*(b / k)<k:=by rcases four h1 h4 with rfl|rfl|rfl|rfl<;>omega
  have hbk:b-k*(b / k)=0/\(-b) / k= -(b / k)/\-b-k*((-b) / k)=0∨0<b-k*(b / k)/\(-b) / k= -(b / k)-1/\-b-k*((-b) / k)= -(b-k*(b / k))+k:=by
   rcases four h1 h4 with rfl|rfl|rfl|rfl<;>omega
  generalize b-k*(b / k)=r at *
  generalize -b-k*((-b) / k)=r2 at *
  generalize (-b) / k=q2 at *
  generalize b / k=q at *
  have w1:IntKind.i64.wrap (-q)= -q:=bP ai
  have w2:IntKind.i64.wrap (-r)= -r:=bP ai
  rcases hbk with⟨e1,e2,e3⟩|⟨e1,e2,e3⟩
  ·have hn:¬ -r<0:=ai
   (try((repeat(revert hN;revert N;apply Pn.out));refine wk (tw @r6 (tw @hd (tw @hr (tw @w1 (tw @w2 @hn))))) ?_;(repeat(refine Pn.mk ?_;intro N hN))))
   exact ll (.inl rfl) (vs:=[.int .i64 (-q),.int .i64 (-r)]) (sd @Nat.zero_add) (by rw[e2,e3,e1];simp only[eX,eP,bW,cU,eC,Option.map_some];rfl)
  ·have hn: -r<0:=ai
   have w3:IntKind.i64.wrap (-q-1)= -q-1:=bP ai
   have w4:IntKind.i64.wrap (-r+k)= -r+k:=bP ai
   (try((repeat(revert hN;revert N;apply Pn.out));refine wk (tw @r6 (tw @hd (tw @hr (tw @w1 (tw @w2 (tw @hn (tw @w3 @w4))))))) ?_;(repeat(refine Pn.mk ?_;intro N hN))))
   exact ll (.inl rfl) (vs:=[.int .i64 (-q-1),.int .i64 (-r+k)]) (sd @Nat.zero_add) (by rw[e2,e3];simp only[eX,eP,bW,cU,eC,Option.map_some])
 ·have hd:a.tdiv k=a / k:=Int.tdiv_eq_ediv_of_nonneg ai
  have hr:=J8 h1 h4 (a:=a) ai
  have hmd:0<=a-k*(a / k)/\a-k*(a / k)<k:=by rcases four h1 h4 with rfl|rfl|rfl|rfl<;>omega
  generalize a-k*(a / k)=r at *
  have w1:IntKind.i64.wrap (a / k)=a / k:=bP ai
  have w2:IntKind.i64.wrap r=r:=bP ai
  have hn:¬r<0:=ai
  (try((repeat(revert hN;revert N;apply Pn.out));refine wk (tw @r6 (tw @hd (tw @hr (tw @w1 (tw @w2 @hn))))) ?_;(repeat(refine Pn.mk ?_;intro N hN))))
  exact ll (.inl rfl) (vs:=[.int .i64 (a / k),.int .i64 r]) (sd @Nat.zero_add) (by simp only[eX,eP,bW,cU,eC,Option.map_some])
def Az (p:aO) (k:Int):aO:=⟨p.fb / k,p.eT / k⟩
def H8 (p:aO) (k:Int):aO:=⟨p.fb-k*(p.fb / k),p.eT-k*(p.eT / k)⟩
theorem DK (p:aO) (k:Int) (h1:1<=k) (h4:k<=4) (hx: -1000000<=p.fb/\p.fb<=1000000) (hy: -1000000<=p.eT/\p.eT<=1000000):aq Tryz.prog 215 [.agg (ar p),.int .i64 k] (.gn [.agg (ar (Az p k)),.agg (ar (H8 p k))]):=by
 refine aq.body eG rfl fun hl n0=>?_
 clear hl
 have e1:=uY p.fb k h1 h4 hx.1 hx.2
 have e2:=uY p.eT k h1 h4 hy.1 hy.2
 (repeat(first|((repeat(revert hN;revert N;apply Pn.out));refine wk @ar.eq_1 ?_;(repeat(refine Pn.mk ?_;intro N hN)))|((try apply Or.inl);refine⟨_,aq.x (e1) (sd @ar.eq_1),?_⟩;refine hN _ _ ?_;clear hN N)|((try apply Or.inl);refine⟨_,aq.x (e2) (sd @ar.eq_1),?_⟩;refine hN _ _ ?_;clear hN N)))
 exact ll (.inl rfl) (vs:=[.agg [.int .i64 (p.fb / k),.int .i64 (p.eT / k)],.agg [.int .i64 (p.fb-k*(p.fb / k)),.int .i64 (p.eT-k*(p.eT / k))]]) (sd @Nat.zero_add) (by simp only[eX,eP,tN,bW,cU,eC,Option.map_some];rfl)
structure bl where
 da:dc
 bf:dc
 dp:Int
 aE:List Int
def ak (m:bl):List AV:=[.sl (m.da.aM.aw.map cL),.sl (m.da.aM.ah.map bV),.sl (m.da.cj.ah.map aa),.int .i64 m.da.aC,.sl (m.bf.aM.aw.map cL),.sl (m.bf.aM.ah.map bV),.sl (m.bf.cj.ah.map aa),.int .i64 m.bf.aC,.int .i64 m.dp,.sl (m.aE.map bt)]
noncomputable def l5 (m:bl):Bool:=kT m.da&&kT m.bf&&gM m.dp 1 4&&decide ((m.aE.length:Int)=(m.da.aM.ah.length:Int))&&m.aE.all (fun n=>gM n (-1) ((m.bf.aM.ah.length:Int)-1))
structure NA (m:bl):Prop where
 n1:fZ m.da.aM
 n2:fZ m.bf.aM
 g1:m.da.aM.aw.length<=1048576
 t1:m.da.aM.ah.length<=1048576
 g2:m.bf.aM.aw.length<=1048576
 t2:m.bf.aM.ah.length<=1048576
theorem zq {L:List Int} {k:Nat} (hk:k<L.length):(L.map bt)[k]? =some [.int .i64 (L.getD k 0)]:=by
 rw[List.getElem?_map,List.getElem?_eq_getElem hk,List.getD_eq_getElem?_getD,List.getElem?_eq_getElem hk];rfl
theorem LM (m:bl) (hM:NA m) (hL:m.aE.length<=1048576):aq Tryz.prog 214 [.dt (ak m)] (.bool (l5 m)):=by
 refine aq.body eG rfl fun hl n0=>?_
 clear hl
 have h1:=(Fs m.da hM.n1 hM.g1 hM.t1).cut mixed (.ptr _ [.sl (m.bf.aM.aw.map cL),.sl (m.bf.aM.ah.map bV),.sl (m.bf.cj.ah.map aa),.int .i64 m.bf.aC,.int .i64 m.dp,.sl (m.aE.map bt)] .nil)
 have h2:=(Fs m.bf hM.n2 hM.g2 hM.t2).cut mixed (.ptr _ [.int .i64 m.dp,.sl (m.aE.map bt)] .nil)
 have h3:=jH m.dp 1 4
 rw[bY]at h1 h2
 have sS:(m.aE.map bt).length=m.aE.length:=List.length_map ..
 have r7:(m.da.aM.ah.map bV).length=m.da.aM.ah.length:=List.length_map ..
 have OG:(m.bf.aM.ah.map bV).length=m.bf.aM.ah.length:=List.length_map ..
 cases b1:kT m.da
 ·rw[b1]at h1
  (repeat(first|((repeat(revert hN;revert N;apply Pn.out));refine wk @ak.eq_1 ?_;(repeat(refine Pn.mk ?_;intro N hN)))|((try apply Or.inl);refine⟨_,aq.x (h1) (sd @ak.eq_1),?_⟩;refine hN _ _ ?_;clear hN N)))
  exact bd (b:=false) (.inl rfl) (sd @Nat.zero_add) (by simp only[l5,b1,Bool.false_and])
 cases b2:kT m.bf
 ·rw[b1]at h1
  rw[b2]at h2
  (repeat(first|((repeat(revert hN;revert N;apply Pn.out));refine wk @ak.eq_1 ?_;(repeat(refine Pn.mk ?_;intro N hN)))|((try apply Or.inl);refine⟨_,aq.x (h1) (sd @ak.eq_1),?_⟩;refine hN _ _ ?_;clear hN N)|((try apply Or.inl);refine⟨_,aq.x (h2) (sd @ak.eq_1),?_⟩;refine hN _ _ ?_;clear hN N)))
  exact bd (b:=false) (.inl rfl) (sd @Nat.zero_add) (by simp only[l5,b1,b2,Bool.false_and,Bool.and_false])
 cases b3:gM m.dp 1 4
 ·rw[b1]at h1
  rw[b2]at h2
  rw[b3]at h3
  (repeat(first|((repeat(revert hN;revert N;apply Pn.out));refine wk @ak.eq_1 ?_;(repeat(refine Pn.mk ?_;intro N hN)))|((try apply Or.inl);refine⟨_,aq.x (h1) (sd @ak.eq_1),?_⟩;refine hN _ _ ?_;clear hN N)|((try apply Or.inl);refine⟨_,aq.x (h2) (sd @ak.eq_1),?_⟩;refine hN _ _ ?_;clear hN N)|((try apply Or.inl);refine⟨_,aq.x (h3) (sd @ak.eq_1),?_⟩;refine hN _ _ ?_;clear hN N)))
  exact bd (b:=false) (.inl rfl) (sd @Nat.zero_add) (by simp only[l5,b3,Bool.false_and,Bool.and_false])
 rw[b1]at h1
 rw[b2]at h2
 rw[b3]at h3
 by_cases h4:(m.aE.length:Int)=(m.da.aM.ah.length:Int)
 ·have hd:=decide_eq_true h4
  (repeat(first|((repeat(revert hN;revert N;apply Pn.out));refine wk (tw @ak.eq_1 (tw @sS (tw @r7 @hd))) ?_;(repeat(refine Pn.mk ?_;intro N hN)))|((try apply Or.inl);refine⟨_,aq.x (h1) (sd (tw @ak.eq_1 (tw @sS (tw @r7 @hd)))),?_⟩;refine hN _ _ ?_;clear hN N)|((try apply Or.inl);refine⟨_,aq.x (h2) (sd (tw @ak.eq_1 (tw @sS (tw @r7 @hd)))),?_⟩;refine hN _ _ ?_;clear hN N)|((try apply Or.inl);refine⟨_,aq.x (h3) (sd (tw @ak.eq_1 (tw @sS (tw @r7 @hd)))),?_⟩;refine hN _ _ ?_;clear hN N)))
  refine bF (fun n env st=>∃k:Nat,n=(m.aE.length)-k/\k<=(m.aE.length)/\env 3=.int .i64 (k:Int)/\(∀j:Nat,j<k->gM (m.aE.getD j 0) (-1) ((m.bf.aM.ah.length:Int)-1)=true)) (m.aE.length) ⟨0,ai,ai,sl @Nat.zero_add,fun _ h=>absurd h (Nat.not_lt_zero _)⟩ ?_
  rintro n_a env_a st_a ⟨k,rfl,ale,a3,lG⟩ ev
  have a0:=ev 0 (by kernel_rfl)
  simp only[go_sem, ↓reduceIte,Nat.reduceEqDiff,Nat.reduceAdd,Nat.reduceSub,Nat.reduceLeDiff,reduceCtorEq]at a0
  clear ev
  by_cases hk:(k:Int)<(m.aE.length:Int)
  ·have cY:∀{e:Env},(e 3=.int .i64 (IntKind.i64.wrap ((k:Int)+1)))->(gM (m.aE.getD k 0) (-1) ((m.bf.aM.ah.length:Int)-1)=true)->∃m0,m0<(m.aE.length)-k/\∃k:Nat,m0=(m.aE.length)-k/\k<=(m.aE.length)/\e 3=.int .i64 (k:Int)/\(∀j:Nat,j<k->gM (m.aE.getD j 0) (-1) ((m.bf.aM.ah.length:Int)-1)=true):=fun x1 x2=>⟨_,ai,k+1,rfl,ai,(by rw[x1,aI ai]),(all_succ lG x2)⟩
   have fM:k<m.aE.length:=ai
   have eU:=zq fM
   have w1:IntKind.i64.wrap ((m.bf.aM.ah.length:Int)-1)=(m.bf.aM.ah.length:Int)-1:=bP (by have:=hM.t2;omega)
   have ht:=jH (m.aE.getD k 0) (-1) ((m.bf.aM.ah.length:Int)-1)
   cases b5:gM (m.aE.getD k 0) (-1) ((m.bf.aM.ah.length:Int)-1)
   ·rw[b5]at ht
    (repeat(first|((repeat(revert hN;revert N;apply Pn.out));refine wk (tw @a3 (tw @a0 (tw @sS (tw @OG (tw @hk (tw @eU @w1)))))) ?_;(repeat(refine Pn.mk ?_;intro N hN)))|((try apply Or.inl);refine⟨_,aq.x (ht) (sd (tw @a3 (tw @a0 (tw @sS (tw @OG (tw @hk (tw @eU @w1))))))),?_⟩;refine hN _ _ ?_;clear hN N)))
    exact bd (b:=false) (.inl rfl) (sd @Nat.zero_add) (by
     have:m.aE.all (fun n=>gM n (-1) ((m.bf.aM.ah.length:Int)-1))=false:=List.all_eq_false.2 ⟨m.aE.getD k 0,by rw[List.getD_eq_getElem?_getD,List.getElem?_eq_getElem fM];exact List.getElem_mem fM,by rw[b5];simp⟩
     simp only[l5,this,Bool.and_false])
   ·rw[b5]at ht
    (repeat(first|((repeat(revert hN;revert N;apply Pn.out));refine wk (tw @a3 (tw @a0 (tw @sS (tw @OG (tw @hk (tw @eU @w1)))))) ?_;(repeat(refine Pn.mk ?_;intro N hN)))|((try apply Or.inl);refine⟨_,aq.x (ht) (sd (tw @a3 (tw @a0 (tw @sS (tw @OG (tw @hk (tw @eU @w1))))))),?_⟩;refine hN _ _ ?_;clear hN N)))
    exact cY (sd (tw @a3 @a0)) (b5)
  ·(try((repeat(revert hN;revert N;apply Pn.out));refine wk (tw @a3 (tw @a0 (tw @sS @hk))) ?_;(repeat(refine Pn.mk ?_;intro N hN))))
   exact bd (b:=true) (.inl rfl) (sd @Nat.zero_add) (by
    have:m.aE.all (fun n=>gM n (-1) ((m.bf.aM.ah.length:Int)-1))=true:=List.all_eq_true.2 fun n hn=>by
     obtain⟨j,hj,rfl⟩:=List.getElem_of_mem hn
     have:=lG j ai
     rwa [List.getD_eq_getElem?_getD,List.getElem?_eq_getElem hj]at this
    simp only[l5,b1,b2,b3,hd,this,Bool.and_self])
 ·have hd:=decide_eq_false h4
  (repeat(first|((repeat(revert hN;revert N;apply Pn.out));refine wk (tw @ak.eq_1 (tw @sS (tw @r7 @hd))) ?_;(repeat(refine Pn.mk ?_;intro N hN)))|((try apply Or.inl);refine⟨_,aq.x (h1) (sd (tw @ak.eq_1 (tw @sS (tw @r7 @hd)))),?_⟩;refine hN _ _ ?_;clear hN N)|((try apply Or.inl);refine⟨_,aq.x (h2) (sd (tw @ak.eq_1 (tw @sS (tw @r7 @hd)))),?_⟩;refine hN _ _ ?_;clear hN N)|((try apply Or.inl);refine⟨_,aq.x (h3) (sd (tw @ak.eq_1 (tw @sS (tw @r7 @hd)))),?_⟩;refine hN _ _ ?_;clear hN N)))
  exact bd (b:=false) (.inl rfl) (sd @Nat.zero_add) (by simp only[l5,hd,Bool.false_and,Bool.and_false])
noncomputable def l6 (m:bl) (a:List ae):Int:=if l5 m=true/\nj m.da.aM a=true then 0 else 1
theorem DL (m:bl) (a:List ae) (hM:NA m) (hL:m.aE.length<=1048576):aq Tryz.prog 141 [.dt (ak m),.dt [.sl (a.map aa)]] (.int .i64 (l6 m a)):=by
 refine aq.body eG rfl fun hl n0=>?_
 clear hl
 have h1:=LM m hM hL
 have h2:=(Fq m.da.aM a).cut mixed (.ptr _ [.sl (m.da.cj.ah.map aa),.int .i64 m.da.aC,.sl (m.bf.aM.aw.map cL),.sl (m.bf.aM.ah.map bV),.sl (m.bf.cj.ah.map aa),.int .i64 m.bf.aC,.int .i64 m.dp,.sl (m.aE.map bt)] (.same _ .nil))
 rw[ad]at h2
 rw[ak]at h1 ⊢
 cases b1:l5 m
 ·rw[b1]at h1
  (repeat(first|((repeat(revert hN;revert N;apply Pn.out));refine wk @Nat.zero_add ?_;(repeat(refine Pn.mk ?_;intro N hN)))|((try apply Or.inl);refine⟨_,aq.x (h1) (sd @Nat.zero_add),?_⟩;refine hN _ _ ?_;clear hN N)))
  exact cR (b:=1) (.inl rfl) (sd @Nat.zero_add) (by rw[l6,if_neg (by rw[b1];simp)])
 rw[b1]at h1
 cases b2:nj m.da.aM a
 ·rw[b2]at h2
  (repeat(first|((repeat(revert hN;revert N;apply Pn.out));refine wk @Nat.zero_add ?_;(repeat(refine Pn.mk ?_;intro N hN)))|((try apply Or.inl);refine⟨_,aq.x (h1) (sd @Nat.zero_add),?_⟩;refine hN _ _ ?_;clear hN N)|((try apply Or.inl);refine⟨_,aq.x (h2) (sd @Nat.zero_add),?_⟩;refine hN _ _ ?_;clear hN N)))
  exact cR (b:=1) (.inl rfl) (sd @Nat.zero_add) (by rw[l6,if_neg (by rw[b2];simp)])
 ·rw[b2]at h2
  (repeat(first|((repeat(revert hN;revert N;apply Pn.out));refine wk @Nat.zero_add ?_;(repeat(refine Pn.mk ?_;intro N hN)))|((try apply Or.inl);refine⟨_,aq.x (h1) (sd @Nat.zero_add),?_⟩;refine hN _ _ ?_;clear hN N)|((try apply Or.inl);refine⟨_,aq.x (h2) (sd @Nat.zero_add),?_⟩;refine hN _ _ ?_;clear hN N)))
  exact cR (b:=0) (.inl rfl) (sd @Nat.zero_add) (by rw[l6,if_pos ⟨b1,b2⟩])
def Qy (n:Nat) (L:List ae) (r:AV) (σ':au):Prop:=∃o:Id,r=.agg [.own o 0 L.length]/\σ'.get o=some ⟨true,3,L.map aa⟩/\n<=o.cV/\o.cV<σ'.next
theorem Qy.val {f:Nat} {args eS:List AV} {L:List ae} {σ:au} (h:∀n,Call Tryz.prog f eS ⟨fun _=>none,n⟩ (Qy n L)) (hv:de (dR σ.get) 6 args=some eS):Call Tryz.prog f args σ (fun r σ'=>Qy σ.next L r σ'/\Kept σ σ'):=by
 refine ug mixed hv (aY _ _ _ _ _ (fun r σ' hq=>?_) (rN mixed (h σ.next)))
 obtain⟨⟨o,rfl,h2,h3,h4⟩,hn⟩:=hq
 refine⟨[o],rfl,fun i hi=>?_,⟨o,rfl,(oE (by simp)).trans h2,h3,h4⟩,hn,fun j hj=>mb fun hc=>?_⟩
 ·rw[List.mem_singleton.1 hi]
  exact⟨_,h2,rfl,fun cs dS a ha=>by
   obtain⟨x,_,rfl⟩:=List.mem_map.1 dS
   simp[aa]at ha
   rcases ha with rfl|rfl|rfl<;>rfl⟩
 ·rw[List.mem_singleton.1 hc]at hj;omega
def tr (q:ae) (l:List ae):Bool:=l.any fun x=>jI q.bE x.bE
theorem B3 {q:ae}:∀{l:List ae},tr q l=false->iE l q=l++[q]
 |[],_=>rfl
 |x::l,h=>by
  unfold tr at h
  rw[List.any_cons,Bool.or_eq_false_iff]at h
  rw[iE,if_neg (by rw[h.1];simp),B3 h.2];rfl
theorem yv {q y:ae}:∀{l:List ae},tr q l=true->iE (l++[y]) q=iE l q++[y]
 |x::l,h=>by
  unfold tr at h
  rw[List.any_cons]at h
  rw[List.cons_append,iE,iE]
  cases hx:jI q.bE x.bE
  ·rw[hx,Bool.false_or]at h
   rw[if_neg (by simp),if_neg (by simp),yv h];rfl
  ·simp
theorem yu {q y:ae}:∀{l:List ae},tr q l=false->jI q.bE y.bE=true->iE (l++[y]) q=l++[q]++[y]
 |[],_,hy=>by simp[iE,hy]
 |x::l,h,hy=>by
  unfold tr at h
  rw[List.any_cons,Bool.or_eq_false_iff]at h
  rw[List.cons_append,iE,if_neg (by rw[h.1];simp),yu h.2 hy];rfl
def iN (q:ae) (l:List ae):List ae:=if tr q l=true then iE l q else l
theorem uC (q:ae) (l:List ae) (y:ae):tr q (l++[y])=(tr q l||jI q.bE y.bE):=by simp[tr]
theorem GX (q:ae) (l:List ae):(iN q l).length<=l.length+1:=by
 unfold iN
 split
 ·rw[lW];omega
 ·omega
theorem JA {q y:ae} {l:List ae} (h:tr q l=true∨jI q.bE y.bE=false):iN q (l++[y])=iN q l++[y]:=by
 unfold iN
 rw[uC]
 cases hd:tr q l
 ·rw[hd]at h
  have h2:jI q.bE y.bE=false:=by rcases h with h|h;cases h;exact h
  simp[h2]
 ·simp[yv hd]
theorem Jz {q y:ae} {l:List ae} (h:tr q l=false) (hy:jI q.bE y.bE=true):iN q (l++[y])=iN q l++[q]++[y]:=by
 unfold iN
 rw[uC,h,hy]
 simp[yu h hy]
def wK (m:Nat) (L:List ae) (v:AV) (g:Rows) (n:Nat):Prop:=(L=[]/\v=.bS)∨∃o:Id,v=.own o 0 L.length/\g o=some ⟨true,3,L.map aa⟩/\m<=o.cV/\o.cV<n
theorem J7 {l:List ae} {k:Nat} (hk:k<l.length):l.take (k+1)=l.take k++[bG l k]:=by rw[List.take_succ_eq_append_getElem hk,eZ hk]
theorem ve (L:List ae) (q:ae):(L++[q]).map aa=L.map aa++[[.int .i64 q.bE.fb,.int .i64 q.bE.eT,.int .i64 q.bR]]:=by rw[List.map_append];rfl
theorem qO (L:List ae) (q:ae):(L++[q]).length=L.length+1:=by rw[List.length_append];rfl
theorem Ja (l:List ae) (hl:l.length<=1048576) (p:aO) (t:Int) (n0:Nat):Call Tryz.prog 162 [.dt [.sl (l.map aa)],.agg (ar p),.int .i64 t] ⟨fun _=>none,n0⟩ (Qy n0 (iE l ⟨p,t⟩)):=by
 refine fo eG rfl fun Bk=>?_
 clear Bk
 obtain⟨q,hq⟩:∃q:ae,q=⟨p,t⟩:=⟨_,rfl⟩
 (try((repeat(revert hN;revert N;apply Pn.out));refine wk @ar.eq_1 ?_;(repeat(refine Pn.mk ?_;intro N hN))))
 refine bF (fun n env st=>∃i:Nat,n=(l.length)-i/\i<=(l.length)/\env 9=.int .i64 (i:Int)/\env 8=.bool (tr q (l.take i))/\st.get ⟨162000000,n0⟩=some ⟨true,2,[ar p]⟩/\st.get ⟨162000001,n0⟩=some ⟨true,1,[[.bS]]⟩/\(n0+2<=st.next/\∃v,st.get ⟨162001001,n0+1⟩=some ⟨true,1,[[v]]⟩/\wK (n0+2) (iN q (l.take i)) v st.get st.next)) (l.length) ⟨0,ai,ai,sl @ar.eq_1,sl @ar.eq_1,sl @ar.eq_1,sl @ar.eq_1,by(try dsimp only);exact⟨ai,.bS,sd @Nat.zero_add,.inl ⟨rfl,rfl⟩⟩⟩ ?_
 rintro n_a env_a st_a ⟨i,rfl,ale,a9,a8,ag0,ag1,lL⟩ ev
 have a0:=ev 0 (by kernel_rfl);have a2:=ev 2 (by kernel_rfl);have a4:=ev 4 (by kernel_rfl);have a6:=ev 6 (by kernel_rfl);have a7:=ev 7 (by kernel_rfl)
 simp only[go_sem, ↓reduceIte,Nat.reduceEqDiff,Nat.reduceAdd,Nat.reduceSub,Nat.reduceLeDiff,reduceCtorEq,ar]at a0 a2 a4 a6 a7
 clear ev
 obtain⟨an,v,av,aG⟩:=lL
 have vA:=eL (i:=⟨162000000,n0⟩) (n:=st_a.next) bK
 have vB:=eL (i:=⟨162000001,n0⟩) (n:=st_a.next) bK
 have vC:=eL (i:=⟨162001001,n0+1⟩) (n:=st_a.next) bK
 have Lp:=GX q (l.take i)
 rw[List.length_take]at Lp
 by_cases hi:(i:Int)<(l.length:Int)
 ·have cY:∀{e:Env} {gg:Rows} {nx:Nat},(e 9=.int .i64 (IntKind.i64.wrap ((i:Int)+1)))->(e 8=.bool (tr q (l.take (i+1))))->(gg ⟨162000000,n0⟩=some ⟨true,2,[ar p]⟩)->(gg ⟨162000001,n0⟩=some ⟨true,1,[[.bS]]⟩)->(n0+2<=nx/\∃v,gg ⟨162001001,n0+1⟩=some ⟨true,1,[[v]]⟩/\wK (n0+2) (iN q (l.take (i+1))) v gg nx)->∃m0,m0<(l.length)-i/\∃i:Nat,m0=(l.length)-i/\i<=(l.length)/\e 9=.int .i64 (i:Int)/\e 8=.bool (tr q (l.take i))/\gg ⟨162000000,n0⟩=some ⟨true,2,[ar p]⟩/\gg ⟨162000001,n0⟩=some ⟨true,1,[[.bS]]⟩/\(n0+2<=nx/\∃v,gg ⟨162001001,n0+1⟩=some ⟨true,1,[[v]]⟩/\wK (n0+2) (iN q (l.take i)) v gg nx):=fun x1 x2 x3 x4 x5=>⟨_,ai,i+1,rfl,ai,(by rw[x1,aI ai]),x2,x3,x4,x5⟩
  have fP:i<l.length:=ai
  have kO:=gw fP
  have eh:=nE p (bG l i).bE
  have od:=J7 fP
  have U5:jI q.bE (bG l i).bE=jI p (bG l i).bE:=by rw[hq]
  have kP:(l.map aa).length=l.length:=by simp
  have Kw:=uC q (l.take i) (bG l i)
  rw[<-od,U5]at Kw
  rw[ar,ar]at eh
  by_cases hc:tr q (l.take i)=true∨jI p (bG l i).bE=false
  ·have kM:=JA (q:=q) (y:=bG l i) (l:=l.take i) (by rw[U5];exact hc)
   rw[<-od]at kM
   generalize iN q (l.take i)=L at aG kM Lp
   have CA:=qO L (bG l i)
   have tU:=ve L (bG l i)
   have nu:tr q (l.take (i+1))=tr q (l.take i):=by
    rw[Kw]
    rcases hc with h|h<;>rw[h]<;>simp
   rcases aG with⟨hL,rfl⟩|⟨o,rfl,ao,aon,aov⟩
   ·subst hL
    cases hd:tr q (l.take i)
    ·have h2:jI p (bG l i).bE=false:=by rcases hc with h|h;rw[hd]at h;cases h;exact h
     rw[h2]at eh
     rw[hd]at a8 nu
     (repeat(first|((repeat(revert hN;revert N;apply Pn.out));refine wk (tw @a9 (tw @a8 (tw @ag0 (tw @ag1 (tw @a0 (tw @a2 (tw @a4 (tw @a6 (tw @a7 (tw @hi (tw @kO (tw @vA (tw @vB (tw @vC (tw @av (tw @kP (tw @ar.eq_1 @aa.eq_1))))))))))))))))) ?_;(repeat(refine Pn.mk ?_;intro N hN)))|((try apply Or.inl);refine⟨_,aq.x (eh) (sd (tw @a9 (tw @a8 (tw @ag0 (tw @ag1 (tw @a0 (tw @a2 (tw @a4 (tw @a6 (tw @a7 (tw @hi (tw @kO (tw @vA (tw @vB (tw @vC (tw @av (tw @kP (tw @ar.eq_1 @aa.eq_1)))))))))))))))))),?_⟩;refine hN _ _ ?_;clear hN N)))
     refine cY ?_ ?_ ?_ ?_ (by(try dsimp only);exact⟨ai,_,sl @Nat.zero_add,.inr ⟨⟨162009010,st_a.next+1+1⟩,by rw[kM,CA]<;>(simp only[go_sem, ↓reduceIte,Nat.reduceEqDiff,Nat.reduceAdd,Nat.reduceSub,Nat.reduceLeDiff,reduceCtorEq]<;>rfl),by rw[kM,tU]<;>(simp only[go_sem, ↓reduceIte,Nat.reduceEqDiff,Nat.reduceAdd,Nat.reduceSub,Nat.reduceLeDiff,reduceCtorEq]<;>rfl),bK,bK⟩⟩)
     all_goals simp only[go_sem, ↓reduceIte,Nat.reduceEqDiff,Nat.reduceAdd,Nat.reduceSub,Nat.reduceLeDiff,reduceCtorEq,a9,a8,ag0,ag1,a0,a2,a4,a6,a7,nu,vA,vB,vC,ar]
    ·rw[hd]at a8 nu
     (try((repeat(revert hN;revert N;apply Pn.out));refine wk (tw @a9 (tw @a8 (tw @ag0 (tw @ag1 (tw @a0 (tw @a2 (tw @a4 (tw @a6 (tw @a7 (tw @hi (tw @kO (tw @vA (tw @vB (tw @vC (tw @av (tw @kP (tw @ar.eq_1 @aa.eq_1))))))))))))))))) ?_;(repeat(refine Pn.mk ?_;intro N hN))))
     refine cY ?_ ?_ ?_ ?_ (by(try dsimp only);exact⟨ai,_,sl @Nat.zero_add,.inr ⟨⟨162009010,st_a.next+1+1⟩,by rw[kM,CA]<;>(simp only[go_sem, ↓reduceIte,Nat.reduceEqDiff,Nat.reduceAdd,Nat.reduceSub,Nat.reduceLeDiff,reduceCtorEq]<;>rfl),by rw[kM,tU]<;>(simp only[go_sem, ↓reduceIte,Nat.reduceEqDiff,Nat.reduceAdd,Nat.reduceSub,Nat.reduceLeDiff,reduceCtorEq]<;>rfl),bK,bK⟩⟩)
     all_goals simp only[go_sem, ↓reduceIte,Nat.reduceEqDiff,Nat.reduceAdd,Nat.reduceSub,Nat.reduceLeDiff,reduceCtorEq,a9,a8,ag0,ag1,a0,a2,a4,a6,a7,nu,vA,vB,vC,ar]
   ·have vo:=eL aov
    have oA:=dr (a:=⟨162000000,n0⟩) (b:=o) bK
    have oB:=dr (a:=⟨162000001,n0⟩) (b:=o) bK
    have oC:=dr (a:=⟨162001001,n0+1⟩) (b:=o) bK
    have MP:(L.map aa).length=L.length:=by simp
    have MO:L.length<=16777215:=ai
    cases hd:tr q (l.take i)
    ·have h2:jI p (bG l i).bE=false:=by rcases hc with h|h;rw[hd]at h;cases h;exact h
     rw[h2]at eh
     rw[hd]at a8 nu
     (repeat(first|((repeat(revert hN;revert N;apply Pn.out));refine wk (tw @a9 (tw @a8 (tw @ag0 (tw @ag1 (tw @a0 (tw @a2 (tw @a4 (tw @a6 (tw @a7 (tw @hi (tw @kO (tw @vA (tw @vB (tw @vC (tw @vo (tw @oA (tw @oB (tw @oC (tw @ao (tw @av (tw @kP (tw @MP (tw @MO (tw @ar.eq_1 @aa.eq_1)))))))))))))))))))))))) ?_;(repeat(refine Pn.mk ?_;intro N hN)))|((try apply Or.inl);refine⟨_,aq.x (eh) (sd (tw @a9 (tw @a8 (tw @ag0 (tw @ag1 (tw @a0 (tw @a2 (tw @a4 (tw @a6 (tw @a7 (tw @hi (tw @kO (tw @vA (tw @vB (tw @vC (tw @vo (tw @oA (tw @oB (tw @oC (tw @ao (tw @av (tw @kP (tw @MP (tw @MO (tw @ar.eq_1 @aa.eq_1))))))))))))))))))))))))),?_⟩;refine hN _ _ ?_;clear hN N)))
     refine cY ?_ ?_ ?_ ?_ (by(try dsimp only);exact⟨ai,_,sl @Nat.zero_add,.inr ⟨⟨162009010,st_a.next+1+1⟩,by rw[kM,CA]<;>(simp only[go_sem, ↓reduceIte,Nat.reduceEqDiff,Nat.reduceAdd,Nat.reduceSub,Nat.reduceLeDiff,reduceCtorEq]<;>rfl),by rw[kM,tU]<;>(simp only[go_sem, ↓reduceIte,Nat.reduceEqDiff,Nat.reduceAdd,Nat.reduceSub,Nat.reduceLeDiff,reduceCtorEq]<;>rfl),bK,bK⟩⟩)
     all_goals simp only[go_sem, ↓reduceIte,Nat.reduceEqDiff,Nat.reduceAdd,Nat.reduceSub,Nat.reduceLeDiff,reduceCtorEq,a9,a8,ag0,ag1,a0,a2,a4,a6,a7,nu,vA,vB,vC,oA,oB,oC,ar]
    ·rw[hd]at a8 nu
     (try((repeat(revert hN;revert N;apply Pn.out));refine wk (tw @a9 (tw @a8 (tw @ag0 (tw @ag1 (tw @a0 (tw @a2 (tw @a4 (tw @a6 (tw @a7 (tw @hi (tw @kO (tw @vA (tw @vB (tw @vC (tw @vo (tw @oA (tw @oB (tw @oC (tw @ao (tw @av (tw @kP (tw @MP (tw @MO (tw @ar.eq_1 @aa.eq_1)))))))))))))))))))))))) ?_;(repeat(refine Pn.mk ?_;intro N hN))))
     refine cY ?_ ?_ ?_ ?_ (by(try dsimp only);exact⟨ai,_,sl @Nat.zero_add,.inr ⟨⟨162009010,st_a.next+1+1⟩,by rw[kM,CA]<;>(simp only[go_sem, ↓reduceIte,Nat.reduceEqDiff,Nat.reduceAdd,Nat.reduceSub,Nat.reduceLeDiff,reduceCtorEq]<;>rfl),by rw[kM,tU]<;>(simp only[go_sem, ↓reduceIte,Nat.reduceEqDiff,Nat.reduceAdd,Nat.reduceSub,Nat.reduceLeDiff,reduceCtorEq]<;>rfl),bK,bK⟩⟩)
     all_goals simp only[go_sem, ↓reduceIte,Nat.reduceEqDiff,Nat.reduceAdd,Nat.reduceSub,Nat.reduceLeDiff,reduceCtorEq,a9,a8,ag0,ag1,a0,a2,a4,a6,a7,nu,vA,vB,vC,oA,oB,oC,ar]
  ·have hd:tr q (l.take i)=false:=by
    cases h:tr q (l.take i)
    ·rfl
    ·exact absurd (.inl h) hc
   have h2:jI p (bG l i).bE=true:=by
    cases h:jI p (bG l i).bE
    ·exact absurd (.inr h) hc
    ·rfl
   have kM:=Jz (q:=q) (y:=bG l i) hd (by rw[U5];exact h2)
   rw[<-od]at kM
   have nu:tr q (l.take (i+1))=true:=by rw[Kw,h2];simp
   rw[hd]at a8
   rw[h2]at eh
   have Tc:aa q=[.int .i64 p.fb,.int .i64 p.eT,.int .i64 t]:=by rw[hq];rfl
   generalize iN q (l.take i)=L at aG kM Lp
   have CA:=qO (L++[q]) (bG l i)
   have tU:=ve (L++[q]) (bG l i)
   have UT:=qO L q
   have UU:(L++[q]).map aa=L.map aa++[[.int .i64 p.fb,.int .i64 p.eT,.int .i64 t]]:=by rw[List.map_append,List.map_singleton,Tc]
   rw[UT]at CA
   rw[UU]at tU
   rcases aG with⟨hL,rfl⟩|⟨o,rfl,ao,aon,aov⟩
   ·subst hL
    (repeat(first|((repeat(revert hN;revert N;apply Pn.out));refine wk (tw @a9 (tw @a8 (tw @ag0 (tw @ag1 (tw @a0 (tw @a2 (tw @a4 (tw @a6 (tw @a7 (tw @hi (tw @kO (tw @vA (tw @vB (tw @vC (tw @av (tw @kP (tw @ar.eq_1 @aa.eq_1))))))))))))))))) ?_;(repeat(refine Pn.mk ?_;intro N hN)))|((try apply Or.inl);refine⟨_,aq.x (eh) (sd (tw @a9 (tw @a8 (tw @ag0 (tw @ag1 (tw @a0 (tw @a2 (tw @a4 (tw @a6 (tw @a7 (tw @hi (tw @kO (tw @vA (tw @vB (tw @vC (tw @av (tw @kP (tw @ar.eq_1 @aa.eq_1)))))))))))))))))),?_⟩;refine hN _ _ ?_;clear hN N)))
    refine cY ?_ ?_ ?_ ?_ (by(try dsimp only);exact⟨ai,_,sl @Nat.zero_add,.inr ⟨⟨162009010,st_a.next+1+1+1+1⟩,by rw[kM,CA]<;>(simp only[go_sem, ↓reduceIte,Nat.reduceEqDiff,Nat.reduceAdd,Nat.reduceSub,Nat.reduceLeDiff,reduceCtorEq]<;>rfl),by rw[kM,tU]<;>(simp only[go_sem, ↓reduceIte,Nat.reduceEqDiff,Nat.reduceAdd,Nat.reduceSub,Nat.reduceLeDiff,reduceCtorEq]<;>rfl),bK,bK⟩⟩)
    all_goals simp only[go_sem, ↓reduceIte,Nat.reduceEqDiff,Nat.reduceAdd,Nat.reduceSub,Nat.reduceLeDiff,reduceCtorEq,a9,a8,ag0,ag1,a0,a2,a4,a6,a7,nu,vA,vB,vC,ar]
   ·have vo:=eL aov
    have oA:=dr (a:=⟨162000000,n0⟩) (b:=o) bK
    have oB:=dr (a:=⟨162000001,n0⟩) (b:=o) bK
    have oC:=dr (a:=⟨162001001,n0+1⟩) (b:=o) bK
    have MP:(L.map aa).length=L.length:=by simp
    have MO:L.length<=16777214:=ai
    have QZ:L.length<=16777215:=ai
    (repeat(first|((repeat(revert hN;revert N;apply Pn.out));refine wk (tw @a9 (tw @a8 (tw @ag0 (tw @ag1 (tw @a0 (tw @a2 (tw @a4 (tw @a6 (tw @a7 (tw @hi (tw @kO (tw @vA (tw @vB (tw @vC (tw @vo (tw @oA (tw @oB (tw @oC (tw @ao (tw @av (tw @kP (tw @MP (tw @MO (tw @QZ (tw @ar.eq_1 @aa.eq_1))))))))))))))))))))))))) ?_;(repeat(refine Pn.mk ?_;intro N hN)))|((try apply Or.inl);refine⟨_,aq.x (eh) (sd (tw @a9 (tw @a8 (tw @ag0 (tw @ag1 (tw @a0 (tw @a2 (tw @a4 (tw @a6 (tw @a7 (tw @hi (tw @kO (tw @vA (tw @vB (tw @vC (tw @vo (tw @oA (tw @oB (tw @oC (tw @ao (tw @av (tw @kP (tw @MP (tw @MO (tw @QZ (tw @ar.eq_1 @aa.eq_1)))))))))))))))))))))))))),?_⟩;refine hN _ _ ?_;clear hN N)))
    refine cY ?_ ?_ ?_ ?_ (by(try dsimp only);exact⟨ai,_,sl @Nat.zero_add,.inr ⟨⟨162009010,st_a.next+1+1+1+1⟩,by rw[kM,CA]<;>(simp only[go_sem, ↓reduceIte,Nat.reduceEqDiff,Nat.reduceAdd,Nat.reduceSub,Nat.reduceLeDiff,reduceCtorEq]<;>rfl),by rw[kM,tU]<;>(simp only[go_sem, ↓reduceIte,Nat.reduceEqDiff,Nat.reduceAdd,Nat.reduceSub,Nat.reduceLeDiff,reduceCtorEq]<;>rfl),bK,bK⟩⟩)
    all_goals simp only[go_sem, ↓reduceIte,Nat.reduceEqDiff,Nat.reduceAdd,Nat.reduceSub,Nat.reduceLeDiff,reduceCtorEq,a9,a8,ag0,ag1,a0,a2,a4,a6,a7,nu,vA,vB,vC,oA,oB,oC,ar]
 ·have mi:i=l.length:=ai
  subst mi
  rw[List.take_length]at a8 aG Lp
  cases hd:tr q l
  ·rw[hd]at a8
   have kM:iE l ⟨p,t⟩=iN q l++[q]:=by rw[<-hq,B3 hd,iN,hd];simp
   have Tc:aa q=[.int .i64 p.fb,.int .i64 p.eT,.int .i64 t]:=by rw[hq];rfl
   generalize iN q l=L at aG Lp kM
   have CA:=qO L q
   have tU:(L++[q]).map aa=L.map aa++[[.int .i64 p.fb,.int .i64 p.eT,.int .i64 t]]:=by rw[List.map_append,List.map_singleton,Tc]
   rcases aG with⟨hL,rfl⟩|⟨o,rfl,ao,aon,aov⟩
   ·subst hL
    (try((repeat(revert hN;revert N;apply Pn.out));refine wk (tw @a9 (tw @a8 (tw @ag0 (tw @ag1 (tw @a0 (tw @a2 (tw @a4 (tw @a6 (tw @a7 (tw @hi (tw @vA (tw @vB (tw @vC (tw @av (tw @ar.eq_1 @aa.eq_1))))))))))))))) ?_;(repeat(refine Pn.mk ?_;intro N hN))))
    exact fJ (.inl rfl) (vs:=[.agg [.own ⟨162011006,st_a.next+1+1⟩ 0 1]]) (sd (tw @a9 (tw @a8 (tw @ag0 (tw @ag1 (tw @a0 (tw @a2 (tw @a4 (tw @a6 (tw @a7 @vB)))))))))) ⟨⟨162011006,st_a.next+1+1⟩,by rw[kM];rfl,by rw[kM];simp only[go_sem, ↓reduceIte,Nat.reduceEqDiff,Nat.reduceAdd,Nat.reduceSub,Nat.reduceLeDiff,reduceCtorEq,vB];rw[Tc],bK,bK⟩
   ·have vo:=eL aov
    have oA:=dr (a:=⟨162000000,n0⟩) (b:=o) bK
    have oB:=dr (a:=⟨162000001,n0⟩) (b:=o) bK
    have oC:=dr (a:=⟨162001001,n0+1⟩) (b:=o) bK
    have MP:(L.map aa).length=L.length:=by simp
    have MO:L.length<=16777215:=ai
    (try((repeat(revert hN;revert N;apply Pn.out));refine wk (tw @a9 (tw @a8 (tw @ag0 (tw @ag1 (tw @a0 (tw @a2 (tw @a4 (tw @a6 (tw @a7 (tw @hi (tw @vA (tw @vB (tw @vC (tw @vo (tw @oA (tw @oB (tw @oC (tw @ao (tw @av (tw @MP (tw @MO (tw @ar.eq_1 @aa.eq_1)))))))))))))))))))))) ?_;(repeat(refine Pn.mk ?_;intro N hN))))
    exact fJ (.inl rfl) (vs:=[.agg [.own ⟨162011006,st_a.next+1+1⟩ 0 (L.length+1)]]) (sd (tw @a9 (tw @a8 (tw @ag0 (tw @ag1 (tw @a0 (tw @a2 (tw @a4 (tw @a6 (tw @a7 @vB)))))))))) ⟨⟨162011006,st_a.next+1+1⟩,by rw[kM,CA];rfl,by rw[kM,tU];simp only[go_sem, ↓reduceIte,Nat.reduceEqDiff,Nat.reduceAdd,Nat.reduceSub,Nat.reduceLeDiff,reduceCtorEq,vB],bK,bK⟩
  ·rw[hd]at a8
   have kM:iE l ⟨p,t⟩=iN q l:=by rw[<-hq,iN,hd];simp
   have jZ:0<(iN q l).length:=by rw[<-kM,lW];omega
   generalize iN q l=L at aG Lp jZ kM
   rcases aG with⟨hL,rfl⟩|⟨o,rfl,ao,aon,aov⟩
   ·subst hL;cases jZ
   ·have vo:=eL aov
    have oB:=dr (a:=⟨162000001,n0⟩) (b:=o) bK
    (try((repeat(revert hN;revert N;apply Pn.out));refine wk (tw @a9 (tw @a8 (tw @ag0 (tw @ag1 (tw @a0 (tw @a2 (tw @a4 (tw @a6 (tw @a7 (tw @hi (tw @vA (tw @vB (tw @vC (tw @vo (tw @ao (tw @av (tw @ar.eq_1 @aa.eq_1))))))))))))))))) ?_;(repeat(refine Pn.mk ?_;intro N hN))))
    exact fJ (.inl rfl) (vs:=[.agg [.own o 0 L.length]]) (sd (tw @a9 (tw @a8 (tw @ag0 (tw @ag1 (tw @a0 (tw @a2 (tw @a4 (tw @a6 (tw @a7 @vB)))))))))) ⟨o,by rw[kM];rfl,by rw[kM];simp only[go_sem, ↓reduceIte,Nat.reduceEqDiff,Nat.reduceAdd,Nat.reduceSub,Nat.reduceLeDiff,reduceCtorEq,vB,oB,ao],bK,bK⟩
def InL (X:Id) (st:CL) (e7:AV) (g:Rows) (n:Nat):Prop:=∃o u:Id,g X=some ⟨true,1,[[.own o 0 st.2.length]]⟩/\g o=some ⟨true,3,st.2.map aa⟩/\e7=.own u 0 st.1.length/\g u=some ⟨true,3,st.1.map aa⟩/\o.cV<u.cV/\X.cV<u.cV/\u.cV<n/\o≠X
def qAt (ps:List aO) (i:Nat):aO:=ps.getD i ⟨0,0⟩
theorem Vo {ps:List aO} {i:Nat} (h:i<ps.length):qAt ps i=ps[i]:=by simp[qAt,List.getD_eq_getElem?_getD,h]
def RisQ (ps:List aO):Prop:=ps.Pairwise fun a b=>jI a b=true
end Go.Proofs.YtgoljkjaameagaaGreat.V

namespace Go.Proofs.YtgoljkjaameagaaGreat.V
open Go.RowKit Go.Shelf Go.Lib Go.Sort
instance:Inhabited aO:=⟨⟨0,0⟩⟩
variable {P:Program} {w:World} {D:Nat->Prop} {ι:Names}
theorem vJ {vs:Array Value} (h:fw P w D ι [] vs):vs= #[]:=Array.eq_empty_of_size_eq_zero h.1
theorem kf {a:AV} {r:List AV} {vs:Array Value} (h:fw P w D ι (a::r) vs):∃u us,vs=(u::us).toArray/\dd P w D ι a u/\fw P w D ι r us.toArray:=by
 obtain⟨h1,h2⟩:=h
 obtain⟨l⟩:=vs
 cases l with
 |nil=>simp at h1
 |cons u us=>
  obtain⟨u',hu,hr⟩:=h2 0 a rfl
  simp at hu;subst hu
  exact⟨u,us,rfl,hr,by simpa using h1,fun j b hj=>by
   obtain⟨v,hv,k8⟩:=h2 (j+1) b (by simpa using hj)
   exact⟨v,by simpa using hv,k8⟩⟩
end Go.Proofs.YtgoljkjaameagaaGreat.V

namespace Go.Proofs
open Go.Shelf
def Tryz.Eo:Go.Shelf.Ren:=⟨fun|6=>185|15=>209|14=>250|28=>271|29=>272|20=>289|21=>290|22=>291|23=>292|24=>293|25=>294|26=>295|27=>296|46=>324|47=>307|48=>308|49=>325|50=>326|57=>336|n=>n,fun|22=>40|24=>171|25=>244|3=>3|39=>273|0=>0|53=>333|55=>335|4=>4|46=>327|45=>326|50=>223|5=>5|9=>9|66=>360|70=>364|76=>382|77=>383|n=>n,fun|n=>n⟩
theorem Tryz.JW:Go.Proofs.SlLaysF0.n6 Tryz.prog Tryz.Eo:={
 mixed:=by kernel_rfl
 f6:=⟨Tryz.f185.name,by decide,Tryz.func185.trans (congrArg some (by kernel_rfl))⟩
 f14:=⟨Tryz.f250.name,by decide,Tryz.func250.trans (congrArg some (by kernel_rfl))⟩
 f15:=Tryz.func209.trans (congrArg some (by kernel_rfl))
 f20:=⟨Tryz.f289.name,by decide,Tryz.func289.trans (congrArg some (by kernel_rfl))⟩
 f21:=⟨Tryz.f290.name,by decide,Tryz.func290.trans (congrArg some (by kernel_rfl))⟩
 f22:=⟨Tryz.f291.name,by decide,Tryz.func291.trans (congrArg some (by kernel_rfl))⟩
 f23:=⟨Tryz.f292.name,by decide,Tryz.func292.trans (congrArg some (by kernel_rfl))⟩
 f24:=⟨Tryz.f293.name,by decide,Tryz.func293.trans (congrArg some (by kernel_rfl))⟩
 f25:=⟨Tryz.f294.name,by decide,Tryz.func294.trans (congrArg some (by kernel_rfl))⟩
 f26:=⟨Tryz.f295.name,by decide,Tryz.func295.trans (congrArg some (by kernel_rfl))⟩
 f27:=⟨Tryz.f296.name,by decide,Tryz.func296.trans (congrArg some (by kernel_rfl))⟩
 f28:=Tryz.func271.trans (congrArg some (by kernel_rfl))
 f29:=Tryz.func272.trans (congrArg some (by kernel_rfl))
 f46:=⟨Tryz.f324.name,by decide,Tryz.func324.trans (congrArg some (by kernel_rfl))⟩
 f47:=Tryz.func307.trans (congrArg some (by kernel_rfl))
 f48:=Tryz.func308.trans (congrArg some (by kernel_rfl))
 f49:=⟨Tryz.f325.name,by decide,Tryz.func325.trans (congrArg some (by kernel_rfl))⟩
 f50:=⟨Tryz.f326.name,by decide,Tryz.func326.trans (congrArg some (by kernel_rfl))⟩
 f57:=⟨Tryz.f336.name,by decide,Tryz.func336.trans (congrArg some (by kernel_rfl))⟩
 t0:=Tryz.underlying0
 a0:=Tryz.isAgg0
 z0:=Tryz.sizeOf0
 v0:=Tryz.zeroValue0
 t3:=Tryz.underlying3
 a3:=Tryz.isAgg3
 z3:=Tryz.sizeOf3
 v3:=Tryz.zeroValue3
 t4:=Tryz.underlying4
 a4:=Tryz.isAgg4
 z4:=Tryz.sizeOf4
 v4:=Tryz.zeroValue4
 t5:=Tryz.underlying5
 a5:=Tryz.isAgg5
 z5:=Tryz.sizeOf5
 v5:=Tryz.zeroValue5
 t9:=Tryz.underlying9
 a9:=Tryz.isAgg9
 z9:=Tryz.sizeOf9
 v9:=Tryz.zeroValue9
 t22:=Tryz.underlying40
 a22:=Tryz.isAgg40
 z22:=Tryz.sizeOf40
 v22:=Tryz.zeroValue40
 t25:=Tryz.underlying244
 a25:=Tryz.isAgg244
 z25:=Tryz.sizeOf244
 v25:=Tryz.zeroValue244
 t39:=Tryz.underlying273
 a39:=Tryz.isAgg273
 z39:=Tryz.sizeOf273
 v39:=Tryz.zeroValue273
 t45:=Tryz.underlying326
 a45:=Tryz.isAgg326
 z45:=Tryz.sizeOf326
 v45:=Tryz.zeroValue326
 t46:=Tryz.underlying327
 a46:=Tryz.isAgg327
 z46:=Tryz.sizeOf327
 v46:=Tryz.zeroValue327
 t50:=Tryz.underlying223
 a50:=Tryz.isAgg223
 z50:=Tryz.sizeOf223
 v50:=Tryz.zeroValue223
 t53:=Tryz.underlying333
 a53:=Tryz.isAgg333
 z53:=Tryz.sizeOf333
 v53:=Tryz.zeroValue333
 t55:=Tryz.underlying335
 a55:=Tryz.isAgg335
 z55:=Tryz.sizeOf335
 v55:=Tryz.zeroValue335
 t66:=Tryz.underlying360
 a66:=Tryz.isAgg360
 z66:=Tryz.sizeOf360
 v66:=Tryz.zeroValue360
 t70:=Tryz.underlying364
 a70:=Tryz.isAgg364
 z70:=Tryz.sizeOf364
 v70:=Tryz.zeroValue364
 t76:=Tryz.underlying382
 a76:=Tryz.isAgg382
 z76:=Tryz.sizeOf382
 v76:=Tryz.zeroValue382
 t77:=Tryz.underlying383
 a77:=Tryz.isAgg383
 z77:=Tryz.sizeOf383
 v77:=Tryz.zeroValue383}
end Go.Proofs

namespace Go.Proofs.YtgoljkjaameagaaGreat.V
open Go.RowKit Go.Shelf Go.Lib Go.Sort
theorem AK (w:World) (a b:Int):Calls Tryz.prog 210 #[.int .i64 a,.int .i64 b] w fun e w'=>e=.returned (.int .i64 (qy a b))/\w=w':=by
 go_enter Tryz.func210,Tryz.ntmps210
 go_wp2_with go_in
 all_goals
  go_ret
  exact⟨Ca (by unfold qy;split<;>(try split)<;>omega),rfl⟩
theorem L3 (w:World) (a b:Int) (g:Nat) (ha:w.cell? ⟨g,0,none⟩=some (.int .i64 a)) (hb:w.cell? ⟨g,1,none⟩=some (.int .i64 b)):Calls Tryz.prog 233 #[.slice (some ⟨g,0,none⟩) 2 2] w fun e w'=>e=.returned (.int .i64 (L4 a b))/\w=w':=by
 go_enter Tryz.func233,Tryz.ntmps233
 go_wp2_with fail
 go_loop [8] (fun i=>∃k:Nat,k<=2/\i=.int .i64 k/\Hid ((1<=k->a=0)/\(2<=k->b=0))) (fun i=>2-(intOf i).toNat)
 case atStart=>exact⟨0,ai,rfl,Lib.hid ⟨fun h=>ai,fun h=>ai⟩⟩
 case round=>
  obtain⟨k,hk,rfl,hz⟩:=hrel
  have h3:k=0∨k=1∨k=2:=ai
  rcases h3 with rfl|rfl|rfl
  ·go_wp2_with fail
   ·rename_i h
    go_ret
    exact⟨Ca (by unfold L4;simp_all),rfl⟩
   ·rename_i h
    go_round
    case rel=>exact⟨1,ai,rfl,Lib.hid ⟨fun _=>by simpa using h,fun h=>ai⟩⟩
    case measure=>simp[intOf]
  ·have h0:=hz.out.1 ai
   replace h0:=Lib.hid h0
   go_wp2_with fail
   ·go_ret
    exact⟨Ca (by unfold L4;rw[if_pos h0.out]),rfl⟩
   ·rename_i h
    go_round
    case rel=>exact⟨2,ai,rfl,Lib.hid ⟨fun _=>h0.out,fun _=>by simpa using h⟩⟩
    case measure=>simp[intOf]
  ·have h0:=Lib.hid (hz.out.1 ai)
   have h1:=Lib.hid (hz.out.2 ai)
   go_wp2_with fail
   go_ret
   exact⟨Ca (by unfold L4;rw[if_pos h0.out,h1.out]),rfl⟩
def Grown (w w':World):Prop:=∃(q:Nat) (os:Array Obj),w'=Go.Sort.grow (w.drewN q) os
theorem Grown.refl (w:World):Grown w w:=⟨0, #[],by rw[grow_empty];rfl⟩
theorem Grown.alloc {w w':World} (h:Grown w w') (o:Obj):Grown w (w'.alloc o):=by
 obtain⟨q,os,rfl⟩:=h
 exact⟨q,os++ #[o],by rw[alloc_eq_grow,grow_grow]⟩
theorem Grown.drew {w w':World} (h:Grown w w'):Grown w w'.drew:=by
 obtain⟨q,os,rfl⟩:=h
 exact⟨q+1,os,by rw[drew_grow];rfl⟩
theorem Grown.dN {w w':World} (h:Grown w w') (n:Nat):Grown w (w'.drewN n):=by
 obtain⟨q,os,rfl⟩:=h
 exact⟨q+n,os,by
  show Go.Sort.grow ((w.drewN q).drewN n) os=Go.Sort.grow (w.drewN (q+n)) os
  simp[World.drewN,Nat.add_assoc]⟩
theorem tp (w:World) (a b:aO):Calls Tryz.prog 154 #[.agg #[.int .i64 a.fb,.int .i64 a.eT],.agg #[.int .i64 b.fb,.int .i64 b.eT]] w fun e w'=>e=.returned (.int .i64 (qz a b))/\Grown w w':=by
 go_enter Tryz.func154,Tryz.ntmps154
 go_wp2_with fail
 go_region_held3 (fun w'=>w'.cell? ⟨w.heap.size,0,none⟩=some (.int .i64 a.fb)/\w'.cell? ⟨w.heap.size,1,none⟩=some (.int .i64 a.eT)/\
   w'.cell? ⟨w.heap.size+1,0,none⟩=some (.int .i64 b.fb)/\w'.cell? ⟨w.heap.size+1,1,none⟩=some (.int .i64 b.eT))
  (first|go_keep)
  (first|(go_at_call 210;refine(AK _ _ _).mono ?_;rintro e w' ⟨rfl,rfl⟩)|(go_at_call 233;refine(L3 _ (qy a.eT b.eT) (qy a.fb b.fb) _ (by simp[go_sem]) (by simp[go_sem])).mono ?_;rintro e w' ⟨rfl,rfl⟩))
 go_wp2_with fail
 go_ret
 refine⟨rfl,?_⟩
 repeat(first|(with_reducible exact Grown.refl _)|(refine Grown.alloc ?_ _)|(refine Grown.drew ?_)|(refine Grown.dN ?_ _))
instance:Inhabited ae:=⟨⟨⟨0,0⟩,0⟩⟩
variable {P:Program} {w:World} {D:Nat->Prop} {ι:Names}
def FV (a b:ae):Int:=qz a.bE b.bE
theorem tJ (a b:ae):ltOf FV a b=jI a.bE b.bE:=by rw[ltOf,FV,tK]
def HP:Prop:=∀(wS off cap:Nat) (d:Array ae) (w:World),HoldsK eY 3 w wS off d->wS<w.heap.size->d.size<4611686018427387904->
 Calls Tryz.prog 185 #[.slice (some ⟨wS,off,none⟩) d.size cap,.func (.func 186) #[] #[]] w fun e w'=>e=.returned (.tuple #[])/\∃d' n os,PermIn 0 d.size d d'/\SortedIn (ltOf FV) 0 d.size d'/\w'=sortWorldK eY 3 w wS off n d' os
def HQ:Prop:=∀(p:Option Addr) (cap:Nat) (fv:Value) (w:World),Calls Tryz.prog 185 #[.slice p 0 cap,fv] w fun e w'=>e=.returned (.tuple #[])/\w'=w
theorem Ii (p:ae) (j:Nat) (a:AV) (h:(aa p)[j]? =some a) (P:Program) (w:World) (D:Nat->Prop) (ι:Names):dd P w D ι a (eY p)[j]! :=by
 match j,h with
 |0,h=>simp[aa]at h;subst h;exact .eM _ _ (.int _ _)
 |1,h=>simp[aa]at h;subst h;exact .eM _ _ (.int _ _)
 |2,h=>simp[aa]at h;subst h;exact .eM _ _ (.int _ _)
 |j+3,h=>simp[aa]at h
theorem Hb (hC:HP) (hN:HQ) (ps:List ae) (hlen:ps.length<=1048576) (σ:au) (id:Id) (hg:σ.get id=some ⟨true,3,ps.map aa⟩):
  Call Tryz.prog 185 [.own id 0 ps.length,.fn 186 []] σ fun r σ'=>σ'.next=σ.next/\(∀x,x≠id->σ'.get x=σ.get x)/\∃qs,σ'.get id=some ⟨true,3,qs.map aa⟩/\qs.length=ps.length/\qs.Perm ps/\∀i j:Nat,i<j->j<qs.length->jI (bG qs j).bE (bG qs i).bE=false:=by
 refine fB fun hs D ι w vs S U A=>?_
 obtain⟨u1,us1,rfl,h1,h2⟩:=kf A
 obtain⟨u2,us2,h3,h4,h5⟩:=kf h2
 simp at h3;subst h3
 have:=vJ h5
 simp at this;subst this
 obtain⟨o,cap,B,rfl,hB,Iz,ho,Bi,hmax,hk⟩:=iF h1
 obtain⟨Vs,gf,rfl,_,hz,_,_⟩:=zE h4
 have hz':Vs= #[]:=Array.eq_empty_of_size_eq_zero (by simpa using hz)
 subst hz'
 by_cases h0:ps=[]
 ·subst h0
  refine(hN _ _ _ w).mono ?_
  rintro e w' ⟨rfl,rfl⟩
  exact⟨.gn [],σ.get,σ.next,D,ι,_,rfl,⟨rfl,fun _ _=>rfl,[],hg,rfl,List.Perm.refl _,fun i j _ hj=>by simp at hj⟩,Step.refl _ _ _ _,S,U,Nat.le_refl _,.gn [] #[] (fun _=>Go.undef) rfl (fun j hj=>by simp at hj) (fun j a h=>by simp at h)⟩
 have jZ:0<ps.length:=List.length_pos_iff.2 h0
 obtain⟨B',dW,R,ju,lu⟩:=S.row id _ hg
 rw[hB]at dW;injection dW with dW;subst dW
 replace R:=R.row hk
 have fu:B.sz=3:=R.sz
 have CB:o=0:=by rcases ho with h|h<;>omega
 subst CB
 obtain⟨cur,T,hblk,dS,Iy⟩:=R.cur
 have Bj:ps.length*3<=B.C:=by simpa using R.fits
 have hH:HoldsK eY 3 w B.b 0 ps.toArray:=by
  intro t ht
  rw[size_flatK]at ht
  have ht2:t<ps.length*3:=by simpa using ht
  have hi:t / 3<ps.length:=ai
  have Cy:w.frozen? ⟨B.b,0+t,none⟩=false:=by
   simp only[World.frozen?,hblk];simp
  refine⟨?_,Cy⟩
  rw[get_flatK _ _ _ _ ht]
  have hd:(ps.toArray)[t / 3]! =ps[t / 3]:=by simp[getElem!_pos,hi]
  rw[hd]
  have hj:t % 3=0∨t % 3=1∨t % 3=2:=ai
  have ht3:0+t=(t / 3)*3+t % 3:=ai
  rw[ht3]
  rcases hj with hj|hj|hj
  ·obtain⟨v,hv,hr⟩:=R.at_ (t / 3) 0 (aa ps[t / 3]) _ (by simp[hi]) rfl
   rw[dL hr]at hv
   rw[hj];exact hv
  ·obtain⟨v,hv,hr⟩:=R.at_ (t / 3) 1 (aa ps[t / 3]) _ (by simp[hi]) rfl
   rw[dL hr]at hv
   rw[hj];exact hv
  ·obtain⟨v,hv,hr⟩:=R.at_ (t / 3) 2 (aa ps[t / 3]) _ (by simp[hi]) rfl
   rw[dL hr]at hv
   rw[hj];exact hv
 have pq:B.b<w.heap.size:=(Array.getElem?_eq_some_iff.1 hblk).1
 have Q8:=hC B.b 0 cap ps.toArray w hH pq (by simp;omega)
 rw[show ps.toArray.size=ps.length from by simp]at Q8
 refine Q8.mono ?_
 rintro e w' ⟨rfl,d',m,os,⟨CD,_,Ff⟩,hsort,rfl⟩
 have Rf:d'.size=ps.length:=by rw[CD];simp
 have hql:d'.toList.length=ps.length:=by simpa using Rf
 have hP:d'.toList.Perm ps:=by
  have e1:d'.extract 0 ps.length=d':=by rw[<-Rf];exact Array.extract_size
  have e2:ps.toArray.extract 0 ps.length=ps.toArray:=by
   have:ps.length=ps.toArray.size:=by simp
   rw[this];exact Array.extract_size
  rw[e1,e2]at Ff
  simpa using Ff
 have hF:∀t,t<ps.length*3->(flatK eY 3 d')[t]! =(eY d'[t / 3]!)[t % 3]! :=fun t ht=>get_flatK _ _ _ _ (by rw[Rf];exact ht)
 have hFs:(flatK eY 3 d').size=ps.length*3:=by rw[size_flatK,Rf]
 have hw:sortWorldK eY 3 w B.b 0 m d' os=Go.Sort.grow (Go.Sort.putRow (fun v:Value=>v) (Go.Sort.ahead w m) B.b 0 (flatK eY 3 d')) os:=rfl
 rw[hw]
 clear hw hH
 generalize flatK eY 3 d'=Fl at hF hFs ⊢
 have uT:=S.put (r':=⟨true,3,d'.toList.map aa⟩) (cur':=Go.Sort.putCells (fun v:Value=>v) 0 Fl cur) hg rfl hB hblk (by simp[Go.Sort.putCells]) rfl rfl (by simpa[Rf]using Bj) (fun cs dS=>by
   obtain⟨x,_,rfl⟩:=List.mem_map.1 dS;rfl) (fun cs dS a ha=>by
   obtain⟨x,_,rfl⟩:=List.mem_map.1 dS
   simp[aa]at ha;rcases ha with rfl|rfl|rfl<;>rfl) (fun i j cs a hi hj=>by
   have xT:i<d'.toList.length:=by
    have:=(List.getElem?_eq_some_iff.1 hi).1
    simpa using this
   have UF:j<3:=by
    have:=List.mem_of_getElem? hi
    obtain⟨x,_,rfl⟩:=List.mem_map.1 this
    exact(List.getElem?_eq_some_iff.1 hj).1
   have Ur:cs=aa d'[i]! :=by
    rw[List.getElem?_map,List.getElem?_eq_getElem xT]at hi
    simp at hi
    rw[<-hi,getElem!_pos d' i (by simpa using xT)]
   subst Ur
   have M9:i*3+j<ps.length*3:=ai
   refine⟨(eY d'[i]!)[j]!,?_,Ii _ _ _ hj _ _ _ _⟩
   have lS:i*3+j<cur.size:=by rw[dS];omega
   show(Go.Sort.putCells (fun v:Value=>v) 0 Fl cur)[i*3+j]? = _
   simp only[Go.Sort.putCells,Array.getElem?_mapIdx,Array.getElem?_eq_getElem lS,Option.map_some]
   rw[if_pos ⟨Nat.zero_le _,by rw[hFs];omega⟩,Nat.sub_zero,hF _ M9,show(i*3+j) / 3=i from by omega,show(i*3+j) % 3=j from by omega])
 obtain⟨S1,rO⟩:=uT
 have RA:(Go.Sort.putRow (fun v:Value=>v) (Go.Sort.ahead w m) B.b 0 Fl).heap.size=w.heap.size:=by simp
 have MZ:∀k,k<(w.setRow B.b (Go.Sort.putCells (fun v:Value=>v) 0 Fl cur)).heap.size->(Go.Sort.grow (Go.Sort.putRow (fun v:Value=>v) (Go.Sort.ahead w m) B.b 0 Fl) os).heap[k]? =(w.setRow B.b (Go.Sort.putCells (fun v:Value=>v) 0 Fl cur)).heap[k]? :=fun k hk=>by
  have Gm:k<w.heap.size:=by simpa using hk
  rw[heap_grow_old _ _ (by rw[RA];exact Gm)]
  simp only[Go.Sort.putRow,Go.Sort.mapBlock,heap_ahead,Array.getElem?_modify]
  by_cases UG:B.b=k
  ·subst UG
   rw[setRow_heap w B.b cur _ T _ hblk,if_pos rfl,hblk];rfl
  ·rw[if_neg UG,setRow_other w B.b k _ (fun h=>UG h.symm)]
 have lf:(w.setRow B.b (Go.Sort.putCells (fun v:Value=>v) 0 Fl cur)).heap.size<=(Go.Sort.grow (Go.Sort.putRow (fun v:Value=>v) (Go.Sort.ahead w m) B.b 0 Fl) os).heap.size:=by
  rw[size_grow,RA];simp
 have S2:=S1.stay (D':=D) (ι':=ι) MZ lf (fun _ h=>h) (fun b hb=>Nat.lt_of_lt_of_le (S1.dead b hb) lf) (fun _ h=>.inl h) (fun _ _ h=>h)
 have NC:=rO.trans (Step.stay (D':=D) (ι':=ι) S1 MZ lf (by simp[Go.Sort.grow,Go.Sort.putRow,Go.Sort.mapBlock,Go.Sort.ahead]) (by simp[Go.Sort.grow,Go.Sort.putRow,Go.Sort.mapBlock,Go.Sort.ahead]) (by simp[Go.Sort.grow,Go.Sort.putRow,Go.Sort.mapBlock,Go.Sort.ahead]) (fun _ h=>h) (fun _ h=>.inl h) (fun _ _ h=>h))
 refine⟨.gn [],bD σ.get id ⟨true,3,d'.toList.map aa⟩,σ.next,D,ι,_,rfl,⟨rfl,fun x hx=>by simp[bD,hx],d'.toList,by simp[bD],hql,hP,fun i j Gk hj=>?_⟩,NC,S2,U,Nat.le_refl _,.gn [] #[] (fun _=>Go.undef) rfl (fun j hj=>by simp at hj) (fun j a h=>by simp at h)⟩
 have h:=hsort i j (Nat.zero_le _) Gk ai
 rw[tJ]at h
 have e1:d'[j]! =bG d'.toList j:=by rw[eZ hj,getElem!_pos d' j (by simpa using hj)];rfl
 have hi:i<d'.toList.length:=ai
 have e2:d'[i]! =bG d'.toList i:=by rw[eZ hi,getElem!_pos d' i (by simpa using hi)];rfl
 rw[<-e1,<-e2];exact h
theorem Nx {w w':World} (h:Grown w w') (os:Array Obj):Grown w (Go.Sort.grow w' os):=by
 obtain⟨q,os0,rfl⟩:=h
 exact⟨q,os0++os,by rw[grow_grow]⟩
theorem KU (w:World) (a b:ae):Calls Tryz.prog 186 #[.agg #[.int .i64 a.bE.fb,.int .i64 a.bE.eT,.int .i64 a.bR],.agg #[.int .i64 b.bE.fb,.int .i64 b.bE.eT,.int .i64 b.bR]] w fun e w'=>e=.returned (.int .i64 (FV a b))/\Grown w w':=by
 go_enter Tryz.func186,Tryz.ntmps186
 go_wp2_with (first|(go_at_call 154;refine(tp _ a.bE b.bE).mono ?_;rintro e w' ⟨rfl,hG⟩))
 obtain⟨q,os,rfl⟩:=hG
 go_ret
 refine⟨rfl,Nx (Grown.dN ?_ q) os⟩
 repeat(first|(with_reducible exact Grown.refl _)|(refine Grown.alloc ?_ _)|(refine Grown.drew ?_)|(refine Grown.dN ?_ _))
theorem Vq:SWO (ltOf FV) where
 irrefl x:=by rw[tJ];exact j9
 trans x y z h1 h2:=by rw[tJ]at *;exact jA h1 h2
 ntrans x y z h1 h2:=by rw[tJ]at *;rw[oO]at *;omega
theorem Pv:HP:=fun wS off cap d w hH hblk fu=>by
 have eg:∀args w,(callFunc 186 args).run Tryz.prog w=.ok (.enter 186 args) w:=enters_of Tryz.func186 (by kernel_rfl) rfl
 have h:=AnyQ.slices_SortFunc Tryz.JW 3 Tryz.isAgg171 Tryz.sizeOf171 eY (fun _=>rfl) (fun x v hv=>by simp[eY]at hv;rcases hv with rfl|rfl|rfl<;>rfl) FV Vq 186 #[] wS off cap d w eg (fun m os dk _ x y=>(KU _ x y).mono fun _ _ ⟨he,q,os',hw⟩=>⟨he,q,os',hw⟩) hH hblk fu
 exact h
theorem JV:HQ:=fun p cap fv w=>AnyF.slices_SortFunc_none Tryz.JW p cap fv w
end Go.Proofs.YtgoljkjaameagaaGreat.V

namespace Go.Proofs.YtgoljkjaameagaaGreat.V
open Go.RowKit
attribute [local irreducible] dQ wpOps ft Call
attribute [local go_sem] aA eV ef e9 e8 cZ upd bQ K.av cr AV.cells AV.cell rowOf rowsOf part ld rowAt bD bL dm dD fE bu cK dO fa eF db dH cI cH dw dx bz aQ cz bx cD cC dF dI dG cw bC cJ dE bw az cF bZ fD bj cq bB aJ cX aX dn AV.undef bp br dy dC du dz cm dM dP bU dK dJ cE cG List.getD_cons_zero List.getD_cons_succ List.getD_nil List.all_cons List.all_nil Bool.and_true Bool.true_and Bool.and_self Bool.not_true Bool.not_false Option.map_some Option.map_none Option.bind_some Option.bind_none List.length_cons List.length_nil List.take_succ_cons List.take_zero List.take_nil List.drop_succ_cons List.drop_zero List.drop_nil List.head?_cons List.map_cons List.map_nil List.getElem?_cons_zero List.getElem?_cons_succ List.cons_append List.nil_append List.append_nil List.length_map List.set_cons_zero List.set_cons_succ Nat.reduceMul eq_self Int.toNat_natCast Int.natCast_nonneg and_self true_and and_true decide_true decide_false Bool.false_eq_true Nat.zero_add Nat.add_zero List.contains_cons List.contains_nil Bool.or_false Bool.false_or beq_self_eq_true Nat.reduceBEq ne_eq not_true_eq_false not_false_eq_true Id.mk.injEq false_and and_false Nat.reduceLT Int.reduceLE Int.reduceLT Int.reduceToNat Int.reduceNeg Int.reduceAdd Nat.le_refl List.length_append beq_true beq_false Bool.not_eq_eq_eq_not or_false false_or dR ab aj ay bo bJ aD aV aH aU cu bq
end Go.Proofs.YtgoljkjaameagaaGreat.V

namespace Go.Proofs.YtgoljkjaameagaaGreat.V
open Go.RowKit
def Cb (m:MK) (it nx ok en:Nat) (id:Id) (B:(Ex->Env->au->Prop)->Env->au->Prop) (b b1:Nat) (Q:Ex->Env->au->Prop):Nat->List (List AV)->Env->au->Prop
 |0,_,env,σ=>env it=.ptr id 0 0/\Q .normal (upd (upd env (some nx) (.gn [.bool false])) (some ok) (.bool false)) ⟨σ.get,σ.next+1⟩
 |n+1,left,env,σ=>env it=.ptr id 0 0/\∀i cs kv vv,left[i]? =some cs->part m.ka m.ks cs=some kv->cs[m.ks]? =some vv->
   B (aX b1 (cX (Cb m it nx ok en id B b b1 Q n (left.eraseIdx i)) (aX b Q))) (upd (upd (upd env (some nx) (.gn [.bool true,kv,vv])) (some ok) (.bool true)) (some en) (.gn [kv,vv])) ⟨σ.get,σ.next+1⟩
def G5 (m:MK) (tm:O) (site it nx ok en:Nat) (B:(Ex->Env->au->Prop)->Env->au->Prop) (b b1:Nat) (Q:Ex->Env->au->Prop) (env:Env) (σ:au):Prop:=
 ∃id r,cZ env tm=.map id m/\σ.get id=some r/\r.w=true/\Cb m it nx ok en ⟨site,σ.next⟩ B b b1 Q r.rows.length r.rows (upd env (some it) (.ptr ⟨site,σ.next⟩ 0 0)) ⟨bD σ.get id {r with w:=false},σ.next+1⟩
variable {P:Program} {w w':World} {D D':Nat->Prop} {ι ι':Names} {hs:Nat} {g:Rows}
theorem jl.Df (hc:∀b x,D b->w'.cell? ⟨b,x,none⟩=w.cell? ⟨b,x,none⟩) {a:AV} {v:Value} (h:jl P w D a v):jl P w' D a v:=by
 induction h with
 |int k n=>exact .int k n
 |bool b=>exact .bool b
 |str s=>exact .str s
 |bS=>exact .bS
 |gE=>exact .gE
 |iJ=>exact .iJ
 |iT=>exact .iT
 |zL a c h=>exact .zL a c h
 |sl rows b o n c sz vs h1 h2 h3 h4 h5 h5' h6 _ ih=>exact .sl rows b o n c sz vs h1 h2 h3 h4 h5 h5' (fun i j hi hj=>(hc b _ h4).trans (h6 i j hi hj)) ih
 |dt cs b o vs h1 Oe h2 _ ih=>exact .dt cs b o vs h1 Oe (fun j hj=>(hc b _ h1).trans (h2 j hj)) ih
 |agg cs vs f h1 h2 h3 _ ih=>exact .agg cs vs f h1 h2 h3 ih
 |fn f di vs g h1 h2 h3 _ ih=>exact .fn f di vs g h1 h2 h3 ih
theorem dd.Df (hc:∀b x,D b->w'.cell? ⟨b,x,none⟩=w.cell? ⟨b,x,none⟩) {a:AV} {v:Value} (h:dd P w D ι a v):dd P w' D ι a v:=by
 induction h with
 |eM a v h=>exact .eM a v (h.Df hc)
 |map id m B h1 h2=>exact .map id m B h1 h2
 |qx id c B h1 h2=>exact .qx id c B h1 h2
 |own id off len o cap B h1 h2 h3 h4 h5 h6=>exact .own id off len o cap B h1 h2 h3 h4 h5 h6
 |ptr id i off B h1 h2=>exact .ptr id i off B h1 h2
 |agg cs vs f h1 h2 h3 _ ih=>exact .agg cs vs f h1 h2 h3 ih
 |gn cs vs f h1 h2 _ ih=>exact .gn cs vs f h1 h2 ih
 |fn f di vs g h1 h2 h3 _ ih=>exact .fn f di vs g h1 h2 h3 ih
 |tY f di vs g h1 h2 h3 _ ih=>exact .tY f di vs g h1 h2 h3 ih
def mm (w:World) (rr:Nat):Prop:=∃m s seen c,w.heap[rr]? =some (.mapIter m s seen c)
theorem mm.cell {rr:Nat} (h:mm w rr) (x:Nat):w.cell? ⟨rr,x,none⟩=none:=by
 obtain⟨m,s,seen,c,h⟩:=h
 simp[World.cell?,h]
theorem gT.Jt {B:rL} {r:Row} (R:gT P w D ι B r):¬mm w B.b:=by
 rintro⟨m,s,seen,c,h⟩
 cases hk:B.k with
 |none=>obtain⟨c',T,h3,_⟩:=(R.row hk).wS;rw[h]at h3;cases h3
 |some k=>
  cases k with
  |map m=>obtain⟨_,es,c',h3,_⟩:=R.map m hk;rw[h]at h3;cases h3
  |chan c=>obtain⟨_,buf,s',q,h3,_⟩:=R.chan c hk;rw[h]at h3;cases h3
theorem yc {rr:Nat} (h:mm w rr) (h':mm w' rr) (ho:∀b,b≠rr->w'.heap[b]? =w.heap[b]?):(∀{a v},dd P w D ι a v->dd P w' D ι a v):=fun hr=>hr.Df fun b x _=>by
 by_cases hb:b=rr
 ·subst hb;rw[h.cell,h'.cell]
 ·exact World.cell?_of_block (ho b hb)
theorem gx.iter {rr:Nat} (S:gx P hs D ι g w) (h:mm w rr) (h':mm w' rr) (ho:∀b,b≠rr->w'.heap[b]? =w.heap[b]?) (hz:w'.heap.size=w.heap.size):gx P hs D ι g w':=
 ⟨by rw[hz];exact S.lo,fun b hb=>by rw[hz];exact S.dead b hb,fun id r hg=>by
  obtain⟨B,hB,R,k1,k2⟩:=S.row id r hg
  exact⟨B,hB,R.frame (ho _ fun e=>R.Jt (e▸h)) fun a v hr=>yc h h' ho hr,k1,k2⟩,S.inj⟩
theorem me {ops:Array Oper} {Q:Exit->Act->World->Prop} {a:Act} {o:Oper} {l:List Oper} {v:Value} (hg:o.guard=none) (gi:(execOp a.eval o).run P w=.ok (.value v) w') (h:wpList P ops Q l (a.put o.dst v) w'):wpList P ops Q (o::l) a w:=by
 unfold wpList
 rw[if_pos (by simp[Region.wanted,hg])]
 exact .inl (by unfold Oper.wp;rw[gi];exact h)
theorem B8 {x y:AV} {u v:Value} (h1:dd P w D ι x u) (h2:dd P w D ι y v):dd P w D ι (.gn [x,y]) (.tuple #[u,v]):=
 .gn _ _ (fun j=>if j=0 then u else v) rfl (fun j hj=>by match j,hj with|0,_=>rfl|1,_=>rfl|j+2,hj=>simp at hj;omega) (fun j a ha=>by match j,ha with|0,ha=>simp at ha;subst ha;exact h1|1,ha=>simp at ha;subst ha;exact h2|j+2,ha=>simp at ha)
theorem JL {x y z:AV} {u v t:Value} (h1:dd P w D ι x u) (h2:dd P w D ι y v) (h3:dd P w D ι z t):dd P w D ι (.gn [x,y,z]) (.tuple #[u,v,t]):=
 .gn _ _ (fun j=>if j=0 then u else if j=1 then v else t) rfl (fun j hj=>by match j,hj with|0,_=>rfl|1,_=>rfl|2,_=>rfl|j+3,hj=>simp at hj;omega) (fun j a ha=>by match j,ha with|0,ha=>simp at ha;subst ha;exact h1|1,ha=>simp at ha;subst ha;exact h2|2,ha=>simp at ha;subst ha;exact h3|j+3,ha=>simp at ha)
theorem JK {x:AV} {u:Value} (h1:dd P w D ι x u):dd P w D ι (.gn [x]) (.tuple #[u]):=
 .gn _ _ (fun _=>u) rfl (fun j hj=>by match j,hj with|0,_=>rfl|j+1,hj=>simp at hj) (fun j a ha=>by match j,ha with|0,ha=>simp at ha;subst ha;exact h1|j+1,ha=>simp at ha)
structure ME (P:Program) (w:World) (D:Nat->Prop) (ι:Names) (m:MK) (L:List MapEntry) (left:List (List AV)):Prop where
 len:left.length=L.length
 at_:∀(i:Nat) (cs:List AV),left[i]? =some cs->∃(e:MapEntry) (kv vv:AV),L[i]? =some e/\part m.ka m.ks cs=some kv/\cs[m.ks]? =some vv/\dd P w D ι kv e.key/\dd P w D ι vv e.val
theorem ME.rep {m:MK} {L:List MapEntry} {left:List (List AV)} (h:ME P w D ι m L left) (hr:∀{a v},dd P w D ι a v->dd P w' D' ι' a v):ME P w' D' ι' m L left:=⟨h.len,fun i cs hi=>by
 obtain⟨e,kv,vv,h1,h2,h3,h4,h5⟩:=h.at_ i cs hi
 exact⟨e,kv,vv,h1,h2,h3,hr h4,hr h5⟩⟩
theorem mB {α β:Type} {l:List α} {k:List β} {i j:Nat} {x:α} (hl:l.length=k.length) (h:(l.eraseIdx i)[j]? =some x):∃q:Nat,l[q]? =some x/\(k.eraseIdx i)[j]? =k[q]? :=by
 rw[List.getElem?_eraseIdx]at h
 split at h
 ·rename_i hj;exact⟨j,h,by rw[List.getElem?_eraseIdx,if_pos hj]⟩
 ·rename_i hj;exact⟨j+1,h,by rw[List.getElem?_eraseIdx,if_neg hj]⟩
theorem ME.erase {m:MK} {L:List MapEntry} {left:List (List AV)} (h:ME P w D ι m L left) {i:Nat} (hi:i<L.length):ME P w D ι m (L.eraseIdx i) (left.eraseIdx i):=⟨by
 rw[List.length_eraseIdx,List.length_eraseIdx,h.len],fun j cs hj=>by
 obtain⟨q,hq,he⟩:=mB h.len hj
 obtain⟨e,kv,vv,h1,h2⟩:=h.at_ q cs hq
 exact⟨e,kv,vv,he.trans h1,h2⟩⟩
theorem mY:∀{l:List MapEntry} {i:Nat} {e:MapEntry},(l.map (·.born)).Nodup->l[i]? =some e->l.filter (fun x=>x.born !=e.born)=l.eraseIdx i
 |x::l,0,e,hn,h=>by
  simp at h;subst h
  obtain⟨h1,h2⟩:=List.nodup_cons.1 (show(x.born::l.map (·.born)).Nodup from hn)
  rw[List.filter_cons,if_neg (by simp),List.eraseIdx_cons_zero]
  refine List.filter_eq_self.2 fun y hy=>?_
  have:y.born≠x.born:=fun hc=>h1 (by rw[<-hc];exact List.mem_map_of_mem hy)
  simpa using this
 |x::l,i+1,e,hn,h=>by
  obtain⟨h1,h2⟩:=List.nodup_cons.1 (show(x.born::l.map (·.born)).Nodup from hn)
  simp only[List.getElem?_cons_succ]at h
  have hx:x.born≠e.born:=fun hc=>h1 (by rw[hc];exact List.mem_map_of_mem (List.mem_of_getElem? h))
  rw[List.filter_cons,if_pos (by simpa using hx),List.eraseIdx_cons_succ,mY h2 h]
theorem DP {es:Array MapEntry} {clock:Nat} {seen:Array Nat} {i:Nat} {e:MapEntry} (hs:KL es clock) (h:(leftOf es seen).toList[i]? =some e):(leftOf es (seen.push e.born)).toList=(leftOf es seen).toList.eraseIdx i:=by
 have hn:((leftOf es seen).toList.map (·.born)).Nodup:=by
  unfold leftOf
  rw[Array.toList_filter]
  exact((List.filter_sublist (p:=fun e=> !seen.contains e.born) (l:=es.toList)).map MapEntry.born).nodup hs.2
 rw[<-mY hn h]
 unfold leftOf
 rw[Array.toList_filter,Array.toList_filter,List.filter_filter]
 refine List.filter_congr fun x _=>?_
 rw[contains_push]
 cases seen.contains x.born<;>cases hb:(x.born==e.born)<;>simp_all
theorem eval_put {a:Act} {d:Nat} {v:Value} (h:d<a.tmps.size):(a.put (some d) v).eval (.tmp d)=v:=by
 simp[Act.put,Act.eval,h]
def JP (ix ie b b1 ok:Nat) (DY GW DX:Oper) (qU:List Oper) (mW:Code):Code:=
 .seq (.region ix #[DY,GW] false) (.seq (.cond (.tmp ok) .skip (.exit b)) (.block b1 (.seq (.region ie (DX::qU).toArray false) mW)))
structure HN (P:Program) (md:List (Nat×Nat)) (nt fid s0 it nx ok en:Nat) (DY GW DX:Oper) (qU:List Oper) (mW:Code) (vE:List bH) (rF:VC):Prop where
 h1:DY.op=.next (.tmp it) false
 h2:DY.dst=some nx
 h3:DY.guard=none
 h4:GW.op=.extract (.tmp nx) 0
 h5:GW.dst=some ok
 h6:GW.guard=none
 h7:DX.op=.entry (.tmp it)
 h8:DX.dst=some en
 h9:DX.guard=none
 Qv:nx<nt
 Tl:ok<nt
 lt3:en<nt
 ne1:it≠nx
 ne2:it≠ok
 hE:allM (kn P (DX::qU).toArray nt s0 false false #[] []) qU 1=some vE
 hR:iX P md nt fid mW=some rF
theorem Ef (hm:P.follows .mixedOrders=true) {md:List (Nat×Nat)} {nt fid s0 ix ie b b1 it nx ok en:Nat} {m:MK} {id:Id} {DY GW DX:Oper} {qU:List Oper} {mW:Code} {vE:List bH} {rF:VC}
  (O:HN P md nt fid s0 it nx ok en DY GW DX qU mW vE rF) {rr bm:Nat} {es:Array MapEntry} {clock:Nat} (Gs:KL es clock) {ds:List Deferred} {n0:Nat} {D0:Nat->Prop} {ι0:Names} {w0:World} {Q:Ex->Env->au->Prop} {Q':Exit->Act->World->Prop}
  (hQ:sJ P hs nt ds Q n0 D0 ι0 w0 Q') (hD0:¬D0 rr) (hrr:hs<=rr) (gP:bm≠rr):
  ∀(n:Nat) (left:List (List AV)) (env:Env) (σ:au) (a:Act) (w:World) (D:Nat->Prop) (ι:Names) (seen:Array Nat),
   Cb m it nx ok en id (dQ (Sound P) (.seq (.eA false vE) rF)) b b1 Q n left env σ->St P hs nt D ι env σ a w->a.defers=ds->n0<=σ.next->Step hs D0 ι0 w0 D ι w->
   (∃sz C,ι id=some ⟨rr,sz,C,none⟩)->D rr->D bm->w.heap[rr]? =some (.mapIter (some bm) clock seen clock)->w.heap[bm]? =some (.map es clock)->left.length=n->ME P w D ι m (leftOf es seen).toList left->
   oP P (JP ix ie b b1 ok DY GW DX qU mW) (Exit.inBlock b Q') (n+1) a w:=by
 intro n
 induction n with
 |zero=>
  intro left env σ a w D ι seen hv eb hd Ai T hid T9 T6 hr hb hlen hL
  obtain⟨Ll,hq⟩:=hv
  have ha:a.tmps.getD it undef=.pointer (some ⟨rr,0,none⟩):=by
   have:=eb.env it
   rw[Ll]at this
   obtain⟨B,e,hB,_⟩:=iv this
   obtain⟨sz,C,hid⟩:=hid
   rw[hid]at hB;injection hB with hB;subst hB
   simpa using e
  have SN:a.eval (.tmp it)=.pointer (some ⟨rr,0,none⟩):=ha
  rcases run_next_at (P:=P) w DY.type rr bm clock clock seen es clock hr hb Gs.1 (Nat.le_refl _)with⟨_,gi⟩|⟨e,he,_⟩
  rotate_left
  ·have h0:(leftOf es seen).toList=[]:=List.eq_nil_of_length_eq_zero (by rw[<-hL.len,hlen])
   rw[h0]at he;simp at he
  have CD:nx<a.tmps.size:=by rw[eb.size];exact O.Qv
  have E2:=im (im eb.env (JK (.eM _ _ (.bool false))) (dst:=some nx) (fun d h=>by cases h;exact O.Qv) eb.size) (.eM _ _ (.bool false)) (dst:=some ok) (fun d h=>by cases h;exact O.Tl) (by rw[e6];exact eb.size)
  show Ab P (.seq _ _) _ a w
  refine lj (j0 (wp_region_list ?_))
  refine me (v:=.tuple #[.bool false]) (w':=w) O.h3 (by simp[execOp,O.h1,SN,gi,Result.andThen]) ?_
  refine me (v:=.bool false) (w':=w) O.h6 (by rw[O.h2];simp[execOp,O.h4,eval_put CD,Instr.extract]) ?_
  rw[O.h2,O.h5]
  refine lj (vp (t:=false) (eval_put (by rw[e6,eb.size];exact O.Tl)) (j0 (wp_exit ?_)))
  show Exit.inBlock b Q' (.exit b) _ _
  simp only[Exit.inBlock,if_true]
  exact hQ .normal _ ⟨σ.get,σ.next+1⟩ _ w D ι hq T ⟨eb.su,eb.used.next,E2,by rw[e6,e6];exact eb.size⟩ (by rw[put_defers,put_defers];exact hd) (Nat.le_succ_of_le Ai)
 |succ n ih=>
  intro left env σ a w D ι seen hv eb hd Ai T hid T9 T6 hr hb hlen hL
  obtain⟨Ll,hq⟩:=hv
  have ha:a.tmps.getD it undef=.pointer (some ⟨rr,0,none⟩):=by
   have:=eb.env it
   rw[Ll]at this
   obtain⟨B,e,hB,_⟩:=iv this
   obtain⟨sz,C,hid⟩:=hid
   rw[hid]at hB;injection hB with hB;subst hB
   simpa using e
  have SN:a.eval (.tmp it)=.pointer (some ⟨rr,0,none⟩):=ha
  rcases run_next_at (P:=P) w DY.type rr bm clock clock seen es clock hr hb Gs.1 (Nat.le_refl _)with⟨h0,_⟩|⟨e,he,w1,nB,gi⟩
  ·have:=hL.len
   rw[hlen,Array.length_toList]at this;omega
  obtain⟨i,hi,Hy⟩:=List.getElem_of_mem he
  have Ro:(leftOf es seen).toList[i]? =some e:=by rw[List.getElem?_eq_getElem hi,Hy]
  have mi:i<left.length:=by rw[hL.len];exact hi
  obtain⟨e',kv,vv,q1,q2,q3,q4,q5⟩:=hL.at_ i left[i] (List.getElem?_eq_getElem mi)
  rw[Ro]at q1;injection q1 with q1;subst q1
  replace hq:=hq i left[i] kv vv (List.getElem?_eq_getElem mi) q2 q3
  have Lw:w1.heap[rr]? =some (.mapIter (some bm) clock seen clock):=by rcases nB with rfl|rfl<;>exact hr
  have eI:=MapKept.heap_set (o':=.mapIter (some bm) clock (seen.push e.born) clock) Lw
  obtain⟨w2,pe⟩:∃w2,ChangeMaps.setBlock w1 rr (.mapIter (some bm) clock (seen.push e.born) clock)=w2:=⟨_,rfl⟩
  have ho:∀k,k≠rr->w2.heap[k]? =w.heap[k]? :=fun k hk=>by
   rw[<-pe]
   refine(eI.2 k hk).trans ?_
   rcases nB with rfl|rfl<;>rfl
  have hz:w2.heap.size=w.heap.size:=by
   rw[<-pe]
   rcases nB with rfl|rfl<;>simp[ChangeMaps.setBlock]
  have zh:w2.heap[rr]? =some (.mapIter (some bm) clock (seen.push e.born) clock):=by rw[<-pe];exact eI.1
  have xe:w2.os=w.os/\w2.tape=w.tape/\w2.output=w.output:=by
   rw[<-pe]
   rcases nB with rfl|rfl<;>exact⟨rfl,rfl,rfl⟩
  rw[pe]at gi
  clear pe eI
  have I1:mm w rr:=⟨_,_,_,_,hr⟩
  have I2:mm w2 rr:=⟨_,_,_,_,zh⟩
  have rt:∀{a v},dd P w D ι a v->dd P w2 D ι a v:=yc I1 I2 ho
  have S2:=eb.su.iter I1 I2 ho hz
  have T2:Step hs D0 ι0 w0 D ι w2:=⟨⟨xe.1.trans T.below.os,xe.2.1.trans T.below.tape,xe.2.2.trans T.below.output,by rw[hz];exact T.below.size,fun k hk=>(ho k ai).trans (T.below.block k hk)⟩,fun k hk=>(ho k (fun hc=>hD0 (hc▸hk))).trans (T.qN k hk),T.dead,T.names,T.new⟩
  have Gf:w2.heap[bm]? =some (.map es clock):=(ho bm gP).trans hb
  have CD:nx<a.tmps.size:=by rw[eb.size];exact O.Qv
  have E1:cQ P w2 D ι env a:=fun t=>rt (eb.env t)
  have E2:=im (im E1 (JL (.eM _ _ (.bool true)) (rt q4) (rt q5)) (dst:=some nx) (fun d h=>by cases h;exact O.Qv) eb.size) (.eM _ _ (.bool true)) (dst:=some ok) (fun d h=>by cases h;exact O.Tl) (by rw[e6];exact eb.size)
  have E3:=im E2 (B8 (rt q4) (rt q5)) (dst:=some en) (fun d h=>by cases h;exact O.lt3) (by rw[e6,e6];exact eb.size)
  have Hv:=run_entry_at (P:=P) w2 rr bm clock seen es clock e zh Gf (mem_left he).1 Gs.2
  show Ab P (.seq _ _) _ a w
  refine lj (j0 (wp_region_list ?_))
  refine me (v:=.tuple #[.bool true,e.key,e.val]) (w':=w2) O.h3 (by simp[execOp,O.h1,SN,gi,Result.andThen]) ?_
  refine me (v:=.bool true) (w':=w2) O.h6 (by rw[O.h2];simp[execOp,O.h4,eval_put CD,Instr.extract]) ?_
  rw[O.h2,O.h5]
  refine lj (vp (t:=true) (eval_put (by rw[e6,eb.size];exact O.Tl)) (j0 (wp_skip ?_)))
  refine sj (lj (j0 (wp_region_list ?_)))
  show wpList P _ _ (DX::qU) _ _
  have ha3:(((a.put (some nx) (.tuple #[.bool true,e.key,e.val])).put (some ok) (.bool true)).eval (.tmp it))=.pointer (some ⟨rr,0,none⟩):=by
   have n1:=O.ne1
   have n2:=O.ne2
   rw[<-SN]
   simp[Act.put,Act.eval,Array.getD_eq_getD_getElem?,Array.getElem?_setIfInBounds,Ne.symm n1,Ne.symm n2]
  refine me (v:=.tuple #[e.key,e.val]) (w':=w2) O.h9 (by simp[execOp,O.h7,ha3,Hv,Result.andThen]) ?_
  rw[O.h8]
  refine yp qU vE 1 _ ⟨σ.get,σ.next+1⟩ _ w2 D ι (fun _=>False) O.hE hq S2 eb.used.next (fun _ h=>h.elim) E3 (by rw[e6,e6,e6];exact eb.size) fun TK σ3 a3 w3 D3 ι3 hk T3 St3 Rb UJ=>?_
  refine pN hm mW rF O.hR _ TK σ3 a3 w3 D3 ι3 _ hk St3 fun ex Ik σ4 a4 w4 D4 ι4 IV T4 Tw Rc UK=>?_
  have Uu:a4.defers=ds:=by rw[Rc,Rb,put_defers,put_defers,put_defers];exact hd
  have UW:n0<=σ4.next:=Nat.le_trans Ai (Nat.le_trans (Nat.le_succ _) (Nat.le_trans UJ UK))
  have ND:=T3.trans T4
  have TT:=T2.trans ND
  have ta:Cb m it nx ok en id (dQ (Sound P) (.seq (.eA false vE) rF)) b b1 Q n (left.eraseIdx i) Ik σ4->oP P (JP ix ie b b1 ok DY GW DX qU mW) (Exit.inBlock b Q') (n+1) a4 w4:=fun hq5=>by
   refine ih (left.eraseIdx i) Ik σ4 a4 w4 D4 ι4 (seen.push e.born) hq5 Tw Uu UW TT ?_ (ND.dead _ T9) (ND.dead _ T6) ((ND.qN _ T9).trans zh) ((ND.qN _ T6).trans Gf) ?_ ?_
   ·obtain⟨sz,C,hid⟩:=hid;exact⟨sz,C,ND.names _ _ hid⟩
   ·rw[List.length_eraseIdx,if_pos mi,hlen];rfl
   ·rw[DP Gs Ro]
    exact(hL.erase hi).rep fun hr=>ND.rep (rt hr)
  have out:∀ex,ex≠.normal->Q ex Ik σ4->Q' (Sz ex) a4 w4:=fun ex _ h=>hQ ex Ik σ4 a4 w4 D4 ι4 h TT Tw Uu UW
  cases ex with
  |normal=>exact ta IV
  |ret=>exact out .ret (by simp) IV
  |exit jG=>
   simp only[aX]at IV
   simp only[Sz,Exit.inBlock]
   by_cases h1:jG=b1
   ·rw[if_pos h1]at IV ⊢
    exact ta IV
   ·rw[if_neg h1]at IV ⊢
    simp only[cX,aX]at IV
    show Exit.inBlock b Q' (.exit jG) a4 w4
    simp only[Exit.inBlock]
    by_cases h2:jG=b
    ·rw[if_pos h2]at IV ⊢
     exact hQ .normal Ik σ4 a4 w4 D4 ι4 IV TT Tw Uu UW
    ·rw[if_neg h2]at IV ⊢
     exact out (.exit jG) (by simp) IV
def CS (P:Program) (nt:Nat) (c:Code) (W:(Ex->Env->au->Prop)->Env->au->Prop):Prop:=
 ∀(hs:Nat) (Q:Ex->Env->au->Prop) (env:Env) (σ:au) (a:Act) (w:World) (D:Nat->Prop) (ι:Names) (Q':Exit->Act->World->Prop),W Q env σ->St P hs nt D ι env σ a w->sJ P hs nt a.defers Q σ.next D ι w Q'->Ab P c Q' a w
theorem CS.code (hm:P.follows .mixedOrders=true) {md:List (Nat×Nat)} {nt fid:Nat} {c:Code} {vc:VC} (h:iX P md nt fid c=some vc):CS P nt c (dQ (Sound P) vc):=
 fun _ Q env σ a w D ι Q' hv eb hQ=>pN hm c vc h Q env σ a w D ι Q' hv eb hQ
theorem CS.seq {nt:Nat} {x y:Code} {V W:(Ex->Env->au->Prop)->Env->au->Prop} (h:CS P nt x V) (k:CS P nt y W):CS P nt (.seq x y) (fun Q=>V (cX (W Q) Q)):=fun hs Q env σ a w D ι Q' hv eb hQ=>by
 refine lj (h hs _ env σ a w D ι _ hv eb fun ex iQ σ1 a1 w1 D1 ι1 hq T jQ hd hle=>?_)
 cases ex with
 |normal=>exact k hs Q iQ σ1 a1 w1 D1 ι1 Q' hq jQ (by rw[hd];exact hQ.later T hle)
 |exit id=>exact hQ (.exit id) iQ σ1 a1 w1 D1 ι1 hq T jQ hd hle
 |ret=>exact hQ .ret iQ σ1 a1 w1 D1 ι1 hq T jQ hd hle
theorem CS.rng (hm:P.follows .mixedOrders=true) {md:List (Nat×Nat)} {nt fid s0 sA site ia ix ie b b1 it nx ok en:Nat} {m:MK} {DY GW DX D6:Oper} {JD qU:List Oper} {mW:Code} {vA vE:List bH} {rF:VC} {t k e:TypeId} {tm:Operand} {tm':O}
  (O:HN P md nt fid s0 it nx ok en DY GW DX qU mW vE rF) (h1:D6.op=.range t tm) (h2:D6.dst=some it) (h3:D6.guard=none) (eh:it<nt) (ht:P.underlying t=some (.map k e)) (Va:cO P tm=some tm') (hA:allM (kn P (JD++[D6]).toArray nt sA false false #[] []) JD 0=some vA):
  CS P nt (.seq (.region ia (JD++[D6]).toArray false) (.block b (.loop (JP ix ie b b1 ok DY GW DX qU mW))))
   (fun Q=>wpOps (Sound P) false vA (G5 m tm' site it nx ok en (dQ (Sound P) (.seq (.eA false vE) rF)) b b1 Q)):=fun hs Q env σ a w D ι Q' hv eb hQ=>by
 refine lj (j0 (wp_region_list ?_))
 show wpList P _ _ (JD++[D6]) a w
 refine vu [D6] JD vA 0 env σ a w D ι (fun _=>False) hA hv eb.su eb.used (fun _ h=>h.elim) eb.env eb.size fun iQ σ1 a1 w1 D1 ι1 hk T rO tR Gn=>?_
 obtain⟨id,r,hid,hg,hw,hr⟩:=hk
 have gH:=dB rO.env Va
 rw[hid]at gH
 obtain⟨B,hv,hB,hk⟩:=FB gH
 obtain⟨B',dW,R,ju,lu⟩:=rO.su.row id r hg
 rw[hB]at dW;injection dW with dW;subst dW
 obtain⟨hrsz,es,clock,hb,fu,⟨hlen,Gs⟩,hM⟩:=R.map m hk
 have SF:=R.lt
 have gi:=run_range_map (P:=P) w1 t k e B.b es clock ht hb
 refine me (v:=.pointer (some ⟨w1.heap.size,0,none⟩)) (w':=w1.alloc (.mapIter (some B.b) clock #[] clock)) h3 (by simp[execOp,h1,hv,gi,Result.andThen]) ?_
 rw[h2]
 obtain⟨w2,pe⟩:∃w2,w1.alloc (.mapIter (some B.b) clock #[] clock)=w2:=⟨_,rfl⟩
 have hblk:∀b,b<w1.heap.size->w2.heap[b]? =w1.heap[b]? :=fun b hb=>by rw[<-pe];exact Below.heap_alloc _ _ _ hb
 have jY:w2.heap[w1.heap.size]? =some (.mapIter (some B.b) clock #[] clock):=by rw[<-pe];exact heap_alloc_new _ _
 have hz:w2.heap.size=w1.heap.size+1:=by rw[<-pe];simp
 have xe:w2.os=w1.os/\w2.tape=w1.tape/\w2.output=w1.output:=by rw[<-pe];exact⟨rfl,rfl,rfl⟩
 rw[pe]
 clear pe gi
 let D2:Nat->Prop:=fun x=>D1 x∨x=B.b∨x=w1.heap.size
 let ι2:Names:=kd ι1 ⟨site,σ1.next⟩ ⟨w1.heap.size,1,0,none⟩
 have kK:ι1 ⟨site,σ1.next⟩=none:=fresh rO.used (fun h=>h)
 have Td:∀{a v},dd P w1 D1 ι1 a v->dd P w2 D2 ι2 a v:=fun h=>h.frame (fun b hd=>hblk b (rO.su.dead b hd)) (fun _ h=>.inl h) (fh kK)
 have yn:∀{j q C},σ1.get j=some q->ι2 j=some C->ι1 j=some C:=fun {j q C} hj hC=>by
  obtain⟨C',tx,_⟩:=rO.su.row j q hj
  have:=fh (B:=⟨w1.heap.size,1,0,none⟩) kK j C' tx
  have e:=this.symm.trans hC
  injection e with e;rw[<-e];exact tx
 have lt:∀{j q C},σ1.get j=some q->ι1 j=some C->C.b<w1.heap.size:=fun {j q C} hj hC=>by
  obtain⟨C',tx,R',_⟩:=rO.su.row j q hj
  rw[hC]at tx;injection tx with tx;subst tx
  exact R'.lt
 have Oc:∀{j q},bD σ1.get id {r with w:=false} j=some q->∃q0,σ1.get j=some q0/\(q.w=true->q=q0/\j≠id)/\(j=id->q={r with w:=false}/\q0=r)/\(j≠id->q=q0):=fun {j q} h=>by
  unfold bD at h
  split at h
  ·rename_i e
   injection h with h;subst h
   exact⟨r,e▸hg,fun h=>(by cases h),fun _=>⟨rfl,rfl⟩,fun hc=>absurd e hc⟩
  ·rename_i e
   exact⟨q,h,fun _=>⟨rfl,e⟩,fun hc=>absurd hc e,fun _=>rfl⟩
 have S2:gx P hs D2 ι2 (bD σ1.get id {r with w:=false}) w2:=by
  refine⟨by rw[hz];exact Nat.le_succ_of_le rO.su.lo,fun b hb=>?_,fun j q h=>?_,fun j j' q q' C C' h h' IW hC tx he=>?_⟩
  ·rw[hz]
   rcases hb with hb|rfl|rfl
   ·exact Nat.lt_succ_of_lt (rO.su.dead b hb)
   ·exact Nat.lt_succ_of_lt SF
   ·exact Nat.lt_succ_self _
  ·obtain⟨q0,KB,IW,zd,gP⟩:=Oc h
   obtain⟨C,hC,RC,k1,k2⟩:=rO.su.row j q0 KB
   have hCl:=lt KB hC
   refine⟨C,fh kK j C hC,?_,fun Qp=>k1 ((IW Qp).1▸Qp),fun Qp hD=>?_⟩
   ·have RF:gT P w2 D2 ι2 C q0:=RC.frame (hblk _ hCl) fun a v h=>Td h
    by_cases hj:j=id
    ·obtain⟨e1,e2⟩:=zd hj
     rw[e1,<-e2];exact RF.flag false
    ·rw[gP hj];exact RF
   ·obtain⟨e1,e2⟩:=IW Qp
    rcases hD with hD|hD|hD
    ·exact k2 (e1▸Qp) hD
    ·exact e2 (rO.su.inj j id q0 r C B KB hg (e1▸Qp) hC hB hD)
    ·omega
  ·obtain⟨q0,KB,U7,_⟩:=Oc h
   obtain⟨q0',Rw,_⟩:=Oc h'
   exact rO.su.inj j j' q0 q0' C C' KB Rw ((U7 IW).1▸IW) (yn KB hC) (yn Rw tx) he
 have T2:Step hs D1 ι1 w1 D2 ι2 w2:=⟨⟨xe.1,xe.2.1,xe.2.2,ai,fun k hk=>hblk k (Nat.lt_of_lt_of_le hk rO.su.lo)⟩,fun b hb=>hblk b (rO.su.dead b hb),fun _ h=>.inl h,fh kK,fun b hb=>by
  rcases hb with hb|rfl|rfl
  ·exact .inl hb
  ·exact .inr (ju hw)
  ·exact .inr rO.su.lo⟩
 have E2:cQ P w2 D2 ι2 (upd iQ (some it) (.ptr ⟨site,σ1.next⟩ 0 0)) (a1.put (some it) (.pointer (some ⟨w1.heap.size,0,none⟩))):=
  im (fun t=>Td (rO.env t)) (by have:=dd.ptr (P:=P) (w:=w2) (D:=D2) (ι:=ι2) ⟨site,σ1.next⟩ 0 0 ⟨w1.heap.size,1,0,none⟩ (eo _ _ _) rfl;simpa using this) (fun d h=>by cases h;exact eh) rO.size
 have L2:ME P w2 D2 ι2 m (leftOf es #[]).toList r.rows:=by
  have he:(leftOf es #[]).toList=es.toList:=by simp[leftOf]
  rw[he]
  refine⟨by simpa using fu.symm,fun i cs hi=>?_⟩
  obtain⟨QL,kv,vv,q1,q2,q3,q4,q5⟩:=hM i cs hi
  exact⟨QL,kv,vv,by simpa using q1,q2,q3,Td q4,Td q5⟩
 show Ab P (.block b (.loop (JP ix ie b b1 ok DY GW DX qU mW))) Q' _ w2
 exact sj (BX (r.rows.length+1) (Ef hm O Gs (ds:=a.defers) (n0:=σ.next) (D0:=D) (ι0:=ι) (w0:=w) hQ
  (fun hc=>by have:=eb.su.dead _ hc;have:=T.below.size;omega) rO.su.lo ai r.rows.length r.rows _ ⟨bD σ1.get id {r with w:=false},σ1.next+1⟩ _ w2 D2 ι2 #[] hr
  ⟨S2,rO.used.upd.next,E2,by rw[e6];exact rO.size⟩ (by rw[put_defers];exact tR) (Nat.le_succ_of_le Gn) (T.trans T2) ⟨1,0,eo _ _ _⟩ (.inr (.inr rfl)) (.inr (.inl rfl)) jY ((hblk _ SF).trans hb) rfl L2))
theorem CS.fn {f:Nat} {fn:Func} {c:Code} {args:List AV} {σ:au} {K:AV->au->Prop} {vr:List nh} {W:(Ex->Env->au->Prop)->Env->au->Prop} (Qc:P.funcs[f]? =some fn) (hc:fn.body=some c) (hr:fn.results.toList.mapM (CX P)=some vr) (ha:fn.params.size+fn.nfree=args.length) (hle:fn.params.size+fn.nfree<=fn.ntmps)
  (h:CS P fn.ntmps c W) (hv:W (kb vr K) (bQ args) σ):Call P f args σ K:=
 fB (ur Qc hc hr ha hle fun hs w D ι a Q' eb hQ=>h hs (kb vr K) (bQ args) σ a w D ι Q' hv eb hQ)
theorem mh (hm:P.follows .mixedOrders=true) {c:VC} {Q Q':Ex->Env->au->Prop} {env:Env} {σ:au} (hQ:∀x e s,Q x e s->Q' x e s) (h:dQ (Call P) c Q env σ):dQ (Sound P) c Q' env σ:=
 jk (fun _ _ _ _ h=>fR hm h) kj c Q Q' env σ hQ h
theorem yz {m:MK} {it nx ok en:Nat} {id:Id} {B B':(Ex->Env->au->Prop)->Env->au->Prop} {b b1:Nat} {Q Q':Ex->Env->au->Prop} (hB:∀R R' e s,(∀x e s,R x e s->R' x e s)->B R e s->B' R' e s) (hQ:∀x e s,Q x e s->Q' x e s):
  ∀(n:Nat) (left:List (List AV)) (env:Env) (σ:au),Cb m it nx ok en id B b b1 Q n left env σ->Cb m it nx ok en id B' b b1 Q' n left env σ
 |0,_,env,σ,h=>⟨h.1,hQ _ _ _ h.2⟩
 |n+1,left,env,σ,h=>⟨h.1,fun i cs kv vv h1 h2 h3=>hB _ _ _ _ (fun x e s hx=>by
  have hn:=yz (id:=id) (m:=m) (it:=it) (nx:=nx) (ok:=ok) (en:=en) (b:=b) (b1:=b1) hB hQ n (left.eraseIdx i) e s
  cases x with
  |normal=>exact hn hx
  |ret=>exact hQ _ _ _ hx
  |exit jG=>
   simp only[aX]at hx ⊢
   split at hx
   ·rename_i h1;rw[if_pos h1];exact hn hx
   ·rename_i h1
    rw[if_neg h1]
    simp only[cX,aX]at hx ⊢
    split at hx
    ·rename_i h2;rw[if_pos h2];exact hQ _ _ _ hx
    ·rename_i h2;rw[if_neg h2];exact hQ _ _ _ hx) (h.2 i cs kv vv h1 h2 h3)⟩
theorem G6 (hm:P.follows .mixedOrders=true) {m:MK} {tm:O} {site it nx ok en:Nat} {c:VC} {b b1:Nat} {Q Q':Ex->Env->au->Prop} {env:Env} {σ:au} (hQ:∀x e s,Q x e s->Q' x e s) (h:G5 m tm site it nx ok en (dQ (Call P) c) b b1 Q env σ):G5 m tm site it nx ok en (dQ (Sound P) c) b b1 Q' env σ:=by
 obtain⟨id,r,h1,h2,h3,h4⟩:=h
 exact⟨id,r,h1,h2,h3,yz (B':=dQ (Sound P) c) (fun R R' e s hR hb=>mh hm hR hb) hQ _ _ _ _ h4⟩
theorem vz {α:Type}:∀{l:List α} {i:Nat} {x:α},l[i]? =some x->(x::l.eraseIdx i).Perm l
 |y::l,0,x,h=>by simp at h;subst h;exact List.Perm.refl _
 |y::l,i+1,x,h=>by
  simp only[List.getElem?_cons_succ]at h
  rw[List.eraseIdx_cons_succ]
  exact(List.Perm.swap _ _ _).trans ((vz h).cons _)
theorem Se {m:MK} {tm:O} {site it nx ok en:Nat} {c:VC} {b b1:Nat} {Q:Ex->Env->au->Prop} {env:Env} {σ:au} {id:Id} {r:Row} (I:List (List AV)->Env->au->Prop) (h1:cZ env tm=.map id m) (h2:σ.get id=some r) (h3:r.w=true) (Ll:([nx,ok,en]++xC c).contains it=false)
  (h0:I [] (upd env (some it) (.ptr ⟨site,σ.next⟩ 0 0)) ⟨bD σ.get id {r with w:=false},σ.next+1⟩)
  (step:∀pre cs rest e s kv vv,(pre++cs::rest).Perm r.rows->I pre e s->iK ([nx,ok,en]++xC c) (upd env (some it) (.ptr ⟨site,σ.next⟩ 0 0)) e->part m.ka m.ks cs=some kv->cs[m.ks]? =some vv->
   dQ (Call P) c (aX b1 (cX (I (pre++[cs])) (aX b Q))) (upd (upd (upd e (some nx) (.gn [.bool true,kv,vv])) (some ok) (.bool true)) (some en) (.gn [kv,vv])) ⟨s.get,s.next+1⟩)
  (fin:∀pre e s,pre.Perm r.rows->I pre e s->iK ([nx,ok,en]++xC c) (upd env (some it) (.ptr ⟨site,σ.next⟩ 0 0)) e->Q .normal (upd (upd e (some nx) (.gn [.bool false])) (some ok) (.bool false)) ⟨s.get,s.next+1⟩):
  G5 m tm site it nx ok en (dQ (Call P) c) b b1 Q env σ:=by
 refine⟨id,r,h1,h2,h3,?_⟩
 have Re:∀e,iK ([nx,ok,en]++xC c) (upd env (some it) (.ptr ⟨site,σ.next⟩ 0 0)) e->e it=.ptr ⟨site,σ.next⟩ 0 0:=fun e h=>by
  rw[h it Ll];simp[upd]
 have key:∀n left pre e s,(pre++left).Perm r.rows->left.length=n->I pre e s->iK ([nx,ok,en]++xC c) (upd env (some it) (.ptr ⟨site,σ.next⟩ 0 0)) e->Cb m it nx ok en ⟨site,σ.next⟩ (dQ (Call P) c) b b1 Q n left e s:=by
  intro n
  induction n with
  |zero=>
   intro left pre e s hp hl hI hK
   have:left=[]:=List.eq_nil_of_length_eq_zero hl
   subst this
   rw[List.append_nil]at hp
   exact⟨Re e hK,fin pre e s hp hI hK⟩
  |succ n ih=>
   intro left pre e s hp hl hI hK
   refine⟨Re e hK,fun i cs kv vv hi hk hv=>?_⟩
   have mi:=(List.getElem?_eq_some_iff.1 hi).1
   have Ff:(cs::left.eraseIdx i).Perm left:=by
    exact vz hi
   have IQ:(pre++cs::left.eraseIdx i).Perm r.rows:=(Ff.append_left pre).trans hp
   have Ou:iK ([nx,ok,en]++xC c) (upd env (some it) (.ptr ⟨site,σ.next⟩ 0 0)) (upd (upd (upd e (some nx) (.gn [.bool true,kv,vv])) (some ok) (.bool true)) (some en) (.gn [kv,vv])):=
    ((hK.upd (fun t h=>by cases h;simp)).upd (fun t h=>by cases h;simp)).upd (fun t h=>by cases h;simp)
   refine jk (fun _ _ _ _ h=>h) aY c _ _ _ _ (fun x e' s' hx=>?_) (yI c _ _ _ (fun t ht=>List.mem_append_right _ ht) Ou (step pre cs (left.eraseIdx i) e s kv vv IQ hI hK hk hv))
   obtain⟨hx,Gm⟩:=hx
   have ta:I (pre++[cs]) e' s'->Cb m it nx ok en ⟨site,σ.next⟩ (dQ (Call P) c) b b1 Q n (left.eraseIdx i) e' s':=fun Uh=>
    ih (left.eraseIdx i) (pre++[cs]) e' s' (by rw[List.append_assoc];exact IQ) (by rw[List.length_eraseIdx,if_pos mi];omega) Uh Gm
   cases x with
   |normal=>exact ta hx
   |ret=>exact hx
   |exit jG=>
    simp only[aX]at hx ⊢
    split at hx
    ·rename_i h1;rw[if_pos h1];exact ta hx
    ·rename_i h1;rw[if_neg h1];exact hx
 exact key _ r.rows [] _ _ (List.Perm.refl _) rfl h0 (iK.refl _ _)
end Go.Proofs.YtgoljkjaameagaaGreat.V
