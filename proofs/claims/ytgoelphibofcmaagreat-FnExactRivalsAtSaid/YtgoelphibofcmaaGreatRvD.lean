/- Groups, by the reference. -/
import Derived.Test.YtgoelphibofcmaaGreatRvC
import Derived.Test.YtgoelphibofcmaaGreatRvB
set_option linter.unusedVariables false
set_option linter.unusedSimpArgs false
set_option maxRecDepth 100000
set_option maxHeartbeats 16000000
namespace Go.Proofs.YtgoelphibofcmaaGreat.V
open Go.RowKit
attribute [local irreducible] ek wpOps gq Call
attribute [local go_sem] aH fF eK ga fZ da upd ck K.av cH AV.cells AV.cell rowOf rowsOf part ld rowAt bF cj dy dW gU bG cX eh fY eU dn ea cV cU dH dI bJ aW cK bI cN cL dY eb dZ cJ bL cW dX bH aL cQ cC gT bj cF bK aT du bf dz AV.undef bw bE dM dU dE dJ cE ef ep cw ee ec cP cR List.getD_cons_zero List.getD_cons_succ List.getD_nil List.all_cons List.all_nil Bool.and_true Bool.true_and Bool.and_self Bool.not_true Bool.not_false Option.map_some Option.map_none Option.bind_some Option.bind_none List.length_cons List.length_nil List.take_succ_cons List.take_zero List.take_nil List.drop_succ_cons List.drop_zero List.drop_nil List.head?_cons List.map_cons List.map_nil List.getElem?_cons_zero List.getElem?_cons_succ List.cons_append List.nil_append List.append_nil List.length_map List.set_cons_zero List.set_cons_succ Nat.reduceMul eq_self Int.toNat_natCast Int.natCast_nonneg and_self true_and and_true decide_true decide_false Bool.false_eq_true Nat.zero_add Nat.add_zero List.contains_cons List.contains_nil Bool.or_false Bool.false_or beq_self_eq_true Nat.reduceBEq ne_eq not_true_eq_false not_false_eq_true Id.mk.injEq false_and and_false Nat.reduceLT Int.reduceLE Int.reduceLT Int.reduceToNat Int.reduceNeg Int.reduceAdd Nat.le_refl List.length_append beq_true beq_false Bool.not_eq_eq_eq_not or_false false_or dF ai ao aG aZ bt bW aP aY aQ aV cI bD
theorem BU (a b:Nat):aq Tryz.prog 215 [.int .i64 a,.int .i64 b] (.int .i64 (min a b:Nat)):=by
 refine aq.body eL rfl fun hl n0=>?_
 clear hl
 by_cases h:(a:Int)<(b:Int)
 ·(try((repeat(revert hN;revert N;apply Pn.out));refine wk @h ?_;(repeat(refine Pn.mk ?_;intro N hN))))
  exact cD (b:=(a:Int)) (.inl rfl) (sd @Nat.zero_add) (by omega)
 ·(try((repeat(revert hN;revert N;apply Pn.out));refine wk @h ?_;(repeat(refine Pn.mk ?_;intro N hN))))
  exact cD (b:=(b:Int)) (.inl rfl) (sd @Nat.zero_add) (by omega)
theorem BT (a b:Nat):aq Tryz.prog 216 [.int .i64 a,.int .i64 b] (.int .i64 (max a b:Nat)):=by
 refine aq.body eL rfl fun hl n0=>?_
 clear hl
 by_cases h:(b:Int)<(a:Int)
 ·(try((repeat(revert hN;revert N;apply Pn.out));refine wk @h ?_;(repeat(refine Pn.mk ?_;intro N hN))))
  exact cD (b:=(a:Int)) (.inl rfl) (sd @Nat.zero_add) (by omega)
 ·(try((repeat(revert hN;revert N;apply Pn.out));refine wk @h ?_;(repeat(refine Pn.mk ?_;intro N hN))))
  exact cD (b:=(b:Int)) (.inl rfl) (sd @Nat.zero_add) (by omega)
def dC (f:Nat->Nat) (n:Nat):List (List AV):=(List.range n).map fun i=>eN (f i)
theorem gn (f:Nat->Nat) (n:Nat):(dC f n).length=n:=by simp[dC]
theorem fm {f:Nat->Nat} {n i:Nat} (h:i<n):(dC f n)[i]? =some (eN (f i)):=by simp[dC,h]
theorem gW {f g:Nat->Nat} {n:Nat} (h:∀i,i<n->f i=g i):dC f n=dC g n:=List.map_congr_left fun i hi=>by rw[h i (List.mem_range.1 hi)]
theorem pH {f g:Nat->Nat} {n k v:Nat} (hk:k<n) (hv:g k=v) (h:∀i,i<n->i≠k->g i=f i):(dC f n).set k (eN v)=dC g n:=by
 refine List.ext_getElem? fun i=>?_
 rw[List.getElem?_set]
 by_cases hi:k=i
 ·subst hi
  rw[if_pos rfl,gn,if_pos hk,fm hk,hv]
 ·rw[if_neg hi]
  by_cases fU:i<n
  ·rw[fm fU,fm fU,h i fU (fun h=>hi h.symm)]
  ·rw[List.getElem?_eq_none (by rw[gn];omega),List.getElem?_eq_none (by rw[gn];omega)]
theorem BV (cnt:Nat) (hn:cnt<=1048576) (bs:List PB) (hb:∀b∈bs,b.a<cnt/\b.b<cnt) (nQ:bs.length<=1048576):aq Tryz.prog 214 [.int .i64 cnt,.sl (bs.map aA)] (.sl ((fw cnt (eA bs)).map Av)):=by
 refine aq.body eL rfl fun hl n0=>?_
 clear hl
 (try((repeat(revert hN;revert N;apply Pn.out));refine wk @Nat.zero_add ?_;(repeat(refine Pn.mk ?_;intro N hN))))
 refine aM (fun n env st=>∃k:Nat,n=(cnt)-k/\k<=(cnt)/\env 6=.int .i64 (k:Int)/\(∃o:Id,env 5=.own o 0 k/\st.get o=some ⟨true,1,dC id k⟩/\o.bm<st.next)) (cnt) ⟨0,by omega,by omega,sl @Nat.zero_add,⟨⟨214001000,n0+1⟩,sd @Nat.zero_add,by simp only[go_sem, ↓reduceIte,Nat.reduceEqDiff,Nat.reduceAdd,Nat.reduceSub,Nat.reduceLeDiff,reduceCtorEq];rfl,by(try dsimp only);omega⟩⟩ ?_
 rintro n_a env_a st_a ⟨k,rfl,ale,a6,kc⟩ di
 have a0:=di 0 (by kernel_rfl);have a1:=di 1 (by kernel_rfl)
 simp only[go_sem, ↓reduceIte,Nat.reduceEqDiff,Nat.reduceAdd,Nat.reduceSub,Nat.reduceLeDiff,reduceCtorEq]at a0 a1
 clear di
 obtain⟨o,a5,ag,rS⟩:=kc
 have tl:=gn id k
 have qK:=dx rS
 by_cases hk:(k:Int)<(cnt:Int)
 ·have cz:∀{e:Env} {gg:Rows} {nx:Nat},(e 6=.int .i64 (IntKind.i64.wrap ((k:Int)+1)))->(∃o:Id,e 5=.own o 0 (k+1)/\gg o=some ⟨true,1,dC id (k+1)⟩/\o.bm<nx)->∃m0,m0<(cnt)-k/\∃k:Nat,m0=(cnt)-k/\k<=(cnt)/\e 6=.int .i64 (k:Int)/\(∃o:Id,e 5=.own o 0 k/\gg o=some ⟨true,1,dC id k⟩/\o.bm<nx):=fun x1 x2=>⟨_,by omega,k+1,rfl,by omega,(by rw[x1,az (by omega)]),x2⟩
  have eX:k<cnt:=by omega
  have e1:k+1<=16777216:=by omega
  have pZ:dC id k++[[.int .i64 (k:Int)]]=dC id (k+1):=by simp[dC,List.range_succ,eN]
  (try((repeat(revert hN;revert N;apply Pn.out));refine wk (tw @a6 (tw @a0 (tw @a1 (tw @a5 (tw @ag (tw @qK (tw @hk (tw @tl (tw @e1 @pZ))))))))) ?_;(repeat(refine Pn.mk ?_;intro N hN))))
  exact cz (sd (tw @a6 (tw @a0 @a1))) (⟨⟨214005003,st_a.next+1⟩,sd @Nat.zero_add,sd @pZ,by(try dsimp only);omega⟩)
 have kH:k=cnt:=by omega
 subst kH
 have U0:st_a.get o=some ⟨true,1,dC (eA (bs.take 0)) k⟩:=ag
 clear ag
 (try((repeat(revert hN;revert N;apply Pn.out));refine wk (tw @a6 (tw @a0 (tw @a1 @hk))) ?_;(repeat(refine Pn.mk ?_;intro N hN))))
 refine aM (fun n env st=>∃j:Nat,n=(bs.length)-j/\j<=(bs.length)/\env 7=.int .i64 (j:Int)/\st.get o=some ⟨true,1,dC (eA (bs.take j)) k⟩/\(o.bm<st.next)) (bs.length) ⟨0,by omega,by omega,sl (tw @a6 (tw @a0 (tw @a1 (tw @a5 @U0)))),sl (tw @a6 (tw @a0 (tw @a1 (tw @a5 @U0)))),(by(try dsimp only);omega)⟩ ?_
 rintro n_b env_b st_b ⟨j,rfl,ble,b7,bg0,bI0⟩ e9
 have b0:=e9 0 (by kernel_rfl);have b1:=e9 1 (by kernel_rfl);have b5:=e9 5 (by kernel_rfl)
 simp only[go_sem, ↓reduceIte,Nat.reduceEqDiff,Nat.reduceAdd,Nat.reduceSub,Nat.reduceLeDiff,reduceCtorEq,a6,a0,a1,a5,U0]at b0 b1 b5
 clear e9
 by_cases hj:(j:Int)<(bs.length:Int)
 ·have fJ:∀{e:Env} {gg:Rows} {nx:Nat},(e 7=.int .i64 (IntKind.i64.wrap ((j:Int)+1)))->(gg o=some ⟨true,1,dC (eA (bs.take (j+1))) k⟩)->(o.bm<nx)->∃m0,m0<(bs.length)-j/\∃j:Nat,m0=(bs.length)-j/\j<=(bs.length)/\e 7=.int .i64 (j:Int)/\gg o=some ⟨true,1,dC (eA (bs.take j)) k⟩/\(o.bm<nx):=fun x1 x2 x3=>⟨_,by omega,j+1,rfl,by omega,(by rw[x1,az (by omega)]),x2,x3⟩
  have iM:j<bs.length:=by omega
  have CH:(bs.map aA)[j]? =some (aA bs[j]):=by simp[iM]
  have Lq:=hb _ (List.getElem_mem iM)
  have oN:bs.take (j+1)=bs.take j++[bs[j]]:=List.take_succ_eq_append_getElem iM
  have lI:eA (bs.take (j+1))=eO (eA (bs.take j)) bs[j]:=by rw[oN,wb]
  generalize eA (bs.take j)=L at *
  generalize bs[j]=b at *
  have hA:=fm (f:=L) Lq.1
  have hB:=fm (f:=L) Lq.2
  have SO:=BU (L b.a) (L b.b)
  have SP:=BT (L b.a) (L b.b)
  have tl:=gn L k
  have gJ:(b.a:Int)<(k:Int):=by omega
  have fx:(b.b:Int)<(k:Int):=by omega
  (try((repeat(revert hN;revert N;apply Pn.out));refine wk (tw @b7 (tw @bg0 (tw @b0 (tw @b1 (tw @b5 (tw @hj (tw @CH (tw @aA.eq_1 (tw @hA (tw @hB (tw @gJ (tw @fx (tw @tl @eN.eq_1))))))))))))) ?_;(repeat(refine Pn.mk ?_;intro N hN))))
  refine aM (fun n env st=>∃i:Nat,n=(k)-i/\i<=(k)/\env 10=.int .i64 (i:Int)/\st.get o=some ⟨true,1,dC (fun x=>if x<i then eO L b x else L x) k⟩/\(o.bm<st.next)) (k) ⟨0,by omega,by omega,sl (tw @b7 (tw @bg0 (tw @b0 (tw @b1 (tw @b5 @Nat.not_lt_zero))))),sl (tw @b7 (tw @bg0 (tw @b0 (tw @b1 (tw @b5 @Nat.not_lt_zero))))),(by(try dsimp only);omega)⟩ ?_
  rintro n_c env_c st_c ⟨i,rfl,cle,jy,cg0,cI0⟩ iL
  have c0:=iL 0 (by kernel_rfl);have c1:=iL 1 (by kernel_rfl);have c5:=iL 5 (by kernel_rfl);have c7:=iL 7 (by kernel_rfl);have c8:=iL 8 (by kernel_rfl);have c9:=iL 9 (by kernel_rfl)
  simp only[go_sem, ↓reduceIte,Nat.reduceEqDiff,Nat.reduceAdd,Nat.reduceSub,Nat.reduceLeDiff,reduceCtorEq,b7,bg0,b0,b1,b5,Nat.not_lt_zero]at c0 c1 c5 c7 c8 c9
  clear iL
  have hC:=fm (f:=fun x=>if x<i then eO L b x else L x) (n:=k) (i:=i)
  have tc:=gn (fun x=>if x<i then eO L b x else L x) k
  by_cases hi:(i:Int)<(k:Int)
  ·have gG:∀{e:Env} {gg:Rows} {nx:Nat},(e 10=.int .i64 (IntKind.i64.wrap ((i:Int)+1)))->(gg o=some ⟨true,1,dC (fun x=>if x<(i+1)then eO L b x else L x) k⟩)->(o.bm<nx)->∃m0,m0<(k)-i/\∃i:Nat,m0=(k)-i/\i<=(k)/\e 10=.int .i64 (i:Int)/\gg o=some ⟨true,1,dC (fun x=>if x<i then eO L b x else L x) k⟩/\(o.bm<nx):=fun x1 x2 x3=>⟨_,by omega,i+1,rfl,by omega,(by rw[x1,az (by omega)]),x2,x3⟩
   have fU:i<k:=by omega
   replace hC:=hC fU
   rw[if_neg (Nat.lt_irrefl i)]at hC
   by_cases he:L i=max (L b.a) (L b.b)
   ·have xk:decide ((L i:Int)=((max (L b.a) (L b.b):Nat):Int))=true:=decide_eq_true (by rw[he])
    have dS:(dC (fun x=>if x<i then eO L b x else L x) k).set i (eN (min (L b.a) (L b.b)))=dC (fun x=>if x<i+1 then eO L b x else L x) k:=pH fU (by rw[if_pos (by omega),eO,if_pos he]) fun x hx CN=>by
     by_cases h:x<i
     ·rw[if_pos h,if_pos (by omega)]
     ·rw[if_neg h,if_neg (by omega)]
    rw[eN]at dS hC
    (repeat(first|((repeat(revert hN;revert N;apply Pn.out));refine wk (tw @jy (tw @cg0 (tw @c0 (tw @c1 (tw @c5 (tw @c7 (tw @c8 (tw @c9 (tw @hi (tw @hC (tw @tc (tw @xk @dS)))))))))))) ?_;(repeat(refine Pn.mk ?_;intro N hN)))|((try apply Or.inl);refine⟨_,aq.x (SO) (sd (tw @jy (tw @cg0 (tw @c0 (tw @c1 (tw @c5 (tw @c7 (tw @c8 (tw @c9 (tw @hi (tw @hC (tw @tc (tw @xk @dS))))))))))))),?_⟩;refine hN _ _ ?_;clear hN N)|((try apply Or.inl);refine⟨_,aq.x (SP) (sd (tw @jy (tw @cg0 (tw @c0 (tw @c1 (tw @c5 (tw @c7 (tw @c8 (tw @c9 (tw @hi (tw @hC (tw @tc (tw @xk @dS))))))))))))),?_⟩;refine hN _ _ ?_;clear hN N)))
    refine gG ?_ ?_ (by(try dsimp only);omega)
    all_goals simp only[go_sem, ↓reduceIte,Nat.reduceEqDiff,Nat.reduceAdd,Nat.reduceSub,Nat.reduceLeDiff,reduceCtorEq,jy,cg0,c0,c1,c5,c7,c8,c9]
   ·have xk:decide ((L i:Int)=((max (L b.a) (L b.b):Nat):Int))=false:=decide_eq_false fun h=>he (by omega)
    have mc:dC (fun x=>if x<i then eO L b x else L x) k=dC (fun x=>if x<i+1 then eO L b x else L x) k:=gW fun x hx=>by
     by_cases h:x<i
     ·rw[if_pos h,if_pos (by omega)]
     ·by_cases CN:x=i
      ·subst CN;rw[if_neg h,if_pos (by omega),eO,if_neg he]
      ·rw[if_neg h,if_neg (by omega)]
    rw[eN]at hC
    (repeat(first|((repeat(revert hN;revert N;apply Pn.out));refine wk (tw @jy (tw @cg0 (tw @c0 (tw @c1 (tw @c5 (tw @c7 (tw @c8 (tw @c9 (tw @hi (tw @hC (tw @tc @xk))))))))))) ?_;(repeat(refine Pn.mk ?_;intro N hN)))|((try apply Or.inl);refine⟨_,aq.x (SO) (sd (tw @jy (tw @cg0 (tw @c0 (tw @c1 (tw @c5 (tw @c7 (tw @c8 (tw @c9 (tw @hi (tw @hC (tw @tc @xk)))))))))))),?_⟩;refine hN _ _ ?_;clear hN N)|((try apply Or.inl);refine⟨_,aq.x (SP) (sd (tw @jy (tw @cg0 (tw @c0 (tw @c1 (tw @c5 (tw @c7 (tw @c8 (tw @c9 (tw @hi (tw @hC (tw @tc @xk)))))))))))),?_⟩;refine hN _ _ ?_;clear hN N)))
    rw[mc]at cg0
    refine gG ?_ ?_ (by(try dsimp only);omega)
    all_goals simp only[go_sem, ↓reduceIte,Nat.reduceEqDiff,Nat.reduceAdd,Nat.reduceSub,Nat.reduceLeDiff,reduceCtorEq,jy,cg0,c0,c1,c5,c7,c8,c9]
  ·have yl:i=k:=by omega
   subst yl
   have dQ:dC (fun x=>if x<i then eO L b x else L x) i=dC (eO L b) i:=gW fun x hx=>if_pos hx
   rw[dQ]at cg0
   rw[<-lI]at cg0
   (try((repeat(revert hN;revert N;apply Pn.out));refine wk (tw @jy (tw @cg0 (tw @c0 (tw @c1 (tw @c5 (tw @c7 (tw @c8 (tw @c9 (tw @hi @tc))))))))) ?_;(repeat(refine Pn.mk ?_;intro N hN))))
   refine fJ ?_ ?_ (by(try dsimp only);omega)
   all_goals simp only[go_sem, ↓reduceIte,Nat.reduceEqDiff,Nat.reduceAdd,Nat.reduceSub,Nat.reduceLeDiff,reduceCtorEq,b7,bg0,b0,b1,b5,jy,cg0,c0,c1,c5,c7,c8,c9]
 have gN:j=bs.length:=by omega
 subst gN
 rw[List.take_length]at bg0
 have hL:=tQ bs
 generalize eA bs=L at *
 have tl:=gn L k
 (try((repeat(revert hN;revert N;apply Pn.out));refine wk (tw @b7 (tw @bg0 (tw @b0 (tw @b1 (tw @b5 @hj))))) ?_;(repeat(refine Pn.mk ?_;intro N hN))))
 have OS:o.bm<st_b.next:=bI0
 refine aM (fun n env st=>∃i:Nat,n=(k)-i/\i<=(k)/\env 12=.int .i64 (i:Int)/\st.get o=some ⟨true,1,dC L k⟩/\(∃oo rows ids,env 11=.own oo 0 rows.length/\st.get oo=some ⟨true,1,rows⟩/\eE P0 st.get rows ((leads i L).map (members k L)) ids/\(∀x∈oo::ids,st_b.next<=x.bm/\x.bm<st.next)/\st_b.next<=st.next/\oo∉ids)) (k) ⟨0,by omega,by omega,sl (tw @b7 (tw @bg0 (tw @b0 (tw @b1 (tw @b5 (dx OS)))))),sl (tw @b7 (tw @bg0 (tw @b0 (tw @b1 (tw @b5 (dx OS)))))),⟨⟨214016000,st_b.next+1⟩,[],[],by(simp only[go_sem, ↓reduceIte,Nat.reduceEqDiff,Nat.reduceAdd,Nat.reduceSub,Nat.reduceLeDiff,reduceCtorEq])<;>rfl,sd @Nat.zero_add,.nil,fun x hx=>by rw[List.mem_singleton.1 hx];(try dsimp only);omega,by(try dsimp only);omega,by simp⟩⟩ ?_
 rintro n_d env_d st_d ⟨i,rfl,dle,d12,dg0,dI0⟩ dfr
 have d0:=dfr 0 (by kernel_rfl);have d5:=dfr 5 (by kernel_rfl)
 simp only[go_sem, ↓reduceIte,Nat.reduceEqDiff,Nat.reduceAdd,Nat.reduceSub,Nat.reduceLeDiff,reduceCtorEq,b7,bg0,b0,b1,b5,dx OS]at d0 d5
 clear dfr
 obtain⟨oo,rows,ids,d11,dg,hR,nV,hle,zD⟩:=dI0
 have pZ:=gO i L
 have sI:=hR.len
 by_cases hi:(i:Int)<(k:Int)
 ·have tU:∀{e:Env} {gg:Rows} {nx:Nat},(e 12=.int .i64 (IntKind.i64.wrap ((i:Int)+1)))->(gg o=some ⟨true,1,dC L k⟩)->(∃oo rows ids,e 11=.own oo 0 rows.length/\gg oo=some ⟨true,1,rows⟩/\eE P0 gg rows ((leads (i+1) L).map (members k L)) ids/\(∀x∈oo::ids,st_b.next<=x.bm/\x.bm<nx)/\st_b.next<=nx/\oo∉ids)->∃m0,m0<(k)-i/\∃i:Nat,m0=(k)-i/\i<=(k)/\e 12=.int .i64 (i:Int)/\gg o=some ⟨true,1,dC L k⟩/\(∃oo rows ids,e 11=.own oo 0 rows.length/\gg oo=some ⟨true,1,rows⟩/\eE P0 gg rows ((leads i L).map (members k L)) ids/\(∀x∈oo::ids,st_b.next<=x.bm/\x.bm<nx)/\st_b.next<=nx/\oo∉ids):=fun x1 x2 x3=>⟨_,by omega,i+1,rfl,by omega,(by rw[x1,az (by omega)]),x2,x3⟩
  have fU:i<k:=by omega
  have hC:=fm (f:=L) fU
  have kI:=dx (i:=o) (n:=st_d.next) (by omega)
  have RJ:=dx (i:=oo) (n:=st_d.next) (nV oo (by simp)).2
  by_cases he:L i=i
  ·rw[if_pos he]at pZ
   have xk:decide ((L i:Int)=(i:Int))=true:=decide_eq_true (by rw[he])
   rw[eN]at hC
   (try((repeat(revert hN;revert N;apply Pn.out));refine wk (tw @d12 (tw @dg0 (tw @d0 (tw @d5 (tw @d11 (tw @dg (tw @hi (tw @hC (tw @tl (tw @xk (tw @kI @RJ))))))))))) ?_;(repeat(refine Pn.mk ?_;intro N hN))))
   refine aM (fun n env st=>∃m:Nat,n=((k-i))-m/\m<=((k-i))/\env 14=(.int .i64 ((i+m:Nat):Int))/\(∃pp:Id,env 13=.own pp 0 (members (i+m) L i).length/\st.get pp=some ⟨true,1,(members (i+m) L i).map eN⟩/\st_d.next<=pp.bm/\pp.bm<st.next/\(∀x:Id,x.bm<st_d.next->st.get x=st_d.get x)/\st_d.next<=st.next)) ((k-i)) ⟨0,by omega,by omega,sl (tw @d12 (tw @dg0 (tw @d0 (tw @d5 @d11)))),⟨⟨214021000,st_d.next+1+1⟩,by rw[show members (i+0) L i=[]from nf hL (Nat.le_refl i)];(simp only[go_sem, ↓reduceIte,Nat.reduceEqDiff,Nat.reduceAdd,Nat.reduceSub,Nat.reduceLeDiff,reduceCtorEq])<;>rfl,by rw[show members (i+0) L i=[]from nf hL (Nat.le_refl i)];(simp only[go_sem, ↓reduceIte,Nat.reduceEqDiff,Nat.reduceAdd,Nat.reduceSub,Nat.reduceLeDiff,reduceCtorEq])<;>rfl,by(try dsimp only);omega,by(try dsimp only);omega,fun x hx=>sd (dx hx),by(try dsimp only);omega⟩⟩ ?_
   rintro n_f env_f st_f ⟨m,rfl,fle,f14,fI0⟩ ffr
   have f0:=ffr 0 (by kernel_rfl);have f5:=ffr 5 (by kernel_rfl);have f11:=ffr 11 (by kernel_rfl);have f12:=ffr 12 (by kernel_rfl)
   simp only[go_sem, ↓reduceIte,Nat.reduceEqDiff,Nat.reduceAdd,Nat.reduceSub,Nat.reduceLeDiff,reduceCtorEq,d12,dg0,d0,d5,d11]at f0 f5 f11 f12
   clear ffr
   obtain⟨pp,f13,fg,OV,I6,lY,pj⟩:=fI0
   have um:st_f.get o=some ⟨true,1,dC L k⟩:=(lY o (by omega)).trans dg0
   have UI:st_f.get oo=some ⟨true,1,rows⟩:=(lY oo (nV oo (by simp)).2).trans dg
   have AD:=dx I6
   have BJ:=dx (i:=o) (n:=st_f.next) (by omega)
   have RK:=dx (i:=oo) (n:=st_f.next) (by have:=(nV oo (by simp)).2;omega)
   have OP:members (i+(m+1)) L i=members (i+m) L i++if L (i+m)=i then[i+m]else[]:=jt (i+m) L i
   have US:(members (i+m) L i).length<=i+m:=by
    have:=List.length_filter_le (fun k=>L k==i) (List.range (i+m))
    simpa[members]using this
   have x1:=dt (a:=o) (b:=pp) (by omega)
   have x2:=dt (a:=oo) (b:=pp) (by have:=(nV oo (by simp)).2;omega)
   have x3:=dt (a:=o) (b:=oo) (by have:=(nV oo (by simp)).1;omega)
   by_cases hm:m<k-i
   ·have sa:∀{e:Env} {gg:Rows} {nx:Nat},(e 14=(.int .i64 ((i+(m+1):Nat):Int)))->(∃pp:Id,e 13=.own pp 0 (members (i+(m+1)) L i).length/\gg pp=some ⟨true,1,(members (i+(m+1)) L i).map eN⟩/\st_d.next<=pp.bm/\pp.bm<nx/\(∀x:Id,x.bm<st_d.next->gg x=st_d.get x)/\st_d.next<=nx)->∃m0,m0<((k-i))-m/\∃m:Nat,m0=((k-i))-m/\m<=((k-i))/\e 14=(.int .i64 ((i+m:Nat):Int))/\(∃pp:Id,e 13=.own pp 0 (members (i+m) L i).length/\gg pp=some ⟨true,1,(members (i+m) L i).map eN⟩/\st_d.next<=pp.bm/\pp.bm<nx/\(∀x:Id,x.bm<st_d.next->gg x=st_d.get x)/\st_d.next<=nx):=fun x1 x2=>⟨_,by omega,m+1,rfl,by omega,x1,x2⟩
    have Rw:((i+m:Nat):Int)<(k:Int):=by omega
    have T3:=fm (f:=L) (show i+m<k by omega)
    have hw:IntKind.i64.wrap (((i+m:Nat):Int)+1)=((i+(m+1):Nat):Int):=by rw[bx (by omega)];omega
    rw[eN]at T3
    by_cases hq:L (i+m)=i
    ·have uk:decide ((L (i+m):Int)=(i:Int))=true:=decide_eq_true (by rw[hq])
     rw[if_pos hq]at OP
     have e1:(members (i+m) L i).length+1<=16777216:=by omega
     have lH:((members (i+m) L i).map eN).length=(members (i+m) L i).length:=by simp
     (try((repeat(revert hN;revert N;apply Pn.out));refine wk (tw @f14 (tw @f0 (tw @f5 (tw @f11 (tw @f12 (tw @f13 (tw @fg (tw @um (tw @Rw (tw @T3 (tw @tl (tw @uk (tw @AD (tw @BJ (tw @x1 (tw @e1 @lH)))))))))))))))) ?_;(repeat(refine Pn.mk ?_;intro N hN))))
     exact sa (sd (tw @f14 (tw @f0 (tw @f5 (tw @f11 (tw @f12 (tw @um (tw @hw (tw @BJ @x1))))))))) (⟨⟨214026003,st_f.next+1+1⟩,by rw[OP,List.length_append];simp only[go_sem, ↓reduceIte,Nat.reduceEqDiff,Nat.reduceAdd,Nat.reduceSub,Nat.reduceLeDiff,reduceCtorEq,List.length_cons,List.length_nil],by rw[OP,List.map_append,List.map_cons,List.map_nil];simp only[go_sem, ↓reduceIte,Nat.reduceEqDiff,Nat.reduceAdd,Nat.reduceSub,Nat.reduceLeDiff,reduceCtorEq,eN],by(try dsimp only);omega,by(try dsimp only);omega,fun x hx=>by
      have y1:=lY x hx
      have y2:=dt (a:=x) (b:=pp) (by omega)
      simp only[go_sem, ↓reduceIte,Nat.reduceEqDiff,Nat.reduceAdd,Nat.reduceSub,Nat.reduceLeDiff,reduceCtorEq,dx (show x.bm<st_f.next by omega),y1,y2],by(try dsimp only);omega⟩)
    ·have uk:decide ((L (i+m):Int)=(i:Int))=false:=decide_eq_false fun h=>hq (by omega)
     rw[if_neg hq,List.append_nil]at OP
     (try((repeat(revert hN;revert N;apply Pn.out));refine wk (tw @f14 (tw @f0 (tw @f5 (tw @f11 (tw @f12 (tw @f13 (tw @fg (tw @um (tw @Rw (tw @T3 (tw @tl (tw @uk (tw @AD (tw @BJ @x1)))))))))))))) ?_;(repeat(refine Pn.mk ?_;intro N hN))))
     exact sa (sd (tw @f14 (tw @f0 (tw @f5 (tw @f11 (tw @f12 (tw @um @hw))))))) (⟨pp,by rw[OP];simp only[go_sem, ↓reduceIte,Nat.reduceEqDiff,Nat.reduceAdd,Nat.reduceSub,Nat.reduceLeDiff,reduceCtorEq,f13],by rw[OP];simp only[go_sem, ↓reduceIte,Nat.reduceEqDiff,Nat.reduceAdd,Nat.reduceSub,Nat.reduceLeDiff,reduceCtorEq,fg],OV,by(try dsimp only);omega,lY,by(try dsimp only);omega⟩)
   ·have hmk:i+m=k:=by omega
    have Rw:¬((i+m:Nat):Int)<(k:Int):=by omega
    rw[hmk]at f13 fg US
    have e1:rows.length+1<=16777216:=by
     have:=jM i L
     rw[sI,List.length_map];omega
    (try((repeat(revert hN;revert N;apply Pn.out));refine wk (tw @f14 (tw @f0 (tw @f5 (tw @f11 (tw @f12 (tw @f13 (tw @fg (tw @um (tw @UI (tw @Rw (tw @AD (tw @BJ (tw @RK (tw @x1 (tw @x2 @e1))))))))))))))) ?_;(repeat(refine Pn.mk ?_;intro N hN))))
    refine tU ?_ ?_ (⟨⟨214027003,st_f.next+1⟩,rows++[[.own pp 0 (members k L i).length]],ids++[pp],by rw[List.length_append];simp only[go_sem, ↓reduceIte,Nat.reduceEqDiff,Nat.reduceAdd,Nat.reduceSub,Nat.reduceLeDiff,reduceCtorEq,List.length_cons,List.length_nil],sd @Nat.zero_add,by
      rw[pZ,List.map_append]
      refine(hR.frame L8 fun x hx=>?_).app (.one ⟨pp,rfl,?_,rfl⟩)
      ·have h1:=nV x (by simp[hx])
       have y1:=lY x h1.2
       have y2:=dt (a:=x) (b:=pp) (by omega)
       have y3:(x=oo)=False:=by
        simp only[eq_iff_iff,iff_false]
        rintro rfl
        exact zD hx
       simp only[go_sem, ↓reduceIte,Nat.reduceEqDiff,Nat.reduceAdd,Nat.reduceSub,Nat.reduceLeDiff,reduceCtorEq,dx (show x.bm<st_f.next by omega),y1,y2,y3]
      ·simp only[go_sem, ↓reduceIte,Nat.reduceEqDiff,Nat.reduceAdd,Nat.reduceSub,Nat.reduceLeDiff,reduceCtorEq,AD,x2,fg],fun x hx=>by
      rcases List.mem_cons.1 hx with rfl|hx
      ·(try dsimp only);omega
      ·rcases List.mem_append.1 hx with hx|hx
       ·have:=nV x (by simp[hx]);(try dsimp only);omega
       ·rw[List.mem_singleton.1 hx];(try dsimp only);omega,by(try dsimp only);omega,fun hc=>by
      rcases List.mem_append.1 hc with hc|hc
      ·have:=(nV _ (List.mem_cons_of_mem _ hc)).2;(try dsimp only at this);omega
      ·have:=List.mem_singleton.1 hc;rw[<-this]at I6;(try dsimp only at I6);omega⟩)
    all_goals simp only[go_sem, ↓reduceIte,Nat.reduceEqDiff,Nat.reduceAdd,Nat.reduceSub,Nat.reduceLeDiff,reduceCtorEq,f14,f0,f5,f11,f12,um,BJ,x3]
  ·rw[if_neg he,List.append_nil]at pZ
   have xk:decide ((L i:Int)=(i:Int))=false:=decide_eq_false fun h=>he (by omega)
   rw[eN]at hC
   (try((repeat(revert hN;revert N;apply Pn.out));refine wk (tw @d12 (tw @dg0 (tw @d0 (tw @d5 (tw @d11 (tw @dg (tw @hi (tw @hC (tw @tl (tw @xk (tw @kI @RJ))))))))))) ?_;(repeat(refine Pn.mk ?_;intro N hN))))
   refine tU ?_ ?_ (⟨oo,rows,ids,sd @d11,sd @dg,by rw[pZ];exact hR,fun x hx=>by have:=nV x hx;(try dsimp only);omega,by(try dsimp only);omega,zD⟩)
   all_goals simp only[go_sem, ↓reduceIte,Nat.reduceEqDiff,Nat.reduceAdd,Nat.reduceSub,Nat.reduceLeDiff,reduceCtorEq,d12,dg0,d0,d5]
 ·have yl:i=k:=by omega
  (try((repeat(revert hN;revert N;apply Pn.out));refine wk (tw @d12 (tw @dg0 (tw @d0 (tw @d5 (tw @d11 (tw @dg @hi)))))) ?_;(repeat(refine Pn.mk ?_;intro N hN))))
  refine wS (.inl rfl) (by simp only[go_sem, ↓reduceIte,Nat.reduceEqDiff,Nat.reduceAdd,Nat.reduceSub,Nat.reduceLeDiff,reduceCtorEq];rfl) ?_
  rw[uE dg (by simp) (rows':=(fw k L).map Av) (by rw[List.drop_zero,List.take_of_length_le (Nat.le_refl _)];rw[yl]at hR;exact Jq 3 hR)]
theorem xd (n:Nat):List.replicate n [AV.int .i64 0]=dC (fun _=>0) n:=by
 refine List.ext_getElem? fun i=>?_
 by_cases h:i<n
 ·rw[fm h,List.getElem?_replicate,if_pos h];rfl
 ·rw[List.getElem?_eq_none (by simp;omega),List.getElem?_eq_none (by rw[gn];omega)]
def db (cnt:Nat) (L:Nat->Nat) (i m:Nat):Nat->Nat:=fun x=>if bQ L x<i then bQ L x else if x∈(members cnt L ((leads cnt L).getD i 0)).take m then i else 0
theorem oR (cnt:Nat) (L:Nat->Nat):db cnt L 0 0=fun _=>0:=by funext x;simp[db]
theorem tZ (t:Int) (bs:List PB) (k:Nat) (h:k<bs.length):aJ t (bs.take (k+1))=aJ t (bs.take k)++if t<=(bs[k]).s then[bs[k]]else[]:=by
 unfold aJ
 rw[List.take_succ_eq_append_getElem h,List.filter_append]
 congr 1
 by_cases h:t<=bs[k].s<;>simp[h]
theorem w7 {t:Int} {bs:List PB} {b:PB} (h:b∈aJ t bs):b∈bs:=(List.mem_filter.1 h).1
theorem ns (t:Int) (bs:List PB):(aJ t bs).length<=bs.length:=List.length_filter_le _ _
theorem BY (cnt:Nat) (hn:cnt<=1048576) (bs:List PB) (hb:∀b∈bs,b.a<cnt/\b.b<cnt) (nQ:bs.length<=1048576) (t:Int):aq Tryz.prog 192 [.int .i64 cnt,.sl (bs.map aA),.int .i64 t] (.iC [.int .i64 (leads cnt (eA (aJ t bs))).length,.sl ((eY (eA (aJ t bs)) bs).map aA)]):=by
 refine aq.body eL rfl fun hl n0=>?_
 clear hl
 (try((repeat(revert hN;revert N;apply Pn.out));refine wk @Nat.zero_add ?_;(repeat(refine Pn.mk ?_;intro N hN))))
 refine aM (fun n env st=>∃k:Nat,n=(bs.length)-k/\k<=(bs.length)/\env 9=.int .i64 (k:Int)/\(∃o:Id,env 8=.own o 0 (aJ t (bs.take k)).length/\st.get o=some ⟨true,3,(aJ t (bs.take k)).map aA⟩/\o.bm<st.next)) (bs.length) ⟨0,by omega,by omega,sl @Nat.zero_add,⟨⟨192001000,n0+1⟩,by(simp only[go_sem, ↓reduceIte,Nat.reduceEqDiff,Nat.reduceAdd,Nat.reduceSub,Nat.reduceLeDiff,reduceCtorEq])<;>rfl,by(simp only[go_sem, ↓reduceIte,Nat.reduceEqDiff,Nat.reduceAdd,Nat.reduceSub,Nat.reduceLeDiff,reduceCtorEq])<;>rfl,by(try dsimp only);omega⟩⟩ ?_
 rintro n_a env_a st_a ⟨k,rfl,ale,a9,kc⟩ di
 have a0:=di 0 (by kernel_rfl);have a1:=di 1 (by kernel_rfl);have a2:=di 2 (by kernel_rfl)
 simp only[go_sem, ↓reduceIte,Nat.reduceEqDiff,Nat.reduceAdd,Nat.reduceSub,Nat.reduceLeDiff,reduceCtorEq]at a0 a1 a2
 clear di
 obtain⟨o,a8,ag,rS⟩:=kc
 have qK:=dx rS
 by_cases hk:(k:Int)<(bs.length:Int)
 ·have cz:∀{e:Env} {gg:Rows} {nx:Nat},(e 9=.int .i64 (IntKind.i64.wrap ((k:Int)+1)))->(∃o:Id,e 8=.own o 0 (aJ t (bs.take (k+1))).length/\gg o=some ⟨true,3,(aJ t (bs.take (k+1))).map aA⟩/\o.bm<nx)->∃m0,m0<(bs.length)-k/\∃k:Nat,m0=(bs.length)-k/\k<=(bs.length)/\e 9=.int .i64 (k:Int)/\(∃o:Id,e 8=.own o 0 (aJ t (bs.take k)).length/\gg o=some ⟨true,3,(aJ t (bs.take k)).map aA⟩/\o.bm<nx):=fun x1 x2=>⟨_,by omega,k+1,rfl,by omega,(by rw[x1,az (by omega)]),x2⟩
  have eX:k<bs.length:=by omega
  have eM:(bs.map aA)[k]? =some (aA bs[k]):=by simp[eX]
  have hs:=tZ t bs k eX
  have BI:=ns t (bs.take k)
  rw[List.length_take]at BI
  by_cases hc:t<=(bs[k]).s
  ·rw[if_pos hc]at hs
   have e1:(aJ t (bs.take k)).length+1<=16777216:=by omega
   have lH:((aJ t (bs.take k)).map aA).length=(aJ t (bs.take k)).length:=by simp
   generalize bs[k]=b at *
   (try((repeat(revert hN;revert N;apply Pn.out));refine wk (tw @a9 (tw @a0 (tw @a1 (tw @a2 (tw @a8 (tw @ag (tw @qK (tw @hk (tw @eM (tw @hc (tw @e1 (tw @lH @aA.eq_1)))))))))))) ?_;(repeat(refine Pn.mk ?_;intro N hN))))
   exact cz (sd (tw @a9 (tw @a0 (tw @a1 @a2)))) (⟨⟨192006006,st_a.next+1+1⟩,by rw[hs,List.length_append];simp only[go_sem, ↓reduceIte,Nat.reduceEqDiff,Nat.reduceAdd,Nat.reduceSub,Nat.reduceLeDiff,reduceCtorEq,List.length_cons,List.length_nil],by rw[hs,List.map_append,List.map_cons,List.map_nil];simp only[go_sem, ↓reduceIte,Nat.reduceEqDiff,Nat.reduceAdd,Nat.reduceSub,Nat.reduceLeDiff,reduceCtorEq,aA],by(try dsimp only);omega⟩)
  ·rw[if_neg hc,List.append_nil]at hs
   generalize bs[k]=b at *
   (try((repeat(revert hN;revert N;apply Pn.out));refine wk (tw @a9 (tw @a0 (tw @a1 (tw @a2 (tw @a8 (tw @ag (tw @qK (tw @hk (tw @eM (tw @hc @aA.eq_1)))))))))) ?_;(repeat(refine Pn.mk ?_;intro N hN))))
   exact cz (sd (tw @a9 (tw @a0 (tw @a1 @a2)))) (⟨o,by rw[hs];simp only[go_sem, ↓reduceIte,Nat.reduceEqDiff,Nat.reduceAdd,Nat.reduceSub,Nat.reduceLeDiff,reduceCtorEq,a8],by rw[hs];simp only[go_sem, ↓reduceIte,Nat.reduceEqDiff,Nat.reduceAdd,Nat.reduceSub,Nat.reduceLeDiff,reduceCtorEq,ag],by(try dsimp only);omega⟩)
 have kH:k=bs.length:=by omega
 subst kH
 rw[List.take_length]at a8 ag
 have HK:=BV cnt hn (aJ t bs) (fun b h=>hb b (w7 h)) (by have:=ns t bs;omega)
 have hL:=tQ (aJ t bs)
 have CG:fz (dF st_a.get) 6 (.own o 0 (aJ t bs).length)=some (.sl ((aJ t bs).map aA)):=fS (sz:=3) (by simp[dF,ag]) rfl fun b=>zo _ 4 b
 have UH:∀x,cG (dF st_a.get) 6 [.int .i64 x,.own o 0 (aJ t bs).length]=some [.int .i64 x,.sl ((aJ t bs).map aA)]:=fun x=>by simp only[ai,ao,aG,CG,Option.map_some]
 (try((repeat(revert hN;revert N;apply Pn.out));refine wk (tw @a9 (tw @a0 (tw @a1 (tw @a2 (tw @a8 @hk))))) ?_;(repeat(refine Pn.mk ?_;intro N hN))))
 refine .inl ⟨_,aq.x HK (UH _),?_⟩
 refine hN _ _ ?_
 clear hN N
 generalize eA (aJ t bs)=L at *
 have sG:((fw cnt L).map Av).length=(leads cnt L).length:=by simp[fw]
 have Ta:=jM cnt L
 have jG:(0:Int)<=(cnt:Int):=by omega
 have pS:(cnt:Int)<=((16777216:Nat):Int):=by omega
 have gZ:List.replicate cnt [AV.int .i64 0]=dC (db cnt L 0 0) cnt:=by rw[xd,oR]
 (try((repeat(revert hN;revert N;apply Pn.out));refine wk (tw @a9 (tw @a0 (tw @a1 (tw @a2 (tw @jG (tw @pS @Int.le_refl)))))) ?_;(repeat(refine Pn.mk ?_;intro N hN))))
 refine aM (fun n env st=>∃i:Nat,n=((leads cnt L).length)-i/\i<=((leads cnt L).length)/\env 12=.int .i64 (i:Int)/\st.get ⟨192008001,st_a.next+1+1⟩=some ⟨true,1,dC (db cnt L i 0) cnt⟩/\(st_a.next+1+1<st.next)) ((leads cnt L).length) ⟨0,by omega,by omega,sl (tw @a9 (tw @a0 (tw @a1 (tw @a2 @gZ)))),sl (tw @a9 (tw @a0 (tw @a1 (tw @a2 @gZ)))),(by(try dsimp only);omega)⟩ ?_
 rintro n_c env_c st_c ⟨i,rfl,cle,qn,cg0,cI0⟩ iL
 have c1:=iL 1 (by kernel_rfl);have jy:=iL 10 (by kernel_rfl);have nL:=iL 11 (by kernel_rfl)
 simp only[go_sem, ↓reduceIte,Nat.reduceEqDiff,Nat.reduceAdd,Nat.reduceSub,Nat.reduceLeDiff,reduceCtorEq,a9,a0,a1,a2,gZ]at c1 jy nL
 clear iL
 by_cases hi:(i:Int)<((leads cnt L).length:Int)
 ·have gG:∀{e:Env} {gg:Rows} {nx:Nat},(e 12=.int .i64 (IntKind.i64.wrap ((i:Int)+1)))->(gg ⟨192008001,st_a.next+1+1⟩=some ⟨true,1,dC (db cnt L (i+1) 0) cnt⟩)->(st_a.next+1+1<nx)->∃m0,m0<((leads cnt L).length)-i/\∃i:Nat,m0=((leads cnt L).length)-i/\i<=((leads cnt L).length)/\e 12=.int .i64 (i:Int)/\gg ⟨192008001,st_a.next+1+1⟩=some ⟨true,1,dC (db cnt L i 0) cnt⟩/\(st_a.next+1+1<nx):=fun x1 x2 x3=>⟨_,by omega,i+1,rfl,by omega,(by rw[x1,az (by omega)]),x2,x3⟩
  have fU:i<(leads cnt L).length:=by omega
  have ku:((fw cnt L).map Av)[i]? =some (Av (members cnt L (leads cnt L)[i])):=by simp[fw,fU]
  have sF:(leads cnt L).getD i 0=(leads cnt L)[i]:=by simp[List.getD_eq_getElem?_getD,fU]
  have AB:∀m,db cnt L i m=fun x=>if bQ L x<i then bQ L x else if x∈(members cnt L (leads cnt L)[i]).take m then i else 0:=fun m=>by unfold db;rw[sF]
  have rR:=fun x (hx:x<cnt)=>tb hL (n:=cnt) (k:=x) (i:=i) hx fU
  have lZ:(members cnt L (leads cnt L)[i]).Nodup:=List.nodup_range.filter _
  have OO:∀x∈members cnt L (leads cnt L)[i],x<cnt:=fun x hx=>(lK.1 hx).1
  have hMc:(members cnt L (leads cnt L)[i]).length<=cnt:=by
   have:=List.length_filter_le (fun k=>L k==(leads cnt L)[i]) (List.range cnt)
   simpa[members]using this
  generalize members cnt L (leads cnt L)[i]=M at *
  have CF:(M.map eN).length=M.length:=by simp
  (try((repeat(revert hN;revert N;apply Pn.out));refine wk (tw @qn (tw @cg0 (tw @c1 (tw @jy (tw @nL (tw @hi @sG)))))) ?_;(repeat(refine Pn.mk ?_;intro N hN))))
  refine aM (fun n env st=>∃m:Nat,n=(M.length)-m/\m<=(M.length)/\env 13=.int .i64 (m:Int)/\st.get ⟨192008001,st_a.next+1+1⟩=some ⟨true,1,dC (db cnt L i m) cnt⟩/\(st_a.next+1+1<st.next)) (M.length) ⟨0,by omega,by omega,sl (tw @qn (tw @cg0 (tw @c1 (tw @jy @nL)))),sl (tw @qn (tw @cg0 (tw @c1 (tw @jy @nL)))),(by(try dsimp only);omega)⟩ ?_
  rintro n_d env_d st_d ⟨m,rfl,dle,d13,dg0,dI0⟩ dfr
  have d1:=dfr 1 (by kernel_rfl);have d10:=dfr 10 (by kernel_rfl);have d11:=dfr 11 (by kernel_rfl);have d12:=dfr 12 (by kernel_rfl)
  simp only[go_sem, ↓reduceIte,Nat.reduceEqDiff,Nat.reduceAdd,Nat.reduceSub,Nat.reduceLeDiff,reduceCtorEq,qn,cg0,c1,jy,nL]at d1 d10 d11 d12
  clear dfr
  have tl:=gn (db cnt L i m) cnt
  by_cases hm:(m:Int)<(M.length:Int)
  ·have tU:∀{e:Env} {gg:Rows} {nx:Nat},(e 13=.int .i64 (IntKind.i64.wrap ((m:Int)+1)))->(gg ⟨192008001,st_a.next+1+1⟩=some ⟨true,1,dC (db cnt L i (m+1)) cnt⟩)->(st_a.next+1+1<nx)->∃m0,m0<(M.length)-m/\∃m:Nat,m0=(M.length)-m/\m<=(M.length)/\e 13=.int .i64 (m:Int)/\gg ⟨192008001,st_a.next+1+1⟩=some ⟨true,1,dC (db cnt L i m) cnt⟩/\(st_a.next+1+1<nx):=fun x1 x2 x3=>⟨_,by omega,m+1,rfl,by omega,(by rw[x1,az (by omega)]),x2,x3⟩
   have zB:m<M.length:=by omega
   have sH:(M.map eN)[m]? =some (eN M[m]):=by simp[zB]
   have vY:=OO _ (List.getElem_mem zB)
   have CN:(M[m]:Int)<(cnt:Int):=by omega
   have CL:=fm (f:=db cnt L i m) vY
   have dS:(dC (db cnt L i m) cnt).set M[m] (eN i)=dC (db cnt L i (m+1)) cnt:=pH vY (by
    have h1:=(rR _ vY).1 (List.getElem_mem zB)
    rw[AB]
    simp only[]
    rw[if_neg (by omega),if_pos (by rw[List.take_succ_eq_append_getElem zB];exact List.mem_append_right _ (List.mem_singleton.2 rfl))]) fun x hx gY=>by
    rw[AB,AB]
    simp only[]
    rw[List.take_succ_eq_append_getElem zB]
    simp only[List.mem_append,List.mem_singleton,gY,or_false]
   rw[eN]at dS CL
   generalize M[m]=xm at *
   (try((repeat(revert hN;revert N;apply Pn.out));refine wk (tw @d13 (tw @dg0 (tw @d1 (tw @d10 (tw @d11 (tw @d12 (tw @hm (tw @hi (tw @ku (tw @sG (tw @sH (tw @CF (tw @CN (tw @CL (tw @tl (tw @dS (tw @Av.eq_1 @eN.eq_1))))))))))))))))) ?_;(repeat(refine Pn.mk ?_;intro N hN))))
   refine tU ?_ ?_ (by(try dsimp only);omega)
   all_goals simp only[go_sem, ↓reduceIte,Nat.reduceEqDiff,Nat.reduceAdd,Nat.reduceSub,Nat.reduceLeDiff,reduceCtorEq,d13,dg0,d1,d10,d11,d12,dS]
  ·have lH:m=M.length:=by omega
   subst lH
   have pj:dC (db cnt L i M.length) cnt=dC (db cnt L (i+1) 0) cnt:=gW fun x hx=>by
    rw[AB,List.take_length]
    simp only[db,List.take_zero,List.not_mem_nil,if_false]
    have h1:=rR x hx
    by_cases h2:bQ L x<i
    ·rw[if_pos h2,if_pos (by omega)]
    ·rw[if_neg h2]
     by_cases h3:x∈M
     ·rw[if_pos h3,if_pos (by have:=h1.1 h3;omega),h1.1 h3]
     ·rw[if_neg h3,if_neg fun h4=>h3 (h1.2 (by omega))]
   (try((repeat(revert hN;revert N;apply Pn.out));refine wk (tw @d13 (tw @dg0 (tw @d1 (tw @d10 (tw @d11 (tw @d12 (tw @hm (tw @hi (tw @ku (tw @sG (tw @CF @Av.eq_1))))))))))) ?_;(repeat(refine Pn.mk ?_;intro N hN))))
   refine gG ?_ ?_ (by(try dsimp only);omega)
   all_goals simp only[go_sem, ↓reduceIte,Nat.reduceEqDiff,Nat.reduceAdd,Nat.reduceSub,Nat.reduceLeDiff,reduceCtorEq,qn,cg0,c1,jy,nL,d13,dg0,d1,d10,d11,d12,pj]
 have nG:i=(leads cnt L).length:=by omega
 subst nG
 have zD:dC (db cnt L (leads cnt L).length 0) cnt=dC (bQ L) cnt:=gW fun x hx=>by rw[db,if_pos (j8 hL hx)]
 rw[zD]at cg0
 have tl:=gn (bQ L) cnt
 (try((repeat(revert hN;revert N;apply Pn.out));refine wk (tw @qn (tw @cg0 (tw @c1 (tw @jy (tw @nL (tw @hi @sG)))))) ?_;(repeat(refine Pn.mk ?_;intro N hN))))
 have SY:st_a.next+1+1<st_c.next:=cI0
 refine aM (fun n env st=>∃j:Nat,n=(bs.length)-j/\j<=(bs.length)/\env 15=.int .i64 (j:Int)/\st.get ⟨192008001,st_a.next+1+1⟩=some ⟨true,1,dC (bQ L) cnt⟩/\(∃p:Id,env 14=.own p 0 (eY L (bs.take j)).length/\st.get p=some ⟨true,3,(eY L (bs.take j)).map aA⟩/\st_c.next<=p.bm/\p.bm<st.next)) (bs.length) ⟨0,by omega,by omega,sl (tw @qn (tw @cg0 (tw @c1 (tw @jy @nL)))),sl (tw @qn (tw @cg0 (tw @c1 (tw @jy @nL)))),⟨⟨192016000,st_c.next+1⟩,by(simp only[go_sem, ↓reduceIte,Nat.reduceEqDiff,Nat.reduceAdd,Nat.reduceSub,Nat.reduceLeDiff,reduceCtorEq])<;>rfl,by(simp only[go_sem, ↓reduceIte,Nat.reduceEqDiff,Nat.reduceAdd,Nat.reduceSub,Nat.reduceLeDiff,reduceCtorEq])<;>rfl,by(try dsimp only);omega,by(try dsimp only);omega⟩⟩ ?_
 rintro n_f env_f st_f ⟨j,rfl,fle,f15,fg0,fI0⟩ ffr
 have f1:=ffr 1 (by kernel_rfl);have f10:=ffr 10 (by kernel_rfl);have f11:=ffr 11 (by kernel_rfl)
 simp only[go_sem, ↓reduceIte,Nat.reduceEqDiff,Nat.reduceAdd,Nat.reduceSub,Nat.reduceLeDiff,reduceCtorEq,qn,cg0,c1,jy,nL]at f1 f10 f11
 clear ffr
 obtain⟨p,f14,fg,OV,I6⟩:=fI0
 have x1:=dt (a:=⟨192008001,st_a.next+1+1⟩) (b:=p) (by(try dsimp only);omega)
 have AD:=dx I6
 have hvn:st_a.next+1+1<st_f.next:=by omega
 have GF:=dx (i:=⟨192008001,st_a.next+1+1⟩) (n:=st_f.next) hvn
 have BI:=(nr L (bs.take j)).2
 rw[List.length_take]at BI
 by_cases hj:(j:Int)<(bs.length:Int)
 ·have sa:∀{e:Env} {gg:Rows} {nx:Nat},(e 15=.int .i64 (IntKind.i64.wrap ((j:Int)+1)))->(gg ⟨192008001,st_a.next+1+1⟩=some ⟨true,1,dC (bQ L) cnt⟩)->(∃p:Id,e 14=.own p 0 (eY L (bs.take (j+1))).length/\gg p=some ⟨true,3,(eY L (bs.take (j+1))).map aA⟩/\st_c.next<=p.bm/\p.bm<nx)->∃m0,m0<(bs.length)-j/\∃j:Nat,m0=(bs.length)-j/\j<=(bs.length)/\e 15=.int .i64 (j:Int)/\gg ⟨192008001,st_a.next+1+1⟩=some ⟨true,1,dC (bQ L) cnt⟩/\(∃p:Id,e 14=.own p 0 (eY L (bs.take j)).length/\gg p=some ⟨true,3,(eY L (bs.take j)).map aA⟩/\st_c.next<=p.bm/\p.bm<nx):=fun x1 x2 x3=>⟨_,by omega,j+1,rfl,by omega,(by rw[x1,az (by omega)]),x2,x3⟩
  have iM:j<bs.length:=by omega
  have CH:(bs.map aA)[j]? =some (aA bs[j]):=by simp[iM]
  have Lq:=hb _ (List.getElem_mem iM)
  have hs:=Ac L (bs.take j) bs[j]
  rw[<-List.take_succ_eq_append_getElem iM]at hs
  generalize bs[j]=b at *
  have hA:=fm (f:=bQ L) Lq.1
  have hB:=fm (f:=bQ L) Lq.2
  have gJ:(b.a:Int)<(cnt:Int):=by omega
  have fx:(b.b:Int)<(cnt:Int):=by omega
  have SO:=BU (bQ L b.a) (bQ L b.b)
  have SP:=BT (bQ L b.a) (bQ L b.b)
  rw[eN]at hA hB
  by_cases he:bQ L b.a=bQ L b.b
  ·rw[if_pos he,List.append_nil]at hs
   have xk:decide ((bQ L b.a:Int)=(bQ L b.b:Int))=true:=decide_eq_true (by rw[he])
   (try((repeat(revert hN;revert N;apply Pn.out));refine wk (tw @f15 (tw @fg0 (tw @f1 (tw @f10 (tw @f11 (tw @f14 (tw @fg (tw @hj (tw @CH (tw @hA (tw @hB (tw @gJ (tw @fx (tw @tl (tw @xk (tw @x1 (tw @AD @aA.eq_1))))))))))))))))) ?_;(repeat(refine Pn.mk ?_;intro N hN))))
   refine sa ?_ ?_ (⟨p,by rw[hs];simp only[go_sem, ↓reduceIte,Nat.reduceEqDiff,Nat.reduceAdd,Nat.reduceSub,Nat.reduceLeDiff,reduceCtorEq,f14],by rw[hs];simp only[go_sem, ↓reduceIte,Nat.reduceEqDiff,Nat.reduceAdd,Nat.reduceSub,Nat.reduceLeDiff,reduceCtorEq,fg],OV,by(try dsimp only);omega⟩)
   all_goals simp only[go_sem, ↓reduceIte,Nat.reduceEqDiff,Nat.reduceAdd,Nat.reduceSub,Nat.reduceLeDiff,reduceCtorEq,f15,fg0,f1,f10,f11]
  ·rw[if_neg he]at hs
   have xk:decide ((bQ L b.a:Int)=(bQ L b.b:Int))=false:=decide_eq_false fun h=>he (by omega)
   have e1:(eY L (bs.take j)).length+1<=16777216:=by omega
   have lH:((eY L (bs.take j)).map aA).length=(eY L (bs.take j)).length:=by simp
   (repeat(first|((repeat(revert hN;revert N;apply Pn.out));refine wk (tw @f15 (tw @fg0 (tw @f1 (tw @f10 (tw @f11 (tw @f14 (tw @fg (tw @hj (tw @CH (tw @hA (tw @hB (tw @gJ (tw @fx (tw @tl (tw @xk (tw @x1 (tw @AD (tw @GF (tw @e1 (tw @lH @aA.eq_1)))))))))))))))))))) ?_;(repeat(refine Pn.mk ?_;intro N hN)))|((try apply Or.inl);refine⟨_,aq.x (SO) (sd (tw @f15 (tw @fg0 (tw @f1 (tw @f10 (tw @f11 (tw @f14 (tw @fg (tw @hj (tw @CH (tw @hA (tw @hB (tw @gJ (tw @fx (tw @tl (tw @xk (tw @x1 (tw @AD (tw @GF (tw @e1 (tw @lH @aA.eq_1))))))))))))))))))))),?_⟩;refine hN _ _ ?_;clear hN N)|((try apply Or.inl);refine⟨_,aq.x (SP) (sd (tw @f15 (tw @fg0 (tw @f1 (tw @f10 (tw @f11 (tw @f14 (tw @fg (tw @hj (tw @CH (tw @hA (tw @hB (tw @gJ (tw @fx (tw @tl (tw @xk (tw @x1 (tw @AD (tw @GF (tw @e1 (tw @lH @aA.eq_1))))))))))))))))))))),?_⟩;refine hN _ _ ?_;clear hN N)))
   refine sa ?_ ?_ (⟨⟨192023014,st_f.next+1+1+1+1⟩,by rw[hs,List.length_append];simp only[go_sem, ↓reduceIte,Nat.reduceEqDiff,Nat.reduceAdd,Nat.reduceSub,Nat.reduceLeDiff,reduceCtorEq,List.length_cons,List.length_nil],by rw[hs,List.map_append,List.map_cons,List.map_nil];simp only[go_sem, ↓reduceIte,Nat.reduceEqDiff,Nat.reduceAdd,Nat.reduceSub,Nat.reduceLeDiff,reduceCtorEq,aA],by(try dsimp only);omega,by(try dsimp only);omega⟩)
   all_goals simp only[go_sem, ↓reduceIte,Nat.reduceEqDiff,Nat.reduceAdd,Nat.reduceSub,Nat.reduceLeDiff,reduceCtorEq,f15,fg0,f1,f10,f11,x1,GF]
 ·have gN:j=bs.length:=by omega
  subst gN
  rw[List.take_length]at f14 fg
  (try((repeat(revert hN;revert N;apply Pn.out));refine wk (tw @f15 (tw @fg0 (tw @f1 (tw @f10 (tw @f11 (tw @f14 (tw @hj @sG))))))) ?_;(repeat(refine Pn.mk ?_;intro N hN))))
  refine jw (.inl rfl) (r1:=.int .i64 ((leads cnt L).length:Int)) (sd @Nat.zero_add) (by simp only[go_sem, ↓reduceIte,Nat.reduceEqDiff,Nat.reduceAdd,Nat.reduceSub,Nat.reduceLeDiff,reduceCtorEq];rfl) ?_
  have h1:gy st_f.get 5 (.own p 0 (eY L bs).length)=some (.sl ((eY L bs).map aA)):=fI (sz:=3) fg rfl fun b=>uD _ 3 b
  simp only[eT,bB,cr,eC,h1,Option.map_some]
end Go.Proofs.YtgoelphibofcmaaGreat.V

namespace Go.Proofs.YtgoelphibofcmaaGreat.V
def EW (bs:List PB) (e v:Nat):Prop:=(cq bs e).a=v∨(cq bs e).b=v
def ja (bs:List PB) (m v:Nat):List Nat:=(List.range m).filter fun i=>(cq bs i).a==v||(cq bs i).b==v
theorem rZ {bs:List PB} {m v e:Nat}:e∈ja bs m v↔e<m/\EW bs e v:=by simp[ja,EW]
theorem GJ (bs:List PB) (m v:Nat):ja bs (m+1) v=ja bs m v++if (cq bs m).a=v∨(cq bs m).b=v then[m]else[]:=by
 unfold ja
 rw[List.range_succ,List.filter_append]
 congr 1
 by_cases h:(cq bs m).a=v<;>by_cases h2:(cq bs m).b=v<;>simp[h,h2]
theorem rY (bs:List PB) (m v:Nat):(ja bs m v).length<=m:=by
 have:=List.length_filter_le (fun i=>(cq bs i).a==v||(cq bs i).b==v) (List.range m)
 simpa[ja]using this
def nz (cnt:Nat) (bs:List PB):Prop:=∀e,e<bs.length->(cq bs e).a<cnt/\(cq bs e).b<cnt/\(cq bs e).a≠(cq bs e).b
theorem oW {cnt:Nat} {bs:List PB} (h:nz cnt bs) {e v:Nat} (he:e<bs.length):bR bs e v<cnt:=by
 have:=h e he;unfold bR;split;exact this.2.1;exact this.1
theorem JL {cnt:Nat} {bs:List PB} (h:nz cnt bs) {e v:Nat} (he:e<bs.length) (hi:EW bs e v):bR bs e v≠v:=by
 have h1:=(h e he).2.2
 unfold bR
 split
 ·rename_i ha;rw[<-ha];exact fun h=>h1 h.symm
 ·rename_i ha;rcases hi with hi|hi
  ·exact absurd hi ha
  ·rw[<-hi];exact h1
theorem yO {bs:List PB} {e v:Nat}:EW bs e (bR bs e v):=by
 unfold bR EW;split
 ·exact .inr rfl
 ·exact .inl rfl
theorem oX {cnt:Nat} {bs:List PB} (h:nz cnt bs) {e v:Nat} (he:e<bs.length) (hi:EW bs e v):bR bs e (bR bs e v)=v:=by
 have h1:=(h e he).2.2
 unfold bR
 by_cases ha:(cq bs e).a=v
 ·rw[if_pos ha,if_neg h1];exact ha
 ·rw[if_neg ha,if_pos rfl]
  rcases hi with hi|hi
  ·exact absurd hi ha
  ·exact hi
structure y6 (cnt:Nat) (bs:List PB) (f:Nat->Int) (y:Nat) (out:Nat->Int):Prop where
 lo:∀v,v<cnt->-1<=out v/\out v<=cnt
 first:out y=0
 zero:∀v,v<cnt->out v=0->v=y
 down:∀v,v<cnt->0<out v->∃e,e<bs.length/\EW bs e v/\0<fK bs f e v/\out (bR bs e v)=out v-1
 shut:∀e v,e<bs.length->EW bs e v->0<=out (bR bs e v)->0<fK bs f e v->0<=out v
structure As (cnt:Nat) (bs:List PB) (f:Nat->Int) (y:Nat) (out:Nat->Int) (Q:List Nat) (i:Nat):Prop where
 nd:Q.Nodup
 lt:∀x∈Q,x<cnt
 iff:∀v,v<cnt->(0<=out v↔v∈Q)
 lo:∀v,v<cnt->-1<=out v
 first:out y=0
 up:∀j (h:j<Q.length),out Q[j]<=j
 zero:∀v,v<cnt->out v=0->v=y
 down:∀v,v<cnt->0<out v->∃e,e<bs.length/\EW bs e v/\0<fK bs f e v/\out (bR bs e v)=out v-1
 shut:∀j (h:j<Q.length),j<i->∀e,e<bs.length->EW bs e Q[j]->0<fK bs f e (bR bs e Q[j])->0<=out (bR bs e Q[j])
section
variable {cnt:Nat} {bs:List PB} {f:Nat->Int} {y:Nat} {out:Nat->Int} {Q:List Nat} {i:Nat}
theorem As.start (hy:y<cnt):As cnt bs f y (fun v=>if v=y then 0 else -1) [y] 0 where
 nd:=by simp
 lt:=fun x hx=>by rw[List.mem_singleton.1 hx];exact hy
 iff:=fun v _=>by
  by_cases h:v=y<;>simp[h]
 lo:=fun v _=>by split<;>omega
 first:=if_pos rfl
 up:=fun j h=>by
  have:j=0:=by simp at h;omega
  subst this;simp
 zero:=fun v _ h=>by
  by_cases hv:v=y
  ·exact hv
  ·rw[if_neg hv]at h;omega
 down:=fun v _ h=>by
  by_cases hv:v=y
  ·rw[if_pos hv]at h;omega
  ·rw[if_neg hv]at h;omega
 shut:=fun j h hj=>by omega
theorem As.len (h:As cnt bs f y out Q i):Q.length<=cnt:=oU cnt Q h.nd h.lt
theorem As.visit (h:As cnt bs f y out Q i) (ok:nz cnt bs) (hi:i<Q.length) {e:Nat} (he:e<bs.length) (pU:EW bs e Q[i]) (j6:out (bR bs e Q[i])<0) (gh:0<fK bs f e (bR bs e Q[i])):
  As cnt bs f y (fun v=>if v=bR bs e Q[i]then out Q[i]+1 else out v) (Q++[bR bs e Q[i]]) i:=by
 have Ns:0<=out Q[i]:=(h.iff _ (h.lt _ (List.getElem_mem hi))).2 (List.getElem_mem hi)
 have hq:=oW ok (v:=Q[i]) he
 have gY:=JL ok he pU
 have Tg:=oX ok he pU
 have UZ:bR bs e Q[i]∉Q:=fun hm=>by have:=(h.iff _ hq).2 hm;omega
 have AB:=h.up i hi
 generalize hw:bR bs e Q[i]=w at *
 have uu:∀v,0<=out v->(if v=w then out Q[i]+1 else out v)=out v:=fun v hv=>by
  rw[if_neg];rintro rfl;omega
 have mono:∀v,0<=out v->0<=(if v=w then out Q[i]+1 else out v):=fun v hv=>by rw[uu v hv];exact hv
 refine⟨?_,?_,?_,?_,?_,?_,?_,?_,?_⟩
 ·rw[List.nodup_append]
  exact⟨h.nd,by simp,fun a ha b hb=>by rw[List.mem_singleton.1 hb];rintro rfl;exact UZ ha⟩
 ·intro x hx
  rcases List.mem_append.1 hx with hx|hx
  ·exact h.lt x hx
  ·rw[List.mem_singleton.1 hx];exact hq
 ·intro v hv
  by_cases HN:v=w
  ·subst HN;simp;omega
  ·rw[if_neg HN,h.iff v hv];simp[HN]
 ·intro v hv
  by_cases HN:v=w
  ·rw[if_pos HN];omega
  ·rw[if_neg HN];exact h.lo v hv
 ·rw[uu y (by rw[h.first];exact Int.le_refl _)];exact h.first
 ·intro j hj
  by_cases gN:j<Q.length
  ·rw[List.getElem_append_left gN,uu _ ((h.iff _ (h.lt _ (List.getElem_mem gN))).2 (List.getElem_mem gN))]
   exact h.up j gN
  ·have Lv:j=Q.length:=by simp at hj;omega
   subst Lv
   simp
   omega
 ·intro v hv h0
  by_cases HN:v=w
  ·rw[if_pos HN]at h0;omega
  ·rw[if_neg HN]at h0;exact h.zero v hv h0
 ·intro v hv h0
  by_cases HN:v=w
  ·subst HN
   rw[if_pos rfl]
   refine⟨e,he,by rw[<-hw];exact yO,gh,?_⟩
   rw[Tg,uu _ Ns];omega
  ·rw[if_neg HN]at h0 ⊢
   obtain⟨e',h1,h2,h3,h4⟩:=h.down v hv h0
   exact⟨e',h1,h2,h3,by rw[uu _ (by omega)];exact h4⟩
 ·intro j hj mD e' uI Nk hr
  have gN:j<Q.length:=by omega
  rw[List.getElem_append_left gN]at Nk hr ⊢
  exact mono _ (h.shut j gN mD e' uI Nk hr)
theorem As.next (h:As cnt bs f y out Q i) (hi:i<Q.length) (hs:∀e∈ja bs bs.length Q[i],0<fK bs f e (bR bs e Q[i])->0<=out (bR bs e Q[i])):As cnt bs f y out Q (i+1):=
 ⟨h.nd,h.lt,h.iff,h.lo,h.first,h.up,h.zero,h.down,fun j hj mD e he pU hr=>by
  by_cases Lv:j=i
  ·subst Lv;exact hs e (rZ.2 ⟨he,pU⟩) hr
  ·exact h.shut j hj (by omega) e he pU hr⟩
theorem As.done (h:As cnt bs f y out Q i) (ok:nz cnt bs) (hi:Q.length<=i):y6 cnt bs f y out where
 lo:=fun v hv=>⟨h.lo v hv,by
  by_cases h0:0<=out v
  ·obtain⟨j,hj,rfl⟩:=List.getElem_of_mem ((h.iff v hv).1 h0)
   have:=h.up j hj
   have:=h.len
   omega
  ·omega⟩
 first:=h.first
 zero:=h.zero
 down:=h.down
 shut:=fun e v he pU h0 hr=>by
  obtain⟨j,hj,Qi⟩:=List.getElem_of_mem ((h.iff _ (oW ok he)).1 h0)
  have h2:=h.shut j hj (by omega) e he (by rw[Qi];exact yO)
  rw[Qi,oX ok he pU]at h2
  exact h2 hr
end
end Go.Proofs.YtgoelphibofcmaaGreat.V

namespace Go.Proofs.YtgoelphibofcmaaGreat.V
open Go.RowKit
attribute [local irreducible] ek wpOps gq Call
attribute [local go_sem] aH fF eK ga fZ da upd ck K.av cH AV.cells AV.cell rowOf rowsOf part ld rowAt bF cj dy dW gU bG cX eh fY eU dn ea cV cU dH dI bJ aW cK bI cN cL dY eb dZ cJ bL cW dX bH aL cQ cC gT bj cF bK aT du bf dz AV.undef bw bE dM dU dE dJ cE ef ep cw ee ec cP cR List.getD_cons_zero List.getD_cons_succ List.getD_nil List.all_cons List.all_nil Bool.and_true Bool.true_and Bool.and_self Bool.not_true Bool.not_false Option.map_some Option.map_none Option.bind_some Option.bind_none List.length_cons List.length_nil List.take_succ_cons List.take_zero List.take_nil List.drop_succ_cons List.drop_zero List.drop_nil List.head?_cons List.map_cons List.map_nil List.getElem?_cons_zero List.getElem?_cons_succ List.cons_append List.nil_append List.append_nil List.length_map List.set_cons_zero List.set_cons_succ Nat.reduceMul eq_self Int.toNat_natCast Int.natCast_nonneg and_self true_and and_true decide_true decide_false Bool.false_eq_true Nat.zero_add Nat.add_zero List.contains_cons List.contains_nil Bool.or_false Bool.false_or beq_self_eq_true Nat.reduceBEq ne_eq not_true_eq_false not_false_eq_true Id.mk.injEq false_and and_false Nat.reduceLT Int.reduceLE Int.reduceLT Int.reduceToNat Int.reduceNeg Int.reduceAdd Nat.le_refl List.length_append beq_true beq_false Bool.not_eq_eq_eq_not or_false false_or dF ai ao aG aZ bt bW aP aY aQ aV cI bD
def l5 (P:Program) (f:Nat) (args:List AV) (R:AV->Prop):Prop:=∀n:Nat,Call P f args ⟨fun _=>none,n⟩ fun r0 σ'=>∃r',gy σ'.get 6 r0=some r'/\R r'
theorem aq.r {P:Program} {f:Nat} {args:List AV} {r:AV} (h:aq P f args r):l5 P f args (fun r'=>r'=r):=h
theorem Gt {P:Program} {f:Nat} {args er:List AV} {g:Rows} {n:Nat} {R:AV->Prop} (hv:cG (dF g) 6 args=some er) (h:Sound P f er ⟨fun _=>none,n⟩ fun r0 σ'=>∃r',gy σ'.get 6 r0=some r'/\R r'):Sound P f args ⟨g,n⟩ fun r σ'=>R r/\σ'=⟨g,n⟩:=by
 intro hs D ι w vs S U A
 refine(xR (g0:=g) (K:=R) ⟨er,hv,h⟩ (fun _ _ h=>h) S U A).mono ?_
 rintro e w' ⟨r,D',u,rfl,hR,T,S',hr⟩
 exact⟨r,g,n,D',ι,u,rfl,⟨hR,rfl⟩,T,S',U,Nat.le_refl _,hr⟩
theorem l5.x {P:Program} (hm:P.follows .mixedOrders=true) {f:Nat} {args er:List AV} {R:AV->Prop} (h:l5 P f er R) {σ:ar} (hv:cG (dF σ.get) 6 args=some er):Call P f args σ fun r σ'=>R r/\σ'=σ:=
 fN (Gt hv (il hm (h σ.next)))
theorem l5.body {P:Program} {f:Nat} {args:List AV} {R:AV->Prop} {nt na:Nat} {body:VC} {res:List oj} (hf:mO P f=some ⟨nt,na,body,res⟩) (ha:na=args.length) (h:(∀a∈args,eD a)->∀n:Nat,ek (Call P) body (k8 res fun r0 σ'=>∃r',gy σ'.get 6 r0=some r'/\R r') (ck args) ⟨fun _=>none,n⟩):l5 P f args R:=fun n=>l6 hf ha fun hl=>h hl n
def dV (f:Nat->Int) (n:Nat):List (List AV):=(List.range n).map fun i=>aw (f i)
theorem dB (f:Nat->Int) (n:Nat):(dV f n).length=n:=by simp[dV]
theorem dO {f:Nat->Int} {n i:Nat} (h:i<n):(dV f n)[i]? =some (aw (f i)):=by simp[dV,h]
theorem lh {f g:Nat->Int} {n k:Nat} {v:Int} (hk:k<n) (hv:g k=v) (h:∀i,i<n->i≠k->g i=f i):(dV f n).set k (aw v)=dV g n:=by
 refine List.ext_getElem? fun i=>?_
 rw[List.getElem?_set]
 by_cases hi:k=i
 ·subst hi
  rw[if_pos rfl,dB,if_pos hk,dO hk,hv]
 ·rw[if_neg hi]
  by_cases fU:i<n
  ·rw[dO fU,dO fU,h i fU (fun h=>hi h.symm)]
  ·rw[List.getElem?_eq_none (by rw[dB];omega),List.getElem?_eq_none (by rw[dB];omega)]
theorem Ht (f:Nat->Int) (n:Nat):dV f (n+1)=dV f n++[aw (f n)]:=by simp[dV,List.range_succ]
theorem fzI (g:Rows) (n:Nat) (a:Int):cG g (n+1) (aw a)=some (aw a):=by simp[aw,ai,ao,aG]
theorem TV (g:Rows) (n:Nat) (a:Int):ew g (n+1) (aw a)=some (aw a):=by simp[aw,bB,cr,eC]
theorem Kd {g:Rows} {f:Nat->Int} {n m:Nat}:ib g (m+1) (dV f n)=some (dV f n):=by
 have:dV f n=((List.range n).map f).map aw:=by simp[dV]
 rw[this];exact tJ fun x=>TV g m x
theorem Al {g:Rows} {f:Nat->Int} {n m:Nat}:eo g (m+1) (dV f n)=some (dV f n):=by
 have:dV f n=((List.range n).map f).map aw:=by simp[dV]
 rw[this];exact qC fun x=>fzI g m x
def Pv (l:List Nat):AV:=if l=[]then .bV else .sl (l.map eN)
def ql (cnt:Nat) (bs:List PB) (m:Nat):List (List AV):=(List.range cnt).map fun v=>[Pv (ja bs m v)]
theorem C3 {cnt:Nat} {bs:List PB} {m v:Nat} (h:v<cnt):(ql cnt bs m)[v]? =some [Pv (ja bs m v)]:=by simp[ql,h]
def fX (cnt:Nat) (bs:List PB) (f:Nat->Int):List AV:=[.int .i64 cnt,.sl (bs.map aA),.sl (ql cnt bs bs.length),.sl (dV f bs.length)]
theorem uz {bs:List PB} {e:Nat} (h:e<bs.length):(bs.map aA)[e]? =some (aA (cq bs e)):=getD_map aA h
def Small (bs:List PB) (f:Nat->Int):Prop:=∀e,e<bs.length->(0<=(cq bs e).s/\(cq bs e).s<=4)/\-4<=f e/\f e<=4
theorem JY (cnt:Nat) (bs:List PB) (f:Nat->Int) (hs:Small bs f) (e v:Nat) (he:e<bs.length):aq Tryz.prog 260 [.dm (fX cnt bs f),.int .i64 v,.int .i64 e] (.iC [.int .i64 (fK bs f e v),.int .i64 (bR bs e v)]):=by
 refine aq.body eL rfl fun hl n0=>?_
 clear hl
 have hb:=uz he
 have hf:=dO (f:=f) he
 obtain⟨⟨s0,s1⟩,s2,s3⟩:=hs e he
 have w1:IntKind.i64.wrap ((cq bs e).s-f e)=(cq bs e).s-f e:=bx (by omega)
 have w2:IntKind.i64.wrap ((cq bs e).s+f e)=(cq bs e).s+f e:=bx (by omega)
 unfold fK bR
 generalize cq bs e=b at *
 by_cases h:b.a=v
 ·have hd:decide ((b.a:Int)=(v:Int))=true:=decide_eq_true (by rw[h])
  (try((repeat(revert hN;revert N;apply Pn.out));refine wk (tw @fX.eq_1 (tw @hb (tw @hf (tw @aA.eq_1 (tw @aw.eq_1 (tw @hd (tw @w1 @w2))))))) ?_;(repeat(refine Pn.mk ?_;intro N hN))))
  refine jw (.inl rfl) (by simp only[go_sem, ↓reduceIte,Nat.reduceEqDiff,Nat.reduceAdd,Nat.reduceSub,Nat.reduceLeDiff,reduceCtorEq];rfl) (by simp only[go_sem, ↓reduceIte,Nat.reduceEqDiff,Nat.reduceAdd,Nat.reduceSub,Nat.reduceLeDiff,reduceCtorEq];rfl) ?_
  simp only[eT,bB,cr,eC,Option.map_some,if_pos h]
 ·have hd:decide ((b.a:Int)=(v:Int))=false:=decide_eq_false fun hc=>h (by omega)
  (try((repeat(revert hN;revert N;apply Pn.out));refine wk (tw @fX.eq_1 (tw @hb (tw @hf (tw @aA.eq_1 (tw @aw.eq_1 (tw @hd (tw @w1 @w2))))))) ?_;(repeat(refine Pn.mk ?_;intro N hN))))
  refine jw (.inl rfl) (by simp only[go_sem, ↓reduceIte,Nat.reduceEqDiff,Nat.reduceAdd,Nat.reduceSub,Nat.reduceLeDiff,reduceCtorEq];rfl) (by simp only[go_sem, ↓reduceIte,Nat.reduceEqDiff,Nat.reduceAdd,Nat.reduceSub,Nat.reduceLeDiff,reduceCtorEq];rfl) ?_
  simp only[eT,bB,cr,eC,Option.map_some,if_neg h]
theorem FO (cnt:Nat) (hn:cnt<=1048576) (bs:List PB) (ok:nz cnt bs) (nQ:bs.length<=1048576) (f:Nat->Int) (hs:Small bs f) (y:Nat) (hy:y<cnt):
  l5 Tryz.prog 239 [.dm (fX cnt bs f),.int .i64 y] fun r=>∃out,r=.sl (dV out cnt)/\y6 cnt bs f y out:=by
 refine l5.body eL rfl fun hl n0=>?_
 clear hl
 (try((repeat(revert hN;revert N;apply Pn.out));refine wk @fX.eq_1 ?_;(repeat(refine Pn.mk ?_;intro N hN))))
 refine aM (fun n env st=>∃k:Nat,n=(cnt)-k/\k<=(cnt)/\env 6=.int .i64 (k:Int)/\(∃o:Id,env 5=.own o 0 k/\st.get o=some ⟨true,1,dV (fun _=>-1) k⟩/\o.bm<st.next)) (cnt) ⟨0,by omega,by omega,sl @fX.eq_1,⟨⟨239001000,n0+1⟩,by(simp only[go_sem, ↓reduceIte,Nat.reduceEqDiff,Nat.reduceAdd,Nat.reduceSub,Nat.reduceLeDiff,reduceCtorEq])<;>rfl,by(simp only[go_sem, ↓reduceIte,Nat.reduceEqDiff,Nat.reduceAdd,Nat.reduceSub,Nat.reduceLeDiff,reduceCtorEq])<;>rfl,by(try dsimp only);omega⟩⟩ ?_
 rintro n_a env_a st_a ⟨k,rfl,ale,a6,kc⟩ di
 have a0:=di 0 (by kernel_rfl);have a1:=di 1 (by kernel_rfl)
 simp only[go_sem, ↓reduceIte,Nat.reduceEqDiff,Nat.reduceAdd,Nat.reduceSub,Nat.reduceLeDiff,reduceCtorEq,fX]at a0 a1
 clear di
 obtain⟨o,a5,ag,rS⟩:=kc
 have tl:=dB (fun _=>-1) k
 have qK:=dx rS
 by_cases hk:(k:Int)<(cnt:Int)
 ·have cz:∀{e:Env} {gg:Rows} {nx:Nat},(e 6=.int .i64 (IntKind.i64.wrap ((k:Int)+1)))->(∃o:Id,e 5=.own o 0 (k+1)/\gg o=some ⟨true,1,dV (fun _=>-1) (k+1)⟩/\o.bm<nx)->∃m0,m0<(cnt)-k/\∃k:Nat,m0=(cnt)-k/\k<=(cnt)/\e 6=.int .i64 (k:Int)/\(∃o:Id,e 5=.own o 0 k/\gg o=some ⟨true,1,dV (fun _=>-1) k⟩/\o.bm<nx):=fun x1 x2=>⟨_,by omega,k+1,rfl,by omega,(by rw[x1,az (by omega)]),x2⟩
  have e1:k+1<=16777216:=by omega
  have pZ:dV (fun _=>-1) k++[[.int .i64 (-1)]]=dV (fun _=>-1) (k+1):=(Ht _ _).symm
  (try((repeat(revert hN;revert N;apply Pn.out));refine wk (tw @a6 (tw @a0 (tw @a1 (tw @a5 (tw @ag (tw @qK (tw @hk (tw @tl (tw @e1 (tw @pZ @fX.eq_1)))))))))) ?_;(repeat(refine Pn.mk ?_;intro N hN))))
  exact cz (sd (tw @a6 (tw @a0 (tw @a1 @fX.eq_1)))) (⟨⟨239005002,st_a.next+1⟩,sd @Nat.zero_add,sd @pZ,by(try dsimp only);omega⟩)
 have kH:k=cnt:=by omega
 subst kH
 have Ts:(y:Int)<(k:Int):=by omega
 have hym:=dO (f:=fun _=>-1) hy
 have BG:(dV (fun _=>-1) k).set y (aw 0)=dV (fun v=>if v=y then 0 else -1) k:=lh hy (if_pos rfl) fun i _ hi=>if_neg hi
 rw[aw]at BG hym
 (try((repeat(revert hN;revert N;apply Pn.out));refine wk (tw @a6 (tw @a0 (tw @a1 (tw @a5 (tw @ag (tw @qK (tw @hk (tw @tl (tw @Ts (tw @hym (tw @BG @fX.eq_1))))))))))) ?_;(repeat(refine Pn.mk ?_;intro N hN))))
 refine aM (fun m env st=>∃(i:Nat) (out:Nat->Int) (Q:List Nat) (p:Id),m=k-i/\env 8=.int .i64 (i:Int)/\env 7=.own p 0 Q.length/\st.get p=some ⟨true,1,Q.map eN⟩/\st.get o=some ⟨true,1,dV out k⟩/\o.bm<p.bm/\p.bm<st.next/\As k bs f y out Q i/\i<=Q.length) k ⟨0,_,[y],⟨239007001,st_a.next+1+1⟩,by omega,by(simp only[go_sem, ↓reduceIte,Nat.reduceEqDiff,Nat.reduceAdd,Nat.reduceSub,Nat.reduceLeDiff,reduceCtorEq])<;>rfl,by(simp only[go_sem, ↓reduceIte,Nat.reduceEqDiff,Nat.reduceAdd,Nat.reduceSub,Nat.reduceLeDiff,reduceCtorEq])<;>rfl,by(simp only[go_sem, ↓reduceIte,Nat.reduceEqDiff,Nat.reduceAdd,Nat.reduceSub,Nat.reduceLeDiff,reduceCtorEq])<;>rfl,sd @qK,by(try dsimp only);omega,by(try dsimp only);omega,As.start hy,by simp⟩ ?_
 rintro n env_b st_b ⟨i,out,Q,p,rfl,b8,b7,bgp,bgo,dK,hpn,hB,hiq⟩ e9
 have b0:=e9 0 (by kernel_rfl)
 have b5:=e9 5 (by kernel_rfl)
 simp only[go_sem, ↓reduceIte,Nat.reduceEqDiff,Nat.reduceAdd,Nat.reduceSub,Nat.reduceLeDiff,reduceCtorEq,a6,a0,a1,a5,fX]at b0 b5
 clear e9
 have Tj:=hB.len
 have Tu:=dB out k
 have hqm:(Q.map eN).length=Q.length:=by simp
 have AD:=dx hpn
 have kI:=dx (i:=o) (n:=st_b.next) (by omega)
 by_cases hi:(i:Int)<(Q.length:Int)
 ·have fU:i<Q.length:=by omega
  have ku:(Q.map eN)[i]? =some (eN Q[i]):=by simp[fU]
  have Ns:=hB.lt _ (List.getElem_mem fU)
  obtain⟨vt,O6⟩:∃vt,vt=Q[i]:=⟨_,rfl⟩
  rw[<-O6]at ku Ns
  have hA:=C3 (cnt:=k) (bs:=bs) (m:=bs.length) Ns
  have LL:(vt:Int)<(k:Int):=by omega
  have nG:=rY bs bs.length vt
  have hme:∀x,x<(ja bs bs.length vt).length->(ja bs bs.length vt).getD x 0<bs.length/\EW bs ((ja bs bs.length vt).getD x 0) vt:=fun x hx=>by
   rw[List.getD_eq_getElem?_getD,List.getElem?_eq_getElem hx]
   exact rZ.1 (List.getElem_mem hx)
  have Rx:∀e∈ja bs bs.length vt,∃x,x<(ja bs bs.length vt).length/\(ja bs bs.length vt).getD x 0=e:=fun e he=>by
   obtain⟨x,hx,rfl⟩:=List.getElem_of_mem he
   exact⟨x,hx,by rw[List.getD_eq_getElem?_getD,List.getElem?_eq_getElem hx];rfl⟩
  generalize hIn:ja bs bs.length vt=I at *
  unfold Pv at hA
  by_cases Uc:I=[]
  ·rw[if_pos Uc]at hA
   have hI1:I.length=0:=by rw[Uc];rfl
   (try((repeat(revert hN;revert N;apply Pn.out));refine wk (tw @b0 (tw @b5 (tw @b7 (tw @b8 (tw @bgp (tw @hi (tw @ku (tw @hqm (tw @eN.eq_1 @fX.eq_1))))))))) ?_;(repeat(refine Pn.mk ?_;intro N hN))))
   refine aM (fun n env st=>∃x:Nat,n=(I.length)-x/\x<=(I.length)/\env 10=.int .i64 (x:Int)/\(∃(iQ:Nat->Int) (Q':List Nat) (p':Id),env 7=.own p' 0 Q'.length/\st.get p'=some ⟨true,1,Q'.map eN⟩/\st.get o=some ⟨true,1,dV iQ k⟩/\o.bm<p'.bm/\p'.bm<st.next/\As k bs f y iQ Q' i/\(∃h:i<Q'.length,Q'[i]=vt)/\(∀z,z<x->0<fK bs f (I.getD z 0) (bR bs (I.getD z 0) vt)->0<=iQ (bR bs (I.getD z 0) vt)))) (I.length) ⟨0,by omega,by omega,sl (tw @b0 (tw @b5 (tw @b8 @fX.eq_1))),⟨out,Q,p,sd @b7,sd @bgp,sd @bgo,dK,by(try dsimp only);omega,hB,⟨fU,O6.symm⟩,fun z hz=>by omega⟩⟩ ?_
   rintro n_c env_c st_c ⟨x,rfl,cle,jy,cI0⟩ iL
   have c0:=iL 0 (by kernel_rfl);have c5:=iL 5 (by kernel_rfl);have c8:=iL 8 (by kernel_rfl);have c9:=iL 9 (by kernel_rfl)
   simp only[go_sem, ↓reduceIte,Nat.reduceEqDiff,Nat.reduceAdd,Nat.reduceSub,Nat.reduceLeDiff,reduceCtorEq,b0,b5,b8,fX]at c0 c5 c8 c9
   clear iL
   obtain⟨iQ,Q',p',c7,Iq,xZ,DS,OX,dD,⟨xE,qJ⟩,KL⟩:=cI0
   have U7:=dD.len
   have Py:=dB iQ k
   have OZ:(Q'.map eN).length=Q'.length:=by simp
   have zF:=dx OX
   have me:=dx (i:=o) (n:=st_c.next) (by omega)
   have x1:=dt DS
   have hx:¬(x:Int)<((0:Nat):Int):=by omega
   have hxe:x=I.length:=by omega
   have hw:IntKind.i64.wrap ((i:Int)+1)=((i+1:Nat):Int):=az (by omega)
   (try((repeat(revert hN;revert N;apply Pn.out));refine wk (tw @jy (tw @c0 (tw @c5 (tw @c8 (tw @c9 (tw @c7 (tw @hx (tw @hA (tw @LL @fX.eq_1))))))))) ?_;(repeat(refine Pn.mk ?_;intro N hN))))
   refine⟨_,?_,i+1,iQ,Q',p',rfl,sd (tw @jy (tw @c0 (tw @c5 (tw @c8 (tw @c9 @hw))))),sd @c7,sd @Iq,sd @xZ,DS,by(try dsimp only);omega,dD.next xE fun e he hr=>?_,by omega⟩
   ·omega
   ·rw[qJ,hIn]at he
    rw[qJ]at hr ⊢
    obtain⟨z,hz,rfl⟩:=Rx e he
    exact KL z (by omega) hr
  ·rw[if_neg Uc]at hA
   have qF:(I.map eN).length=I.length:=by simp
   (try((repeat(revert hN;revert N;apply Pn.out));refine wk (tw @b0 (tw @b5 (tw @b7 (tw @b8 (tw @bgp (tw @hi (tw @ku (tw @hqm (tw @eN.eq_1 @fX.eq_1))))))))) ?_;(repeat(refine Pn.mk ?_;intro N hN))))
   refine aM (fun n env st=>∃x:Nat,n=(I.length)-x/\x<=(I.length)/\env 10=.int .i64 (x:Int)/\(∃(iQ:Nat->Int) (Q':List Nat) (p':Id),env 7=.own p' 0 Q'.length/\st.get p'=some ⟨true,1,Q'.map eN⟩/\st.get o=some ⟨true,1,dV iQ k⟩/\o.bm<p'.bm/\p'.bm<st.next/\As k bs f y iQ Q' i/\(∃h:i<Q'.length,Q'[i]=vt)/\(∀z,z<x->0<fK bs f (I.getD z 0) (bR bs (I.getD z 0) vt)->0<=iQ (bR bs (I.getD z 0) vt)))) (I.length) ⟨0,by omega,by omega,sl (tw @b0 (tw @b5 (tw @b8 @fX.eq_1))),⟨out,Q,p,sd @b7,sd @bgp,sd @bgo,dK,by(try dsimp only);omega,hB,⟨fU,O6.symm⟩,fun z hz=>by omega⟩⟩ ?_
   rintro n_c env_c st_c ⟨x,rfl,cle,jy,cI0⟩ iL
   have c0:=iL 0 (by kernel_rfl);have c5:=iL 5 (by kernel_rfl);have c8:=iL 8 (by kernel_rfl);have c9:=iL 9 (by kernel_rfl)
   simp only[go_sem, ↓reduceIte,Nat.reduceEqDiff,Nat.reduceAdd,Nat.reduceSub,Nat.reduceLeDiff,reduceCtorEq,b0,b5,b8,fX]at c0 c5 c8 c9
   clear iL
   obtain⟨iQ,Q',p',c7,Iq,xZ,DS,OX,dD,⟨xE,qJ⟩,KL⟩:=cI0
   have U7:=dD.len
   have Py:=dB iQ k
   have OZ:(Q'.map eN).length=Q'.length:=by simp
   have zF:=dx OX
   have me:=dx (i:=o) (n:=st_c.next) (by omega)
   have x1:=dt DS
   by_cases hx:(x:Int)<(I.length:Int)
   ·have gG:∀{e:Env} {gg:Rows} {nx:Nat},(e 10=.int .i64 (IntKind.i64.wrap ((x:Int)+1)))->(∃(iQ:Nat->Int) (Q':List Nat) (p':Id),e 7=.own p' 0 Q'.length/\gg p'=some ⟨true,1,Q'.map eN⟩/\gg o=some ⟨true,1,dV iQ k⟩/\o.bm<p'.bm/\p'.bm<nx/\As k bs f y iQ Q' i/\(∃h:i<Q'.length,Q'[i]=vt)/\(∀z,z<(x+1)->0<fK bs f (I.getD z 0) (bR bs (I.getD z 0) vt)->0<=iQ (bR bs (I.getD z 0) vt)))->∃m0,m0<(I.length)-x/\∃x:Nat,m0=(I.length)-x/\x<=(I.length)/\e 10=.int .i64 (x:Int)/\(∃(iQ:Nat->Int) (Q':List Nat) (p':Id),e 7=.own p' 0 Q'.length/\gg p'=some ⟨true,1,Q'.map eN⟩/\gg o=some ⟨true,1,dV iQ k⟩/\o.bm<p'.bm/\p'.bm<nx/\As k bs f y iQ Q' i/\(∃h:i<Q'.length,Q'[i]=vt)/\(∀z,z<x->0<fK bs f (I.getD z 0) (bR bs (I.getD z 0) vt)->0<=iQ (bR bs (I.getD z 0) vt))):=fun x1 x2=>⟨_,by omega,x+1,rfl,by omega,(by rw[x1,az (by omega)]),x2⟩
    have Qx:x<I.length:=by omega
    have Oj:(I.map eN)[x]? =some (eN (I.getD x 0)):=getD_map eN Qx
    obtain⟨he,pU⟩:=hme x Qx
    obtain⟨e,S4⟩:∃e,e=I.getD x 0:=⟨_,rfl⟩
    rw[<-S4]at Oj he pU
    have iF:=uz he
    have hq:=oW ok (v:=vt) he
    have Tg:=oX ok he pU
    have LI:=JY k bs f hs e (bR bs e vt) he
    have Rl:=ok e he
    have oP:IntKind.i64.wrap (((cq bs e).a:Int)+((cq bs e).b:Int))=((cq bs e).a:Int)+((cq bs e).b:Int):=bx (by omega)
    have vV:IntKind.i64.wrap (((cq bs e).a:Int)+((cq bs e).b:Int)-(vt:Int))=(bR bs e vt:Int):=by
     rw[bx (by omega)]
     unfold bR
     rcases pU with h1|h1
     ·rw[if_pos h1];omega
     ·rw[if_neg fun h2=>Rl.2.2 (h2.trans h1.symm)];omega
    have Qq:(bR bs e vt:Int)<(k:Int):=by omega
    have OE:=dO (f:=iQ) hq
    have Lt:=dO (f:=iQ) Ns
    rw[fX]at LI
    have AB:=dD.up i xE
    rw[qJ]at AB
    have j5:=dD.lo vt Ns
    have RL:IntKind.i64.wrap (iQ vt+1)=iQ vt+1:=bx (by omega)
    rw[aw]at OE Lt
    generalize yi:cq bs e=b at *
    by_cases j6:iQ (bR bs e vt)<0
    ·by_cases gh:0<fK bs f e (bR bs e vt)
     ·have hV:=dD.visit ok xE (e:=e) he (by rw[qJ];exact pU) (by rw[qJ];exact j6) (by rw[qJ];exact gh)
      rw[qJ]at hV
      have dS:(dV iQ k).set (bR bs e vt) (aw (iQ vt+1))=dV (fun v=>if v=bR bs e vt then iQ vt+1 else iQ v) k:=lh hq (if_pos rfl) fun v _ hv=>if_neg hv
      rw[aw]at dS
      have e1:Q'.length+1<=16777216:=by omega
      (repeat(first|((repeat(revert hN;revert N;apply Pn.out));refine wk (tw @jy (tw @c0 (tw @c5 (tw @c8 (tw @c9 (tw @c7 (tw @Iq (tw @xZ (tw @hx (tw @hA (tw @qF (tw @Oj (tw @LL (tw @iF (tw @oP (tw @vV (tw @Qq (tw @OE (tw @Lt (tw @j6 (tw @gh (tw @RL (tw @dS (tw @OZ (tw @Py (tw @zF (tw @me (tw @x1 (tw @e1 (tw @eN.eq_1 (tw @aA.eq_1 @fX.eq_1))))))))))))))))))))))))))))))) ?_;(repeat(refine Pn.mk ?_;intro N hN)))|((try apply Or.inl);refine⟨_,aq.x (LI) (sd (tw @jy (tw @c0 (tw @c5 (tw @c8 (tw @c9 (tw @c7 (tw @Iq (tw @xZ (tw @hx (tw @hA (tw @qF (tw @Oj (tw @LL (tw @iF (tw @oP (tw @vV (tw @Qq (tw @OE (tw @Lt (tw @j6 (tw @gh (tw @RL (tw @dS (tw @OZ (tw @Py (tw @zF (tw @me (tw @x1 (tw @e1 (tw @eN.eq_1 (tw @aA.eq_1 @fX.eq_1)))))))))))))))))))))))))))))))),?_⟩;refine hN _ _ ?_;clear hN N)))
      exact gG (sd (tw @jy (tw @c0 (tw @c5 (tw @c8 @c9))))) (⟨_,Q'++[bR bs e vt],⟨239020003,st_c.next+1+1+1+1+1+1⟩,by rw[List.length_append];simp only[go_sem, ↓reduceIte,Nat.reduceEqDiff,Nat.reduceAdd,Nat.reduceSub,Nat.reduceLeDiff,reduceCtorEq,List.length_cons,List.length_nil],by rw[List.map_append,List.map_cons,List.map_nil];simp only[go_sem, ↓reduceIte,Nat.reduceEqDiff,Nat.reduceAdd,Nat.reduceSub,Nat.reduceLeDiff,reduceCtorEq,eN],sd (tw @me @x1),by(try dsimp only);omega,by(try dsimp only);omega,hV,⟨by simp;omega,by rw[List.getElem_append_left xE];exact qJ⟩,fun z hz hr=>by
       by_cases RU:z=x
       ·subst RU
        rw[<-S4,if_pos rfl]
        have:=(dD.iff vt Ns).2 (by rw[<-qJ];exact List.getElem_mem xE)
        omega
       ·have:=KL z (by omega) hr
        split
        ·have:=(dD.iff vt Ns).2 (by rw[<-qJ];exact List.getElem_mem xE)
         omega
        ·exact this⟩)
     ·(repeat(first|((repeat(revert hN;revert N;apply Pn.out));refine wk (tw @jy (tw @c0 (tw @c5 (tw @c8 (tw @c9 (tw @c7 (tw @Iq (tw @xZ (tw @hx (tw @hA (tw @qF (tw @Oj (tw @LL (tw @iF (tw @oP (tw @vV (tw @Qq (tw @OE (tw @j6 (tw @gh (tw @Py (tw @zF (tw @me (tw @x1 (tw @eN.eq_1 (tw @aA.eq_1 @fX.eq_1)))))))))))))))))))))))))) ?_;(repeat(refine Pn.mk ?_;intro N hN)))|((try apply Or.inl);refine⟨_,aq.x (LI) (sd (tw @jy (tw @c0 (tw @c5 (tw @c8 (tw @c9 (tw @c7 (tw @Iq (tw @xZ (tw @hx (tw @hA (tw @qF (tw @Oj (tw @LL (tw @iF (tw @oP (tw @vV (tw @Qq (tw @OE (tw @j6 (tw @gh (tw @Py (tw @zF (tw @me (tw @x1 (tw @eN.eq_1 (tw @aA.eq_1 @fX.eq_1))))))))))))))))))))))))))),?_⟩;refine hN _ _ ?_;clear hN N)))
      exact gG (sd (tw @jy (tw @c0 (tw @c5 (tw @c8 @c9))))) (⟨iQ,Q',p',sd @c7,sd (tw @Iq @zF),sd (tw @xZ @me),DS,by(try dsimp only);omega,dD,⟨xE,qJ⟩,fun z hz hr=>by
       by_cases RU:z=x
       ·subst RU;rw[<-S4]at hr;exact absurd hr gh
       ·exact KL z (by omega) hr⟩)
    ·(repeat(first|((repeat(revert hN;revert N;apply Pn.out));refine wk (tw @jy (tw @c0 (tw @c5 (tw @c8 (tw @c9 (tw @c7 (tw @Iq (tw @xZ (tw @hx (tw @hA (tw @qF (tw @Oj (tw @LL (tw @iF (tw @oP (tw @vV (tw @Qq (tw @OE (tw @j6 (tw @Py (tw @zF (tw @me (tw @x1 (tw @eN.eq_1 (tw @aA.eq_1 @fX.eq_1))))))))))))))))))))))))) ?_;(repeat(refine Pn.mk ?_;intro N hN)))|((try apply Or.inl);refine⟨_,aq.x (LI) (sd (tw @jy (tw @c0 (tw @c5 (tw @c8 (tw @c9 (tw @c7 (tw @Iq (tw @xZ (tw @hx (tw @hA (tw @qF (tw @Oj (tw @LL (tw @iF (tw @oP (tw @vV (tw @Qq (tw @OE (tw @j6 (tw @Py (tw @zF (tw @me (tw @x1 (tw @eN.eq_1 (tw @aA.eq_1 @fX.eq_1)))))))))))))))))))))))))),?_⟩;refine hN _ _ ?_;clear hN N)))
     exact gG (sd (tw @jy (tw @c0 (tw @c5 (tw @c8 @c9))))) (⟨iQ,Q',p',sd @c7,sd (tw @Iq @zF),sd (tw @xZ @me),DS,by(try dsimp only);omega,dD,⟨xE,qJ⟩,fun z hz hr=>by
      by_cases RU:z=x
      ·subst RU;rw[<-S4];omega
      ·exact KL z (by omega) hr⟩)
   ·have hxe:x=I.length:=by omega
    have hw:IntKind.i64.wrap ((i:Int)+1)=((i+1:Nat):Int):=az (by omega)
    (try((repeat(revert hN;revert N;apply Pn.out));refine wk (tw @jy (tw @c0 (tw @c5 (tw @c8 (tw @c9 (tw @c7 (tw @hx (tw @hA (tw @qF (tw @LL @fX.eq_1)))))))))) ?_;(repeat(refine Pn.mk ?_;intro N hN))))
    refine⟨_,?_,i+1,iQ,Q',p',rfl,sd (tw @jy (tw @c0 (tw @c5 (tw @c8 (tw @c9 @hw))))),sd @c7,sd @Iq,sd @xZ,DS,by(try dsimp only);omega,dD.next xE fun e he hr=>?_,by omega⟩
    ·omega
    ·rw[qJ,hIn]at he
     rw[qJ]at hr ⊢
     obtain⟨z,hz,rfl⟩:=Rx e he
     exact KL z (by omega) hr
 ·(try((repeat(revert hN;revert N;apply Pn.out));refine wk (tw @b0 (tw @b5 (tw @b7 (tw @b8 (tw @hi @fX.eq_1))))) ?_;(repeat(refine Pn.mk ?_;intro N hN))))
  have sZ:gy st_b.get 6 (.own o 0 k)=some (.sl (dV out k)):=uE bgo (by rw[Tu];omega) (by rw[List.drop_zero,List.take_of_length_le (by rw[Tu];omega)];exact Kd)
  exact⟨_,rfl,_,by simp only[go_sem, ↓reduceIte,Nat.reduceEqDiff,Nat.reduceAdd,Nat.reduceSub,Nat.reduceLeDiff,reduceCtorEq,fe];exact sZ,out,rfl,hB.done ok (by omega)⟩
end Go.Proofs.YtgoelphibofcmaaGreat.V

namespace Go.Proofs.YtgoelphibofcmaaGreat.V
open Go.RowKit
attribute [local irreducible] ek wpOps gq Call
attribute [local go_sem] aH fF eK ga fZ da upd ck K.av cH AV.cells AV.cell rowOf rowsOf part ld rowAt bF cj dy dW gU bG cX eh fY eU dn ea cV cU dH dI bJ aW cK bI cN cL dY eb dZ cJ bL cW dX bH aL cQ cC gT bj cF bK aT du bf dz AV.undef bw bE dM dU dE dJ cE ef ep cw ee ec cP cR List.getD_cons_zero List.getD_cons_succ List.getD_nil List.all_cons List.all_nil Bool.and_true Bool.true_and Bool.and_self Bool.not_true Bool.not_false Option.map_some Option.map_none Option.bind_some Option.bind_none List.length_cons List.length_nil List.take_succ_cons List.take_zero List.take_nil List.drop_succ_cons List.drop_zero List.drop_nil List.head?_cons List.map_cons List.map_nil List.getElem?_cons_zero List.getElem?_cons_succ List.cons_append List.nil_append List.append_nil List.length_map List.set_cons_zero List.set_cons_succ eq_self Int.toNat_natCast Int.natCast_nonneg and_self true_and and_true decide_true decide_false Bool.false_eq_true Nat.zero_add Nat.add_zero List.contains_cons List.contains_nil Bool.or_false Bool.false_or beq_self_eq_true ne_eq not_true_eq_false not_false_eq_true Id.mk.injEq false_and and_false Nat.le_refl List.length_append beq_true beq_false Bool.not_eq_eq_eq_not or_false false_or dF ai ao aG aZ bt bW aP aY aQ aV cI bD
def PZ:CD (List Nat):=fun g cs x ids=>(x=[]/\cs=[.bV]/\ids=[])∨∃id,cs=[.own id 0 x.length]/\0<x.length/\g id=some ⟨true,1,x.map eN⟩/\ids=[id]
theorem Ny:xp PZ 1 where
 frame:=fun h hf=>by
  rcases h with h|⟨id,h1,h0,h2,h3⟩
  ·exact .inl h
  ·subst h3;exact .inr ⟨id,h1,h0,(hf id (by simp)).trans h2,rfl⟩
 len:=fun h=>by rcases h with⟨_,h,_⟩|⟨id,h,_⟩<;>subst h<;>rfl
 cell:=fun h=>by rcases h with⟨_,h,_⟩|⟨id,h,_⟩<;>subst h<;>rfl
 live:=fun h i hi=>by
  rcases h with⟨_,_,h⟩|⟨id,h1,h0,h2,h3⟩
  ·subst h;cases hi
  ·subst h3
   have:i=id:=by simpa using hi
   subst this
   exact⟨_,h2,rfl,by simp[r8]⟩
 small:=by simp[r8]
theorem Pe {g:Rows} {rows:List (List AV)} {xs:List (List Nat)} {ids:List Id} (n:Nat) (h:eE PZ g rows xs ids):eo (dF g) (n+2) rows=some (xs.map fun l=>[Pv l]):=
 h.fz (fun {cs x ids} h=>by
  rcases h with⟨h0,h1,_⟩|⟨id,h1,h0,h2,_⟩
  ·subst h0 h1;rw[ai,ao,aP];rfl
  ·have gY:x≠[]:=by rintro rfl;simp at h0
   subst h1
   rw[ai,ao,fS (e:=eN) (sz:=1) (by simp[dF,h2]) rfl fun a=>fzN _ n a]
   simp[Pv,gY])
theorem eE.Sc {α:Type} {R:CD α} {sz:Nat} {g:Rows} {rows:List (List AV)} {xs:List α} {ids:List Id} (ok:xp R sz) (h:eE R g rows xs ids) (lZ:ids.Nodup) (k:Nat) (hk:k<xs.length):
  ∃cs ic,rows[k]? =some cs/\R g cs xs[k] ic/\(∀i∈ic,i∈ids)/\∀(g':Rows) qd x' QA,R g' qd x' QA->(∀i∈ids,i∉ic->g' i=g i)->QA.Nodup->(∀i∈QA,i∉ids)->∃DX,eE R g' (rows.set k qd) (xs.set k x') DX/\DX.Nodup/\∀i∈DX,i∈QA∨i∈ids:=by
 obtain⟨r1,cs,r2,i1,ic,i2,rfl,rfl,rfl,h3,h4,h5⟩:=h.split k hk
 obtain⟨n1,n2,n3⟩:=List.nodup_append.1 lZ
 obtain⟨nc,n5,n4⟩:=List.nodup_append.1 n2
 refine⟨cs,ic,by simp,h4,fun i hi=>by simp[hi],fun g' qd x' QA hR hf hn' kQ=>⟨i1++(QA++i2),?_,?_,fun i hi=>?_⟩⟩
 ·have e:xs.set r1.length x'=xs.take r1.length++x'::xs.drop (r1.length+1):=by rw[List.set_eq_take_append_cons_drop,if_pos hk]
  have e2:(r1++cs::r2).set r1.length qd=r1++qd::r2:=by simp
  rw[e,e2]
  refine(h3.frame ok fun i hi=>hf i (by simp[hi]) fun hc=>n3 i hi i (by simp[hc]) rfl).app (.cons hR (h5.frame ok fun i hi=>hf i (by simp[hi]) fun hc=>n4 i hc i hi rfl))
 ·rw[List.nodup_append,List.nodup_append]
  refine⟨n1,⟨hn',n5,fun x hx y hy he=>?_⟩,fun x hx y hy he=>?_⟩
  ·subst he;exact kQ x hx (by simp[hy])
  ·subst he
   rcases List.mem_append.1 hy with hy|hy
   ·exact kQ x hy (by simp[hx])
   ·exact n3 x hx x (by simp[hy]) rfl
 ·rcases List.mem_append.1 hi with hi|hi
  ·exact .inr (by simp[hi])
  ·rcases List.mem_append.1 hi with hi|hi
   ·exact .inl hi
   ·exact .inr (by simp[hi])
def rl (A:Id) (lo:Nat) (L:List (List Nat)) (g:Rows) (nx:Nat):Prop:=∃rows ids,g A=some ⟨true,1,rows⟩/\eE PZ g rows L ids/\ids.Nodup/\∀i∈ids,lo<i.bm/\i.bm<nx
def bz (cnt:Nat) (bs:List PB) (A F:Id):List AV:=[.int .i64 cnt,.sl (bs.map aA),.own A 0 cnt,.own F 0 bs.length]
def lv (cnt:Nat) (bs:List PB) (m:Nat):List (List Nat):=(List.range cnt).map fun v=>ja bs m v
theorem js (cnt:Nat) (bs:List PB) (m:Nat):(lv cnt bs m).length=cnt:=by simp[lv]
structure og (cnt:Nat) (bs:List PB) (f:Nat->Int) (X A F:Id) (g:Rows) (nx:Nat):Prop where
 x:g X=some ⟨true,4,[bz cnt bs A F]⟩
 a:rl A F.bm (lv cnt bs bs.length) g nx
 f:g F=some ⟨true,1,dV f bs.length⟩
 xa:X.bm<A.bm
 af:A.bm<F.bm
 fn:F.bm<nx
theorem rl.fz {A:Id} {lo cnt:Nat} {bs:List PB} {m nx n:Nat} {g:Rows} (h:rl A lo (lv cnt bs m) g nx):V.fz (dF g) (n+3) (.own A 0 cnt)=some (.sl (ql cnt bs m)):=by
 obtain⟨rows,ids,h1,h2,_,_⟩:=h
 have hl:=h2.len
 rw[js]at hl
 rw[iw]
 simp only[dF,h1,Option.map_some,if_true]
 rw[if_pos (by omega),List.drop_zero,List.take_of_length_le (by omega)]
 have:=Pe n h2
 rw[this]
 simp[lv,ql]
theorem og.fz {cnt:Nat} {bs:List PB} {f:Nat->Int} {X A F:Id} {g:Rows} {nx:Nat} (h:og cnt bs f X A F g nx):V.fz (dF g) 6 (.ptr X 0 0)=some (.dm (fX cnt bs f)):=by
 have hF:dF g F=some ⟨true,1,dV f bs.length⟩:=by simp[dF,h.f]
 have hX:dF g X=some ⟨true,4,[bz cnt bs A F]⟩:=by simp[dF,h.x]
 have hf:V.fz (dF g) 5 (.own F 0 bs.length)=some (.sl (dV f bs.length)):=by
  rw[iw]
  simp only[hF,if_true]
  rw[if_pos (by rw[dB];omega),List.drop_zero,List.take_of_length_le (by rw[dB];omega),Al];rfl
 have ha:=h.a.fz (n:=2)
 rw[aV]
 simp only[hX,if_true,List.getElem?_cons_zero,List.drop_zero,bz,ai,ao,aG,bW,ha,hf,Option.map_some,fX]
theorem GI (cnt:Nat) (bs:List PB):lv cnt bs 0=List.replicate cnt []:=by
 refine List.ext_getElem? fun i=>?_
 simp only[lv,List.getElem?_map,List.getElem?_replicate]
 by_cases h:i<cnt
 ·rw[List.getElem?_range h,if_pos h];rfl
 ·rw[List.getElem?_eq_none (by simpa using h),if_neg h];rfl
theorem yR (g:Rows):∀n:Nat,eE PZ g (List.replicate n [.bV]) (List.replicate n []) []
 |0=>.nil
 |n+1=>.cons (i1:=[]) (.inl ⟨rfl,rfl,rfl⟩) (yR g n)
def xH (cnt:Nat) (bs:List PB) (m:Nat):List (List Nat):=(lv cnt bs m).set (cq bs m).a (ja bs m (cq bs m).a++[m])
theorem BP {cnt:Nat} {bs:List PB} {m v:Nat} (hv:v<cnt) (gY:(cq bs m).a≠v):(xH cnt bs m)[v]? =some (ja bs m v):=by
 unfold xH
 rw[List.getElem?_set_ne gY]
 simp[lv,hv]
theorem GH {cnt:Nat} {bs:List PB} {m:Nat} (ha:(cq bs m).a<cnt) (hb:(cq bs m).b<cnt) (gY:(cq bs m).a≠(cq bs m).b):(xH cnt bs m).set (cq bs m).b (ja bs m (cq bs m).b++[m])=lv cnt bs (m+1):=by
 refine List.ext_getElem? fun i=>?_
 by_cases hi:i<cnt
 ·have hr:(lv cnt bs (m+1))[i]? =some (ja bs (m+1) i):=by simp[lv,hi]
  rw[hr,GJ]
  by_cases h1:(cq bs m).b=i
  ·rw[List.getElem?_set,if_pos h1,if_pos (by simp[xH,js];omega),if_pos (.inr h1),h1]
  ·rw[List.getElem?_set_ne h1]
   by_cases h2:(cq bs m).a=i
   ·unfold xH
    rw[List.getElem?_set,if_pos h2,if_pos (by rw[js];omega),if_pos (.inl h2),h2]
   ·rw[BP hi h2,if_neg (fun h=>h.elim h2 h1),List.append_nil]
 ·rw[List.getElem?_eq_none (by simp[xH,js];omega),List.getElem?_eq_none (by rw[js];omega)]
theorem kO {α:Type} {l:List α} {k:Nat} {x:α} (h:l[k]? =some x) (hk:k<l.length):l[k]=x:=by
 rw[List.getElem?_eq_getElem hk]at h;exact Option.some.inj h
theorem FH {A K:Id} {lo R8 nx k j:Nat} {L:List (List Nat)} {La:List Nat} {g:Rows} {rows:List (List AV)} {ids:List Id} (hR:eE PZ g rows L ids) (lZ:ids.Nodup) (nV:∀i∈ids,lo<i.bm/\i.bm<R8) (hA:A.bm<=lo) (hL:L[k]? =some La) (hK1:R8<=K.bm) (Q1:K.bm<nx) (j5:lo<R8):
  ∃cs,rows[k]? =some cs/\((La=[]/\cs=[.bV])∨∃id:Id,cs=[.own id 0 La.length]/\0<La.length/\g id=some ⟨true,1,La.map eN⟩/\id.bm<R8/\lo<id.bm)/\
   ∀g':Rows,g' A=some ⟨true,1,rows.set k [.own K 0 (La.length+1)]⟩->g' K=some ⟨true,1,La.map eN++[[.int .i64 j]]⟩->(∀i:Id,i.bm<R8->(i=A)=False->(∀id,cs=[.own id 0 La.length]->(i=id)=False)->g' i=g i)->rl A lo (L.set k (La++[j])) g' nx:=by
 have hk:k<L.length:=(List.getElem?_eq_some_iff.1 hL).1
 have Uf:=kO hL hk
 obtain⟨cs,ic,dr,Qc,Rs,rT⟩:=hR.Sc Ny lZ k hk
 rw[Uf]at Qc
 refine⟨cs,dr,?_,fun g' h1 h2 h3=>?_⟩
 ·rcases Qc with⟨h1,h2,_⟩|⟨id,h1,h2,h3,h4⟩
  ·exact .inl ⟨h1,h2⟩
  ·subst h4
   have:=nV id (Rs id (by simp))
   exact .inr ⟨id,h1,h2,h3,this.2,this.1⟩
 ·obtain⟨DX,q1,q2,q3⟩:=rT g' [.own K 0 (La.length+1)] (La++[j]) [K] (.inr ⟨K,by simp,by simp,by rw[h2];simp[eN],rfl⟩) (fun i hi Tf=>by
   refine h3 i (nV i hi).2 ?_ fun id hid=>?_
   ·simp only[eq_iff_iff,iff_false];rintro rfl;have:=nV _ hi;omega
   ·simp only[eq_iff_iff,iff_false]
    rintro rfl
    rcases Qc with⟨_,h4,_⟩|⟨kR,h4,_,_,h5⟩
    ·rw[hid]at h4;cases h4
    ·rw[hid]at h4
     simp only[List.cons.injEq,AV.own.injEq,and_true]at h4
     rw[h5,h4]at Tf
     exact Tf (by simp)) (by simp) fun i hi hc=>by
   rw[List.mem_singleton.1 hi]at hc;have:=nV _ hc;omega
  refine⟨_,DX,h1,q1,q2,fun i hi=>?_⟩
  rcases q3 i hi with h|h
  ·rw[List.mem_singleton.1 h];omega
  ·have:=nV i h;omega
theorem MS {P:Program} {Q:Ex->Env->ar->Prop} {c:VC} {env:Env} {σ:ar} (I:Env->ar->Prop) (h2:∀e s,I e s->Q .normal e s) (h1:∀N':Env->ar->Prop,(∀e s,I e s->N' e s)->ek (Call P) c (du N' Q) env σ):ek (Call P) c Q env σ:=by
 refine lk (fun _ _ _ _ h=>h) aI c _ _ env σ (fun x e s h=>?_) (h1 I fun _ _ h=>h)
 cases x with
 |normal=>exact h2 e s h
 |exit id=>exact h
 |ret=>exact h
end Go.Proofs.YtgoelphibofcmaaGreat.V

namespace Go.Proofs.YtgoelphibofcmaaGreat.V
open Go.RowKit
attribute [local irreducible] ek wpOps gq Call
attribute [local go_sem] aH fF eK ga fZ da upd ck K.av cH AV.cells AV.cell rowOf rowsOf part ld rowAt bF cj dy dW gU bG cX eh fY eU dn ea cV cU dH dI bJ aW cK bI cN cL dY eb dZ cJ bL cW dX bH aL cQ cC gT bj cF bK aT du bf dz AV.undef bw bE dM dU dE dJ cE ef ep cw ee ec cP cR List.getD_cons_zero List.getD_cons_succ List.getD_nil List.all_cons List.all_nil Bool.and_true Bool.true_and Bool.and_self Bool.not_true Bool.not_false Option.map_some Option.map_none Option.bind_some Option.bind_none List.length_cons List.length_nil List.take_succ_cons List.take_zero List.take_nil List.drop_succ_cons List.drop_zero List.drop_nil List.head?_cons List.map_cons List.map_nil List.getElem?_cons_zero List.getElem?_cons_succ List.cons_append List.nil_append List.append_nil List.length_map List.set_cons_zero List.set_cons_succ Nat.reduceMul eq_self Int.toNat_natCast Int.natCast_nonneg and_self true_and and_true decide_true decide_false Bool.false_eq_true Nat.zero_add Nat.add_zero List.contains_cons List.contains_nil Bool.or_false Bool.false_or beq_self_eq_true Nat.reduceBEq ne_eq not_true_eq_false not_false_eq_true Id.mk.injEq false_and and_false Nat.reduceLT Int.reduceLE Int.reduceLT Int.reduceToNat Int.reduceNeg Int.reduceAdd Nat.le_refl List.length_append beq_true beq_false Bool.not_eq_eq_eq_not or_false false_or dF ai ao aG aZ bt bW aP aY aQ aV cI bD
theorem Jk (cnt:Nat) (hn:cnt<=1048576) (bs:List PB) (ok:nz cnt bs) (nQ:bs.length<=1048576) (σ:ar):
  Call Tryz.prog 237 [.int .i64 cnt,.sl (bs.map aA)] σ fun r σ'=>∃X A F,r=.ptr X 0 0/\σ.next<=X.bm/\og cnt bs (fun _=>0) X A F σ'.get σ'.next:=by
 refine CR N3 rfl fun hl=>?_
 try simp only[q]
 clear hl
 have jG:(0:Int)<=(cnt:Int):=by omega
 have pS:(cnt:Int)<=((16777216:Nat):Int):=by omega
 have Dz:(0:Int)<=(bs.length:Int):=by omega
 have HJ:(bs.length:Int)<=((16777216:Nat):Int):=by omega
 have hz:List.replicate bs.length [AV.int .i64 0]=dV (fun _=>0) bs.length:=by
  refine List.ext_getElem? fun i=>?_
  by_cases h:i<bs.length
  ·rw[dO h,List.getElem?_replicate,if_pos h];rfl
  ·rw[List.getElem?_eq_none (by simp;omega),List.getElem?_eq_none (by rw[dB];omega)]
 (try((repeat(revert hN;revert N;apply Pn.out));refine wk (tw @jG (tw @pS (tw @Dz (tw @HJ (tw @Int.le_refl @hz))))) ?_;(repeat(refine Pn.mk ?_;intro N hN))))
 obtain⟨X,hX⟩:∃X:Id,X=⟨237001003,σ.next+1⟩:=⟨_,rfl⟩
 obtain⟨A,hA⟩:∃X:Id,X=⟨237002002,σ.next+1+1⟩:=⟨_,rfl⟩
 obtain⟨F,hF⟩:∃X:Id,X=⟨237003003,σ.next+1+1+1⟩:=⟨_,rfl⟩
 have hXA:X.bm<A.bm:=by rw[hX,hA];(try dsimp only);omega
 have hAF:A.bm<F.bm:=by rw[hA,hF];(try dsimp only);omega
 have hXs:σ.next<=X.bm:=by rw[hX];(try dsimp only);omega
 refine aM (fun n env st=>∃j:Nat,n=(bs.length)-j/\j<=(bs.length)/\env 6=.int .i64 (j:Int)/\env 5=(.ptr X 0 0)/\st.get X=some ⟨true,4,[bz cnt bs A F]⟩/\st.get F=some ⟨true,1,dV (fun _=>0) bs.length⟩/\(rl A F.bm (lv cnt bs j) st.get st.next/\F.bm<st.next)) (bs.length) ⟨0,by omega,by omega,by(try simp only[go_sem, ↓reduceIte,Nat.reduceEqDiff,Nat.reduceAdd,Nat.reduceSub,Nat.reduceLeDiff,reduceCtorEq,hX,hF,hA,bz,hz]);try rfl,by(try simp only[go_sem, ↓reduceIte,Nat.reduceEqDiff,Nat.reduceAdd,Nat.reduceSub,Nat.reduceLeDiff,reduceCtorEq,hX,hF,hA,bz,hz]);try rfl,by(try simp only[go_sem, ↓reduceIte,Nat.reduceEqDiff,Nat.reduceAdd,Nat.reduceSub,Nat.reduceLeDiff,reduceCtorEq,hX,hF,hA,bz,hz]);try rfl,by(try simp only[go_sem, ↓reduceIte,Nat.reduceEqDiff,Nat.reduceAdd,Nat.reduceSub,Nat.reduceLeDiff,reduceCtorEq,hX,hF,hA,bz,hz]);try rfl,⟨⟨List.replicate cnt [.bV],[],by rw[hA];(simp only[go_sem, ↓reduceIte,Nat.reduceEqDiff,Nat.reduceAdd,Nat.reduceSub,Nat.reduceLeDiff,reduceCtorEq])<;>rfl,by rw[GI];exact yR _ _,List.nodup_nil,fun i hi=>by cases hi⟩,by rw[hF];(try dsimp only);omega⟩⟩ ?_
 rintro n_a env_a st_a ⟨j,rfl,ale,a6,a5,ag0,ag1,kc⟩ di
 have a0:=di 0 (by kernel_rfl);have a1:=di 1 (by kernel_rfl)
 simp only[go_sem, ↓reduceIte,Nat.reduceEqDiff,Nat.reduceAdd,Nat.reduceSub,Nat.reduceLeDiff,reduceCtorEq,hX,hF,hA,bz,hz]at a0 a1
 clear di
 obtain⟨⟨rows,ids,ag,hR,lZ,nV⟩,hFn⟩:=kc
 have x1:=dt hXA
 have x2:=dt hAF
 have x3:=dt (a:=X) (b:=F) (by omega)
 have vX:=dx (i:=X) (n:=st_a.next) (by omega)
 have vA:=dx (i:=A) (n:=st_a.next) (by omega)
 have vF:=dx (i:=F) (n:=st_a.next) (by omega)
 by_cases hj:(j:Int)<(bs.length:Int)
 ·have cz:∀{e:Env} {gg:Rows} {nx:Nat},(e 6=.int .i64 (IntKind.i64.wrap ((j:Int)+1)))->(e 5=(.ptr X 0 0))->(gg X=some ⟨true,4,[bz cnt bs A F]⟩)->(gg F=some ⟨true,1,dV (fun _=>0) bs.length⟩)->(rl A F.bm (lv cnt bs (j+1)) gg nx/\F.bm<nx)->∃m0,m0<(bs.length)-j/\∃j:Nat,m0=(bs.length)-j/\j<=(bs.length)/\e 6=.int .i64 (j:Int)/\e 5=(.ptr X 0 0)/\gg X=some ⟨true,4,[bz cnt bs A F]⟩/\gg F=some ⟨true,1,dV (fun _=>0) bs.length⟩/\(rl A F.bm (lv cnt bs j) gg nx/\F.bm<nx):=fun x1 x2 x3 x4 x5=>⟨_,by omega,j+1,rfl,by omega,(by rw[x1,az (by omega)]),x2,x3,x4,x5⟩
  have iM:j<bs.length:=by omega
  have iF:=uz iM
  obtain⟨ha1,Q8,gY⟩:=ok j iM
  have gJ:((cq bs j).a:Int)<(cnt:Int):=by omega
  have fx:((cq bs j).b:Int)<(cnt:Int):=by omega
  have pj:=GH (m:=j) ha1 Q8 gY
  have e1:=rY bs j (cq bs j).a
  have e2:=rY bs j (cq bs j).b
  have OD:(xH cnt bs j)[(cq bs j).b]? =some (ja bs j (cq bs j).b):=BP Q8 gY
  have Ro:(lv cnt bs j)[(cq bs j).a]? =some (ja bs j (cq bs j).a):=by simp[lv,ha1]
  have TX:xH cnt bs j=(lv cnt bs j).set (cq bs j).a (ja bs j (cq bs j).a++[j]):=rfl
  have IM:(xH cnt bs j).length=cnt:=by rw[TX,List.length_set,js]
  have ji:=hR.len
  rw[js]at ji
  obtain⟨cs7,jq,IS,I7⟩:=FH (A:=A) (K:=⟨237007022,st_a.next+1⟩) (nx:=st_a.next+1+1) (j:=j) hR lZ nV (by omega) Ro (by(try dsimp only);omega) (by(try dsimp only);omega) hFn
  rw[<-TX]at I7
  obtain⟨c7,rfl⟩:∃c,cs7=[c]:=by
   rcases IS with⟨_,h⟩|⟨id,h,_⟩<;>exact⟨_,h⟩
  generalize ja bs j (cq bs j).a=La at *
  generalize ja bs j (cq bs j).b=Lb at *
  generalize cq bs j=b at *
  generalize xH cnt bs j=LA at *
  clear TX
  (try((repeat(revert hN;revert N;apply Pn.out));refine wk (tw @a6 (tw @a5 (tw @ag0 (tw @ag1 (tw @a0 (tw @a1 (tw @hj (tw @iF (tw @aA.eq_1 (tw @ag (tw @jq (tw @gJ (tw @fx (tw @ji (tw @x1 (tw @x2 (tw @x3 (tw @vX (tw @vA (tw @vF @bz.eq_1)))))))))))))))))))) ?_;(repeat(refine Pn.mk ?_;intro N hN))))
  refine ET (fun e s=>e 0=.int .i64 cnt/\e 1=.sl (bs.map aA)/\e 5=.ptr X 0 0/\e 6=.int .i64 j/\s.get X=some ⟨true,4,[bz cnt bs A F]⟩/\s.get F=some ⟨true,1,dV (fun _=>0) bs.length⟩/\rl A F.bm LA s.get s.next/\F.bm<s.next) ?_ ?_
  ·rintro e1 s1 ⟨m0,m1,m5,m6,mX,mF,⟨rows1,ids1,mg,mR,mnd,mver⟩,mn⟩
   refine hN _ _ ?_
   clear hN N
   have jj:=mR.len
   rw[IM]at jj
   have wX:=dx (i:=X) (n:=s1.next) (by omega)
   have wA:=dx (i:=A) (n:=s1.next) (by omega)
   have wF:=dx (i:=F) (n:=s1.next) (by omega)
   obtain⟨cs8,jr,IT,I8⟩:=FH (A:=A) (K:=⟨237008022,s1.next⟩) (nx:=s1.next+1) (j:=j) mR mnd mver (by omega) OD (by(try dsimp only);omega) (by(try dsimp only);omega) mn
   rw[pj]at I8
   obtain⟨c8,rfl⟩:∃c,cs8=[c]:=by
    rcases IT with⟨_,h⟩|⟨id,h,_⟩<;>exact⟨_,h⟩
   (try((repeat(revert hN;revert N;apply Pn.out));refine wk (tw @m0 (tw @m1 (tw @m5 (tw @m6 (tw @mX (tw @mF (tw @hj (tw @iF (tw @aA.eq_1 (tw @mg (tw @jr (tw @gJ (tw @fx (tw @jj (tw @x1 (tw @x2 (tw @x3 (tw @wX (tw @wA (tw @wF @bz.eq_1)))))))))))))))))))) ?_;(repeat(refine Pn.mk ?_;intro N hN))))
   refine MS (fun e s=>e 0=.int .i64 cnt/\e 1=.sl (bs.map aA)/\e 5=.ptr X 0 0/\e 6=.int .i64 j/\s.get X=some ⟨true,4,[bz cnt bs A F]⟩/\s.get F=some ⟨true,1,dV (fun _=>0) bs.length⟩/\rl A F.bm (lv cnt bs (j+1)) s.get s.next/\F.bm<s.next) ?_ ?_
   ·rintro e2 s2 ⟨p0,p1,p5,p6,pX,pF,pL,pn⟩
    simp only[du,bf]
    refine hN _ _ ?_
    clear hN N
    (try((repeat(revert hN;revert N;apply Pn.out));refine wk (tw @p0 (tw @p1 (tw @p5 @p6))) ?_;(repeat(refine Pn.mk ?_;intro N hN))))
    refine cz ?_ ?_ ?_ ?_ (⟨by obtain⟨r,i,q1,q2,q3,q4⟩:=pL;exact⟨r,i,sd @q1,q2,q3,fun x hx=>by have:=q4 x hx;(try dsimp only);omega⟩,by(try dsimp only);omega⟩)
    all_goals simp only[go_sem, ↓reduceIte,Nat.reduceEqDiff,Nat.reduceAdd,Nat.reduceSub,Nat.reduceLeDiff,reduceCtorEq,p0,p1,p5,p6,pX,pF]
   ·intro N hN
    rcases IT with⟨Q2,zz⟩|⟨id,zz,hLp,hid,Lu,yk⟩
    ·simp only[List.cons.injEq,and_true]at zz
     subst zz
     subst Q2
     refine e8 ?_ ?_<;>(try((repeat(revert hN;revert N;apply Pn.out));refine wk (tw @m0 (tw @m1 (tw @m5 (tw @m6 (tw @mX (tw @mF (tw @hj (tw @iF (tw @aA.eq_1 (tw @mg (tw @jr (tw @gJ (tw @fx (tw @jj (tw @x1 (tw @x2 (tw @x3 (tw @wX (tw @wA (tw @wF @bz.eq_1)))))))))))))))))))) ?_;(repeat(refine Pn.mk ?_;intro N hN))))<;>(try refine e8 ?_ ?_)<;>(try((repeat(revert hN;revert N;apply Pn.out));refine wk (tw @m0 (tw @m1 (tw @m5 (tw @m6 (tw @mX (tw @mF (tw @hj (tw @iF (tw @aA.eq_1 (tw @mg (tw @jr (tw @gJ (tw @fx (tw @jj (tw @x1 (tw @x2 (tw @x3 (tw @wX (tw @wA (tw @wF @bz.eq_1)))))))))))))))))))) ?_;(repeat(refine Pn.mk ?_;intro N hN))))<;>(try refine e8 ?_ ?_)<;>(try((repeat(revert hN;revert N;apply Pn.out));refine wk (tw @m0 (tw @m1 (tw @m5 (tw @m6 (tw @mX (tw @mF (tw @hj (tw @iF (tw @aA.eq_1 (tw @mg (tw @jr (tw @gJ (tw @fx (tw @jj (tw @x1 (tw @x2 (tw @x3 (tw @wX (tw @wA (tw @wF @bz.eq_1)))))))))))))))))))) ?_;(repeat(refine Pn.mk ?_;intro N hN))))<;>(try refine e8 ?_ ?_)<;>(try((repeat(revert hN;revert N;apply Pn.out));refine wk (tw @m0 (tw @m1 (tw @m5 (tw @m6 (tw @mX (tw @mF (tw @hj (tw @iF (tw @aA.eq_1 (tw @mg (tw @jr (tw @gJ (tw @fx (tw @jj (tw @x1 (tw @x2 (tw @x3 (tw @wX (tw @wA (tw @wF @bz.eq_1)))))))))))))))))))) ?_;(repeat(refine Pn.mk ?_;intro N hN))))<;>(try refine e8 ?_ ?_)<;>(try((repeat(revert hN;revert N;apply Pn.out));refine wk (tw @m0 (tw @m1 (tw @m5 (tw @m6 (tw @mX (tw @mF (tw @hj (tw @iF (tw @aA.eq_1 (tw @mg (tw @jr (tw @gJ (tw @fx (tw @jj (tw @x1 (tw @x2 (tw @x3 (tw @wX (tw @wA (tw @wF @bz.eq_1)))))))))))))))))))) ?_;(repeat(refine Pn.mk ?_;intro N hN))))<;>(try refine e8 ?_ ?_)<;>(try((repeat(revert hN;revert N;apply Pn.out));refine wk (tw @m0 (tw @m1 (tw @m5 (tw @m6 (tw @mX (tw @mF (tw @hj (tw @iF (tw @aA.eq_1 (tw @mg (tw @jr (tw @gJ (tw @fx (tw @jj (tw @x1 (tw @x2 (tw @x3 (tw @wX (tw @wA (tw @wF @bz.eq_1)))))))))))))))))))) ?_;(repeat(refine Pn.mk ?_;intro N hN))))
     all_goals
      refine⟨by simp only[go_sem, ↓reduceIte,Nat.reduceEqDiff,Nat.reduceAdd,Nat.reduceSub,Nat.reduceLeDiff,reduceCtorEq,m0,m1,m5,m6,mX,mF,hj,iF,aA,mg,jr,gJ,fx,jj,x1,x2,x3,wX,wA,wF,bz],by simp only[go_sem, ↓reduceIte,Nat.reduceEqDiff,Nat.reduceAdd,Nat.reduceSub,Nat.reduceLeDiff,reduceCtorEq,m0,m1,m5,m6,mX,mF,hj,iF,aA,mg,jr,gJ,fx,jj,x1,x2,x3,wX,wA,wF,bz],by simp only[go_sem, ↓reduceIte,Nat.reduceEqDiff,Nat.reduceAdd,Nat.reduceSub,Nat.reduceLeDiff,reduceCtorEq,m0,m1,m5,m6,mX,mF,hj,iF,aA,mg,jr,gJ,fx,jj,x1,x2,x3,wX,wA,wF,bz],by simp only[go_sem, ↓reduceIte,Nat.reduceEqDiff,Nat.reduceAdd,Nat.reduceSub,Nat.reduceLeDiff,reduceCtorEq,m0,m1,m5,m6,mX,mF,hj,iF,aA,mg,jr,gJ,fx,jj,x1,x2,x3,wX,wA,wF,bz],by simp only[go_sem, ↓reduceIte,Nat.reduceEqDiff,Nat.reduceAdd,Nat.reduceSub,Nat.reduceLeDiff,reduceCtorEq,m0,m1,m5,m6,mX,mF,hj,iF,aA,mg,jr,gJ,fx,jj,x1,x2,x3,wX,wA,wF,bz],by simp only[go_sem, ↓reduceIte,Nat.reduceEqDiff,Nat.reduceAdd,Nat.reduceSub,Nat.reduceLeDiff,reduceCtorEq,m0,m1,m5,m6,mX,mF,hj,iF,aA,mg,jr,gJ,fx,jj,x1,x2,x3,wX,wA,wF,bz],I8 _ (by simp only[go_sem, ↓reduceIte,Nat.reduceEqDiff,Nat.reduceAdd,Nat.reduceSub,Nat.reduceLeDiff,reduceCtorEq,m0,m1,m5,m6,mX,mF,hj,iF,aA,mg,jr,gJ,fx,jj,x1,x2,x3,wX,wA,wF,bz,List.length_nil]) (by simp only[go_sem, ↓reduceIte,Nat.reduceEqDiff,Nat.reduceAdd,Nat.reduceSub,Nat.reduceLeDiff,reduceCtorEq,m0,m1,m5,m6,mX,mF,hj,iF,aA,mg,jr,gJ,fx,jj,x1,x2,x3,wX,wA,wF,bz,List.map_nil,List.nil_append]) (fun i hi OG fU=>?_),by(try dsimp only);omega⟩
      clear fU
      simp only[go_sem, ↓reduceIte,Nat.reduceEqDiff,Nat.reduceAdd,Nat.reduceSub,Nat.reduceLeDiff,reduceCtorEq,wX,wA,wF,dx hi,OG]
    ·simp only[List.cons.injEq,and_true]at zz
     subst zz
     have sC:=dx Lu
     have y1:=dt (a:=A) (b:=id) (by omega)
     have y2:=dt (a:=F) (b:=id) yk
     have y3:=dt (a:=X) (b:=id) (by omega)
     have e3:Lb.length+1<=16777216:=by omega
     have z1:(Lb.map eN).length=Lb.length:=by simp
     refine e8 ?_ ?_<;>(try((repeat(revert hN;revert N;apply Pn.out));refine wk (tw @m0 (tw @m1 (tw @m5 (tw @m6 (tw @mX (tw @mF (tw @hj (tw @iF (tw @aA.eq_1 (tw @mg (tw @jr (tw @gJ (tw @fx (tw @jj (tw @x1 (tw @x2 (tw @x3 (tw @wX (tw @wA (tw @wF (tw @bz.eq_1 (tw @hid (tw @sC (tw @y1 (tw @y2 (tw @y3 (tw @e3 @z1))))))))))))))))))))))))))) ?_;(repeat(refine Pn.mk ?_;intro N hN))))<;>(try refine e8 ?_ ?_)<;>(try((repeat(revert hN;revert N;apply Pn.out));refine wk (tw @m0 (tw @m1 (tw @m5 (tw @m6 (tw @mX (tw @mF (tw @hj (tw @iF (tw @aA.eq_1 (tw @mg (tw @jr (tw @gJ (tw @fx (tw @jj (tw @x1 (tw @x2 (tw @x3 (tw @wX (tw @wA (tw @wF (tw @bz.eq_1 (tw @hid (tw @sC (tw @y1 (tw @y2 (tw @y3 (tw @e3 @z1))))))))))))))))))))))))))) ?_;(repeat(refine Pn.mk ?_;intro N hN))))<;>(try refine e8 ?_ ?_)<;>(try((repeat(revert hN;revert N;apply Pn.out));refine wk (tw @m0 (tw @m1 (tw @m5 (tw @m6 (tw @mX (tw @mF (tw @hj (tw @iF (tw @aA.eq_1 (tw @mg (tw @jr (tw @gJ (tw @fx (tw @jj (tw @x1 (tw @x2 (tw @x3 (tw @wX (tw @wA (tw @wF (tw @bz.eq_1 (tw @hid (tw @sC (tw @y1 (tw @y2 (tw @y3 (tw @e3 @z1))))))))))))))))))))))))))) ?_;(repeat(refine Pn.mk ?_;intro N hN))))<;>(try refine e8 ?_ ?_)<;>(try((repeat(revert hN;revert N;apply Pn.out));refine wk (tw @m0 (tw @m1 (tw @m5 (tw @m6 (tw @mX (tw @mF (tw @hj (tw @iF (tw @aA.eq_1 (tw @mg (tw @jr (tw @gJ (tw @fx (tw @jj (tw @x1 (tw @x2 (tw @x3 (tw @wX (tw @wA (tw @wF (tw @bz.eq_1 (tw @hid (tw @sC (tw @y1 (tw @y2 (tw @y3 (tw @e3 @z1))))))))))))))))))))))))))) ?_;(repeat(refine Pn.mk ?_;intro N hN))))<;>(try refine e8 ?_ ?_)<;>(try((repeat(revert hN;revert N;apply Pn.out));refine wk (tw @m0 (tw @m1 (tw @m5 (tw @m6 (tw @mX (tw @mF (tw @hj (tw @iF (tw @aA.eq_1 (tw @mg (tw @jr (tw @gJ (tw @fx (tw @jj (tw @x1 (tw @x2 (tw @x3 (tw @wX (tw @wA (tw @wF (tw @bz.eq_1 (tw @hid (tw @sC (tw @y1 (tw @y2 (tw @y3 (tw @e3 @z1))))))))))))))))))))))))))) ?_;(repeat(refine Pn.mk ?_;intro N hN))))<;>(try refine e8 ?_ ?_)<;>(try((repeat(revert hN;revert N;apply Pn.out));refine wk (tw @m0 (tw @m1 (tw @m5 (tw @m6 (tw @mX (tw @mF (tw @hj (tw @iF (tw @aA.eq_1 (tw @mg (tw @jr (tw @gJ (tw @fx (tw @jj (tw @x1 (tw @x2 (tw @x3 (tw @wX (tw @wA (tw @wF (tw @bz.eq_1 (tw @hid (tw @sC (tw @y1 (tw @y2 (tw @y3 (tw @e3 @z1))))))))))))))))))))))))))) ?_;(repeat(refine Pn.mk ?_;intro N hN))))
     all_goals
      refine⟨by simp only[go_sem, ↓reduceIte,Nat.reduceEqDiff,Nat.reduceAdd,Nat.reduceSub,Nat.reduceLeDiff,reduceCtorEq,m0,m1,m5,m6,mX,mF,hj,iF,aA,mg,jr,gJ,fx,jj,x1,x2,x3,wX,wA,wF,bz,hid,sC,y1,y2,y3,e3,z1],by simp only[go_sem, ↓reduceIte,Nat.reduceEqDiff,Nat.reduceAdd,Nat.reduceSub,Nat.reduceLeDiff,reduceCtorEq,m0,m1,m5,m6,mX,mF,hj,iF,aA,mg,jr,gJ,fx,jj,x1,x2,x3,wX,wA,wF,bz,hid,sC,y1,y2,y3,e3,z1],by simp only[go_sem, ↓reduceIte,Nat.reduceEqDiff,Nat.reduceAdd,Nat.reduceSub,Nat.reduceLeDiff,reduceCtorEq,m0,m1,m5,m6,mX,mF,hj,iF,aA,mg,jr,gJ,fx,jj,x1,x2,x3,wX,wA,wF,bz,hid,sC,y1,y2,y3,e3,z1],by simp only[go_sem, ↓reduceIte,Nat.reduceEqDiff,Nat.reduceAdd,Nat.reduceSub,Nat.reduceLeDiff,reduceCtorEq,m0,m1,m5,m6,mX,mF,hj,iF,aA,mg,jr,gJ,fx,jj,x1,x2,x3,wX,wA,wF,bz,hid,sC,y1,y2,y3,e3,z1],by simp only[go_sem, ↓reduceIte,Nat.reduceEqDiff,Nat.reduceAdd,Nat.reduceSub,Nat.reduceLeDiff,reduceCtorEq,m0,m1,m5,m6,mX,mF,hj,iF,aA,mg,jr,gJ,fx,jj,x1,x2,x3,wX,wA,wF,bz,hid,sC,y1,y2,y3,e3,z1],by simp only[go_sem, ↓reduceIte,Nat.reduceEqDiff,Nat.reduceAdd,Nat.reduceSub,Nat.reduceLeDiff,reduceCtorEq,m0,m1,m5,m6,mX,mF,hj,iF,aA,mg,jr,gJ,fx,jj,x1,x2,x3,wX,wA,wF,bz,hid,sC,y1,y2,y3,e3,z1],I8 _ (by simp only[go_sem, ↓reduceIte,Nat.reduceEqDiff,Nat.reduceAdd,Nat.reduceSub,Nat.reduceLeDiff,reduceCtorEq,m0,m1,m5,m6,mX,mF,hj,iF,aA,mg,jr,gJ,fx,jj,x1,x2,x3,wX,wA,wF,bz,hid,sC,y1,y2,y3,e3,z1,List.length_nil]) (by simp only[go_sem, ↓reduceIte,Nat.reduceEqDiff,Nat.reduceAdd,Nat.reduceSub,Nat.reduceLeDiff,reduceCtorEq,m0,m1,m5,m6,mX,mF,hj,iF,aA,mg,jr,gJ,fx,jj,x1,x2,x3,wX,wA,wF,bz,hid,sC,y1,y2,y3,e3,z1,List.map_nil,List.nil_append]) (fun i hi OG fU=>?_),by(try dsimp only);omega⟩
      have gY:=fU id rfl
      simp only[go_sem, ↓reduceIte,Nat.reduceEqDiff,Nat.reduceAdd,Nat.reduceSub,Nat.reduceLeDiff,reduceCtorEq,wX,wA,wF,dx hi,OG,gY]
  ·intro N hN
   rcases IS with⟨Q2,zz⟩|⟨id,zz,hLp,hid,Lu,yk⟩
   ·simp only[List.cons.injEq,and_true]at zz
    subst zz
    subst Q2
    refine e8 ?_ ?_<;>(try((repeat(revert hN;revert N;apply Pn.out));refine wk (tw @a6 (tw @a5 (tw @ag0 (tw @ag1 (tw @a0 (tw @a1 (tw @hj (tw @iF (tw @aA.eq_1 (tw @ag (tw @jq (tw @gJ (tw @fx (tw @ji (tw @x1 (tw @x2 (tw @x3 (tw @vX (tw @vA (tw @vF @bz.eq_1)))))))))))))))))))) ?_;(repeat(refine Pn.mk ?_;intro N hN))))<;>(try refine e8 ?_ ?_)<;>(try((repeat(revert hN;revert N;apply Pn.out));refine wk (tw @a6 (tw @a5 (tw @ag0 (tw @ag1 (tw @a0 (tw @a1 (tw @hj (tw @iF (tw @aA.eq_1 (tw @ag (tw @jq (tw @gJ (tw @fx (tw @ji (tw @x1 (tw @x2 (tw @x3 (tw @vX (tw @vA (tw @vF @bz.eq_1)))))))))))))))))))) ?_;(repeat(refine Pn.mk ?_;intro N hN))))<;>(try refine e8 ?_ ?_)<;>(try((repeat(revert hN;revert N;apply Pn.out));refine wk (tw @a6 (tw @a5 (tw @ag0 (tw @ag1 (tw @a0 (tw @a1 (tw @hj (tw @iF (tw @aA.eq_1 (tw @ag (tw @jq (tw @gJ (tw @fx (tw @ji (tw @x1 (tw @x2 (tw @x3 (tw @vX (tw @vA (tw @vF @bz.eq_1)))))))))))))))))))) ?_;(repeat(refine Pn.mk ?_;intro N hN))))<;>(try refine e8 ?_ ?_)<;>(try((repeat(revert hN;revert N;apply Pn.out));refine wk (tw @a6 (tw @a5 (tw @ag0 (tw @ag1 (tw @a0 (tw @a1 (tw @hj (tw @iF (tw @aA.eq_1 (tw @ag (tw @jq (tw @gJ (tw @fx (tw @ji (tw @x1 (tw @x2 (tw @x3 (tw @vX (tw @vA (tw @vF @bz.eq_1)))))))))))))))))))) ?_;(repeat(refine Pn.mk ?_;intro N hN))))<;>(try refine e8 ?_ ?_)<;>(try((repeat(revert hN;revert N;apply Pn.out));refine wk (tw @a6 (tw @a5 (tw @ag0 (tw @ag1 (tw @a0 (tw @a1 (tw @hj (tw @iF (tw @aA.eq_1 (tw @ag (tw @jq (tw @gJ (tw @fx (tw @ji (tw @x1 (tw @x2 (tw @x3 (tw @vX (tw @vA (tw @vF @bz.eq_1)))))))))))))))))))) ?_;(repeat(refine Pn.mk ?_;intro N hN))))<;>(try refine e8 ?_ ?_)<;>(try((repeat(revert hN;revert N;apply Pn.out));refine wk (tw @a6 (tw @a5 (tw @ag0 (tw @ag1 (tw @a0 (tw @a1 (tw @hj (tw @iF (tw @aA.eq_1 (tw @ag (tw @jq (tw @gJ (tw @fx (tw @ji (tw @x1 (tw @x2 (tw @x3 (tw @vX (tw @vA (tw @vF @bz.eq_1)))))))))))))))))))) ?_;(repeat(refine Pn.mk ?_;intro N hN))))
    all_goals
     refine⟨by simp only[go_sem, ↓reduceIte,Nat.reduceEqDiff,Nat.reduceAdd,Nat.reduceSub,Nat.reduceLeDiff,reduceCtorEq,a6,a5,ag0,ag1,a0,a1,hj,iF,aA,ag,jq,gJ,fx,ji,x1,x2,x3,vX,vA,vF,bz],by simp only[go_sem, ↓reduceIte,Nat.reduceEqDiff,Nat.reduceAdd,Nat.reduceSub,Nat.reduceLeDiff,reduceCtorEq,a6,a5,ag0,ag1,a0,a1,hj,iF,aA,ag,jq,gJ,fx,ji,x1,x2,x3,vX,vA,vF,bz],by simp only[go_sem, ↓reduceIte,Nat.reduceEqDiff,Nat.reduceAdd,Nat.reduceSub,Nat.reduceLeDiff,reduceCtorEq,a6,a5,ag0,ag1,a0,a1,hj,iF,aA,ag,jq,gJ,fx,ji,x1,x2,x3,vX,vA,vF,bz],by simp only[go_sem, ↓reduceIte,Nat.reduceEqDiff,Nat.reduceAdd,Nat.reduceSub,Nat.reduceLeDiff,reduceCtorEq,a6,a5,ag0,ag1,a0,a1,hj,iF,aA,ag,jq,gJ,fx,ji,x1,x2,x3,vX,vA,vF,bz],by simp only[go_sem, ↓reduceIte,Nat.reduceEqDiff,Nat.reduceAdd,Nat.reduceSub,Nat.reduceLeDiff,reduceCtorEq,a6,a5,ag0,ag1,a0,a1,hj,iF,aA,ag,jq,gJ,fx,ji,x1,x2,x3,vX,vA,vF,bz],by simp only[go_sem, ↓reduceIte,Nat.reduceEqDiff,Nat.reduceAdd,Nat.reduceSub,Nat.reduceLeDiff,reduceCtorEq,a6,a5,ag0,ag1,a0,a1,hj,iF,aA,ag,jq,gJ,fx,ji,x1,x2,x3,vX,vA,vF,bz],I7 _ (by simp only[go_sem, ↓reduceIte,Nat.reduceEqDiff,Nat.reduceAdd,Nat.reduceSub,Nat.reduceLeDiff,reduceCtorEq,a6,a5,ag0,ag1,a0,a1,hj,iF,aA,ag,jq,gJ,fx,ji,x1,x2,x3,vX,vA,vF,bz,List.length_nil]) (by simp only[go_sem, ↓reduceIte,Nat.reduceEqDiff,Nat.reduceAdd,Nat.reduceSub,Nat.reduceLeDiff,reduceCtorEq,a6,a5,ag0,ag1,a0,a1,hj,iF,aA,ag,jq,gJ,fx,ji,x1,x2,x3,vX,vA,vF,bz,List.map_nil,List.nil_append]) (fun i hi OG fU=>?_),by(try dsimp only);omega⟩
     clear fU
     simp only[go_sem, ↓reduceIte,Nat.reduceEqDiff,Nat.reduceAdd,Nat.reduceSub,Nat.reduceLeDiff,reduceCtorEq,vX,vA,vF,dx hi,OG]
   ·simp only[List.cons.injEq,and_true]at zz
    subst zz
    have sC:=dx Lu
    have y1:=dt (a:=A) (b:=id) (by omega)
    have y2:=dt (a:=F) (b:=id) yk
    have y3:=dt (a:=X) (b:=id) (by omega)
    have e3:La.length+1<=16777216:=by omega
    have z1:(La.map eN).length=La.length:=by simp
    refine e8 ?_ ?_<;>(try((repeat(revert hN;revert N;apply Pn.out));refine wk (tw @a6 (tw @a5 (tw @ag0 (tw @ag1 (tw @a0 (tw @a1 (tw @hj (tw @iF (tw @aA.eq_1 (tw @ag (tw @jq (tw @gJ (tw @fx (tw @ji (tw @x1 (tw @x2 (tw @x3 (tw @vX (tw @vA (tw @vF (tw @bz.eq_1 (tw @hid (tw @sC (tw @y1 (tw @y2 (tw @y3 (tw @e3 @z1))))))))))))))))))))))))))) ?_;(repeat(refine Pn.mk ?_;intro N hN))))<;>(try refine e8 ?_ ?_)<;>(try((repeat(revert hN;revert N;apply Pn.out));refine wk (tw @a6 (tw @a5 (tw @ag0 (tw @ag1 (tw @a0 (tw @a1 (tw @hj (tw @iF (tw @aA.eq_1 (tw @ag (tw @jq (tw @gJ (tw @fx (tw @ji (tw @x1 (tw @x2 (tw @x3 (tw @vX (tw @vA (tw @vF (tw @bz.eq_1 (tw @hid (tw @sC (tw @y1 (tw @y2 (tw @y3 (tw @e3 @z1))))))))))))))))))))))))))) ?_;(repeat(refine Pn.mk ?_;intro N hN))))<;>(try refine e8 ?_ ?_)<;>(try((repeat(revert hN;revert N;apply Pn.out));refine wk (tw @a6 (tw @a5 (tw @ag0 (tw @ag1 (tw @a0 (tw @a1 (tw @hj (tw @iF (tw @aA.eq_1 (tw @ag (tw @jq (tw @gJ (tw @fx (tw @ji (tw @x1 (tw @x2 (tw @x3 (tw @vX (tw @vA (tw @vF (tw @bz.eq_1 (tw @hid (tw @sC (tw @y1 (tw @y2 (tw @y3 (tw @e3 @z1))))))))))))))))))))))))))) ?_;(repeat(refine Pn.mk ?_;intro N hN))))<;>(try refine e8 ?_ ?_)<;>(try((repeat(revert hN;revert N;apply Pn.out));refine wk (tw @a6 (tw @a5 (tw @ag0 (tw @ag1 (tw @a0 (tw @a1 (tw @hj (tw @iF (tw @aA.eq_1 (tw @ag (tw @jq (tw @gJ (tw @fx (tw @ji (tw @x1 (tw @x2 (tw @x3 (tw @vX (tw @vA (tw @vF (tw @bz.eq_1 (tw @hid (tw @sC (tw @y1 (tw @y2 (tw @y3 (tw @e3 @z1))))))))))))))))))))))))))) ?_;(repeat(refine Pn.mk ?_;intro N hN))))<;>(try refine e8 ?_ ?_)<;>(try((repeat(revert hN;revert N;apply Pn.out));refine wk (tw @a6 (tw @a5 (tw @ag0 (tw @ag1 (tw @a0 (tw @a1 (tw @hj (tw @iF (tw @aA.eq_1 (tw @ag (tw @jq (tw @gJ (tw @fx (tw @ji (tw @x1 (tw @x2 (tw @x3 (tw @vX (tw @vA (tw @vF (tw @bz.eq_1 (tw @hid (tw @sC (tw @y1 (tw @y2 (tw @y3 (tw @e3 @z1))))))))))))))))))))))))))) ?_;(repeat(refine Pn.mk ?_;intro N hN))))<;>(try refine e8 ?_ ?_)<;>(try((repeat(revert hN;revert N;apply Pn.out));refine wk (tw @a6 (tw @a5 (tw @ag0 (tw @ag1 (tw @a0 (tw @a1 (tw @hj (tw @iF (tw @aA.eq_1 (tw @ag (tw @jq (tw @gJ (tw @fx (tw @ji (tw @x1 (tw @x2 (tw @x3 (tw @vX (tw @vA (tw @vF (tw @bz.eq_1 (tw @hid (tw @sC (tw @y1 (tw @y2 (tw @y3 (tw @e3 @z1))))))))))))))))))))))))))) ?_;(repeat(refine Pn.mk ?_;intro N hN))))
    all_goals
     refine⟨by simp only[go_sem, ↓reduceIte,Nat.reduceEqDiff,Nat.reduceAdd,Nat.reduceSub,Nat.reduceLeDiff,reduceCtorEq,a6,a5,ag0,ag1,a0,a1,hj,iF,aA,ag,jq,gJ,fx,ji,x1,x2,x3,vX,vA,vF,bz,hid,sC,y1,y2,y3,e3,z1],by simp only[go_sem, ↓reduceIte,Nat.reduceEqDiff,Nat.reduceAdd,Nat.reduceSub,Nat.reduceLeDiff,reduceCtorEq,a6,a5,ag0,ag1,a0,a1,hj,iF,aA,ag,jq,gJ,fx,ji,x1,x2,x3,vX,vA,vF,bz,hid,sC,y1,y2,y3,e3,z1],by simp only[go_sem, ↓reduceIte,Nat.reduceEqDiff,Nat.reduceAdd,Nat.reduceSub,Nat.reduceLeDiff,reduceCtorEq,a6,a5,ag0,ag1,a0,a1,hj,iF,aA,ag,jq,gJ,fx,ji,x1,x2,x3,vX,vA,vF,bz,hid,sC,y1,y2,y3,e3,z1],by simp only[go_sem, ↓reduceIte,Nat.reduceEqDiff,Nat.reduceAdd,Nat.reduceSub,Nat.reduceLeDiff,reduceCtorEq,a6,a5,ag0,ag1,a0,a1,hj,iF,aA,ag,jq,gJ,fx,ji,x1,x2,x3,vX,vA,vF,bz,hid,sC,y1,y2,y3,e3,z1],by simp only[go_sem, ↓reduceIte,Nat.reduceEqDiff,Nat.reduceAdd,Nat.reduceSub,Nat.reduceLeDiff,reduceCtorEq,a6,a5,ag0,ag1,a0,a1,hj,iF,aA,ag,jq,gJ,fx,ji,x1,x2,x3,vX,vA,vF,bz,hid,sC,y1,y2,y3,e3,z1],by simp only[go_sem, ↓reduceIte,Nat.reduceEqDiff,Nat.reduceAdd,Nat.reduceSub,Nat.reduceLeDiff,reduceCtorEq,a6,a5,ag0,ag1,a0,a1,hj,iF,aA,ag,jq,gJ,fx,ji,x1,x2,x3,vX,vA,vF,bz,hid,sC,y1,y2,y3,e3,z1],I7 _ (by simp only[go_sem, ↓reduceIte,Nat.reduceEqDiff,Nat.reduceAdd,Nat.reduceSub,Nat.reduceLeDiff,reduceCtorEq,a6,a5,ag0,ag1,a0,a1,hj,iF,aA,ag,jq,gJ,fx,ji,x1,x2,x3,vX,vA,vF,bz,hid,sC,y1,y2,y3,e3,z1,List.length_nil]) (by simp only[go_sem, ↓reduceIte,Nat.reduceEqDiff,Nat.reduceAdd,Nat.reduceSub,Nat.reduceLeDiff,reduceCtorEq,a6,a5,ag0,ag1,a0,a1,hj,iF,aA,ag,jq,gJ,fx,ji,x1,x2,x3,vX,vA,vF,bz,hid,sC,y1,y2,y3,e3,z1,List.map_nil,List.nil_append]) (fun i hi OG fU=>?_),by(try dsimp only);omega⟩
     have gY:=fU id rfl
     simp only[go_sem, ↓reduceIte,Nat.reduceEqDiff,Nat.reduceAdd,Nat.reduceSub,Nat.reduceLeDiff,reduceCtorEq,vX,vA,vF,dx hi,OG,gY]
 ·have gN:j=bs.length:=by omega
  subst gN
  (try((repeat(revert hN;revert N;apply Pn.out));refine wk (tw @a6 (tw @a5 (tw @ag0 (tw @ag1 (tw @a0 (tw @a1 @hj)))))) ?_;(repeat(refine Pn.mk ?_;intro N hN))))
  exact fb (.inl rfl) (by simp only[fq,iu,go_sem, ↓reduceIte,Nat.reduceEqDiff,Nat.reduceAdd,Nat.reduceSub,Nat.reduceLeDiff,reduceCtorEq];rfl) ⟨X,A,F,rfl,hXs,⟨ag0,⟨rows,ids,ag,hR,lZ,fun x hx=>by have:=nV x hx;(try dsimp only);omega⟩,ag1,hXA,hAF,by(try dsimp only);omega⟩⟩
theorem rl.frame {A:Id} {lo nx uM:Nat} {L:List (List Nat)} {g g':Rows} (h:rl A lo L g nx) (hA:A.bm<nx) (hf:∀i:Id,i.bm<nx->lo<i.bm∨i=A->g' i=g i) (hn:nx<=uM):rl A lo L g' uM:=by
 obtain⟨rows,ids,h1,h2,h3,h4⟩:=h
 refine⟨rows,ids,(hf A hA (.inr rfl)).trans h1,h2.frame Ny fun i hi=>hf i (h4 i hi).2 (.inl (h4 i hi).1),h3,fun i hi=>?_⟩
 have:=h4 i hi;omega
theorem og.frame {cnt:Nat} {bs:List PB} {f:Nat->Int} {X A F:Id} {g g':Rows} {nx uM:Nat} (h:og cnt bs f X A F g nx) (hf:∀i:Id,i.bm<nx->g' i=g i) (hn:nx<=uM):og cnt bs f X A F g' uM:=by
 have h1:=h.xa;have h2:=h.af;have h3:=h.fn
 exact⟨(hf X (by omega)).trans h.x,h.a.frame (by omega) (fun i hi _=>hf i hi) hn,(hf F h3).trans h.f,h1,h2,by omega⟩
theorem og.QU {cnt:Nat} {bs:List PB} {f f':Nat->Int} {X A F:Id} {g g':Rows} {nx uM:Nat} (h:og cnt bs f X A F g nx) (hF:g' F=some ⟨true,1,dV f' bs.length⟩) (hf:∀i:Id,i.bm<nx->(i=F)=False->g' i=g i) (hn:nx<=uM):og cnt bs f' X A F g' uM:=by
 have h1:=h.xa;have h2:=h.af;have h3:=h.fn
 refine⟨(hf X (by omega) (dt (by omega)).1).trans h.x,h.a.frame (by omega) (fun i hi j5=>hf i hi ?_) hn,hF,h1,h2,by omega⟩
 rcases j5 with j5|rfl
 ·exact(dt j5).2
 ·exact(dt h2).1
theorem Po (cnt:Nat) (bs:List PB) (f:Nat->Int) (hs:Small bs f) (e v:Nat) (he:e<bs.length) (X A F:Id) (σ:ar) (nx:Nat) (hS:og cnt bs f X A F σ.get nx) (hn:nx<=σ.next):
  Call Tryz.prog 261 [.ptr X 0 0,.int .i64 v,.int .i64 e] σ fun r σ'=>og cnt bs (tV bs f e v) X A F σ'.get nx/\σ.next<=σ'.next/\∀i:Id,(i=F)=False->σ'.get i=σ.get i:=by
 refine eV eL rfl fun hl=>?_
 clear hl
 have hX:=hS.x
 have hF:=hS.f
 have hb:=uz he
 have UF:=dO (f:=f) he
 have tl:=dB f bs.length
 obtain⟨⟨s0,s1⟩,s2,s3⟩:=hs e he
 have hei:(e:Int)<(bs.length:Int):=by omega
 have w1:IntKind.i64.wrap (f e+1)=f e+1:=bx (by omega)
 have w2:IntKind.i64.wrap (f e-1)=f e+-1:=by rw[bx (by omega)];omega
 rw[aw]at UF
 unfold tV
 by_cases h:(cq bs e).a=v
 ·have dS:(dV f bs.length).set e (aw (f e+1))=dV (fun j=>f j+if j=e then(if (cq bs e).a=v then 1 else -1)else 0) bs.length:=lh he (by rw[if_pos rfl,if_pos h]) fun i _ hi=>by rw[if_neg hi,Int.add_zero]
  rw[aw]at dS
  generalize SX:cq bs e=b at *
  have hd:decide ((b.a:Int)=(v:Int))=true:=decide_eq_true (by rw[h])
  (try((repeat(revert hN;revert N;apply Pn.out));refine wk (tw @hX (tw @hF (tw @hb (tw @UF (tw @tl (tw @hei (tw @w1 (tw @dS (tw @hd (tw @aA.eq_1 @bz.eq_1)))))))))) ?_;(repeat(refine Pn.mk ?_;intro N hN))))
  exact fb (.inr rfl) (vs:=[]) rfl ⟨hS.QU (sd @Nat.zero_add) (fun i hi gY=>sd @gY) (Nat.le_refl _),by(try dsimp only);omega,fun i gY=>sd @gY⟩
 ·have dS:(dV f bs.length).set e (aw (f e+-1))=dV (fun j=>f j+if j=e then(if (cq bs e).a=v then 1 else -1)else 0) bs.length:=lh he (by rw[if_pos rfl,if_neg h]) fun i _ hi=>by rw[if_neg hi,Int.add_zero]
  rw[aw]at dS
  generalize SX:cq bs e=b at *
  have hd:decide ((b.a:Int)=(v:Int))=false:=decide_eq_false fun hc=>h (by omega)
  (try((repeat(revert hN;revert N;apply Pn.out));refine wk (tw @hX (tw @hF (tw @hb (tw @UF (tw @tl (tw @hei (tw @w2 (tw @dS (tw @hd (tw @aA.eq_1 @bz.eq_1)))))))))) ?_;(repeat(refine Pn.mk ?_;intro N hN))))
  exact fb (.inr rfl) (vs:=[]) rfl ⟨hS.QU (sd @Nat.zero_add) (fun i hi gY=>sd @gY) (Nat.le_refl _),by(try dsimp only);omega,fun i gY=>sd @gY⟩
structure oh (bs:List PB) (out:Nat->Int) (f f':Nat->Int) (x v:Nat):Prop where
 le:∀i,i<bs.length->f' i<=(cq bs i).s/\-(cq bs i).s<=f' i
 cut:∀S:Nat->Bool,Gf S bs f'=Gf S bs f+bi (S x)-bi (S v)
 Cg:∀e,e<bs.length->out (cq bs e).a<=out v->out (cq bs e).b<=out v->f' e=f e
section
variable {cnt:Nat} {bs:List PB} {out:Nat->Int} {f f':Nat->Int} {x v y:Nat}
theorem oh.start (h:∀i,i<bs.length->f i<=(cq bs i).s/\-(cq bs i).s<=f i):oh bs out f f x x:=⟨h,fun S=>by omega,fun _ _ _ _=>rfl⟩
theorem oh.step (h:oh bs out f f' x v) {e:Nat} (he:e<bs.length) (hi:EW bs e v) (hr:0<fK bs f' e v) (hd:out (bR bs e v)=out v-1):oh bs out f (tV bs f' e v) x (bR bs e v):=by
 refine⟨fun i nG=>?_,fun S=>?_,fun i nG ha hb=>?_⟩
 ·have h1:=h.le i nG
  unfold tV
  by_cases GA:i=e
  ·subst GA
   rw[if_pos rfl]
   unfold fK at hr
   split at hr<;>rename_i hc
   ·rw[if_pos hc];omega
   ·rw[if_neg hc];omega
  ·rw[if_neg GA];omega
 ·rw[Gg he hi,h.cut S];omega
 ·have GA:i≠e:=by
   rintro rfl
   rcases hi with hi|hi
   ·rw[hi]at ha;omega
   ·rw[hi]at hb;omega
  unfold tV
  rw[if_neg GA,Int.add_zero]
  exact h.Cg i nG (by omega) (by omega)
theorem oh.goes (h:oh bs out f f' x v) (hs:y6 cnt bs f y out) (hv:v<cnt) (h0:0<out v):∃e∈ja bs bs.length v,0<fK bs f' e v/\out (bR bs e v)=out v-1:=by
 obtain⟨e,h1,h2,h3,h4⟩:=hs.down v hv h0
 refine⟨e,rZ.2 ⟨h1,h2⟩,?_,h4⟩
 have hf:f' e=f e:=by
  refine h.Cg e h1 ?_ ?_
  ·unfold bR at h4
   split at h4
   ·rename_i ha;rw[ha];exact Int.le_refl _
   ·omega
  ·unfold bR at h4
   rcases h2 with h2|h2
   ·rw[if_pos h2]at h4;omega
   ·rw[h2];exact Int.le_refl _
 unfold fK at h3 ⊢
 rw[hf];exact h3
theorem oh.done {val:Int} (h:oh bs out f f' x y) (hf:jW bs f x y val):jW bs f' x y (val+1):=
 ⟨h.le,fun S hx hy=>by rw[h.cut S,hf.cut S hx hy,hx,hy];simp[bi]⟩
theorem EE {val:Int} (hs:y6 cnt bs f y out) (ok:nz cnt bs) (hf:jW bs f x y val) (hx:out x<0):∃S:Nat->Bool,S x=true/\S y=false/\val=jh S bs:=by
 refine⟨fun v=>decide (out v<0),decide_eq_true hx,decide_eq_false (by rw[hs.first];omega),hf.full (decide_eq_true hx) (decide_eq_false (by rw[hs.first];omega)) fun i hi nP=>⟨fun h1 h2 hr=>?_,fun h1 h2 hr=>?_⟩⟩
 ·have Oh:=of_decide_eq_true h1
  have CE:=of_decide_eq_false h2
  have:=hs.shut i (cq bs i).a hi (.inl rfl) (by unfold bR;rw[if_pos rfl];omega) hr
  omega
 ·have Oh:=of_decide_eq_true h1
  have CE:=of_decide_eq_false h2
  have:=hs.shut i (cq bs i).b hi (.inr rfl) (by unfold bR;rw[if_neg nP];omega) hr
  omega
end
theorem w6 {bs:List PB} {f:Nat->Int} (dL:∀e,e<bs.length->0<=(cq bs e).s/\(cq bs e).s<=4) (h:∀i,i<bs.length->f i<=(cq bs i).s/\-(cq bs i).s<=f i):Small bs f:=fun e he=>by
 have:=dL e he;have:=h e he;omega
theorem rl.at_ {A:Id} {lo nx v:Nat} {L:List (List Nat)} {l:List Nat} {g:Rows} (h:rl A lo L g nx) (hv:L[v]? =some l) (hl:0<l.length):∃(rows:List (List AV)) (id:Id),g A=some ⟨true,1,rows⟩/\rows.length=L.length/\rows[v]? =some [.own id 0 l.length]/\g id=some ⟨true,1,l.map eN⟩/\lo<id.bm/\id.bm<nx:=by
 obtain⟨rows,ids,h1,h2,h3,h4⟩:=h
 have hk:v<L.length:=(List.getElem?_eq_some_iff.1 hv).1
 obtain⟨cs,ic,dr,hR,Rs⟩:=h2.at_ v hk
 rw[kO hv hk]at hR
 rcases hR with⟨h5,_⟩|⟨id,rfl,_,h6,rfl⟩
 ·subst h5;simp at hl
 ·have:=h4 id (Rs id (by simp))
  exact⟨rows,id,h1,h2.len,dr,h6,this.1,this.2⟩
theorem Og (cnt:Nat) (hn:cnt<=1048576) (bs:List PB) (ok:nz cnt bs) (nQ:bs.length<=1048576) (dL:∀e,e<bs.length->0<=(cq bs e).s/\(cq bs e).s<=4) (f:Nat->Int) (x y:Nat) (hx:x<cnt) (hy:y<cnt) (RP:x≠y) (val:Int) (hf:jW bs f x y val)
  (X A F:Id) (σ:ar) (nb:Nat) (hS:og cnt bs f X A F σ.get nb) (pj:nb<=σ.next):
  Call Tryz.prog 238 [.ptr X 0 0,.int .i64 x,.int .i64 y] σ fun r σ'=>∃b f',r=.bool b/\og cnt bs f' X A F σ'.get nb/\σ.next<=σ'.next/\(∀i:Id,i.bm<nb->(i=F)=False->σ'.get i=σ.get i)/\
   (b=false->f'=f/\∃S:Nat->Bool,S x=true/\S y=false/\val=jh S bs)/\(b=true->jW bs f' x y (val+1)):=by
 refine eV eL rfl fun hl=>?_
 clear hl
 have CN:(x:Int)<(cnt:Int):=by omega
 have hz:∀(g:Rows),(∀i:Id,i.bm<nb->g i=σ.get i)->cG (dF g) 6 [.ptr X 0 0,.int .i64 (y:Int)]=some [.dm (fX cnt bs f),.int .i64 y]:=fun g hg=>by
  have:=(hS.frame hg (Nat.le_refl _)).fz
  simp only[ai,ao,this,aG,Option.map_some]
 (try((repeat(revert hN;revert N;apply Pn.out));refine wk @Nat.zero_add ?_;(repeat(refine Pn.mk ?_;intro N hN))))
 refine .inr (aI _ _ _ _ _ (fun r σ1 hq=>?_) ((FO cnt hn bs ok nQ f (w6 dL hf.le) y hy).x mixed (hz _ (fun i hi=>rfl))))
 obtain⟨⟨out,rfl,O2⟩,rfl⟩:=hq
 refine hN _ _ ?_
 clear hN N
 have Th:=dO (f:=out) hx
 have tl:=dB out cnt
 by_cases j6:out x<0
 ·(try((repeat(revert hN;revert N;apply Pn.out));refine wk (tw @Th (tw @j6 (tw @CN (tw @tl @aw.eq_1)))) ?_;(repeat(refine Pn.mk ?_;intro N hN))))
  exact fb (.inl rfl) (vs:=[.bool false]) (sd @Nat.zero_add) ⟨false,f,rfl,hS.frame (fun i hi=>rfl) (Nat.le_refl _),by(try dsimp only);omega,fun i _ _=>rfl,fun _=>⟨rfl,EE O2 ok hf j6⟩,fun h=>by cases h⟩
 (try((repeat(revert hN;revert N;apply Pn.out));refine wk (tw @Th (tw @j6 (tw @CN (tw @tl @aw.eq_1)))) ?_;(repeat(refine Pn.mk ?_;intro N hN))))
 refine aM (fun m env st=>∃(v:Nat) (f':Nat->Int),m=(out v).toNat/\v<cnt/\0<=out v/\env 8=.int .i64 (v:Int)/\oh bs out f f' x v/\og cnt bs f' X A F st.get nb/\(∀i:Id,i.bm<nb->(i=F)=False->st.get i=σ.get i)/\σ.next<=st.next) (out x).toNat ⟨x,f,rfl,hx,by omega,by(simp only[go_sem, ↓reduceIte,Nat.reduceEqDiff,Nat.reduceAdd,Nat.reduceSub,Nat.reduceLeDiff,reduceCtorEq]),oh.start hf.le,hS.frame (fun i hi=>rfl) (Nat.le_refl _),fun i _ _=>rfl,by(try dsimp only);omega⟩ ?_
 rintro m env_b st_b ⟨v,f',rfl,hv,qK,b8,hW,hN1,lY,hle⟩ e9
 have b0:=e9 0 (by kernel_rfl)
 have b2:=e9 2 (by kernel_rfl)
 have b7:=e9 7 (by kernel_rfl)
 simp only[go_sem, ↓reduceIte,Nat.reduceEqDiff,Nat.reduceAdd,Nat.reduceSub,Nat.reduceLeDiff,reduceCtorEq]at b0 b2 b7
 clear e9
 by_cases To:v=y
 ·have hd:decide ((v:Int)=(y:Int))=true:=decide_eq_true (by rw[To])
  subst To
  (try((repeat(revert hN;revert N;apply Pn.out));refine wk (tw @b0 (tw @b2 (tw @b7 (tw @b8 @hd)))) ?_;(repeat(refine Pn.mk ?_;intro N hN))))
  exact fb (.inl rfl) (vs:=[.bool true]) (sd @Nat.zero_add) ⟨true,f',rfl,hN1,by(try dsimp only);omega,lY,fun h=>(by cases h),fun _=>hW.done hf⟩
 have hd:decide ((v:Int)=(y:Int))=false:=decide_eq_false fun h=>To (by omega)
 have AD:0<out v:=by
  have:=O2.zero v hv
  rcases Int.lt_or_eq_of_le qK with h|h
  ·exact h
  ·exact absurd (this h.symm) To
 have Ni:=hW.goes O2 hv AD
 have hIm:∀ed∈ja bs bs.length v,ed<bs.length/\EW bs ed v:=fun ed h=>rZ.1 h
 have hIL:(lv cnt bs bs.length)[v]? =some (ja bs bs.length v):=by simp[lv,hv]
 have hIl:=rY bs bs.length v
 generalize ja bs bs.length v=I at *
 have hIp:0<I.length:=by
  obtain⟨ed,h,_⟩:=Ni
  exact List.length_pos_of_mem h
 obtain⟨rows,id,hgA,sI,jH,hid,hid1,hid2⟩:=hN1.a.at_ hIL hIp
 rw[js]at sI
 have hgX:=hN1.x
 have DU:(v:Int)<(cnt:Int):=by omega
 have rS:=dO (f:=out) hv
 have oP:IntKind.i64.wrap (out v-1)=out v-1:=bx (by have:=O2.lo v hv;omega)
 have qF:(I.map eN).length=I.length:=by simp
 have LJ:=w6 dL hW.le
 have kz:∀(g:Rows),(∀i:Id,i.bm<nb->g i=st_b.get i)->∀ed:Nat,cG (dF g) 6 [.ptr X 0 0,.int .i64 (v:Int),.int .i64 (ed:Int)]=some [.dm (fX cnt bs f'),.int .i64 v,.int .i64 ed]:=fun g hg ed=>by
  have:=(hN1.frame hg (Nat.le_refl _)).fz
  simp only[ai,ao,this,aG,Option.map_some]
 rw[aw]at rS
 (try((repeat(revert hN;revert N;apply Pn.out));refine wk (tw @b0 (tw @b2 (tw @b7 (tw @b8 @hd)))) ?_;(repeat(refine Pn.mk ?_;intro N hN))))
 refine aM (fun n env st=>∃k:Nat,n=(I.length)-k/\k<=(I.length)/\env 11=.int .i64 (k:Int)/\(∃(yN E5:Int),env 9=.int .i64 yN/\env 10=.int .i64 E5/\((yN<0/\∀z,z<k->¬(0<fK bs f' (I.getD z 0) v/\out (bR bs (I.getD z 0) v)=out v-1))∨∃ed:Nat,ed∈I/\E5=(ed:Int)/\yN=(bR bs ed v:Int)/\0<fK bs f' ed v/\out (bR bs ed v)=out v-1))/\((∀i:Id,st.get i=st_b.get i)/\st_b.next<=st.next)) (I.length) ⟨0,by omega,by omega,sl (tw @b0 (tw @b2 (tw @b7 @b8))),⟨-1,0,by(simp only[go_sem, ↓reduceIte,Nat.reduceEqDiff,Nat.reduceAdd,Nat.reduceSub,Nat.reduceLeDiff,reduceCtorEq]),by(simp only[go_sem, ↓reduceIte,Nat.reduceEqDiff,Nat.reduceAdd,Nat.reduceSub,Nat.reduceLeDiff,reduceCtorEq]),.inl ⟨by omega,fun z hz=>by omega⟩⟩,⟨fun i=>rfl,by(try dsimp only);omega⟩⟩ ?_
 rintro n_c env_c st_c ⟨k,rfl,cle,nL,cI0,cI1⟩ iL
 have c0:=iL 0 (by kernel_rfl);have c2:=iL 2 (by kernel_rfl);have c7:=iL 7 (by kernel_rfl);have c8:=iL 8 (by kernel_rfl)
 simp only[go_sem, ↓reduceIte,Nat.reduceEqDiff,Nat.reduceAdd,Nat.reduceSub,Nat.reduceLeDiff,reduceCtorEq,b0,b2,b7,b8]at c0 c2 c7 c8
 clear iL
 obtain⟨yN,E5,c9,jy,IQ⟩:=cI0
 obtain⟨mc,SY⟩:=cI1
 have DL:=(mc X).trans hgX
 have DK:=(mc A).trans hgA
 have DN:=(mc id).trans hid
 by_cases hk:(k:Int)<(I.length:Int)
 ·have gG:∀{e:Env} {gg:Rows} {nx:Nat},(e 11=.int .i64 (IntKind.i64.wrap ((k:Int)+1)))->(∃(yN E5:Int),e 9=.int .i64 yN/\e 10=.int .i64 E5/\((yN<0/\∀z,z<(k+1)->¬(0<fK bs f' (I.getD z 0) v/\out (bR bs (I.getD z 0) v)=out v-1))∨∃ed:Nat,ed∈I/\E5=(ed:Int)/\yN=(bR bs ed v:Int)/\0<fK bs f' ed v/\out (bR bs ed v)=out v-1))->((∀i:Id,gg i=st_b.get i)/\st_b.next<=nx)->∃m0,m0<(I.length)-k/\∃k:Nat,m0=(I.length)-k/\k<=(I.length)/\e 11=.int .i64 (k:Int)/\(∃(yN E5:Int),e 9=.int .i64 yN/\e 10=.int .i64 E5/\((yN<0/\∀z,z<k->¬(0<fK bs f' (I.getD z 0) v/\out (bR bs (I.getD z 0) v)=out v-1))∨∃ed:Nat,ed∈I/\E5=(ed:Int)/\yN=(bR bs ed v:Int)/\0<fK bs f' ed v/\out (bR bs ed v)=out v-1))/\((∀i:Id,gg i=st_b.get i)/\st_b.next<=nx):=fun x1 x2 x3=>⟨_,by omega,k+1,rfl,by omega,(by rw[x1,az (by omega)]),x2,x3⟩
  have eX:k<I.length:=by omega
  have eM:(I.map eN)[k]? =some (eN (I.getD k 0)):=getD_map eN eX
  have pV:I.getD k 0∈I:=by rw[List.getD_eq_getElem?_getD,List.getElem?_eq_getElem eX];exact List.getElem_mem eX
  obtain⟨he,pU⟩:=hIm _ pV
  have LI:=JY cnt bs f' LJ (I.getD k 0) v he
  have tO:=kz st_c.get (fun i _=>mc i) (I.getD k 0)
  have hq:=oW ok (v:=v) he
  have Qo:=dO (f:=out) hq
  obtain⟨ed,hed⟩:∃ed,ed=I.getD k 0:=⟨_,rfl⟩
  rw[<-hed]at eM he pU LI tO hq Qo pV
  rw[aw]at Qo
  rw[eN]at eM
  (try((repeat(revert hN;revert N;apply Pn.out));refine wk (tw @nL (tw @c0 (tw @c2 (tw @c7 (tw @c8 (tw @c9 (tw @jy (tw @hk (tw @DL (tw @DK (tw @DN (tw @jH (tw @sI (tw @DU (tw @eM (tw @qF @bz.eq_1)))))))))))))))) ?_;(repeat(refine Pn.mk ?_;intro N hN))))
  refine .inl ⟨_,aq.x LI tO,?_⟩
  refine hN _ _ ?_
  clear hN N
  have stay:∀k',k'=k+1->(¬(0<fK bs f' ed v/\out (bR bs ed v)=out v-1))->((yN<0/\∀z,z<k'->¬(0<fK bs f' (I.getD z 0) v/\out (bR bs (I.getD z 0) v)=out v-1))∨∃ed:Nat,ed∈I/\E5=(ed:Int)/\yN=(bR bs ed v:Int)/\0<fK bs f' ed v/\out (bR bs ed v)=out v-1):=fun k' I1 lr=>by
   rcases IQ with⟨h1,h2⟩|h
   ·refine .inl ⟨h1,fun z hz=>?_⟩
    by_cases DW:z=k
    ·subst DW;rw[<-hed];exact lr
    ·exact h2 z (by omega)
   ·exact .inr h
  by_cases hr:0<fK bs f' ed v
  ·by_cases Qe:out (bR bs ed v)=out v-1
   ·have uk:decide (out (bR bs ed v)=out v-1)=true:=decide_eq_true Qe
    have found:∃QR:Nat,QR∈I/\(ed:Int)=(QR:Int)/\(bR bs ed v:Int)=(bR bs QR v:Int)/\0<fK bs f' QR v/\out (bR bs QR v)=out v-1:=⟨ed,pV,rfl,rfl,hr,Qe⟩
    by_cases Ql:yN<0
    ·(try((repeat(revert hN;revert N;apply Pn.out));refine wk (tw @nL (tw @c0 (tw @c2 (tw @c7 (tw @c8 (tw @c9 (tw @jy (tw @hk (tw @DL (tw @DK (tw @DN (tw @jH (tw @sI (tw @DU (tw @eM (tw @qF (tw @hr (tw @Qo (tw @rS (tw @oP (tw @uk (tw @Ql @bz.eq_1)))))))))))))))))))))) ?_;(repeat(refine Pn.mk ?_;intro N hN))))
     exact gG (sd (tw @nL (tw @c0 (tw @c2 (tw @c7 @c8))))) (⟨_,_,sd @Nat.zero_add,sd @Nat.zero_add,.inr found⟩) (⟨mc,by(try dsimp only);omega⟩)
    ·by_cases dR:(bR bs ed v:Int)<yN
     ·(try((repeat(revert hN;revert N;apply Pn.out));refine wk (tw @nL (tw @c0 (tw @c2 (tw @c7 (tw @c8 (tw @c9 (tw @jy (tw @hk (tw @DL (tw @DK (tw @DN (tw @jH (tw @sI (tw @DU (tw @eM (tw @qF (tw @hr (tw @Qo (tw @rS (tw @oP (tw @uk (tw @Ql (tw @dR @bz.eq_1))))))))))))))))))))))) ?_;(repeat(refine Pn.mk ?_;intro N hN))))
      exact gG (sd (tw @nL (tw @c0 (tw @c2 (tw @c7 @c8))))) (⟨_,_,sd @Nat.zero_add,sd @Nat.zero_add,.inr found⟩) (⟨mc,by(try dsimp only);omega⟩)
     ·(try((repeat(revert hN;revert N;apply Pn.out));refine wk (tw @nL (tw @c0 (tw @c2 (tw @c7 (tw @c8 (tw @c9 (tw @jy (tw @hk (tw @DL (tw @DK (tw @DN (tw @jH (tw @sI (tw @DU (tw @eM (tw @qF (tw @hr (tw @Qo (tw @rS (tw @oP (tw @uk (tw @Ql (tw @dR @bz.eq_1))))))))))))))))))))))) ?_;(repeat(refine Pn.mk ?_;intro N hN))))
      exact gG (sd (tw @nL (tw @c0 (tw @c2 (tw @c7 @c8))))) (⟨yN,E5,sd @c9,sd @jy,by
       rcases IQ with⟨h1,_⟩|h
       ·exact absurd h1 Ql
       ·exact .inr h⟩) (⟨mc,by(try dsimp only);omega⟩)
   ·have uk:decide (out (bR bs ed v)=out v-1)=false:=decide_eq_false Qe
    (try((repeat(revert hN;revert N;apply Pn.out));refine wk (tw @nL (tw @c0 (tw @c2 (tw @c7 (tw @c8 (tw @c9 (tw @jy (tw @hk (tw @DL (tw @DK (tw @DN (tw @jH (tw @sI (tw @DU (tw @eM (tw @qF (tw @hr (tw @Qo (tw @rS (tw @oP (tw @uk @bz.eq_1))))))))))))))))))))) ?_;(repeat(refine Pn.mk ?_;intro N hN))))
    exact gG (sd (tw @nL (tw @c0 (tw @c2 (tw @c7 @c8))))) (⟨yN,E5,sd @c9,sd @jy,stay _ rfl fun h=>Qe h.2⟩) (⟨mc,by(try dsimp only);omega⟩)
  ·(try((repeat(revert hN;revert N;apply Pn.out));refine wk (tw @nL (tw @c0 (tw @c2 (tw @c7 (tw @c8 (tw @c9 (tw @jy (tw @hk (tw @DL (tw @DK (tw @DN (tw @jH (tw @sI (tw @DU (tw @eM (tw @qF (tw @hr @bz.eq_1))))))))))))))))) ?_;(repeat(refine Pn.mk ?_;intro N hN))))
   exact gG (sd (tw @nL (tw @c0 (tw @c2 (tw @c7 @c8))))) (⟨yN,E5,sd @c9,sd @jy,stay _ rfl fun h=>hr h.1⟩) (⟨mc,by(try dsimp only);omega⟩)
 ·have kH:k=I.length:=by omega
  have UG:∃ed:Nat,ed∈I/\E5=(ed:Int)/\yN=(bR bs ed v:Int)/\0<fK bs f' ed v/\out (bR bs ed v)=out v-1:=by
   rcases IQ with⟨h1,h2⟩|h
   ·exfalso
    obtain⟨ed,he,hq⟩:=Ni
    obtain⟨z,hz,rfl⟩:=List.getElem_of_mem he
    refine h2 z (by omega) ?_
    rw[List.getD_eq_getElem?_getD,List.getElem?_eq_getElem hz];exact hq
   ·exact h
  obtain⟨ed,pV,rfl,rfl,hr,Qe⟩:=UG
  obtain⟨he,pU⟩:=hIm _ pV
  (try((repeat(revert hN;revert N;apply Pn.out));refine wk (tw @nL (tw @c0 (tw @c2 (tw @c7 (tw @c8 (tw @c9 (tw @jy (tw @hk (tw @DL (tw @DK (tw @DN (tw @jH (tw @sI (tw @DU (tw @qF @bz.eq_1))))))))))))))) ?_;(repeat(refine Pn.mk ?_;intro N hN))))
  refine .inr (aI _ _ _ _ _ (fun r σ1 hq=>?_) (Po cnt bs f' LJ ed v he X A F ⟨st_c.get,_⟩ nb (hN1.frame (fun i _=>mc i) (Nat.le_refl _)) (by(try dsimp only);omega)))
  obtain⟨SQ,mV,IW⟩:=hq
  (try dsimp only at mV IW)
  refine hN _ _ ?_
  clear hN N
  (try((repeat(revert hN;revert N;apply Pn.out));refine wk (tw @nL (tw @c0 (tw @c2 (tw @c7 (tw @c8 @c9))))) ?_;(repeat(refine Pn.mk ?_;intro N hN))))
  refine⟨_,?_,bR bs ed v,tV bs f' ed v,rfl,oW ok he,by omega,sd @Nat.zero_add,hW.step he pU hr Qe,SQ,fun i hi hF=>by rw[IW i hF,mc i,lY i hi hF],by(try dsimp only);omega⟩
  omega
def tu (P:Program) (f:Nat) (args:List AV) (R:AV->Prop):Prop:=∀σ:ar,Call P f args ⟨V.ro σ.get,σ.next⟩ fun r0 σ'=>∃r',V.fz σ'.get 6 r0=some r'/\R r'
theorem Dq {P:Program} {f:Nat} {args:List AV} {g:Rows} {n:Nat} {R:AV->Prop} (h:Sound P f args ⟨V.ro g,n⟩ fun r0 σ'=>∃r',V.fz σ'.get 6 r0=some r'/\R r'):Sound P f args ⟨g,n⟩ fun r σ'=>R r/\σ'=⟨g,n⟩:=by
 intro hs D ι w vs S U A
 refine(AI (g0:=g) (K:=R) h (fun _ _ h=>h) S U A).mono ?_
 rintro e w' ⟨r,D',u,rfl,hR,T,S',hr⟩
 exact⟨r,g,n,D',ι,u,rfl,⟨hR,rfl⟩,T,S',U,Nat.le_refl _,hr⟩
theorem tu.x {P:Program} (hm:P.follows .mixedOrders=true) {f:Nat} {args:List AV} {R:AV->Prop} (h:tu P f args R) {σ:ar}:Call P f args σ fun r σ'=>R r/\σ'=σ:=
 fN (Dq (il hm (h σ)))
theorem tu.body {P:Program} {f:Nat} {args:List AV} {R:AV->Prop} {nt na:Nat} {body:VC} {res:List oj} (hf:mO P f=some ⟨nt,na,body,res⟩) (ha:na=args.length) (h:(∀a∈args,eD a)->∀σ:ar,ek (Call P) body (k8 res fun r0 σ'=>∃r',V.fz σ'.get 6 r0=some r'/\R r') (ck args) ⟨V.ro σ.get,σ.next⟩):tu P f args R:=fun σ=>l6 hf ha fun hl=>h hl σ
theorem L9 {g:Rows} {rows:List (List AV)} {xs:List (List Nat)} {ids:List Id} (n:Nat) (h:eE PZ g rows xs ids):eo g (n+2) rows=some (xs.map fun l=>[Pv l]):=by
 induction h with
 |nil=>rw[eo];rfl
 |cons h1 _ ih=>
  rename_i x _ _ _ _ _
  rcases h1 with⟨h0,h1,_⟩|⟨id,h1,h0,h2,_⟩
  ·subst h0 h1;rw[eo,ih,ai,ao,aP];rfl
  ·have gY:x≠[]:=by rintro rfl;simp at h0
   subst h1
   rw[eo,ih,ai,ao,fS (e:=eN) (sz:=1) h2 rfl fun a=>fzN _ n a]
   simp[Pv,gY]
theorem og.fz0 {cnt:Nat} {bs:List PB} {f:Nat->Int} {X A F:Id} {g:Rows} {nx:Nat} (h:og cnt bs f X A F g nx):V.fz g 5 (.ptr X 0 0)=some (.dm (fX cnt bs f)):=by
 have hf:V.fz g 4 (.own F 0 bs.length)=some (.sl (dV f bs.length)):=by
  rw[iw]
  simp only[h.f,if_true]
  rw[if_pos (by rw[dB];omega),List.drop_zero,List.take_of_length_le (by rw[dB];omega),Al];rfl
 have ha:V.fz g 4 (.own A 0 cnt)=some (.sl (ql cnt bs bs.length)):=by
  obtain⟨rows,ids,h1,h2,_,_⟩:=h.a
  have hl:=h2.len
  rw[js]at hl
  rw[iw]
  simp only[h1,if_true]
  rw[if_pos (by omega),List.drop_zero,List.take_of_length_le (by omega),L9 1 h2]
  simp[lv,ql]
 rw[aV]
 simp only[h.x,if_true,List.getElem?_cons_zero,List.drop_zero,bz,ai,ao,aG,bW,ha,hf,Option.map_some,fX]
theorem E6 {S:Nat->Bool}:∀bs:List PB,(∀b∈bs,b.s<=4)->jh S bs<=4*bs.length
 |[],_=>by simp[jh]
 |b::bs,h=>by
  rw[sS]
  have:=E6 (S:=S) bs fun x hx=>h x (List.mem_cons_of_mem _ hx)
  have:=h b (by simp)
  simp only[List.length_cons]
  split<;>omega
theorem jW.zero {bs:List PB} {x y:Nat} (h:∀e,e<bs.length->0<=(cq bs e).s/\(cq bs e).s<=4):jW bs (fun _=>0) x y 0:=
 ⟨fun i hi=>by have:=h i hi;omega,fun S _ _=>jR fun i _=>by simp⟩
theorem K1 {bs:List PB} {b:PB} (h:b∈bs):∃e,e<bs.length/\cq bs e=b:=by
 obtain⟨e,he,rfl⟩:=List.getElem_of_mem h
 exact⟨e,he,by simp[cq,List.getD_eq_getElem?_getD,he]⟩
theorem GR (cnt:Nat) (hn:cnt<=1048576) (bs:List PB) (ok:nz cnt bs) (nQ:bs.length<=1048576) (dL:∀e,e<bs.length->0<=(cq bs e).s/\(cq bs e).s<=4) (x y:Nat) (hx:x<cnt) (hy:y<cnt) (RP:x≠y):
  tu Tryz.prog 218 [.int .i64 cnt,.sl (bs.map aA),.int .i64 x,.int .i64 y] fun r=>∃f val,r=.iC [.dm (fX cnt bs f),.int .i64 val]/\jW bs f x y val/\∃S:Nat->Bool,S x=true/\S y=false/\val=jh S bs:=by
 refine tu.body eL rfl fun hl σ=>?_
 clear hl
 (try((repeat(revert hN;revert N;apply Pn.out));refine wk @Nat.zero_add ?_;(repeat(refine Pn.mk ?_;intro N hN))))
 refine .inr (aI _ _ _ _ _ (fun r σ1 hq=>?_) (Jk cnt hn bs ok nQ _))
 obtain⟨X,A,F,rfl,hX,hS⟩:=hq
 refine hN _ _ ?_
 clear hN N
 have hS0:∀f val,jW bs f x y val->val<=jh (fun v=>decide (v=x)) bs:=fun f val hf=>hf.bound (decide_eq_true rfl) (decide_eq_false fun h=>RP h.symm)
 have htot:=E6 (S:=fun v=>decide (v=x)) bs fun b hb=>by
  obtain⟨e,he,rfl⟩:=K1 hb
  exact(dL e he).2
 generalize jh (fun v=>decide (v=x)) bs=T at *
 (try((repeat(revert hN;revert N;apply Pn.out));refine wk @Nat.zero_add ?_;(repeat(refine Pn.mk ?_;intro N hN))))
 refine aM (fun m env st=>∃(f:Nat->Int) (val:Int),m=(T-val).toNat/\0<=val/\env 10=.ptr X 0 0/\env 11=.int .i64 val/\jW bs f x y val/\og cnt bs f X A F st.get σ1.next/\σ1.next<=st.next) T.toNat ⟨_,0,by simp,by omega,by(simp only[go_sem, ↓reduceIte,Nat.reduceEqDiff,Nat.reduceAdd,Nat.reduceSub,Nat.reduceLeDiff,reduceCtorEq]),by(simp only[go_sem, ↓reduceIte,Nat.reduceEqDiff,Nat.reduceAdd,Nat.reduceSub,Nat.reduceLeDiff,reduceCtorEq]),jW.zero dL,hS.frame (fun i hi=>rfl) (Nat.le_refl _),by(try dsimp only);omega⟩ ?_
 rintro m env_b st_b ⟨f,val,rfl,qK,b10,b11,hf,hN1,hle⟩ e9
 have b2:=e9 2 (by kernel_rfl)
 have b3:=e9 3 (by kernel_rfl)
 simp only[go_sem, ↓reduceIte,Nat.reduceEqDiff,Nat.reduceAdd,Nat.reduceSub,Nat.reduceLeDiff,reduceCtorEq]at b2 b3
 clear e9
 (try((repeat(revert hN;revert N;apply Pn.out));refine wk (tw @b2 (tw @b3 @b10)) ?_;(repeat(refine Pn.mk ?_;intro N hN))))
 refine .inr (aI _ _ _ _ _ (fun r σ2 hq=>?_) (Og cnt hn bs ok nQ dL f x y hx hy RP val hf X A F ⟨st_b.get,_⟩ σ1.next hN1 (by(try dsimp only);omega)))
 obtain⟨b,f',rfl,SQ,mV,_,lr,Vj⟩:=hq
 (try dsimp only at mV)
 refine hN _ _ ?_
 clear hN N
 cases b with
 |true=>
  have kr:=Vj rfl
  have HJ:=hS0 _ _ hf
  have Bt:=hS0 _ _ kr
  have hw:IntKind.i64.wrap (val+1)=val+1:=bx (by omega)
  (try((repeat(revert hN;revert N;apply Pn.out));refine wk (tw @b10 (tw @b11 @hw)) ?_;(repeat(refine Pn.mk ?_;intro N hN))))
  exact⟨_,by omega,f',val+1,rfl,by omega,sd @b10,sd (tw @b11 @hw),kr,SQ,by(try dsimp only);omega⟩
 |false=>
  obtain⟨rfl,S,h1,h2,h3⟩:=lr rfl
  (try((repeat(revert hN;revert N;apply Pn.out));refine wk (tw @b10 @b11) ?_;(repeat(refine Pn.mk ?_;intro N hN))))
  have hz:=SQ.fz0
  exact⟨[.ptr X 0 0,.int .i64 val],sd @Nat.zero_add,.iC [.dm (fX cnt bs f'),.int .i64 val],by simp only[fe,bD,ai,ao,hz,aG,Option.map_some],f',val,rfl,hf,S,h1,h2,h3⟩
theorem GU (cnt:Nat) (hn:cnt<=1048576) (bs:List PB) (ok:nz cnt bs) (nQ:bs.length<=1048576) (f:Nat->Int) (hs:Small bs f) (y:Nat) (hy:y<cnt):
  l5 Tryz.prog 219 [.dm (fX cnt bs f),.int .i64 y] fun r=>∃l:List Nat,r=.sl (l.map eN)/\l.length<=cnt:=by
 refine l5.body eL rfl fun hl n0=>?_
 clear hl
 have hz:∀g:Rows,cG (dF g) 6 [.dm (fX cnt bs f),.int .i64 (y:Int)]=some [.dm (fX cnt bs f),.int .i64 y]:=fun g=>by simp only[ai,ao,aQ,aG,Option.map_some]
 (try((repeat(revert hN;revert N;apply Pn.out));refine wk @Nat.zero_add ?_;(repeat(refine Pn.mk ?_;intro N hN))))
 refine .inr (aI _ _ _ _ _ (fun r σ1 hq=>?_) ((FO cnt hn bs ok nQ f hs y hy).x mixed (hz _)))
 obtain⟨⟨out,rfl,O2⟩,rfl⟩:=hq
 refine hN _ _ ?_
 clear hN N
 (try((repeat(revert hN;revert N;apply Pn.out));refine wk @fX.eq_1 ?_;(repeat(refine Pn.mk ?_;intro N hN))))
 refine aM (fun n env st=>∃k:Nat,n=(cnt)-k/\k<=(cnt)/\env 7=.int .i64 (k:Int)/\(∃(o:Id) (l:List Nat),env 6=.own o 0 l.length/\st.get o=some ⟨true,1,l.map eN⟩/\o.bm<st.next/\l.length<=k)) (cnt) ⟨0,by omega,by omega,sl @fX.eq_1,⟨⟨219002000,n0+1+1+1⟩,[],by(simp only[go_sem, ↓reduceIte,Nat.reduceEqDiff,Nat.reduceAdd,Nat.reduceSub,Nat.reduceLeDiff,reduceCtorEq])<;>rfl,by(simp only[go_sem, ↓reduceIte,Nat.reduceEqDiff,Nat.reduceAdd,Nat.reduceSub,Nat.reduceLeDiff,reduceCtorEq])<;>rfl,by(try dsimp only);omega,by simp⟩⟩ ?_
 rintro n_a env_a st_a ⟨k,rfl,ale,a7,kc⟩ di
 have a0:=di 0 (by kernel_rfl);have a5:=di 5 (by kernel_rfl)
 simp only[go_sem, ↓reduceIte,Nat.reduceEqDiff,Nat.reduceAdd,Nat.reduceSub,Nat.reduceLeDiff,reduceCtorEq,fX]at a0 a5
 clear di
 obtain⟨o,l,a6,ag,rS,Ly⟩:=kc
 have qK:=dx rS
 have lH:(l.map eN).length=l.length:=by simp
 by_cases hk:(k:Int)<(cnt:Int)
 ·have cz:∀{e:Env} {gg:Rows} {nx:Nat},(e 7=.int .i64 (IntKind.i64.wrap ((k:Int)+1)))->(∃(o:Id) (l:List Nat),e 6=.own o 0 l.length/\gg o=some ⟨true,1,l.map eN⟩/\o.bm<nx/\l.length<=(k+1))->∃m0,m0<(cnt)-k/\∃k:Nat,m0=(cnt)-k/\k<=(cnt)/\e 7=.int .i64 (k:Int)/\(∃(o:Id) (l:List Nat),e 6=.own o 0 l.length/\gg o=some ⟨true,1,l.map eN⟩/\o.bm<nx/\l.length<=k):=fun x1 x2=>⟨_,by omega,k+1,rfl,by omega,(by rw[x1,az (by omega)]),x2⟩
  have vR:=dO (f:=out) (show k<cnt by omega)
  rw[aw]at vR
  have e1:l.length+1<=16777216:=by omega
  by_cases h0:0<=out k
  ·(try((repeat(revert hN;revert N;apply Pn.out));refine wk (tw @a7 (tw @a0 (tw @a5 (tw @a6 (tw @ag (tw @qK (tw @hk (tw @vR (tw @h0 (tw @e1 (tw @lH @fX.eq_1))))))))))) ?_;(repeat(refine Pn.mk ?_;intro N hN))))
   exact cz (sd (tw @a7 (tw @a0 (tw @a5 @fX.eq_1)))) (⟨⟨219007003,st_a.next+1+1⟩,l++[k],by rw[List.length_append];simp only[go_sem, ↓reduceIte,Nat.reduceEqDiff,Nat.reduceAdd,Nat.reduceSub,Nat.reduceLeDiff,reduceCtorEq,List.length_cons,List.length_nil],by rw[List.map_append,List.map_cons,List.map_nil];simp only[go_sem, ↓reduceIte,Nat.reduceEqDiff,Nat.reduceAdd,Nat.reduceSub,Nat.reduceLeDiff,reduceCtorEq,eN],by(try dsimp only);omega,by simp;omega⟩)
  ·(try((repeat(revert hN;revert N;apply Pn.out));refine wk (tw @a7 (tw @a0 (tw @a5 (tw @a6 (tw @ag (tw @qK (tw @hk (tw @vR (tw @h0 (tw @lH @fX.eq_1)))))))))) ?_;(repeat(refine Pn.mk ?_;intro N hN))))
   exact cz (sd (tw @a7 (tw @a0 (tw @a5 @fX.eq_1)))) (⟨o,l,sd @a6,sd @ag,by(try dsimp only);omega,by omega⟩)
 ·(try((repeat(revert hN;revert N;apply Pn.out));refine wk (tw @a7 (tw @a0 (tw @a5 (tw @a6 (tw @hk @fX.eq_1))))) ?_;(repeat(refine Pn.mk ?_;intro N hN))))
  have sZ:gy st_a.get 6 (.own o 0 l.length)=some (.sl (l.map eN)):=fI ag rfl fun b=>Oe _ 4 b
  exact⟨_,rfl,_,by simp only[go_sem, ↓reduceIte,Nat.reduceEqDiff,Nat.reduceAdd,Nat.reduceSub,Nat.reduceLeDiff,reduceCtorEq,fe];exact sZ,l,rfl,by omega⟩
theorem BW (v1 v2:Int) (l1 l2:List Nat) (h1:l1.length<=1048576) (h2:l2.length<=1048576):
  l5 Tryz.prog 220 [.int .i64 v1,.sl (l1.map eN),.int .i64 v2,.sl (l2.map eN)] fun r=>∃b,r=.bool b/\(v1<v2->b=true)/\(v2<v1->b=false):=by
 refine l5.body eL rfl fun hl n0=>?_
 clear hl
 have ret:∀{t:Nat} {env:Env} {σ:ar} {b:Bool} {x:Ex},(x=.ret∨x=.normal)->env t=.bool b->((v1<v2->b=true)/\(v2<v1->b=false))->k8 [.tmp t] (fun r0 σ'=>∃r',gy σ'.get 6 r0=some r'/\∃b,r'=.bool b/\(v1<v2->b=true)/\(v2<v1->b=false)) x env σ:=by
  intro t env σ b x hx he hb
  have:∃vs,fq env σ.get [.tmp t]=some vs/\∃r',gy σ.get 6 (fe vs)=some r'/\∃b,r'=.bool b/\(v1<v2->b=true)/\(v2<v1->b=false):=⟨[env t],rfl,.bool b,by rw[he];exact fR _ _ _,b,rfl,hb⟩
  rcases hx with rfl|rfl
  ·exact this
  ·exact this
 have m1:(l1.map eN).length=l1.length:=by simp
 have m2:(l2.map eN).length=l2.length:=by simp
 by_cases hv:v1=v2
 ·have hd:decide (v1=v2)=true:=decide_eq_true hv
  by_cases Ly:(l1.length:Int)=(l2.length:Int)
  ·have uk:decide ((l1.length:Int)=(l2.length:Int))=true:=decide_eq_true Ly
   have Uy:decide (l1.length=l2.length)=true:=decide_eq_true (by omega)
   (try((repeat(revert hN;revert N;apply Pn.out));refine wk (tw @hd (tw @uk (tw @Uy (tw @m1 @m2)))) ?_;(repeat(refine Pn.mk ?_;intro N hN))))
   refine aM (fun n env st=>∃k:Nat,n=(l1.length)-k/\k<=(l1.length)/\env 9=.int .i64 (k:Int)) (l1.length) ⟨0,by omega,by omega,sl @Nat.zero_add⟩ ?_
   rintro n_a env_a st_a ⟨k,rfl,ale,a9⟩ di
   have a1:=di 1 (by kernel_rfl);have a3:=di 3 (by kernel_rfl)
   simp only[go_sem, ↓reduceIte,Nat.reduceEqDiff,Nat.reduceAdd,Nat.reduceSub,Nat.reduceLeDiff,reduceCtorEq]at a1 a3
   clear di
   by_cases hk:(k:Int)<(l1.length:Int)
   ·have cz:∀{e:Env},(e 9=.int .i64 (IntKind.i64.wrap ((k:Int)+1)))->∃m0,m0<(l1.length)-k/\∃k:Nat,m0=(l1.length)-k/\k<=(l1.length)/\e 9=.int .i64 (k:Int):=fun x1=>⟨_,by omega,k+1,rfl,by omega,(by rw[x1,az (by omega)])⟩
    have g1:(l1.map eN)[k]? =some (eN (l1.getD k 0)):=getD_map eN (by omega)
    have g2:(l2.map eN)[k]? =some (eN (l2.getD k 0)):=getD_map eN (by omega)
    rw[eN]at g1 g2
    by_cases he:((l1.getD k 0:Nat):Int)=((l2.getD k 0:Nat):Int)
    ·have Rj:decide (((l1.getD k 0:Nat):Int)=((l2.getD k 0:Nat):Int))=true:=decide_eq_true he
     have Uz:decide (l1.getD k 0=l2.getD k 0)=true:=decide_eq_true (by omega)
     (try((repeat(revert hN;revert N;apply Pn.out));refine wk (tw @a9 (tw @a1 (tw @a3 (tw @hk (tw @m1 (tw @g1 (tw @g2 (tw @Rj @Uz)))))))) ?_;(repeat(refine Pn.mk ?_;intro N hN))))
     exact cz (sd (tw @a9 (tw @a1 @a3)))
    ·have Rj:decide (((l1.getD k 0:Nat):Int)=((l2.getD k 0:Nat):Int))=false:=decide_eq_false he
     have Uz:decide (l1.getD k 0=l2.getD k 0)=false:=decide_eq_false (by omega)
     (try((repeat(revert hN;revert N;apply Pn.out));refine wk (tw @a9 (tw @a1 (tw @a3 (tw @hk (tw @m1 (tw @g1 (tw @g2 (tw @Rj @Uz)))))))) ?_;(repeat(refine Pn.mk ?_;intro N hN))))
     exact ret (.inl rfl) (by simp only[go_sem, ↓reduceIte,Nat.reduceEqDiff,Nat.reduceAdd,Nat.reduceSub,Nat.reduceLeDiff,reduceCtorEq];rfl) ⟨fun h=>by omega,fun h=>by omega⟩
   ·(try((repeat(revert hN;revert N;apply Pn.out));refine wk (tw @a9 (tw @a1 (tw @a3 (tw @hk @m1)))) ?_;(repeat(refine Pn.mk ?_;intro N hN))))
    exact ret (b:=false) (.inl rfl) (sd @Nat.zero_add) ⟨fun h=>by omega,fun h=>by omega⟩
  ·have uk:decide ((l1.length:Int)=(l2.length:Int))=false:=decide_eq_false Ly
   have Uy:decide (l1.length=l2.length)=false:=decide_eq_false (by omega)
   (try((repeat(revert hN;revert N;apply Pn.out));refine wk (tw @hd (tw @uk (tw @Uy (tw @m1 @m2)))) ?_;(repeat(refine Pn.mk ?_;intro N hN))))
   exact ret (.inl rfl) (by simp only[go_sem, ↓reduceIte,Nat.reduceEqDiff,Nat.reduceAdd,Nat.reduceSub,Nat.reduceLeDiff,reduceCtorEq];rfl) ⟨fun h=>by omega,fun h=>by omega⟩
 ·have hd:decide (v1=v2)=false:=decide_eq_false hv
  (try((repeat(revert hN;revert N;apply Pn.out));refine wk @hd ?_;(repeat(refine Pn.mk ?_;intro N hN))))
  exact ret (b:=decide (v1<v2)) (.inl rfl) (sd @Nat.zero_add) ⟨fun h=>decide_eq_true h,fun h=>decide_eq_false (by omega)⟩
def uR (bs:List PB) (cnt:Nat) (jn:Int) (k:Nat):Prop:=(k=1/\jn= -1)∨(0<=jn/\(∀z,1<=z->z<k->∀S:Nat->Bool,S 0=true->S z=false->jn<=jh S bs)/\∃S:Nat->Bool,S 0=true/\(∃z,z<cnt/\S z=false)/\jn=jh S bs)
theorem jW.nn {bs:List PB} {val:Int} {S:Nat->Bool} (dL:∀e,e<bs.length->0<=(cq bs e).s/\(cq bs e).s<=4) (h:val=jh S bs):0<=val:=by
 rw[h,vw]
 have:=sn (f:=fun _=>0) (g:=fun i=>if S (cq bs i).a=S (cq bs i).b then 0 else(cq bs i).s) (n:=bs.length) fun i hi=>by
  have:=dL i hi
  split<;>omega
 rw[jR fun _ _=>rfl]at this
 exact this
theorem uR.done {bs:List PB} {cnt:Nat} {jn:Int} (hc:2<=cnt) (h:uR bs cnt jn cnt) (t:Int):t<=jn↔kK cnt bs t:=by
 rcases h with⟨h,_⟩|⟨_,h1,S,h2,⟨z,hz,kz⟩,h3⟩
 ·omega
 ·constructor
  ·intro ht S h0 ⟨y,hy,hy2⟩
   have:y≠0:=by rintro rfl;rw[h0]at hy2;cases hy2
   have:=h1 y (by omega) hy S h0 hy2
   omega
  ·intro hH
   rw[h3];exact hH S h2 ⟨z,hz,kz⟩
theorem zH (cnt:Nat) (h2:2<=cnt) (hn:cnt<=1048576) (bs:List PB) (ok:nz cnt bs) (nQ:bs.length<=1048576) (dL:∀e,e<bs.length->0<=(cq bs e).s/\(cq bs e).s<=4):
  tu Tryz.prog 194 [.int .i64 cnt,.sl (bs.map aA)] fun r=>∃jn p,r=.iC [.int .i64 jn,p]/\∀t:Int,t<=jn↔kK cnt bs t:=by
 refine tu.body eL rfl fun hl σ=>?_
 clear hl
 (try((repeat(revert hN;revert N;apply Pn.out));refine wk @Nat.zero_add ?_;(repeat(refine Pn.mk ?_;intro N hN))))
 have z0:∀(g:Rows) (id:Id),g id=some ⟨true,1,[]⟩->V.fz (dF g) 6 (.own id 0 0)=some (.sl (([]:List Nat).map eN))/\V.fz g 5 (.own id 0 0)=some (.sl (([]:List Nat).map eN)):=fun g id h=>by
  have h':dF g id=some ⟨true,1,[]⟩:=by simp[dF,h]
  constructor
  ·rw[iw];simp only[h',if_true];rw[if_pos (by simp)];simp[oJ]
  ·rw[iw];simp only[h,if_true];rw[if_pos (by simp)];simp[oJ]
 refine aM (fun m env st=>∃(k:Nat) (jn:Int) (l:List Nat) (p:AV),m=cnt-k/\1<=k/\k<=cnt/\env 8=.int .i64 (k:Int)/\env 6=.int .i64 jn/\env 7=p/\V.fz (dF st.get) 6 p=some (.sl (l.map eN))/\V.fz st.get 5 p=some (.sl (l.map eN))/\l.length<=cnt/\uR bs cnt jn k) (cnt-1) ⟨1,-1,[],.own ⟨194002000,σ.next+1+1⟩ 0 0,rfl,by omega,by omega,by(simp only[go_sem, ↓reduceIte,Nat.reduceEqDiff,Nat.reduceAdd,Nat.reduceSub,Nat.reduceLeDiff,reduceCtorEq])<;>rfl,by(simp only[go_sem, ↓reduceIte,Nat.reduceEqDiff,Nat.reduceAdd,Nat.reduceSub,Nat.reduceLeDiff,reduceCtorEq])<;>rfl,by(simp only[go_sem, ↓reduceIte,Nat.reduceEqDiff,Nat.reduceAdd,Nat.reduceSub,Nat.reduceLeDiff,reduceCtorEq])<;>rfl,(z0 _ _ (sd @Nat.zero_add)).1,(z0 _ _ (sd @Nat.zero_add)).2,by simp,.inl ⟨rfl,rfl⟩⟩ ?_
 rintro m env_b st_b ⟨k,jn,l,p,rfl,rj,s4,b8,b6,b7,yw,kz,hl,hB⟩ e9
 have b0:=e9 0 (by kernel_rfl)
 have b1:=e9 1 (by kernel_rfl)
 simp only[go_sem, ↓reduceIte,Nat.reduceEqDiff,Nat.reduceAdd,Nat.reduceSub,Nat.reduceLeDiff,reduceCtorEq]at b0 b1
 clear e9 z0
 by_cases hk:(k:Int)<(cnt:Int)
 ·have eX:k<cnt:=by omega
  have hFl:=GR cnt hn bs ok nQ dL 0 k (by omega) eX (by omega)
  rw[show(((0:Nat):Int))=0 from rfl]at hFl
  (try((repeat(revert hN;revert N;apply Pn.out));refine wk (tw @b0 (tw @b1 (tw @b6 (tw @b7 (tw @b8 @hk))))) ?_;(repeat(refine Pn.mk ?_;intro N hN))))
  refine .inr (aI _ _ _ _ _ (fun r σ1 hq=>?_) (hFl.x mixed))
  obtain⟨⟨f,val,rfl,hf,S,Oy,Lp,SS⟩,rfl⟩:=hq
  refine hN _ _ ?_
  clear hN N
  have LJ:=w6 dL hf.le
  have s5:=jW.nn (val:=val) dL SS
  (try((repeat(revert hN;revert N;apply Pn.out));refine wk (tw @b0 (tw @b1 (tw @b6 (tw @b7 @b8)))) ?_;(repeat(refine Pn.mk ?_;intro N hN))))
  refine .inr (aI _ _ _ _ _ (fun r σ1 hq=>?_) ((GU cnt hn bs ok nQ f LJ k eX).x mixed (by simp only[ai,ao,aQ,aG,Option.map_some])))
  obtain⟨⟨l',rfl,KI⟩,rfl⟩:=hq
  refine hN _ _ ?_
  clear hN N
  have hw:IntKind.i64.wrap ((k:Int)+1)=((k+1:Nat):Int):=az (by omega)
  have Sh:(∀z,1<=z->z<k->∀S:Nat->Bool,S 0=true->S z=false->val<=jh S bs)->uR bs cnt val (k+1):=fun h=>.inr ⟨s5,fun z yw kz S' h0 h1=>by
   by_cases tO:z=k
   ·subst tO;exact hf.bound h0 h1
   ·exact h z yw (by omega) S' h0 h1,S,Oy,⟨k,eX,Lp⟩,SS⟩
  by_cases j6:jn<0
  ·have xj:k=1:=by
    rcases hB with⟨h,_⟩|⟨h,_⟩
    ·exact h
    ·omega
   (try((repeat(revert hN;revert N;apply Pn.out));refine wk (tw @b0 (tw @b1 (tw @b6 (tw @b7 (tw @b8 (tw @j6 @hw)))))) ?_;(repeat(refine Pn.mk ?_;intro N hN))))
   refine⟨_,?_,k+1,val,l',.sl (l'.map eN),rfl,by omega,by omega,sd (tw @b8 @hw),sd @Nat.zero_add,sd @Nat.zero_add,bW _ _ _,bW _ _ _,KI,Sh fun z h1 h2=>by omega⟩
   omega
  ·have xj:(∀z,1<=z->z<k->∀S:Nat->Bool,S 0=true->S z=false->jn<=jh S bs)/\∃S:Nat->Bool,S 0=true/\(∃z,z<cnt/\S z=false)/\jn=jh S bs:=by
    rcases hB with⟨_,h⟩|⟨_,h⟩
    ·omega
    ·exact h
   (try((repeat(revert hN;revert N;apply Pn.out));refine wk (tw @b0 (tw @b1 (tw @b6 (tw @b7 (tw @b8 (tw @j6 @hw)))))) ?_;(repeat(refine Pn.mk ?_;intro N hN))))
   refine .inr (aI _ _ _ _ _ (fun r σ1 hq=>?_) ((BW val jn l' l (by omega) (by omega)).x mixed (by simp only[ai,ao,bW,aG,yw,Option.map_some])))
   obtain⟨⟨b,rfl,HJ,Bt⟩,rfl⟩:=hq
   refine hN _ _ ?_
   clear hN N
   cases b with
   |true=>
    have Qt:val<=jn:=by
     rcases Int.lt_or_le jn val with h|h
     ·exact absurd (Bt h) (by simp)
     ·exact h
    (try((repeat(revert hN;revert N;apply Pn.out));refine wk (tw @b0 (tw @b1 (tw @b6 (tw @b7 (tw @b8 @hw))))) ?_;(repeat(refine Pn.mk ?_;intro N hN))))
    refine⟨_,?_,k+1,val,l',.sl (l'.map eN),rfl,by omega,by omega,sd (tw @b8 @hw),sd @Nat.zero_add,sd @Nat.zero_add,bW _ _ _,bW _ _ _,KI,Sh fun z h1 h2 S' h3 h4=>by have:=xj.1 z h1 h2 S' h3 h4;omega⟩
    omega
   |false=>
    have Qt:jn<=val:=by
     rcases Int.lt_or_le val jn with h|h
     ·exact absurd (HJ h) (by simp)
     ·exact h
    (try((repeat(revert hN;revert N;apply Pn.out));refine wk (tw @b0 (tw @b1 (tw @b6 (tw @b7 (tw @b8 @hw))))) ?_;(repeat(refine Pn.mk ?_;intro N hN))))
    refine⟨_,?_,k+1,jn,l,p,rfl,by omega,by omega,sd (tw @b8 @hw),sd @b6,sd @b7,yw,kz,hl,.inr ⟨by omega,fun z h1 h2 S' h3 h4=>?_,xj.2⟩⟩
    ·omega
    ·by_cases tO:z=k
     ·subst tO;have:=hf.bound h3 h4;omega
     ·exact xj.1 z h1 (by omega) S' h3 h4
 ·have kH:k=cnt:=by omega
  (try((repeat(revert hN;revert N;apply Pn.out));refine wk (tw @b0 (tw @b1 (tw @b6 (tw @b7 (tw @b8 @hk))))) ?_;(repeat(refine Pn.mk ?_;intro N hN))))
  exact⟨[.int .i64 jn,p],sd @Nat.zero_add,.iC [.int .i64 jn,.sl (l.map eN)],by simp only[fe,bD,ai,ao,kz,aG,Option.map_some],jn,_,rfl,uR.done h2 (kH▸hB)⟩
theorem MH {s:au} (hS:iH s) (a d:Int):p7 s (de (dh s a) d)<=4:=by
 have hF:=hS.form
 have fU:de (dh s a) d=0∨(0<=de (dh s a) d/\de (dh s a) d<=s.ax.length):=by
  unfold de dh
  rw[List.getD_eq_getElem?_getD,List.getD_eq_getElem?_getD]
  rcases ht:s.ah[a.toNat]? with _|t
  ·exact .inl (by simp[zW])
  ·have Vb:=List.mem_of_getElem? ht
   simp only[Option.getD_some]
   rcases hg:t.br[d.toNat]? with _|g
   ·exact .inl rfl
   ·exact .inr (hF.tK t Vb g (List.mem_of_getElem? hg))
 unfold p7
 by_cases h0:de (dh s a) d=0
 ·rw[if_pos h0];omega
 ·rw[if_neg h0]
  have hk:(de (dh s a) d-1).toNat<s.ax.length:=by omega
  have:=eu (hS.SH _ hk).2.1
  unfold pQ at this
  unfold qD
  omega
theorem AS {s:au} (hS:iH s) (a d b:Int):gS s a d b<=4:=by
 unfold gS
 split
 ·exact MH hS a d
 ·omega
theorem Ga {s:au} {l:List ae} (hS:iH s) {i:Nat} (hi:i<l.length) {d:Int}:∀b∈mM s l i d,b.a<l.length/\b.b<l.length/\0<=b.s/\b.s<=4:=by
 intro b hb
 unfold mM at hb
 split at hb
 ·rename_i h
  simp only[List.mem_singleton]at hb
  subst hb
  exact⟨hi,(kD h.1).1,by simp only;omega,AS hS ..⟩
 ·cases hb
theorem xW {s:au} {l:List ae} (hS:iH s):∀b∈cY s l,b.a<l.length/\b.b<l.length/\0<=b.s/\b.s<=4:=by
 intro b hb
 simp only[cY,gL,gm,List.mem_flatMap,List.mem_range]at hb
 obtain⟨i,hi,j,_,hb⟩:=hb
 exact Ga hS hi b hb
theorem qm {s:au} {l:List ae} (hF:ki l):(cY s l).length<=1000:=by
 have:=tA s l l.length
 have:=hF.Bd
 rw[cY];omega
theorem H9 {bs:List PB} {e:Nat} (h:e<bs.length):cq bs e∈bs:=by
 rw[cq,List.getD_eq_getElem?_getD,List.getElem?_eq_getElem h];exact List.getElem_mem h
theorem GC {n:Nat} {bs:List PB} {t:Int} (h:n<2):kK n bs t:=fun S h0 ⟨y,hy,hf⟩=>by
 have:y=0:=by omega
 subst this;rw[h0]at hf;cases hf
def iv (s:au) (l:List ae) (t:Int):Nat:=(leads l.length (eA (aJ t (cY s l)))).length
noncomputable def nH (s:au) (l:List ae) (t:Int):Bool:=@decide (pd l.length (cY s l) t) (Classical.propDecidable _)
def sU (s:au) (l:List ae) (t:Int):Int:=if 64<iv s l t then 4 else 0
theorem mo {s:au} {l:List ae} {t:Int} {p:Prop} [Decidable p] (h:p↔pd l.length (cY s l) t):decide p=nH s l t:=by
 letI:=Classical.propDecidable (pd l.length (cY s l) t)
 unfold nH
 by_cases hp:p
 ·rw[decide_eq_true hp];exact(decide_eq_true (h.1 hp)).symm
 ·rw[decide_eq_false hp];exact(decide_eq_false fun k=>hp (h.2 k)).symm
theorem BZ (s:au) (l:List ae) (t:Int) (hS:iH s) (hA:lp s l):aq Tryz.prog 158 [.dm (aa s),.dm [.sl (l.map aj)],.int .i64 t] (.iC [.bool (nH s l t),.int .i64 (sU s l t)]):=by
 refine aq.body eL rfl fun hl n0=>?_
 clear hl
 have hb:=xW (l:=l) hS
 have nQ:=qm (s:=s) hA.1
 have Gz:=hA.1.Bd
 have yi:=D7 s l hS.form hA
 have KL:=BY l.length (by omega) (cY s l) (fun b h=>⟨(hb b h).1,(hb b h).2.1⟩) (by omega) t
 have hL:=tQ (aJ t (cY s l))
 have fU:=Ez hL (fun b h=>⟨(hb b h).1,(hb b h).2.1⟩)
 have hlen:=(nr (eA (aJ t (cY s l))) (cY s l)).2
 have nR:=jM l.length (eA (aJ t (cY s l)))
 have e6:(l.map aj).length=l.length:=by simp
 by_cases ui:(64:Int)<(iv s l t:Int)
 ·have uj:64<iv s l t:=by omega
  have hd:nH s l t=false:=(mo (p:=False) ⟨False.elim,fun h=>by have:=h.1;unfold iv at uj;omega⟩).symm.trans (by simp)
  rw[iv]at ui
  (repeat(first|((repeat(revert hN;revert N;apply Pn.out));refine wk (tw @aa.eq_1 (tw @ui @e6)) ?_;(repeat(refine Pn.mk ?_;intro N hN)))|((try apply Or.inl);refine⟨_,aq.x (yi) (sd (tw @aa.eq_1 (tw @ui @e6))),?_⟩;refine hN _ _ ?_;clear hN N)|((try apply Or.inl);refine⟨_,aq.x (KL) (sd (tw @aa.eq_1 (tw @ui @e6))),?_⟩;refine hN _ _ ?_;clear hN N)))
  exact jw (.inl rfl) (r1:=.bool false) (r2:=.int .i64 4) (sd @Nat.zero_add) (sd @Nat.zero_add) (by rw[hd,sU,if_pos uj];simp only[eT,bB,cr,fR,eC,Option.map_some])
 have uj:¬64<iv s l t:=by omega
 have hf:sU s l t=0:=by rw[sU,if_neg uj]
 by_cases h2:(iv s l t:Int)<2
 ·have hd:nH s l t=true:=(mo (p:=True) ⟨fun _=>⟨by unfold iv at uj;omega,GC (by unfold iv at h2;omega)⟩,fun _=>trivial⟩).symm.trans (by simp)
  rw[iv]at ui h2
  (repeat(first|((repeat(revert hN;revert N;apply Pn.out));refine wk (tw @aa.eq_1 (tw @ui (tw @h2 @e6))) ?_;(repeat(refine Pn.mk ?_;intro N hN)))|((try apply Or.inl);refine⟨_,aq.x (yi) (sd (tw @aa.eq_1 (tw @ui (tw @h2 @e6)))),?_⟩;refine hN _ _ ?_;clear hN N)|((try apply Or.inl);refine⟨_,aq.x (KL) (sd (tw @aa.eq_1 (tw @ui (tw @h2 @e6)))),?_⟩;refine hN _ _ ?_;clear hN N)))
  exact jw (.inl rfl) (r1:=.bool true) (r2:=.int .i64 0) (sd @Nat.zero_add) (sd @Nat.zero_add) (by rw[hd,hf];simp only[eT,bB,cr,fR,eC,Option.map_some])
 have O7:=zH (iv s l t) (by omega) (by unfold iv;omega) (eY (eA (aJ t (cY s l))) (cY s l)) (fun e he=>by have:=fU _ (H9 he);exact⟨this.1,this.2.1,this.2.2.1⟩) (by omega) (fun e he=>by
  obtain⟨_,_,_,c,hc,dr⟩:=fU _ (H9 he)
  rw[dr];have:=hb c hc;omega)
 rw[iv]at ui h2 O7
 (repeat(first|((repeat(revert hN;revert N;apply Pn.out));refine wk (tw @aa.eq_1 (tw @ui (tw @h2 @e6))) ?_;(repeat(refine Pn.mk ?_;intro N hN)))|((try apply Or.inl);refine⟨_,aq.x (yi) (sd (tw @aa.eq_1 (tw @ui (tw @h2 @e6)))),?_⟩;refine hN _ _ ?_;clear hN N)|((try apply Or.inl);refine⟨_,aq.x (KL) (sd (tw @aa.eq_1 (tw @ui (tw @h2 @e6)))),?_⟩;refine hN _ _ ?_;clear hN N)))
 refine .inr (aI _ _ _ _ _ (fun r σ1 hq=>?_) (O7.x mixed))
 obtain⟨⟨jn,p,rfl,Q9⟩,rfl⟩:=hq
 refine hN _ _ ?_
 clear hN N
 (try((repeat(revert hN;revert N;apply Pn.out));refine wk @Nat.zero_add ?_;(repeat(refine Pn.mk ?_;intro N hN))))
 exact jw (.inl rfl) (r1:=.bool (decide (t<=jn))) (r2:=.int .i64 0) (sd @Nat.zero_add) (sd @Nat.zero_add) (by
  rw[hf,mo (s:=s) (l:=l) (t:=t) (p:=t<=jn) ((Q9 t).trans (DR.trans ⟨fun h=>⟨by unfold iv at uj;omega,h⟩,fun h=>h.2⟩))]
  simp only[eT,bB,cr,fR,eC,Option.map_some])
theorem s9 (t:Int):aq Tryz.prog 157 [.int .i64 t] (.bool (iO t 1 16)):=by
 refine aq.body eL rfl fun hl n0=>?_
 clear hl
 have h:=lJ t 1 16
 (repeat(first|((repeat(revert hN;revert N;apply Pn.out));refine wk @Nat.zero_add ?_;(repeat(refine Pn.mk ?_;intro N hN)))|((try apply Or.inl);refine⟨_,aq.x (h) (sd @Nat.zero_add),?_⟩;refine hN _ _ ?_;clear hN N)))
 exact aX (b:=iO t 1 16) (.inl rfl) (sd @Nat.zero_add) rfl
structure F4 (s:aD):Prop where
 set:iH s.aB
 Ps:lp s.aB s.cu.ah
 some:1<=s.cu.ah.length
 ML:iO s.ay 1 16=true
 holds:pd s.cu.ah.length (cY s.aB s.cu.ah) s.ay
noncomputable def nu (s:aD):Bool:=@decide (F4 s) (Classical.propDecidable _)
theorem w9 {s:aD}:nu s=true↔F4 s:=by simp[nu]
theorem jV {s:aD} (h:¬F4 s):false=nu s:=by simp[nu,h]
theorem Cr {s:aD} (h:F4 s):true=nu s:=by simp[nu,h]
theorem pD {s:au} {l:List ae} {t:Int}:nH s l t=true↔pd l.length (cY s l) t:=by simp[nH]
theorem L4 (s:aD) (hn:gK s.aB) (hg:s.aB.ax.length<=1048576) (ht:s.aB.ah.length<=1048576):aq Tryz.prog 96 [.dm (aC s)] (.bool (nu s)):=by
 refine aq.body eL rfl fun hl n0=>?_
 clear hl
 have h1:=(L1 s.aB hn hg ht).cut mixed (.ptr _ [.sl (s.cu.ah.map aj),.int .i64 s.ay] .nil)
 by_cases hS:iH s.aB
 ·rw[mm.2 hS]at h1
  have h2:=(FD s.aB s.cu.ah).cut mixed (.ptr _ [.sl (s.cu.ah.map aj),.int .i64 s.ay] (.ptr _ [.int .i64 s.ay] .nil))
  by_cases hA:lp s.aB s.cu.ah
  ·rw[l7.2 hA]at h2
   by_cases h0:(s.cu.ah.length:Int)=0
   ·have hd:decide ((s.cu.ah.length:Int)=0)=true:=decide_eq_true h0
    have lr:false=nu s:=jV fun h=>by have:=h.some;omega
    generalize e6:(s.cu.ah.map aj).length=len at *
    (repeat(first|((repeat(revert hN;revert N;apply Pn.out));refine wk (tw @aC.eq_1 (tw @aa.eq_1 @hd)) ?_;(repeat(refine Pn.mk ?_;intro N hN)))|((try apply Or.inl);refine⟨_,aq.x (h1) (sd (tw @aC.eq_1 (tw @aa.eq_1 @hd))),?_⟩;refine hN _ _ ?_;clear hN N)|((try apply Or.inl);refine⟨_,aq.x (h2) (sd (tw @aC.eq_1 (tw @aa.eq_1 @hd))),?_⟩;refine hN _ _ ?_;clear hN N)))
    exact aX (b:=false) (.inl rfl) (sd @Nat.zero_add) lr
   ·have hd:decide ((s.cu.ah.length:Int)=0)=false:=decide_eq_false h0
    have h3:=s9 s.ay
    cases hT:iO s.ay 1 16
    ·rw[hT]at h3
     (repeat(first|((repeat(revert hN;revert N;apply Pn.out));refine wk (tw @aC.eq_1 (tw @aa.eq_1 @hd)) ?_;(repeat(refine Pn.mk ?_;intro N hN)))|((try apply Or.inl);refine⟨_,aq.x (h1) (sd (tw @aC.eq_1 (tw @aa.eq_1 @hd))),?_⟩;refine hN _ _ ?_;clear hN N)|((try apply Or.inl);refine⟨_,aq.x (h2) (sd (tw @aC.eq_1 (tw @aa.eq_1 @hd))),?_⟩;refine hN _ _ ?_;clear hN N)|((try apply Or.inl);refine⟨_,aq.x (h3) (sd (tw @aC.eq_1 (tw @aa.eq_1 @hd))),?_⟩;refine hN _ _ ?_;clear hN N)))
     exact aX (b:=false) (.inl rfl) (sd @Nat.zero_add) (jV fun h=>by have:=h.ML;rw[hT]at this;cases this)
    ·rw[hT]at h3
     have h4:=(BZ s.aB s.cu.ah s.ay hS hA).cut mixed (.ptr _ [.sl (s.cu.ah.map aj),.int .i64 s.ay] (.ptr _ [.int .i64 s.ay] (.same _ .nil)))
     cases hB:nH s.aB s.cu.ah s.ay
     ·rw[hB]at h4
      (repeat(first|((repeat(revert hN;revert N;apply Pn.out));refine wk (tw @aC.eq_1 (tw @aa.eq_1 @hd)) ?_;(repeat(refine Pn.mk ?_;intro N hN)))|((try apply Or.inl);refine⟨_,aq.x (h1) (sd (tw @aC.eq_1 (tw @aa.eq_1 @hd))),?_⟩;refine hN _ _ ?_;clear hN N)|((try apply Or.inl);refine⟨_,aq.x (h2) (sd (tw @aC.eq_1 (tw @aa.eq_1 @hd))),?_⟩;refine hN _ _ ?_;clear hN N)|((try apply Or.inl);refine⟨_,aq.x (h3) (sd (tw @aC.eq_1 (tw @aa.eq_1 @hd))),?_⟩;refine hN _ _ ?_;clear hN N)|((try apply Or.inl);refine⟨_,aq.x (h4) (sd (tw @aC.eq_1 (tw @aa.eq_1 @hd))),?_⟩;refine hN _ _ ?_;clear hN N)))
      exact aX (b:=false) (.inl rfl) (sd @Nat.zero_add) (jV fun h=>by have:=pD.2 h.holds;rw[hB]at this;cases this)
     ·have hP:=pD.1 hB
      have hf:sU s.aB s.cu.ah s.ay=0:=by
       have:=hP.1
       rw[sU,if_neg (by unfold iv;omega)]
      rw[hB,hf]at h4
      (repeat(first|((repeat(revert hN;revert N;apply Pn.out));refine wk (tw @aC.eq_1 (tw @aa.eq_1 @hd)) ?_;(repeat(refine Pn.mk ?_;intro N hN)))|((try apply Or.inl);refine⟨_,aq.x (h1) (sd (tw @aC.eq_1 (tw @aa.eq_1 @hd))),?_⟩;refine hN _ _ ?_;clear hN N)|((try apply Or.inl);refine⟨_,aq.x (h2) (sd (tw @aC.eq_1 (tw @aa.eq_1 @hd))),?_⟩;refine hN _ _ ?_;clear hN N)|((try apply Or.inl);refine⟨_,aq.x (h3) (sd (tw @aC.eq_1 (tw @aa.eq_1 @hd))),?_⟩;refine hN _ _ ?_;clear hN N)|((try apply Or.inl);refine⟨_,aq.x (h4) (sd (tw @aC.eq_1 (tw @aa.eq_1 @hd))),?_⟩;refine hN _ _ ?_;clear hN N)))
      exact aX (b:=true) (.inl rfl) (sd @Nat.zero_add) (Cr ⟨hS,hA,by omega,hT,hP⟩)
  ·have hb:pO s.aB s.cu.ah=false:=Bool.eq_false_iff.2 fun h=>hA (l7.1 h)
   rw[hb]at h2
   (repeat(first|((repeat(revert hN;revert N;apply Pn.out));refine wk (tw @aC.eq_1 @aa.eq_1) ?_;(repeat(refine Pn.mk ?_;intro N hN)))|((try apply Or.inl);refine⟨_,aq.x (h1) (sd (tw @aC.eq_1 @aa.eq_1)),?_⟩;refine hN _ _ ?_;clear hN N)|((try apply Or.inl);refine⟨_,aq.x (h2) (sd (tw @aC.eq_1 @aa.eq_1)),?_⟩;refine hN _ _ ?_;clear hN N)))
   exact aX (b:=false) (.inl rfl) (sd @Nat.zero_add) (jV fun h=>hA h.Ps)
 ·have hb:q9 s.aB=false:=Bool.eq_false_iff.2 fun h=>hS (mm.1 h)
  rw[hb]at h1
  (repeat(first|((repeat(revert hN;revert N;apply Pn.out));refine wk (tw @aC.eq_1 @aa.eq_1) ?_;(repeat(refine Pn.mk ?_;intro N hN)))|((try apply Or.inl);refine⟨_,aq.x (h1) (sd (tw @aC.eq_1 @aa.eq_1)),?_⟩;refine hN _ _ ?_;clear hN N)))
  exact aX (b:=false) (.inl rfl) (sd @Nat.zero_add) (jV fun h=>hS h.set)
theorem MG {s:au} (hS:iH s) (a d:Int):0<=p7 s (de (dh s a) d):=by
 have hF:=hS.form
 have fU:de (dh s a) d=0∨(0<=de (dh s a) d/\de (dh s a) d<=s.ax.length):=by
  unfold de dh
  rw[List.getD_eq_getElem?_getD,List.getD_eq_getElem?_getD]
  rcases ht:s.ah[a.toNat]? with _|t
  ·exact .inl (by simp[zW])
  ·have Vb:=List.mem_of_getElem? ht
   simp only[Option.getD_some]
   rcases hg:t.br[d.toNat]? with _|g
   ·exact .inl rfl
   ·exact .inr (hF.tK t Vb g (List.mem_of_getElem? hg))
 unfold p7
 by_cases h0:de (dh s a) d=0
 ·rw[if_pos h0];omega
 ·rw[if_neg h0]
  have hk:(de (dh s a) d-1).toNat<s.ax.length:=by omega
  have:=eu (hS.SH _ hk).2.1
  unfold pQ at this
  unfold qD
  omega
theorem AR {s:au} (hS:iH s) (a d b:Int):0<=gS s a d b/\gS s a d b<=4:=by
 refine⟨?_,AS hS a d b⟩
 unfold gS
 split
 ·exact MG hS a d
 ·omega
def dq (s:au) (f:ad->Int) (p:ad) (t:Int):Nat->Int
 |0=>0
 |d+1=>dq s f p t d+if 0<=f (bd p d)then gS s t d (f (bd p d))else 0
def qb (s:au) (f:ad->Int) (p:ad) (t:Int):Int:=dq s f p t 4
theorem jX {s:au} (hS:iH s) (f:ad->Int) (p:ad) (t:Int):∀d,0<=dq s f p t d/\dq s f p t d<=4*(d:Int)
 |0=>⟨Int.le_refl _,Int.le_refl _⟩
 |d+1=>by
  have:=jX hS f p t d
  have hb:=AR hS t d (f (bd p d))
  simp only[dq]
  split<;>omega
theorem H8 {s:au} {l:List ae} (hA:lp s l) {p:ad} (h:0<=gR l p):eQ s (gR l p)=true:=by
 unfold gR at h ⊢
 split at h
 ·rename_i h0
  rw[if_pos h0]
  exact hA.2 _ (kY (kD h0).1)
 ·omega
noncomputable def ud (s:aD) (l:List ae):Bool:=nu s&&pO s.aB l
theorem D8 (s:aD) (l:List ae) (hn:gK s.aB) (hg:s.aB.ax.length<=1048576) (ht:s.aB.ah.length<=1048576):aq Tryz.prog 58 [.dm (aC s),.dm [.sl (l.map aj)]] (.int .i64 (if ud s l then 0 else 1)):=by
 refine aq.body eL rfl fun hl n0=>?_
 clear hl
 have h1:=L4 s hn hg ht
 have h2:=(FD s.aB l).cut mixed (.ptr _ [.sl (s.cu.ah.map aj),.int .i64 s.ay] (.same _ .nil))
 cases b1:nu s
 ·rw[b1]at h1
  (repeat(first|((repeat(revert hN;revert N;apply Pn.out));refine wk @Nat.zero_add ?_;(repeat(refine Pn.mk ?_;intro N hN)))|((try apply Or.inl);refine⟨_,aq.x (h1) (sd @Nat.zero_add),?_⟩;refine hN _ _ ?_;clear hN N)))
  exact cD (b:=1) (.inl rfl) (sd @Nat.zero_add) (by rw[ud,b1];rfl)
 rw[b1]at h1
 rw[aC]at h1 ⊢
 cases b2:pO s.aB l
 ·rw[b2]at h2
  (repeat(first|((repeat(revert hN;revert N;apply Pn.out));refine wk @aa.eq_1 ?_;(repeat(refine Pn.mk ?_;intro N hN)))|((try apply Or.inl);refine⟨_,aq.x (h1) (sd @aa.eq_1),?_⟩;refine hN _ _ ?_;clear hN N)|((try apply Or.inl);refine⟨_,aq.x (h2) (sd @aa.eq_1),?_⟩;refine hN _ _ ?_;clear hN N)))
  exact cD (b:=1) (.inl rfl) (sd @Nat.zero_add) (by rw[ud,b1,b2];rfl)
 ·rw[b2]at h2
  (repeat(first|((repeat(revert hN;revert N;apply Pn.out));refine wk @aa.eq_1 ?_;(repeat(refine Pn.mk ?_;intro N hN)))|((try apply Or.inl);refine⟨_,aq.x (h1) (sd @aa.eq_1),?_⟩;refine hN _ _ ?_;clear hN N)|((try apply Or.inl);refine⟨_,aq.x (h2) (sd @aa.eq_1),?_⟩;refine hN _ _ ?_;clear hN N)))
  exact cD (b:=0) (.inl rfl) (sd @Nat.zero_add) (by rw[ud,b1,b2];rfl)
theorem H6 {s:aD} {l:List ae}:ud s l=true↔F4 s/\lp s.aB l:=by simp[ud,w9,l7]
theorem Cu {s:au} {k:Nat} (h:k<s.ah.length):eQ s k=true:=by
 unfold eQ;exact jL (by omega)
theorem H7 {s:au} {l:List ae} (hA:lp s l) (p:ad):gR l p<0↔eJ l p<0:=by
 constructor
 ·intro h
  rcases Int.lt_or_le (eJ l p) 0 with h0|h0
  ·exact h0
  ·exfalso
   obtain⟨h1,_⟩:=kD h0
   have h2:=(eu (hA.2 _ (kY h1))).1
   rw[gR,if_pos h0]at h
   omega
 ·intro h
  rw[gR,if_neg (by omega)];omega
abbrev mP:MK:=⟨true,[.tI,.tI]⟩
theorem Ca (p:ad):∀(ts:List ae) (i:Nat),gi mP (ab p) (ts.map aj) i=some (if qM ts p<ts.length then some (i+qM ts p)else none)
 |[],i=>by simp[gi,qM]
 |t::ts,i=>by
  have e:eU mP.ts (ab p) ((aj t).take mP.ks)=some (decide (p=t.bc)):=by
   have h:(p=t.bc)↔(p.eI=t.bc.eI/\p.eF=t.bc.eF):=⟨fun h=>by rw[h];exact⟨rfl,rfl⟩,fun h=>wH h.1 h.2⟩
   simp[MK.ks,ab,aj,eU,fY,h]
  have ih:=Ca p ts (i+1)
  rw[List.map_cons]
  unfold gi
  rw[e]
  by_cases h:p=t.bc
  ·rw[decide_eq_true h]
   have h0:qM (t::ts) p=0:=by simp[qM,List.findIdx_cons,h]
   simp[h0]
  ·rw[decide_eq_false h]
   have h0:qM (t::ts) p=qM ts p+1:=by
    simp[qM,List.findIdx_cons,Ne.symm h]
   simp only[ih,h0,List.length_cons,Nat.add_lt_add_iff_right]
   congr 1
   split<;>simp;omega
theorem yK (ts:List ae) (p:ad):fV mP (.agg [.int .i64 p.eI,.int .i64 p.eF]) (ts.map aj)=some (if 0<=eJ ts p then some (eJ ts p).toNat else none):=by
 have h:=Ca p ts 0
 unfold fV
 rw[if_pos ⟨rfl,rfl,rfl⟩]
 show gi mP (ab p) _ 0= _
 rw[h]
 unfold eJ
 split<;>simp
theorem G3 {ts:List ae} {p:ad} (h:0<=eJ ts p):fV mP (.agg [.int .i64 p.eI,.int .i64 p.eF]) (ts.map aj)=some (some (eJ ts p).toNat):=by rw[yK,if_pos h]
theorem wz {ts:List ae} {p:ad} (h:eJ ts p<0):fV mP (.agg [.int .i64 p.eI,.int .i64 p.eF]) (ts.map aj)=some none:=by rw[yK,if_neg (by omega)]
structure y5 (g:Rows) (n:Nat) (c T O:Id) (s:aD) (ts:List ae):Prop where
 row:∃b,g c=some ⟨b,6,[[.sl (s.aB.ax.map bP),.sl (s.aB.ah.map bp),.sl (s.cu.ah.map aj),.int .i64 s.ay,.map T mP,.map O mP]]⟩
 tl:∃b,g T=some ⟨b,mP.lT,ts.map aj⟩
 cv:c.bm<n
 tv:T.bm<n
 ov:O.bm<n
theorem y5.ro {g:Rows} {n:Nat} {c T O:Id} {s:aD} {ts:List ae} (h:y5 g n c T O s ts):y5 (V.ro g) n c T O s ts:=by
 obtain⟨b,h1⟩:=h.row
 obtain⟨b2,h2⟩:=h.tl
 exact⟨⟨false,by simp[V.ro,h1]⟩,⟨false,by simp[V.ro,h2]⟩,h.cv,h.tv,h.ov⟩
theorem y5.frame {g g':Rows} {n n':Nat} {c T O:Id} {s:aD} {ts:List ae} (h:y5 g n c T O s ts) (hn:n<=n') (hc:g' c=g c) (hT:g' T=g T):y5 g' n' c T O s ts:=
 ⟨by rw[hc];exact h.row,by rw[hT];exact h.tl,Nat.lt_of_lt_of_le h.cv hn,Nat.lt_of_lt_of_le h.tv hn,Nat.lt_of_lt_of_le h.ov hn⟩
theorem TH {σ:ar} {c T O:Id} {s:aD} {ts:List ae} (h:y5 σ.get σ.next c T O s ts) (p:ad):Call Tryz.prog 121 [.ptr c 0 0,.agg (ab p)] σ (fun r _=>r=.int .i64 (gR ts p)):=by
 refine eV eL rfl fun nS=>?_
 clear nS
 obtain⟨b,h1⟩:=h.row
 obtain⟨b2,h2⟩:=h.tl
 have v1:=dx h.cv
 have v2:=dx h.tv
 by_cases h0:0<=eJ ts p
 ·have hm:=G3 h0
  have hg:=gw (kD h0).1
  have ho:(some (eJ ts p).toNat).isSome=true:=rfl
  (try((repeat(revert hN;revert N;apply Pn.out));refine wk (tw @h1 (tw @h2 (tw @v1 (tw @v2 (tw @hm (tw @hg (tw @ho (tw @ab.eq_1 @aj.eq_1)))))))) ?_;(repeat(refine Pn.mk ?_;intro N hN))))
  exact fb (.inl rfl) (vs:=[.int .i64 (aU ts (eJ ts p).toNat).bU]) (sd @Nat.zero_add) (by rw[gR,if_pos h0];rfl)
 ·have hm:=wz (ts:=ts) (p:=p) (by omega)
  have ho:(none:Option Nat).isSome=false:=rfl
  (try((repeat(revert hN;revert N;apply Pn.out));refine wk (tw @h1 (tw @h2 (tw @v1 (tw @v2 (tw @hm (tw @ho @ab.eq_1)))))) ?_;(repeat(refine Pn.mk ?_;intro N hN))))
  exact fb (.inl rfl) (vs:=[.int .i64 (-1)]) (sd @Nat.zero_add) (by rw[gR,if_neg h0];rfl)
theorem NU {σ:ar} {c T O:Id} {s:aD} {ts:List ae} (h:y5 σ.get σ.next c T O s ts) (p:ad):gq (Call Tryz.prog) 121 [.ptr c 0 0,.agg (ab p)] σ (fun r=>r=.int .i64 (gR ts p)):=by
 unfold gq PC
 exact Or.inl (aI _ _ _ _ _ (fun r σ' hr=>⟨_,by rw[hr];exact aG _ _ _ _,rfl⟩) (TH (σ:=⟨V.ro σ.get,σ.next⟩) h.ro p))
theorem F8 {σ:ar} (s:au) (hS:iH s) (F:ad->Int) (hF:∀q,0<=F q->eQ s (F q)=true) (p:ad) (hx:iB p.eI) (hy:iB p.eF) (t:Int) (ht:eQ s t=true) (f:Nat) (first:List AV)
  (Bs:∀σ':ar,σ.next<=σ'.next->(∀x:Id,x.bm<σ.next->σ'.get x=σ.get x)->∀q,gq (Call Tryz.prog) f (first++[.agg (ab q)]) σ' (fun r=>r=.int .i64 (F q))):
  Call Tryz.prog 120 [.agg (aa s),.agg (ab p),.int .i64 t,.tT f first] σ (fun r _=>r=.int .i64 (qb s F p t)):=by
 refine eV eL rfl fun nS=>?_
 clear nS
 (try((repeat(revert hN;revert N;apply Pn.out));refine wk (tw @ab.eq_1 @aa.eq_1) ?_;(repeat(refine Pn.mk ?_;intro N hN))))
 refine aM (fun n env st=>∃k:Nat,n=(4)-k/\k<=(4)/\env 12=.int .i64 (k:Int)/\env 9=.int .i64 (dq s F p t k)/\st.get ⟨120000000,σ.next⟩=some ⟨true,2,[aa s]⟩/\st.get ⟨120000001,σ.next⟩=some ⟨true,2,[ab p]⟩/\(σ.next<st.next/\∀x:Id,x.bm<σ.next->st.get x=σ.get x)) (4) ⟨0,by omega,by omega,sl (tw @ab.eq_1 @aa.eq_1),sl (tw @ab.eq_1 @aa.eq_1),sl (tw @ab.eq_1 @aa.eq_1),sl (tw @ab.eq_1 @aa.eq_1),⟨by(try dsimp only);omega,fun x hx=>by
  have:=dx hx
  simp only[go_sem, ↓reduceIte,Nat.reduceEqDiff,Nat.reduceAdd,Nat.reduceSub,Nat.reduceLeDiff,reduceCtorEq,this]⟩⟩ ?_
 rintro n_a env_a st_a ⟨k,rfl,ale,a12,a9,ag0,ag1,kc⟩ di
 have a2:=di 2 (by kernel_rfl);have a3:=di 3 (by kernel_rfl);have a4:=di 4 (by kernel_rfl);have a5:=di 5 (by kernel_rfl)
 simp only[go_sem, ↓reduceIte,Nat.reduceEqDiff,Nat.reduceAdd,Nat.reduceSub,Nat.reduceLeDiff,reduceCtorEq,ab,aa]at a2 a3 a4 a5
 clear di
 obtain⟨an,di⟩:=kc
 by_cases hk:(k:Int)<4
 ·have cz:∀{e:Env} {gg:Rows} {nx:Nat},(e 12=.int .i64 (IntKind.i64.wrap ((k:Int)+1)))->(e 9=.int .i64 (dq s F p t (k+1)))->(gg ⟨120000000,σ.next⟩=some ⟨true,2,[aa s]⟩)->(gg ⟨120000001,σ.next⟩=some ⟨true,2,[ab p]⟩)->(σ.next<nx/\∀x:Id,x.bm<σ.next->gg x=σ.get x)->∃m0,m0<(4)-k/\∃k:Nat,m0=(4)-k/\k<=(4)/\e 12=.int .i64 (k:Int)/\e 9=.int .i64 (dq s F p t k)/\gg ⟨120000000,σ.next⟩=some ⟨true,2,[aa s]⟩/\gg ⟨120000001,σ.next⟩=some ⟨true,2,[ab p]⟩/\(σ.next<nx/\∀x:Id,x.bm<σ.next->gg x=σ.get x):=fun x1 x2 x3 x4 x5=>⟨_,by omega,k+1,rfl,by omega,(by rw[x1,az (by omega)]),x2,x3,x4,x5⟩
  have dL:=ED p k (jL (by omega)) hx hy
  have fU:=jX hS F p t k
  (repeat(first|((repeat(revert hN;revert N;apply Pn.out));refine wk (tw @a12 (tw @a9 (tw @ag0 (tw @ag1 (tw @a2 (tw @a3 (tw @a4 (tw @a5 (tw @hk @ab.eq_1))))))))) ?_;(repeat(refine Pn.mk ?_;intro N hN)))|((try apply Or.inl);refine⟨_,aq.x (dL) (sd (tw @a12 (tw @a9 (tw @ag0 (tw @ag1 (tw @a2 (tw @a3 (tw @a4 (tw @a5 (tw @hk @ab.eq_1)))))))))),?_⟩;refine hN _ _ ?_;clear hN N)))
  refine .inl ⟨_,Bs _ (by(try dsimp only);omega) (fun x hx=>sd (di x hx)) (bd p k),?_⟩
  refine hN _ _ ?_
  clear hN N
  by_cases h0:0<=F (bd p k)
  ·have yi:=Ik s hS.form t k (F (bd p k)) ht (hF _ h0) (jL (by omega))
   have fx:=AR hS t k (F (bd p k))
   have hw:IntKind.i64.wrap (dq s F p t k+gS s t k (F (bd p k)))=dq s F p t (k+1):=by
    rw[bx (by omega),dq,if_pos h0]
   rw[aa]at yi
   (repeat(first|((repeat(revert hN;revert N;apply Pn.out));refine wk (tw @a12 (tw @a9 (tw @ag0 (tw @ag1 (tw @a2 (tw @a3 (tw @a4 (tw @a5 (tw @h0 @aa.eq_1))))))))) ?_;(repeat(refine Pn.mk ?_;intro N hN)))|((try apply Or.inl);refine⟨_,aq.x (yi) (sd (tw @a12 (tw @a9 (tw @ag0 (tw @ag1 (tw @a2 (tw @a3 (tw @a4 (tw @a5 (tw @h0 @aa.eq_1)))))))))),?_⟩;refine hN _ _ ?_;clear hN N)))
   refine cz ?_ ?_ ?_ ?_ (⟨by(try dsimp only);omega,fun x hx=>by
    have h1:=di x hx
    simp only[go_sem, ↓reduceIte,Nat.reduceEqDiff,Nat.reduceAdd,Nat.reduceSub,Nat.reduceLeDiff,reduceCtorEq,h1]⟩)
   all_goals simp only[go_sem, ↓reduceIte,Nat.reduceEqDiff,Nat.reduceAdd,Nat.reduceSub,Nat.reduceLeDiff,reduceCtorEq,a12,a9,ag0,ag1,a2,a3,a4,a5,hw,ab,aa]
  ·have hw:dq s F p t (k+1)=dq s F p t k:=by rw[dq,if_neg h0,Int.add_zero]
   (try((repeat(revert hN;revert N;apply Pn.out));refine wk (tw @a12 (tw @a9 (tw @ag0 (tw @ag1 (tw @a2 (tw @a3 (tw @a4 (tw @a5 @h0)))))))) ?_;(repeat(refine Pn.mk ?_;intro N hN))))
   refine cz ?_ ?_ ?_ ?_ (⟨by(try dsimp only);omega,fun x hx=>by
    have h1:=di x hx
    simp only[go_sem, ↓reduceIte,Nat.reduceEqDiff,Nat.reduceAdd,Nat.reduceSub,Nat.reduceLeDiff,reduceCtorEq,h1]⟩)
   all_goals simp only[go_sem, ↓reduceIte,Nat.reduceEqDiff,Nat.reduceAdd,Nat.reduceSub,Nat.reduceLeDiff,reduceCtorEq,a12,a9,ag0,ag1,a2,a3,a4,a5,hw,ab,aa]
 ·(try((repeat(revert hN;revert N;apply Pn.out));refine wk (tw @a12 (tw @a9 (tw @ag0 (tw @ag1 (tw @a2 (tw @a3 (tw @a4 (tw @a5 @hk)))))))) ?_;(repeat(refine Pn.mk ?_;intro N hN))))
  exact fb (.inl rfl) (vs:=[.int .i64 (dq s F p t k)]) (sd (tw @a12 (tw @a9 (tw @ag0 (tw @ag1 (tw @a2 (tw @a3 (tw @a4 @a5)))))))) (by rw[show k=4 by omega];rfl)
noncomputable def eS (s:aD) (ts:List ae) (p:ad) (t:Int):Bool:=zZ p&&decide (gR ts p<0)&&decide (s.ay<=qb s.aB (gR ts) p t)
theorem F9 {σ:ar} {c T O:Id} {s:aD} {ts:List ae} (h:y5 σ.get σ.next c T O s ts) (hS:iH s.aB) (hF:∀q,0<=gR ts q->eQ s.aB (gR ts q)=true) (p:ad) (hx:iB p.eI) (hy:iB p.eF) (t:Int) (ht:eQ s.aB t=true):
  gq (Call Tryz.prog) 120 [.agg (aa s.aB),.agg (ab p),.int .i64 t,.tT 121 [.ptr c 0 0]] σ (fun r=>r=.int .i64 (qb s.aB (gR ts) p t)):=by
 unfold gq PC
 exact Or.inl (aI _ _ _ _ _ (fun r σ' hr=>⟨_,by rw[hr];exact aG _ _ _ _,rfl⟩) (F8 (σ:=⟨V.ro σ.get,σ.next⟩) s.aB hS (gR ts) hF p hx hy t ht _ _
  (fun σ' hn hk q=>NU (h.ro.frame hn (hk _ h.cv) (hk _ h.tv)) q)))
theorem Oa {σ:ar} {c T O:Id} {s:aD} {ts:List ae} (h:y5 σ.get σ.next c T O s ts) (hS:iH s.aB) (hF:∀q,0<=gR ts q->eQ s.aB (gR ts q)=true) (p:ad) (t:Int) (ht:eQ s.aB t=true):
  Call Tryz.prog 133 [.ptr c 0 0,.agg (ab p),.int .i64 t] σ (fun r _=>r=.bool (eS s ts p t)):=by
 refine eV eL rfl fun nS=>?_
 clear nS
 obtain⟨b,h1⟩:=h.row
 have v1:=dx h.cv
 have hw:=rC p
 have v2:=dx h.tv
 by_cases h0:zZ p=true
 ·rw[h0]at hw
  obtain⟨hx,hy⟩:=te h0
  by_cases h2:gR ts p<0
  ·(repeat(first|((repeat(revert hN;revert N;apply Pn.out));refine wk (tw @h1 (tw @v1 (tw @h2 @ab.eq_1))) ?_;(repeat(refine Pn.mk ?_;intro N hN)))|((try apply Or.inl);refine⟨_,aq.x (hw) (sd (tw @h1 (tw @v1 (tw @h2 @ab.eq_1)))),?_⟩;refine hN _ _ ?_;clear hN N)))
   refine⟨_,NU (h.frame (by(try dsimp only);omega) (sd @v1) (sd @v2)) p,?_⟩
   refine hN _ _ ?_
   clear hN N
   (repeat(first|((repeat(revert hN;revert N;apply Pn.out));refine wk (tw @h1 (tw @v1 (tw @h2 (tw @ab.eq_1 @aa.eq_1)))) ?_;(repeat(refine Pn.mk ?_;intro N hN)))|((try apply Or.inl);refine⟨_,aq.x (hw) (sd (tw @h1 (tw @v1 (tw @h2 (tw @ab.eq_1 @aa.eq_1))))),?_⟩;refine hN _ _ ?_;clear hN N)))
   refine⟨_,F9 (h.frame (by(try dsimp only);omega) (sd @v1) (sd @v2)) hS hF p hx hy t ht,?_⟩
   refine hN _ _ ?_
   clear hN N
   have hb:=jX hS (gR ts) p t 4
   (repeat(first|((repeat(revert hN;revert N;apply Pn.out));refine wk (tw @h1 (tw @v1 (tw @h2 (tw @ab.eq_1 @aa.eq_1)))) ?_;(repeat(refine Pn.mk ?_;intro N hN)))|((try apply Or.inl);refine⟨_,aq.x (hw) (sd (tw @h1 (tw @v1 (tw @h2 (tw @ab.eq_1 @aa.eq_1))))),?_⟩;refine hN _ _ ?_;clear hN N)))
   exact fb (.inl rfl) (vs:=[.bool (decide (s.ay<=qb s.aB (gR ts) p t))]) (sd @Nat.zero_add) (by rw[show eS s ts p t=decide (s.ay<=qb s.aB (gR ts) p t) by simp[eS,h0,h2]];rfl)
  ·(repeat(first|((repeat(revert hN;revert N;apply Pn.out));refine wk (tw @h1 (tw @v1 (tw @h2 @ab.eq_1))) ?_;(repeat(refine Pn.mk ?_;intro N hN)))|((try apply Or.inl);refine⟨_,aq.x (hw) (sd (tw @h1 (tw @v1 (tw @h2 @ab.eq_1)))),?_⟩;refine hN _ _ ?_;clear hN N)))
   refine⟨_,NU (h.frame (by(try dsimp only);omega) (sd @v1) (sd @v2)) p,?_⟩
   refine hN _ _ ?_
   clear hN N
   (repeat(first|((repeat(revert hN;revert N;apply Pn.out));refine wk (tw @h1 (tw @v1 (tw @h2 @ab.eq_1))) ?_;(repeat(refine Pn.mk ?_;intro N hN)))|((try apply Or.inl);refine⟨_,aq.x (hw) (sd (tw @h1 (tw @v1 (tw @h2 @ab.eq_1)))),?_⟩;refine hN _ _ ?_;clear hN N)))
   exact fb (.inl rfl) (vs:=[.bool false]) (sd @Nat.zero_add) (by rw[show eS s ts p t=false by simp[eS,h2]];rfl)
 ·rw[Bool.not_eq_true]at h0
  rw[h0]at hw
  (repeat(first|((repeat(revert hN;revert N;apply Pn.out));refine wk (tw @h1 (tw @v1 @ab.eq_1)) ?_;(repeat(refine Pn.mk ?_;intro N hN)))|((try apply Or.inl);refine⟨_,aq.x (hw) (sd (tw @h1 (tw @v1 @ab.eq_1))),?_⟩;refine hN _ _ ?_;clear hN N)))
  exact fb (.inl rfl) (vs:=[.bool false]) (sd @Nat.zero_add) (by rw[show eS s ts p t=false by simp[eS,h0]];rfl)
def OW (rows:List (List AV)):Prop:=∀r∈rows,∃(x y:Int) (v:AV),r=[.int .i64 x,.int .i64 y,v]
def lE (σ:ar) (O:Id) (g:Rows) (n:Nat):Prop:=σ.next<=n/\(∀x:Id,x.bm<σ.next->x≠O->g x=σ.get x)/\∃rows,g O=some ⟨true,mP.lT,rows⟩/\OW rows
theorem lE.Kz {σ:ar} {g:Rows} {n:Nat} {c T O:Id} {s:aD} {ts:List ae} (h:y5 σ.get σ.next c T O s ts) (hc:c≠O) (hT:T≠O) (k:lE σ O g n):y5 g n c T O s ts:=
 h.frame k.1 (k.2.1 _ h.cv hc) (k.2.1 _ h.tv hT)
theorem lE.trans {a b:ar} {O:Id} {g:Rows} {n:Nat} (h:lE a O b.get b.next) (k:lE b O g n):lE a O g n:=
 ⟨Nat.le_trans h.1 k.1,fun x hx hO=>(k.2.1 x (Nat.lt_of_lt_of_le hx h.1) hO).trans (h.2.1 x hx hO),k.2.2⟩
theorem lE.frame {a:ar} {O:Id} {g g':Rows} {n n' m:Nat} (h:lE a O g n) (ha:a.next<=m) (ho:O.bm<m) (hn:n<=n') (hf:∀x:Id,x.bm<m->g' x=g x):lE a O g' n':=by
 refine⟨Nat.le_trans h.1 hn,fun x hx hO=>(hf x (Nat.lt_of_lt_of_le hx ha)).trans (h.2.1 x hx hO),?_⟩
 obtain⟨rows,h1,h2⟩:=h.2.2
 exact⟨rows,(hf O ho).trans h1,h2⟩
theorem lE.write {a:ar} {O:Id} {g g':Rows} {n n':Nat} (h:lE a O g n) (hn:n<=n') (hf:∀x:Id,x.bm<a.next->x≠O->g' x=g x) {rows:List (List AV)} (ho:g' O=some ⟨true,mP.lT,rows⟩) (hw:OW rows):lE a O g' n':=
 ⟨Nat.le_trans h.1 hn,fun x hx hO=>(hf x hx hO).trans (h.2.1 x hx hO),rows,ho,hw⟩
theorem Ob {σ:ar} {c T O:Id} {s:aD} {ts:List ae} (h:y5 σ.get σ.next c T O s ts) (hS:iH s.aB) (hF:∀q,0<=gR ts q->eQ s.aB (gR ts q)=true) (p:ad) (t:Int) (ht:eQ s.aB t=true):
  gq (Call Tryz.prog) 133 [.ptr c 0 0,.agg (ab p),.int .i64 t] σ (fun r=>r=.bool (eS s ts p t)):=by
 unfold gq PC
 exact Or.inl (aI _ _ _ _ _ (fun r σ' hr=>⟨_,by rw[hr];exact aZ _ _ _,rfl⟩) (Oa (σ:=⟨V.ro σ.get,σ.next⟩) h.ro hS hF p t ht))
structure pK (g:Rows) (n:Nat) (c T O:Id) (s:aD) (ts:List ae):Prop where
 row:g c=some ⟨true,6,[[.sl (s.aB.ax.map bP),.sl (s.aB.ah.map bp),.sl (s.cu.ah.map aj),.int .i64 s.ay,.map T mP,.map O mP]]⟩
 tl:g T=some ⟨true,mP.lT,ts.map aj⟩
 op:∃rows,g O=some ⟨true,mP.lT,rows⟩/\OW rows
 cv:c.bm<n
 tv:T.bm<n
 ov:O.bm<n
 cT:c≠T
 cO:c≠O
 TO:T≠O
theorem pK.Kz {g:Rows} {n:Nat} {c T O:Id} {s:aD} {ts:List ae} (h:pK g n c T O s ts):y5 g n c T O s ts:=⟨⟨_,h.row⟩,⟨_,h.tl⟩,h.cv,h.tv,h.ov⟩
theorem pK.look {σ:ar} {g:Rows} {n:Nat} {c T O:Id} {s:aD} {ts:List ae} (h:pK σ.get σ.next c T O s ts) (k:lE σ O g n):pK g n c T O s ts:=
 ⟨(k.2.1 _ h.cv h.cO).trans h.row,(k.2.1 _ h.tv h.TO).trans h.tl,k.2.2,Nat.lt_of_lt_of_le h.cv k.1,Nat.lt_of_lt_of_le h.tv k.1,Nat.lt_of_lt_of_le h.ov k.1,h.cT,h.cO,h.TO⟩
theorem pK.frame {g g':Rows} {n n':Nat} {c T O:Id} {s:aD} {ts:List ae} (h:pK g n c T O s ts) (hn:n<=n') (hf:∀x:Id,x.bm<n->g' x=g x):pK g' n' c T O s ts:=
 ⟨(hf _ h.cv).trans h.row,(hf _ h.tv).trans h.tl,by rw[hf _ h.ov];exact h.op,Nat.lt_of_lt_of_le h.cv hn,Nat.lt_of_lt_of_le h.tv hn,Nat.lt_of_lt_of_le h.ov hn,h.cT,h.cO,h.TO⟩
theorem BM {l:List ae} {p:ad}:eJ l p<0↔∀t∈l,t.bc≠p:=by
 unfold eJ qM
 by_cases h:(l.findIdx fun c=>decide (c.bc=p))<l.length
 ·rw[if_pos h]
  obtain⟨t,ht,h2⟩:=List.findIdx_lt_length.1 h
  exact⟨fun h=>by omega,fun h=>absurd (by simpa using h2) (h t ht)⟩
 ·rw[if_neg h]
  exact⟨fun _ t ht e=>h (List.findIdx_lt_length.2 ⟨t,ht,by simp[e]⟩),fun _=>by omega⟩
theorem Ke {l:List ae} (h:sM l) {k:Nat} (hk:k<l.length):eJ (l.take k) (aU l k).bc<0:=by
 rw[BM]
 intro t ht e
 obtain⟨j,hj,rfl⟩:=List.getElem_of_mem ht
 have KG:j<k:=by rw[List.length_take]at hj;omega
 have:=h j k KG hk
 rw[List.getElem_take]at e
 have e2:aU l j=l[j]'(by omega):=by unfold aU;rw[List.getD_eq_getElem?_getD,List.getElem?_eq_getElem (by omega)];rfl
 rw[e2,e]at this
 simp[kE]at this
theorem MJ {l:List ae} {k:Nat} (hk:k<l.length):(l.take k).map aj++[[.int .i64 (aU l k).bc.eI,.int .i64 (aU l k).bc.eF,.int .i64 (aU l k).bU]]=(l.take (k+1)).map aj:=by
 have e2:aU l k=l[k]:=by unfold aU;rw[List.getD_eq_getElem?_getD,List.getElem?_eq_getElem hk];rfl
 rw[List.take_succ_eq_append_getElem hk,List.map_append,e2]
 rfl
theorem iH.M5 {s:au} {l:List ae} (hA:lp s l):∀q,0<=gR l q->eQ s (gR l q)=true:=fun _ h=>H8 hA h
def jf (ps:List ad) (i:Nat):ad:=ps.getD i ⟨0,0⟩
theorem iq {ps:List ad} {i:Nat} (h:i<ps.length):jf ps i=ps[i]:=by simp[jf,List.getD_eq_getElem?_getD,h]
theorem z7 {ps:List ad} {i:Nat} (h:i<ps.length):jf ps i∈ps:=by rw[iq h];exact List.getElem_mem h
theorem tW {ps:List ad} {i:Nat} (h:i<ps.length):(ps.map ab)[i]? =some (ab (jf ps i)):=by simp[jf,List.getD_eq_getElem?_getD,h]
def mJ (ps:List ad):Prop:=ps.Pairwise fun a b=>kE a b=true
theorem mJ.at_ {ps:List ad} (h:mJ ps) {i j:Nat} (DO:i<j) (hj:j<ps.length):kE (jf ps i) (jf ps j)=true:=by
 rw[iq hj,iq (by omega)]
 exact List.pairwise_iff_getElem.1 h i j (by omega) hj DO
def jN (ps:List ad) (p:ad):Nat:=ps.findIdx fun q=> !kE q p
theorem zN (ps:List ad) (p:ad):jN ps p<=ps.length:=List.findIdx_le_length
theorem FF {ps:List ad} {p:ad} {x:Nat} (h:x<jN ps p):kE (jf ps x) p=true:=by
 have hx:x<ps.length:=Nat.lt_of_lt_of_le h (zN ps p)
 have:=List.not_of_lt_findIdx h
 rw[iq hx]
 simpa using this
theorem zM {ps:List ad} {p:ad} (hR:mJ ps) {x:Nat} (h:jN ps p<=x) (hx:x<ps.length):kE (jf ps x) p=false:=by
 have h0:jN ps p<ps.length:=by omega
 have h1:kE (jf ps (jN ps p)) p=false:=by
  have:=List.findIdx_getElem (p:=fun q=> !kE q p) (xs:=ps) (w:=h0)
  rw[iq h0]
  have e:(!kE ps[jN ps p] p)=true:=this
  simpa using e
 by_cases he:jN ps p=x
 ·rw[<-he];exact h1
 ·have h2:=hR.at_ (show jN ps p<x by omega) hx
  cases hc:kE (jf ps x) p
  ·rfl
  ·rw[iy h2 hc]at h1;cases h1
def p4 (ps:List ad) (p:ad):List ad:=if jN ps p<ps.length/\jf ps (jN ps p)=p then ps else ps.take (jN ps p)++p::ps.drop (jN ps p)
theorem JQ (ps:List ad) (p:ad):(p4 ps p).length<=ps.length+1:=by
 unfold p4
 have:=zN ps p
 split
 ·omega
 ·simp;omega
theorem Jv (ps:List ad) (p x:ad):x∈p4 ps p↔x=p∨x∈ps:=by
 unfold p4
 split
 ·rename_i h
  refine⟨.inr,fun hx=>hx.elim (fun e=>?_) id⟩
  rw[e,<-h.2];exact z7 h.1
 ·have:x∈ps↔x∈ps.take (jN ps p)++ps.drop (jN ps p):=by rw[List.take_append_drop]
  rw[this]
  simp only[List.mem_append,List.mem_cons]
  constructor
  ·rintro(h|h|h)
   ·exact .inr (.inl h)
   ·exact .inl h
   ·exact .inr (.inr h)
  ·rintro(h|h|h)
   ·exact .inr (.inl h)
   ·exact .inl h
   ·exact .inr (.inr h)
theorem JR {ps:List ad} (hR:mJ ps) (p:ad):mJ (p4 ps p):=by
 unfold p4
 split
 ·exact hR
 ·rename_i lr
  have hd:∀x∈ps.drop (jN ps p),kE p x=true:=fun x hx=>by
   obtain⟨j,hj,rfl⟩:=List.getElem_of_mem hx
   rw[List.length_drop]at hj
   rw[List.getElem_drop]
   have gN:jN ps p+j<ps.length:=by omega
   have h1:=zM (p:=p) hR (Nat.le_add_right _ j) gN
   rw[<-iq gN]
   refine zO h1 fun he=>?_
   by_cases h0:j=0
   ·subst h0
    exact lr ⟨by omega,by simpa using he⟩
   ·have:=hR.at_ (show jN ps p<jN ps p+j by omega) gN
    rw[he]at this
    have h2:=zM (p:=p) hR (Nat.le_refl _) (show jN ps p<ps.length by omega)
    rw[this]at h2;cases h2
  have ht:∀x∈ps.take (jN ps p),kE x p=true:=fun x hx=>by
   obtain⟨j,hj,rfl⟩:=List.getElem_of_mem hx
   rw[List.length_take]at hj
   rw[List.getElem_take]
   have:=FF (ps:=ps) (p:=p) (x:=j) (by omega)
   rwa [iq (by omega)]at this
  refine List.pairwise_append.2 ⟨hR.sublist (List.take_sublist _ _),List.pairwise_cons.2 ⟨hd,hR.sublist (List.drop_sublist _ _)⟩,fun x hx y hy=>?_⟩
  rcases List.mem_cons.1 hy with rfl|hy
  ·exact ht x hx
  ·exact iy (ht x hx) (hd y hy)
theorem FM:∀{ps qs:List ad},mJ ps->mJ qs->(∀x,x∈ps↔x∈qs)->ps=qs
 |[],[],_,_,_=>rfl
 |[],q::qs,_,_,h=>absurd ((h q).2 (by simp)) (by simp)
 |p::ps,[],_,_,h=>absurd ((h p).1 (by simp)) (by simp)
 |p::ps,q::qs,hp,hq,h=>by
  obtain⟨p1,p2⟩:=List.pairwise_cons.1 hp
  obtain⟨q1,q2⟩:=List.pairwise_cons.1 hq
  have e:p=q:=by
   rcases List.mem_cons.1 ((h p).1 (by simp))with e|e
   ·exact e
   ·rcases List.mem_cons.1 ((h q).2 (by simp))with e'|e'
    ·exact e'.symm
    ·have:=Jr (q1 p e)
     rw[p1 q e']at this;cases this
  subst e
  congr 1
  refine FM p2 q2 fun x=>⟨fun hx=>?_,fun hx=>?_⟩
  ·rcases List.mem_cons.1 ((h x).1 (List.mem_cons_of_mem _ hx))with e|e
   ·subst e;have:=p1 x hx;rw[mZ]at this;cases this
   ·exact e
  ·rcases List.mem_cons.1 ((h x).2 (List.mem_cons_of_mem _ hx))with e|e
   ·subst e;have:=q1 x hx;rw[mZ]at this;cases this
   ·exact e
def NL (σ:ar) (kp:Id->Prop) (ps:List ad) (r:AV) (σ':ar):Prop:=
 ∃o:Id,r=.own o 0 ps.length/\σ'.get o=some ⟨true,2,ps.map ab⟩/\σ.next<=σ'.next/\o.bm<σ'.next/\(σ.next<=o.bm∨¬kp o)/\∀x:Id,x.bm<σ.next->kp x->σ'.get x=σ.get x
theorem NA {ps:List ad} {i:Nat} {q:ad}:(ps.map ab).set i (ab q)=(ps.set i q).map ab:=List.map_set.symm
def yY (ps:List ad) (p:ad) (i:Nat):List ad:=(ps++[p]).take (i+1)++ps.drop i
theorem pJ (ps:List ad) (p:ad) {i:Nat} (h:i<=ps.length):(yY ps p i).length=ps.length+1:=by simp[yY];omega
theorem Pz {ps:List ad} {p:ad} {i j:Nat} (hi:i<=ps.length) (hj:j<i):jf (yY ps p i) j=jf ps j:=by
 unfold jf yY
 rw[List.getD_eq_getElem?_getD,List.getD_eq_getElem?_getD,List.getElem?_append_left (by simp;omega),List.getElem?_take,if_pos (by omega),List.getElem?_append_left (by omega)]
theorem HB (ps:List ad) (p:ad):yY ps p ps.length=ps++[p]:=by
 unfold yY
 rw[List.drop_length,List.append_nil,List.take_of_length_le (by simp)]
theorem Km {ps:List ad} {p:ad} {i:Nat} (hi:i<ps.length):(yY ps p (i+1)).set (i+1) (jf ps i)=yY ps p i:=by
 refine List.ext_getElem? fun j=>?_
 rw[List.getElem?_set,pJ ps p (by omega)]
 unfold yY
 by_cases hj:i+1=j
 ·subst hj
  rw[if_pos rfl,if_pos (by omega),List.getElem?_append_right (by simp;omega)]
  simp only[List.length_take,List.length_append,List.length_cons,List.length_nil]
  rw[show i+1-min (i+1) (ps.length+(0+1))=0 by omega,List.getElem?_drop,Nat.add_zero,List.getElem?_eq_getElem hi,iq hi]
 ·rw[if_neg hj]
  by_cases dR:j<i+1
  ·rw[List.getElem?_append_left (by simp;omega),List.getElem?_append_left (by simp;omega),List.getElem?_take,List.getElem?_take,if_pos (by omega),if_pos dR]
  ·rw[List.getElem?_append_right (by simp;omega),List.getElem?_append_right (by simp;omega)]
   simp only[List.length_take,List.length_append,List.length_cons,List.length_nil,List.getElem?_drop]
   congr 1
   omega
theorem MO {ps:List ad} {p:ad} {i:Nat} (hi:i<=ps.length):(yY ps p i).set i p=ps.take i++p::ps.drop i:=by
 refine List.ext_getElem? fun j=>?_
 rw[List.getElem?_set,pJ ps p hi]
 unfold yY
 by_cases hj:i=j
 ·subst hj
  rw[if_pos rfl,if_pos (by omega),List.getElem?_append_right (by simp;omega)]
  simp[Nat.min_eq_left hi]
 ·rw[if_neg hj]
  by_cases dR:j<i
  ·rw[List.getElem?_append_left (by simp;omega),List.getElem?_append_left (by simp;omega),List.getElem?_take,List.getElem?_take,if_pos (by omega),if_pos dR,List.getElem?_append_left (by omega)]
  ·rw[List.getElem?_append_right (by simp;omega),List.getElem?_append_right (by simp;omega)]
   simp only[List.length_take,List.length_append,List.length_cons,List.length_nil]
   rw[show j-min i ps.length=(j-i-1)+1 by omega,List.getElem?_cons_succ]
   congr 1
   omega
theorem MR {X:fG} {Q:Ex->Env->ar->Prop} {N:Env->ar->Prop} {c:VC} {env:Env} {σ:ar} {id:Nat} (I:Env->ar->Prop) (h2:∀e s,I e s->N e s) (h1:∀N':Env->ar->Prop,(∀e s,I e s->N' e s)->ek X c (bf id (du N' Q)) env σ):ek X c (bf id (du N Q)) env σ:=h1 N h2
theorem xJ (ps:List ad) (hR:mJ ps) (hlen:ps.length<=1048576) (p:ad) (o:Id) (σ:ar) (ho:σ.get o=some ⟨true,2,ps.map ab⟩) (rS:o.bm<σ.next):
  Call Tryz.prog 112 [.own o 0 ps.length,.agg (ab p)] σ (NL σ (fun x=>(x=o)=False) (p4 ps p)):=by
 refine eV eL rfl fun nS=>?_
 clear nS
 have qK:=dx rS
 have Tc:=zN ps p
 have yn:(ps.map ab).length=ps.length:=by simp
 (try((repeat(revert hN;revert N;apply Pn.out));refine wk (tw @ab.eq_1 @qK) ?_;(repeat(refine Pn.mk ?_;intro N hN))))
 refine MR (fun e s=>e 5=.int .i64 (jN ps p:Int)/\e 0=.own o 0 ps.length/\e 3=.ptr ⟨112000000,σ.next⟩ 0 0/\s.get ⟨112000000,σ.next⟩=some ⟨true,2,[ab p]⟩/\s.get o=some ⟨true,2,ps.map ab⟩/\σ.next<s.next/\∀x:Id,x.bm<σ.next->s.get x=σ.get x) ?_ ?_
 ·rintro e s ⟨f5,f0,f3,fg0,fg1,fn,ffr⟩
  refine hN _ _ ?_
  clear hN N
  have LP:=dx (i:=o) (n:=s.next) (by omega)
  obtain⟨a,ha⟩:∃a,jN ps p=a:=⟨_,rfl⟩
  rw[ha]at f5 Tc
  by_cases hex:a<ps.length/\jf ps a=p
  ·have dR:(a:Int)<(ps.length:Int):=by omega
   have hg:=tW hex.1
   have hx:decide ((jf ps a).eI=p.eI)=true:=decide_eq_true (by rw[hex.2])
   have hy:decide ((jf ps a).eF=p.eF)=true:=decide_eq_true (by rw[hex.2])
   (try((repeat(revert hN;revert N;apply Pn.out));refine wk (tw @f5 (tw @f0 (tw @f3 (tw @fg0 (tw @fg1 (tw @dR (tw @hg (tw @hx (tw @hy (tw @yn @ab.eq_1)))))))))) ?_;(repeat(refine Pn.mk ?_;intro N hN))))
   have hp:p4 ps p=ps:=by unfold p4;rw[ha,if_pos hex]
   rw[hp]
   exact fb (.inl rfl) (vs:=[.own o 0 ps.length]) (sd @Nat.zero_add) ⟨o,rfl,sd @fg1,by(try dsimp only);omega,by(try dsimp only);omega,.inr (by simp),fun x hx _=>sd (ffr x hx)⟩
  refine CC (fun N hN=>?_)
  refine ET (fun e s=>e 5=.int .i64 (a:Int)/\e 0=.own o 0 ps.length/\e 3=.ptr ⟨112000000,σ.next⟩ 0 0/\s.get ⟨112000000,σ.next⟩=some ⟨true,2,[ab p]⟩/\s.get o=some ⟨true,2,ps.map ab⟩/\σ.next<s.next/\∀x:Id,x.bm<σ.next->s.get x=σ.get x) ?_ ?_
  ·clear f5 f0 f3 fg0 fg1 fn ffr LP
   rintro e s ⟨f5,f0,f3,fg0,fg1,fn,ffr⟩
   refine hN _ _ ?_
   clear hN N
   have LP:=dx (i:=o) (n:=s.next) (by omega)
   have Qt:=dx (i:=⟨112000000,σ.next⟩) (n:=s.next) fn
   have e1:ps.length+1<=16777216:=by omega
   have pZ:ps.map ab++[[.int .i64 p.eI,.int .i64 p.eF]]=(yY ps p ps.length).map ab:=by rw[HB];simp[ab]
   have oP:IntKind.i64.wrap ((ps.length:Int)+1-1)=(ps.length:Int):=by rw[bx (by omega)];omega
   have hp:p4 ps p=ps.take a++p::ps.drop a:=by unfold p4;rw[ha,if_neg hex]
   have OS:((⟨112000000,σ.next⟩:Id)=o)=False:=by
    refine eq_false fun h=>?_
    rw[<-h]at rS;exact Nat.lt_irrefl _ rS
   (try((repeat(revert hN;revert N;apply Pn.out));refine wk (tw @f5 (tw @f0 (tw @f3 (tw @fg0 (tw @fg1 (tw @LP (tw @Qt (tw @OS (tw @yn (tw @e1 (tw @pZ (tw @oP (tw @Int.natCast_add (tw @Int.cast_ofNat_Int @ab.eq_1)))))))))))))) ?_;(repeat(refine Pn.mk ?_;intro N hN))))
   refine aM (fun m env st=>∃i:Nat,m=i/\a<=i/\i<=ps.length/\env 6=.int .i64 (i:Int)/\st.get ⟨112006003,s.next⟩=some ⟨true,2,(yY ps p i).map ab⟩/\st.get ⟨112000000,σ.next⟩=some ⟨true,2,[ab p]⟩/\s.next<st.next/\∀x:Id,x.bm<σ.next->(x=o)=False->st.get x=σ.get x) ps.length ⟨ps.length,rfl,Tc,Nat.le_refl _,sd (tw @oP (tw @Int.natCast_add @Int.cast_ofNat_Int)),sd @pZ,sd (tw @fg0 (tw @Qt (tw @OS @ab.eq_1))),by(try dsimp only);omega,fun x hx AF=>by
    have h1:=dx (i:=x) (n:=s.next) (by omega)
    have h2:=ffr x hx
    simp only[go_sem, ↓reduceIte,Nat.reduceEqDiff,Nat.reduceAdd,Nat.reduceSub,Nat.reduceLeDiff,reduceCtorEq,h1,h2,AF]⟩ ?_
   rintro m env_b st_b ⟨i,hmi,bl,ble,b6,bg0,bg1,bn,e9⟩ bkp
   have b0:=bkp 0 (by kernel_rfl)
   have b3:=bkp 3 (by kernel_rfl)
   have b5:=bkp 5 (by kernel_rfl)
   simp only[go_sem, ↓reduceIte,Nat.reduceEqDiff,Nat.reduceAdd,Nat.reduceSub,Nat.reduceLeDiff,reduceCtorEq,f0,f3,f5,ab]at b0 b3 b5
   clear bkp
   have LM:((yY ps p i).map ab).length=ps.length+1:=by rw[List.length_map,pJ ps p ble]
   by_cases KE:(a:Int)<(i:Int)
   ·obtain⟨k,rfl⟩:∃k,i=k+1:=⟨i-1,by omega⟩
    have eX:k<ps.length:=by omega
    have vV:IntKind.i64.wrap (((k+1:Nat):Int)-1)=(k:Int):=by rw[bx (by omega)];omega
    have hq:((yY ps p (k+1)).map ab)[k]? =some (ab (jf ps k)):=by rw[tW (by rw[pJ ps p ble];omega),Pz ble (Nat.lt_succ_self _)]
    have yq:∃z,((yY ps p (k+1)).map ab)[k+1]? =some (ab z):=⟨_,tW (by rw[pJ ps p ble];omega)⟩
    obtain⟨z,yq⟩:=yq
    have dS:((yY ps p (k+1)).map ab).set (k+1) (ab (jf ps k))=(yY ps p k).map ab:=by rw[NA,Km eX]
    have c1:(k:Int)<(ps.length:Int)+1:=by omega
    have c2:(k:Int)+1<(ps.length:Int)+1:=by omega
    have c3:(0:Int)<=(k:Int)+1:=by omega
    have c4:((k:Int)+1).toNat=k+1:=by omega
    have c5:(a:Int)<(k:Int)+1:=by omega
    have c6:IntKind.i64.wrap ((k:Int)+1-1)=(k:Int):=by rw[bx (by omega)];omega
    rw[ab]at dS hq yq
    (try((repeat(revert hN;revert N;apply Pn.out));refine wk (tw @b0 (tw @b3 (tw @b5 (tw @b6 (tw @bg0 (tw @bg1 (tw @KE (tw @vV (tw @hq (tw @yq (tw @dS (tw @LM (tw @c1 (tw @c2 (tw @c3 (tw @c4 (tw @c5 (tw @c6 (tw @Int.natCast_add @Int.cast_ofNat_Int))))))))))))))))))) ?_;(repeat(refine Pn.mk ?_;intro N hN))))
    exact⟨k,by omega,k,rfl,by omega,by omega,sd @c6,sd @dS,sd (tw @bg1 @OS),by(try dsimp only);omega,fun x hx AF=>by
     have h1:=dx (i:=x) (n:=s.next) (by omega)
     have h2:=e9 x hx AF
     simp only[go_sem, ↓reduceIte,Nat.reduceEqDiff,Nat.reduceAdd,Nat.reduceSub,Nat.reduceLeDiff,reduceCtorEq,h1,h2]⟩
   ·obtain rfl:i=a:=by omega
    have dS:((yY ps p i).map ab).set i (ab p)=(p4 ps p).map ab:=by rw[NA,MO Tc,hp]
    have yq:∃z,((yY ps p i).map ab)[i]? =some (ab z):=⟨_,tW (by rw[pJ ps p ble];omega)⟩
    obtain⟨z,yq⟩:=yq
    have mE:(p4 ps p).length=ps.length+1:=by rw[hp];simp;omega
    have c1:(i:Int)<(ps.length:Int)+1:=by omega
    rw[ab]at dS yq
    (try((repeat(revert hN;revert N;apply Pn.out));refine wk (tw @b0 (tw @b3 (tw @b5 (tw @b6 (tw @bg0 (tw @bg1 (tw @KE (tw @yq (tw @dS (tw @LM (tw @c1 (tw @Int.natCast_add (tw @Int.cast_ofNat_Int @ab.eq_1))))))))))))) ?_;(repeat(refine Pn.mk ?_;intro N hN))))
    rw[<-mE]
    exact fb (.inl rfl) (vs:=[.own ⟨112006003,s.next⟩ 0 (p4 ps p).length]) (sd (tw @b0 @mE)) ⟨⟨112006003,s.next⟩,rfl,sd @dS,by(try dsimp only);omega,by(try dsimp only);omega,.inl (by(try dsimp only);omega),fun x hx AF=>by
     have h1:=dx (i:=x) (n:=s.next) (by omega)
     have h2:=e9 x hx AF
     simp only[go_sem, ↓reduceIte,Nat.reduceEqDiff,Nat.reduceAdd,Nat.reduceSub,Nat.reduceLeDiff,reduceCtorEq,h1,h2]⟩
  ·intro N hN
   by_cases IM:(a:Int)<(ps.length:Int)
   ·have hg:=tW (ps:=ps) (i:=a) (by omega)
    by_cases hx:(jf ps a).eI=p.eI
    ·have tN:decide ((jf ps a).eI=p.eI)=true:=decide_eq_true hx
     have Tr:decide ((jf ps a).eF=p.eF)=false:=decide_eq_false fun h=>hex ⟨by omega,wH hx h⟩
     (try((repeat(revert hN;revert N;apply Pn.out));refine wk (tw @f5 (tw @f0 (tw @f3 (tw @fg0 (tw @fg1 (tw @IM (tw @hg (tw @tN (tw @Tr (tw @yn @ab.eq_1)))))))))) ?_;(repeat(refine Pn.mk ?_;intro N hN))))
     exact⟨sd @f5,sd @f0,sd @f3,sd (tw @fg0 @ab.eq_1),sd @fg1,by(try dsimp only);omega,fun x hx=>sd (ffr x hx)⟩
    ·have tN:decide ((jf ps a).eI=p.eI)=false:=decide_eq_false hx
     (try((repeat(revert hN;revert N;apply Pn.out));refine wk (tw @f5 (tw @f0 (tw @f3 (tw @fg0 (tw @fg1 (tw @IM (tw @hg (tw @tN (tw @Bool.false_and (tw @yn @ab.eq_1)))))))))) ?_;(repeat(refine Pn.mk ?_;intro N hN))))
     exact⟨sd @f5,sd @f0,sd @f3,sd (tw @fg0 @ab.eq_1),sd @fg1,by(try dsimp only);omega,fun x hx=>sd (ffr x hx)⟩
   ·(try((repeat(revert hN;revert N;apply Pn.out));refine wk (tw @f5 (tw @f0 (tw @f3 (tw @fg0 (tw @fg1 (tw @IM (tw @yn @ab.eq_1))))))) ?_;(repeat(refine Pn.mk ?_;intro N hN))))
    exact⟨sd @f5,sd @f0,sd @f3,sd (tw @fg0 @ab.eq_1),sd @fg1,by(try dsimp only);omega,fun x hx=>sd (ffr x hx)⟩
 intro N hN
 refine aM (fun m env st=>∃a:Nat,m=a/\jN ps p<=a/\a<=ps.length/\env 5=.int .i64 (a:Int)/\st.get ⟨112000000,σ.next⟩=some ⟨true,2,[ab p]⟩/\st.get o=some ⟨true,2,ps.map ab⟩/\σ.next<st.next/\∀x:Id,x.bm<σ.next->st.get x=σ.get x) ps.length ⟨ps.length,rfl,Tc,Nat.le_refl _,sd @Nat.zero_add,sd @ab.eq_1,sd (tw @qK @ho),by(try dsimp only);omega,fun x hx=>by have:=dx hx;simp only[go_sem, ↓reduceIte,Nat.reduceEqDiff,Nat.reduceAdd,Nat.reduceSub,Nat.reduceLeDiff,reduceCtorEq,this]⟩ ?_
 rintro m env_a st_a ⟨a,hma,al,ale,a5,ag0,ag1,an,di⟩ akp
 have a0:=akp 0 (by kernel_rfl)
 have a3:=akp 3 (by kernel_rfl)
 simp only[go_sem, ↓reduceIte,Nat.reduceEqDiff,Nat.reduceAdd,Nat.reduceSub,Nat.reduceLeDiff,reduceCtorEq,ab]at a0 a3
 clear akp
 by_cases h0:(0:Int)<(a:Int)
 ·obtain⟨b,rfl⟩:∃b,a=b+1:=⟨a-1,by omega⟩
  have nQ:b<ps.length:=by omega
  have fx:(b:Int)<(ps.length:Int):=by omega
  have hg:=tW nQ
  have hw:IntKind.i64.wrap (((b+1:Nat):Int)-1)=(b:Int):=by rw[bx (by omega)];omega
  have hq:=oe (jf ps b) p
  cases hc:kE (jf ps b) p
  ·rw[hc]at hq
   (repeat(first|((repeat(revert hN;revert N;apply Pn.out));refine wk (tw @a0 (tw @a3 (tw @a5 (tw @ag0 (tw @ag1 (tw @h0 (tw @fx (tw @hg (tw @hw (tw @yn @ab.eq_1)))))))))) ?_;(repeat(refine Pn.mk ?_;intro N hN)))|((try apply Or.inl);refine⟨_,aq.x (hq) (sd (tw @a0 (tw @a3 (tw @a5 (tw @ag0 (tw @ag1 (tw @h0 (tw @fx (tw @hg (tw @hw (tw @yn @ab.eq_1))))))))))),?_⟩;refine hN _ _ ?_;clear hN N)))
   refine⟨b,by omega,b,rfl,?_,by omega,sd @hw,sd (tw @ag0 @ab.eq_1),sd @ag1,by(try dsimp only);omega,fun x hx=>sd (di x hx)⟩
   rcases Nat.lt_or_ge b (jN ps p)with h|h
   ·rw[FF h]at hc;cases hc
   ·exact h
  ·rw[hc]at hq
   have j5:jN ps p=b+1:=by
    rcases Nat.lt_or_ge b (jN ps p)with h|h
    ·omega
    ·have:=zM (p:=p) hR h nQ
     rw[hc]at this;cases this
   (repeat(first|((repeat(revert hN;revert N;apply Pn.out));refine wk (tw @a0 (tw @a3 (tw @a5 (tw @ag0 (tw @ag1 (tw @h0 (tw @fx (tw @hg (tw @hw (tw @yn @ab.eq_1)))))))))) ?_;(repeat(refine Pn.mk ?_;intro N hN)))|((try apply Or.inl);refine⟨_,aq.x (hq) (sd (tw @a0 (tw @a3 (tw @a5 (tw @ag0 (tw @ag1 (tw @h0 (tw @fx (tw @hg (tw @hw (tw @yn @ab.eq_1))))))))))),?_⟩;refine hN _ _ ?_;clear hN N)))
   exact⟨sd (tw @a5 @j5),sd @a0,sd @a3,sd (tw @ag0 @ab.eq_1),sd @ag1,by(try dsimp only);omega,fun x hx=>sd (di x hx)⟩
 ·have j5:jN ps p=a:=by omega
  (try((repeat(revert hN;revert N;apply Pn.out));refine wk (tw @a0 (tw @a3 (tw @a5 (tw @ag0 (tw @ag1 (tw @h0 (tw @yn @ab.eq_1))))))) ?_;(repeat(refine Pn.mk ?_;intro N hN))))
  exact⟨sd (tw @a5 @j5),sd @a0,sd @a3,sd (tw @ag0 @ab.eq_1),sd @ag1,by(try dsimp only);omega,fun x hx=>sd (di x hx)⟩
def jv (l:List ae) (ps:List ad) (q:ad):List ad:=if zZ q=true/\eJ l q<0 then p4 ps q else ps
def eW (l:List ae) (ps:List ad) (p:ad):Nat->List ad
 |0=>ps
 |d+1=>jv l (eW l ps p d) (bd p d)
def eH (l:List ae):Nat->List ad
 |0=>[]
 |i+1=>eW l (eH l i) (aU l i).bc 4
def ig (l:List ae):List ad:=eH l l.length
theorem zT {l:List ae} {ps:List ad} (h:mJ ps) (q:ad):mJ (jv l ps q):=by
 unfold jv;split
 ·exact JR h q
 ·exact h
theorem qS {l:List ae} {ps:List ad} (h:mJ ps) (p:ad):∀d,mJ (eW l ps p d)
 |0=>h
 |d+1=>zT (qS h p d) _
theorem qT (l:List ae):∀i,mJ (eH l i)
 |0=>List.Pairwise.nil
 |i+1=>qS (qT l i) _ 4
theorem zS (l:List ae) (ps:List ad) (q:ad):(jv l ps q).length<=ps.length+1:=by
 unfold jv;split
 ·exact JQ ps q
 ·omega
theorem qR (l:List ae) (ps:List ad) (p:ad):∀d,(eW l ps p d).length<=ps.length+d
 |0=>Nat.le_refl _
 |d+1=>by
  have:=qR l ps p d
  have:=zS l (eW l ps p d) (bd p d)
  simp only[eW];omega
theorem kX (l:List ae):∀i,(eH l i).length<=i*4
 |0=>Nat.le_refl _
 |i+1=>by
  have:=kX l i
  have:=qR l (eH l i) (aU l i).bc 4
  simp only[eH];omega
theorem wi (l:List ae) (ps:List ad) (p:ad) (x:ad):∀d,x∈eW l ps p d↔x∈ps∨∃k,k<d/\x=bd p (k:Nat)/\zZ x=true/\eJ l x<0
 |0=>⟨.inl,fun h=>h.elim id fun⟨_,h,_⟩=>absurd h (Nat.not_lt_zero _)⟩
 |d+1=>by
  simp only[eW,jv]
  have ih:=wi l ps p x d
  split
  ·rename_i h
   rw[Jv,ih]
   constructor
   ·rintro(rfl|h1|⟨k,h1,h2⟩)
    ·exact .inr ⟨d,Nat.lt_succ_self _,rfl,h⟩
    ·exact .inl h1
    ·exact .inr ⟨k,by omega,h2⟩
   ·rintro(h1|⟨k,h1,h2⟩)
    ·exact .inr (.inl h1)
    ·by_cases hk:k=d
     ·subst hk;exact .inl h2.1
     ·exact .inr (.inr ⟨k,by omega,h2⟩)
  ·rename_i h
   rw[ih]
   constructor
   ·rintro(h1|⟨k,h1,h2⟩)
    ·exact .inl h1
    ·exact .inr ⟨k,by omega,h2⟩
   ·rintro(h1|⟨k,h1,h2⟩)
    ·exact .inl h1
    ·by_cases hk:k=d
     ·subst hk;rw[h2.1]at h2;exact absurd h2.2 h
     ·exact .inr ⟨k,by omega,h2⟩
def AH (l:List ae) (x:ad):Prop:=zZ x=true/\eJ l x<0/\∃i d:Nat,i<l.length/\d<4/\x=bd (aU l i).bc d
theorem wj (l:List ae) (x:ad):∀i,x∈eH l i↔∃j d:Nat,j<i/\d<4/\x=bd (aU l j).bc d/\zZ x=true/\eJ l x<0
 |0=>⟨fun h=>(by cases h),fun⟨_,_,h,_⟩=>absurd h (Nat.not_lt_zero _)⟩
 |i+1=>by
  simp only[eH]
  rw[wi,wj l x i]
  constructor
  ·rintro(⟨j,d,h1,h2⟩|⟨d,h1,h2⟩)
   ·exact⟨j,d,by omega,h2⟩
   ·exact⟨i,d,Nat.lt_succ_self _,h1,h2⟩
  ·rintro⟨j,d,h1,h2,h3⟩
   by_cases hj:j=i
   ·subst hj;exact .inr ⟨d,h2,h3⟩
   ·exact .inl ⟨j,d,by omega,h2,h3⟩
theorem yI (l:List ae) (x:ad):x∈ig l↔AH l x:=by
 unfold ig AH
 rw[wj]
 exact⟨fun⟨j,d,h1,h2,h3,h4,h5⟩=>⟨h4,h5,j,d,h1,h2,h3⟩,fun⟨h4,h5,j,d,h1,h2,h3⟩=>⟨j,d,h1,h2,h3,h4,h5⟩⟩
theorem GV (l:List ae) (hF:ki l) (σ:ar):Call Tryz.prog 71 [.dm [.sl (l.map aj)]] σ (NL σ (fun _=>True) (ig l)):=by
 refine eV eL rfl fun nS=>?_
 clear nS
 have hR:=hF.NB
 have Gz:=hF.Bd
 (try((repeat(revert hN;revert N;apply Pn.out));refine wk @Nat.zero_add ?_;(repeat(refine Pn.mk ?_;intro N hN))))
 refine aM (fun n env st=>∃i:Nat,n=(l.length)-i/\i<=(l.length)/\env 4=.int .i64 (i:Int)/\(∃o:Id,env 3=.own o 0 (eH l i).length/\st.get o=some ⟨true,2,(eH l i).map ab⟩/\o.bm<st.next/\σ.next<=o.bm/\∀x:Id,x.bm<σ.next->st.get x=σ.get x)) (l.length) ⟨0,by omega,by omega,sl @Nat.zero_add,⟨⟨71001000,σ.next+1⟩,by simp only[go_sem, ↓reduceIte,Nat.reduceEqDiff,Nat.reduceAdd,Nat.reduceSub,Nat.reduceLeDiff,reduceCtorEq];rfl,by simp only[go_sem, ↓reduceIte,Nat.reduceEqDiff,Nat.reduceAdd,Nat.reduceSub,Nat.reduceLeDiff,reduceCtorEq];rfl,by(try dsimp only);omega,by(try dsimp only);omega,fun x hx=>by
  have:=dx (i:=x) (n:=σ.next+1) (by omega)
  simp only[go_sem, ↓reduceIte,Nat.reduceEqDiff,Nat.reduceAdd,Nat.reduceSub,Nat.reduceLeDiff,reduceCtorEq,this]⟩⟩ ?_
 rintro n_a env_a st_a ⟨i,rfl,ale,a4,kc⟩ di
 have a0:=di 0 (by kernel_rfl)
 simp only[go_sem, ↓reduceIte,Nat.reduceEqDiff,Nat.reduceAdd,Nat.reduceSub,Nat.reduceLeDiff,reduceCtorEq]at a0
 clear di
 obtain⟨o,a3,ag,aov,aon,di⟩:=kc
 by_cases hi:(i:Int)<(l.length:Int)
 ·have cz:∀{e:Env} {gg:Rows} {nx:Nat},(e 4=.int .i64 (IntKind.i64.wrap ((i:Int)+1)))->(∃o:Id,e 3=.own o 0 (eH l (i+1)).length/\gg o=some ⟨true,2,(eH l (i+1)).map ab⟩/\o.bm<nx/\σ.next<=o.bm/\∀x:Id,x.bm<σ.next->gg x=σ.get x)->∃m0,m0<(l.length)-i/\∃i:Nat,m0=(l.length)-i/\i<=(l.length)/\e 4=.int .i64 (i:Int)/\(∃o:Id,e 3=.own o 0 (eH l i).length/\gg o=some ⟨true,2,(eH l i).map ab⟩/\o.bm<nx/\σ.next<=o.bm/\∀x:Id,x.bm<σ.next->gg x=σ.get x):=fun x1 x2=>⟨_,by omega,i+1,rfl,by omega,(by rw[x1,az (by omega)]),x2⟩
  have fU:i<l.length:=by omega
  (try((repeat(revert hN;revert N;apply Pn.out));refine wk (tw @a4 (tw @a0 (tw @a3 @hi))) ?_;(repeat(refine Pn.mk ?_;intro N hN))))
  refine aM (fun n env st=>∃d:Nat,n=(4)-d/\d<=(4)/\env 5=.int .i64 (d:Int)/\(∃o:Id,env 3=.own o 0 (eW l (eH l i) (aU l i).bc d).length/\st.get o=some ⟨true,2,(eW l (eH l i) (aU l i).bc d).map ab⟩/\o.bm<st.next/\σ.next<=o.bm/\∀x:Id,x.bm<σ.next->st.get x=σ.get x)) (4) ⟨0,by omega,by omega,sl (tw @a4 @a0),⟨o,by simp only[go_sem, ↓reduceIte,Nat.reduceEqDiff,Nat.reduceAdd,Nat.reduceSub,Nat.reduceLeDiff,reduceCtorEq,a3,eW],by simp only[go_sem, ↓reduceIte,Nat.reduceEqDiff,Nat.reduceAdd,Nat.reduceSub,Nat.reduceLeDiff,reduceCtorEq,ag,eW],by(try dsimp only);omega,aon,fun x hx=>sd (di x hx)⟩⟩ ?_
  rintro n_b env_b st_b ⟨d,rfl,ble,b5,bI0⟩ e9
  have b0:=e9 0 (by kernel_rfl);have b4:=e9 4 (by kernel_rfl)
  simp only[go_sem, ↓reduceIte,Nat.reduceEqDiff,Nat.reduceAdd,Nat.reduceSub,Nat.reduceLeDiff,reduceCtorEq,a4,a0]at b0 b4
  clear e9
  obtain⟨ob,b3,bg,bov,SD,e9⟩:=bI0
  by_cases hd:(d:Int)<4
  ·have fJ:∀{e:Env} {gg:Rows} {nx:Nat},(e 5=.int .i64 (IntKind.i64.wrap ((d:Int)+1)))->(∃o:Id,e 3=.own o 0 (eW l (eH l i) (aU l i).bc (d+1)).length/\gg o=some ⟨true,2,(eW l (eH l i) (aU l i).bc (d+1)).map ab⟩/\o.bm<nx/\σ.next<=o.bm/\∀x:Id,x.bm<σ.next->gg x=σ.get x)->∃m0,m0<(4)-d/\∃d:Nat,m0=(4)-d/\d<=(4)/\e 5=.int .i64 (d:Int)/\(∃o:Id,e 3=.own o 0 (eW l (eH l i) (aU l i).bc d).length/\gg o=some ⟨true,2,(eW l (eH l i) (aU l i).bc d).map ab⟩/\o.bm<nx/\σ.next<=o.bm/\∀x:Id,x.bm<σ.next->gg x=σ.get x):=fun x1 x2=>⟨_,by omega,d+1,rfl,by omega,(by rw[x1,az (by omega)]),x2⟩
   have ku:=gw fU
   have Nn:=te (hF.pt fU)
   have dL:=s8 (aU l i).bc d (jL (by omega)) Nn.1 Nn.2
   have RB:=v7 (bd (aU l i).bc d)
   have kI:=dx bov
   have yn:((eW l (eH l i) (aU l i).bc d).map ab).length=(eW l (eH l i) (aU l i).bc d).length:=by simp
   cases hp:zZ (bd (aU l i).bc d)
   ·rw[hp]at RB
    have pj:eW l (eH l i) (aU l i).bc (d+1)=eW l (eH l i) (aU l i).bc d:=by
     simp only[eW,jv];rw[if_neg fun h=>by rw[hp]at h;cases h.1]
    (repeat(first|((repeat(revert hN;revert N;apply Pn.out));refine wk (tw @b5 (tw @b0 (tw @b4 (tw @b3 (tw @bg (tw @hd (tw @ku (tw @kI (tw @aj.eq_1 @ab.eq_1))))))))) ?_;(repeat(refine Pn.mk ?_;intro N hN)))|((try apply Or.inl);refine⟨_,aq.x (dL) (sd (tw @b5 (tw @b0 (tw @b4 (tw @b3 (tw @bg (tw @hd (tw @ku (tw @kI (tw @aj.eq_1 @ab.eq_1)))))))))),?_⟩;refine hN _ _ ?_;clear hN N)|((try apply Or.inl);refine⟨_,aq.x (RB) (sd (tw @b5 (tw @b0 (tw @b4 (tw @b3 (tw @bg (tw @hd (tw @ku (tw @kI (tw @aj.eq_1 @ab.eq_1)))))))))),?_⟩;refine hN _ _ ?_;clear hN N)))
    exact fJ (sd (tw @b5 (tw @b0 (tw @b4 @ab.eq_1)))) (by exact⟨ob,sd (tw @b3 @pj),sd (tw @bg (tw @kI @pj)),by(try dsimp only);omega,SD,fun x hx=>by
     have h1:=dx (i:=x) (n:=st_b.next) (by omega)
     have h2:=dx (i:=x) (n:=st_b.next+1) (by omega)
     have h3:=e9 x hx
     simp only[go_sem, ↓reduceIte,Nat.reduceEqDiff,Nat.reduceAdd,Nat.reduceSub,Nat.reduceLeDiff,reduceCtorEq,h1,h2,h3]⟩)
   ·rw[hp]at RB
    have CJ:=qO l (bd (aU l i).bc d) hR (by omega)
    by_cases hx:eJ l (bd (aU l i).bc d)<0
    ·have pj:eW l (eH l i) (aU l i).bc (d+1)=p4 (eW l (eH l i) (aU l i).bc d) (bd (aU l i).bc d):=by
      simp only[eW,jv];rw[if_pos ⟨hp,hx⟩]
     have hl1:=qR l (eH l i) (aU l i).bc d
     have hl2:=kX l i
     (repeat(first|((repeat(revert hN;revert N;apply Pn.out));refine wk (tw @b5 (tw @b0 (tw @b4 (tw @b3 (tw @bg (tw @hd (tw @ku (tw @kI (tw @hx (tw @aj.eq_1 @ab.eq_1)))))))))) ?_;(repeat(refine Pn.mk ?_;intro N hN)))|((try apply Or.inl);refine⟨_,aq.x (dL) (sd (tw @b5 (tw @b0 (tw @b4 (tw @b3 (tw @bg (tw @hd (tw @ku (tw @kI (tw @hx (tw @aj.eq_1 @ab.eq_1))))))))))),?_⟩;refine hN _ _ ?_;clear hN N)|((try apply Or.inl);refine⟨_,aq.x (RB) (sd (tw @b5 (tw @b0 (tw @b4 (tw @b3 (tw @bg (tw @hd (tw @ku (tw @kI (tw @hx (tw @aj.eq_1 @ab.eq_1))))))))))),?_⟩;refine hN _ _ ?_;clear hN N)|((try apply Or.inl);refine⟨_,aq.x (CJ) (sd (tw @b5 (tw @b0 (tw @b4 (tw @b3 (tw @bg (tw @hd (tw @ku (tw @kI (tw @hx (tw @aj.eq_1 @ab.eq_1))))))))))),?_⟩;refine hN _ _ ?_;clear hN N)))
     refine .inr (aI _ _ _ _ _ (fun r σ1 hq=>?_) (xJ _ (qS (qT l i) _ d) (by omega) (bd (aU l i).bc d) ob _ (sd (tw @bg @kI)) (by(try dsimp only);omega)))
     obtain⟨g1,x1⟩:=σ1
     obtain⟨o1,rfl,q1,q2,q3,q4,q5⟩:=hq
     (try dsimp only at q1 q2 q3 q4 q5)
     refine hN _ _ ?_
     clear hN N
     (try((repeat(revert hN;revert N;apply Pn.out));refine wk (tw @b5 (tw @b0 @b4)) ?_;(repeat(refine Pn.mk ?_;intro N hN))))
     exact fJ (sd (tw @b5 (tw @b0 (tw @b4 @ab.eq_1)))) (by exact⟨o1,sd @pj,sd (tw @q1 @pj),by(try dsimp only);omega,by
      rcases q4 with h|h
      ·omega
      ·have:o1=ob:=by simpa using h
       rw[this];exact SD,fun x hx=>by
      have h1:=dx (i:=x) (n:=st_b.next) (by omega)
      have h2:=dx (i:=x) (n:=st_b.next+1) (by omega)
      have h3:=e9 x hx
      have h4:(x=ob)=False:=eq_false fun h=>by rw[h]at hx;omega
      have h5:=q5 x (by omega) h4
      simp only[go_sem, ↓reduceIte,Nat.reduceEqDiff,Nat.reduceAdd,Nat.reduceSub,Nat.reduceLeDiff,reduceCtorEq,h1,h2,h3,h5]⟩)
    ·have pj:eW l (eH l i) (aU l i).bc (d+1)=eW l (eH l i) (aU l i).bc d:=by
      simp only[eW,jv];rw[if_neg fun h=>hx h.2]
     (repeat(first|((repeat(revert hN;revert N;apply Pn.out));refine wk (tw @b5 (tw @b0 (tw @b4 (tw @b3 (tw @bg (tw @hd (tw @ku (tw @kI (tw @hx (tw @aj.eq_1 @ab.eq_1)))))))))) ?_;(repeat(refine Pn.mk ?_;intro N hN)))|((try apply Or.inl);refine⟨_,aq.x (dL) (sd (tw @b5 (tw @b0 (tw @b4 (tw @b3 (tw @bg (tw @hd (tw @ku (tw @kI (tw @hx (tw @aj.eq_1 @ab.eq_1))))))))))),?_⟩;refine hN _ _ ?_;clear hN N)|((try apply Or.inl);refine⟨_,aq.x (RB) (sd (tw @b5 (tw @b0 (tw @b4 (tw @b3 (tw @bg (tw @hd (tw @ku (tw @kI (tw @hx (tw @aj.eq_1 @ab.eq_1))))))))))),?_⟩;refine hN _ _ ?_;clear hN N)|((try apply Or.inl);refine⟨_,aq.x (CJ) (sd (tw @b5 (tw @b0 (tw @b4 (tw @b3 (tw @bg (tw @hd (tw @ku (tw @kI (tw @hx (tw @aj.eq_1 @ab.eq_1))))))))))),?_⟩;refine hN _ _ ?_;clear hN N)))
     exact fJ (sd (tw @b5 (tw @b0 (tw @b4 @ab.eq_1)))) (by exact⟨ob,sd (tw @b3 @pj),sd (tw @bg (tw @kI @pj)),by(try dsimp only);omega,SD,fun x hx=>by
      have h1:=dx (i:=x) (n:=st_b.next) (by omega)
      have h2:=dx (i:=x) (n:=st_b.next+1) (by omega)
      have h3:=e9 x hx
      simp only[go_sem, ↓reduceIte,Nat.reduceEqDiff,Nat.reduceAdd,Nat.reduceSub,Nat.reduceLeDiff,reduceCtorEq,h1,h2,h3]⟩)
  ·have Rj:d=4:=by omega
   rw[Rj]at b3 bg
   have hnu:eW l (eH l i) (aU l i).bc 4=eH l (i+1):=rfl
   rw[hnu]at b3 bg
   (try((repeat(revert hN;revert N;apply Pn.out));refine wk (tw @b5 (tw @b0 (tw @b4 (tw @b3 (tw @bg @hd))))) ?_;(repeat(refine Pn.mk ?_;intro N hN))))
   exact cz (sd (tw @b5 (tw @b0 (tw @b4 @ab.eq_1)))) (by exact⟨ob,sd @b3,sd @bg,by(try dsimp only);omega,SD,fun x hx=>sd (e9 x hx)⟩)
 ·have nG:i=l.length:=by omega
  (try((repeat(revert hN;revert N;apply Pn.out));refine wk (tw @a4 (tw @a0 (tw @a3 (tw @ag @hi)))) ?_;(repeat(refine Pn.mk ?_;intro N hN))))
  exact fb (.inl rfl) (vs:=[.own o 0 (eH l i).length]) (sd @a3) ⟨o,by rw[ig,<-nG];rfl,by rw[ig,<-nG];simp only[go_sem, ↓reduceIte,Nat.reduceEqDiff,Nat.reduceAdd,Nat.reduceSub,Nat.reduceLeDiff,reduceCtorEq,ag],by(try dsimp only);omega,by(try dsimp only);omega,.inl aon,fun x hx _=>sd (di x hx)⟩
structure P3 (g:Rows) (n:Nat) (A S C c T O:Id) (s:aD) (l:List ae):Prop where
 a:∃b,g A=some ⟨b,1,[[.sl (l.map aj)]]⟩
 sy:∃b,g S=some ⟨b,4,[aC s]⟩
 p:∃b,g C=some ⟨b,1,[[.ptr c 0 0]]⟩
 Kz:y5 g n c T O s l
 av:A.bm<n
 sv:S.bm<n
 pv:C.bm<n
theorem P3.ro {g:Rows} {n:Nat} {A S C c T O:Id} {s:aD} {l:List ae} (h:P3 g n A S C c T O s l):P3 (V.ro g) n A S C c T O s l:=by
 obtain⟨b,h1⟩:=h.a
 obtain⟨b2,h2⟩:=h.sy
 obtain⟨b3,h3⟩:=h.p
 exact⟨⟨false,by simp[V.ro,h1]⟩,⟨false,by simp[V.ro,h2]⟩,⟨false,by simp[V.ro,h3]⟩,h.Kz.ro,h.av,h.sv,h.pv⟩
theorem P3.frame {g g':Rows} {n n':Nat} {A S C c T O:Id} {s:aD} {l:List ae} (h:P3 g n A S C c T O s l) (hn:n<=n') (hf:∀x:Id,x.bm<n->g' x=g x):P3 g' n' A S C c T O s l:=
 ⟨by rw[hf _ h.av];exact h.a,by rw[hf _ h.sv];exact h.sy,by rw[hf _ h.pv];exact h.p,h.Kz.frame hn (hf _ h.Kz.cv) (hf _ h.Kz.tv),Nat.lt_of_lt_of_le h.av hn,Nat.lt_of_lt_of_le h.sv hn,Nat.lt_of_lt_of_le h.pv hn⟩
def Ia (B:ad->Int->Bool) (p:ad):Nat->List ae
 |0=>[]
 |t+1=>if B p (t:Nat)=true then Ia B p t++[⟨p,(t:Nat)⟩]else Ia B p t
def uA (B:ad->Int->Bool) (m:Nat) (ps:List ad):List ae:=ps.flatMap fun p=>Ia B p m
theorem E3 (B:ad->Int->Bool) (p:ad):∀t,(Ia B p t).length<=t
 |0=>by simp[Ia]
 |t+1=>by
  have:=E3 B p t
  rw[Ia]
  split
  ·rw[List.length_append,List.length_singleton];omega
  ·omega
theorem ze (B:ad->Int->Bool) (m:Nat):∀ps:List ad,(uA B m ps).length<=ps.length*m
 |[]=>by simp[uA]
 |p::ps=>by
  have h:=ze B m ps
  have h2:=E3 B p m
  unfold uA at *
  rw[List.flatMap_cons,List.length_append,List.length_cons,Nat.add_mul,Nat.one_mul]
  omega
theorem Ib {B:ad->Int->Bool} {m:Nat} {ps:List ad} {k:Nat} (hk:k<ps.length):uA B m (ps.take (k+1))=uA B m (ps.take k)++Ia B (jf ps k) m:=by
 unfold uA
 rw[List.take_succ_eq_append_getElem hk,List.flatMap_append,iq hk]
 simp
end Go.Proofs.YtgoelphibofcmaaGreat.V

namespace Go.Proofs.YtgoelphibofcmaaGreat.V
open Go.RowKit
def z6:List ae->ae->List ae
 |[],q=>[q]
 |x::r,q=>if kE q.bc x.bc=true then q::x::r else x::z6 r q
theorem wm {q x:ae}:∀{l:List ae},x∈z6 l q↔x=q∨x∈l
 |[]=>by simp[z6]
 |y::r=>by
  have ih:=@wm q x r
  rw[z6]
  split
  ·simp
  ·simp only[List.mem_cons,ih]
   constructor
   ·rintro(h|h|h)<;>simp[h]
   ·rintro(h|h|h)<;>simp[h]
theorem Cj (q:ae):∀l:List ae,(z6 l q).length=l.length+1
 |[]=>rfl
 |y::r=>by
  have ih:=Cj q r
  rw[z6]
  split
  ·simp
  ·simp[ih]
theorem wT {l:List ae}:sM l↔l.Pairwise fun a b=>kE a.bc b.bc=true:=by
 rw[List.pairwise_iff_getElem]
 constructor
 ·intro h i j hi hj DO
  have:=h i j DO hj
  rwa [ij hi,ij hj]at this
 ·intro h i j DO hj
  have:=h i j (by omega) hj DO
  rwa [ij (by omega),ij hj]
theorem LV {l:List ae} {p:ad}:eJ l p<0↔∀t∈l,t.bc≠p:=BM
theorem JP {q:ae}:∀{l:List ae},sM l->eJ l q.bc<0->sM (z6 l q):=by
 intro l
 rw[wT,wT,LV]
 induction l with
 |nil=>intro _ _;exact List.pairwise_singleton _ _
 |cons y r ih=>
  intro h hn
  obtain⟨h1,h2⟩:=List.pairwise_cons.1 h
  rw[z6]
  split
  ·rename_i hl
   refine List.pairwise_cons.2 ⟨fun x hx=>?_,h⟩
   rcases List.mem_cons.1 hx with rfl|hx
   ·exact hl
   ·exact iy hl (h1 x hx)
  ·rename_i hl
   rw[Bool.not_eq_true]at hl
   refine List.pairwise_cons.2 ⟨fun x hx=>?_,ih h2 fun t ht=>hn t (by simp[ht])⟩
   rcases wm.1 hx with rfl|hx
   ·exact zO hl fun e=>hn y (by simp) e.symm
   ·exact h1 x hx
theorem mi {α:Type} [DecidableEq α]:∀{xs ys:List α},xs.Nodup->(∀x∈xs,x∈ys)->xs.length<=ys.length
 |[],_,_,_=>Nat.zero_le _
 |x::xs,ys,hn,h=>by
  obtain⟨h1,h2⟩:=List.nodup_cons.1 hn
  have hx:=h x (by simp)
  have:=@mi α _ xs (ys.erase x) h2 fun y hy=>(List.mem_erase_of_ne fun e=>h1 (by rw[<-e];exact hy)).2 (h y (by simp[hy]))
  rw[List.length_erase_of_mem hx]at this
  have:=List.length_pos_of_mem hx
  rw[List.length_cons];omega
theorem Hg {l:List ae} (h:sM l):l.Nodup:=by
 rw[wT]at h
 refine List.Pairwise.imp (fun {a b} nP e=>?_) h
 rw[e,mZ]at nP;cases nP
abbrev HT:=List ae×List ae
noncomputable def FA (s:aD) (st:HT) (x:ae):HT:=if eS s st.2 x.bc x.bU=true then(st.1++[x],z6 st.2 x)else st
structure HU (s:aD) (l:List ae) (st:HT):Prop where
 NB:sM st.2
 sub:∀x∈st.2,x∈l
 done:∀x∈st.1,x∈l
 len:st.2.length=s.cu.ah.length+st.1.length
theorem HU.Bd {s:aD} {l:List ae} {st:HT} (h:HU s l st):st.2.length<=l.length:=by
 classical
 exact mi (Hg h.NB) h.sub
theorem IC {s:aD} {l:List ae} (hA:lp s.aB l) {now:List ae} (hs:∀x∈now,x∈l) {p:ad} {t:Int} (h:eS s now p t=true):eJ now p<0:=by
 rcases Int.lt_or_le (eJ now p) 0 with h0|h0
 ·exact h0
 ·exfalso
  obtain⟨h1,_⟩:=kD h0
  have h2:=(eu (hA.2 _ (hs _ (kY h1)))).1
  simp[eS,gR,h0]at h
  omega
theorem HU.step {s:aD} {l:List ae} {st:HT} (h:HU s l st) (hA:lp s.aB l) {x:ae} (hx:x∈l):HU s l (FA s st x):=by
 unfold FA
 split
 ·rename_i hf
  have h0:=IC hA h.sub hf
  exact⟨JP h.NB h0,fun y hy=>by rcases wm.1 hy with rfl|hy;exact hx;exact h.sub y hy,fun y hy=>by
   rcases List.mem_append.1 hy with hy|hy
   ·exact h.done y hy
   ·rw[List.mem_singleton.1 hy];exact hx,by rw[Cj,List.length_append,List.length_singleton,h.len];omega⟩
 ·exact h
def jT (B:ad->Int->Bool) (p:ad):Nat->List Int
 |0=>[]
 |t+1=>if B p (t:Nat)=true then jT B p t++[(t:Int)]else jT B p t
theorem ph (B:ad->Int->Bool) (p:ad):∀t,(jT B p t).length<=t
 |0=>by simp[jT]
 |t+1=>by
  have:=ph B p t
  rw[jT]
  split
  ·rw[List.length_append,List.length_singleton];omega
  ·omega
theorem ve (B:ad->Int->Bool) (p:ad):∀t,Ia B p t=(jT B p t).map fun k=>(⟨p,k⟩:ae)
 |0=>rfl
 |t+1=>by
  rw[Ia,jT,ve B p t]
  split<;>simp
theorem Fo {B:ad->Int->Bool} {p:ad} (h:∀t:Nat,B p t=false):∀t,jT B p t=[]
 |0=>rfl
 |t+1=>by rw[jT,if_neg (by rw[h t];simp),Fo h t]
theorem Bk {B:ad->Int->Bool} {p:ad}:∀{t:Nat},jT B p t≠[]->∃k:Nat,k<t/\B p k=true
 |0,h=>absurd rfl h
 |t+1,h=>by
  rw[jT]at h
  split at h
  ·rename_i hb;exact⟨t,Nat.lt_succ_self t,hb⟩
  ·obtain⟨k,hk,hb⟩:=Bk h
   exact⟨k,Nat.lt_succ_of_lt hk,hb⟩
theorem yh {B C:ad->Int->Bool} {p:ad} (h:∀t:Nat,B p t=C p t):∀t,jT B p t=jT C p t
 |0=>rfl
 |t+1=>by rw[jT,jT,h t,yh h t]
abbrev En:=ad×AV
def pg (e:En):List AV:=[.int .i64 e.1.eI,.int .i64 e.1.eF,e.2]
def nk:List En->ad->AV->List En
 |[],q,v=>[(q,v)]
 |e::es,q,v=>if e.1=q then(q,v)::es else e::nk es q v
def rM:List En->ad->List En
 |[],_=>[]
 |e::es,q=>if e.1=q then es else e::rM es q
theorem wo {q:ad} {v:AV} {x:En}:∀{es:List En},x.1≠q->(x∈nk es q v↔x∈es)
 |[],h=>by
  rw[nk,List.mem_singleton]
  exact⟨fun e=>absurd (by rw[e]) h,fun e=>by cases e⟩
 |e::es,h=>by
  have ih:=@wo q v x es h
  rw[nk]
  split
  ·rename_i he
   rw[List.mem_cons,List.mem_cons]
   exact⟨fun h1=>h1.elim (fun e=>absurd (by rw[e]) h) .inr,fun h1=>h1.elim (fun e'=>absurd (by rw[e'];exact he) h) .inr⟩
  ·rw[List.mem_cons,List.mem_cons,ih]
theorem yP (q:ad) (v:AV):∀es:List En,(q,v)∈nk es q v
 |[]=>by simp[nk]
 |e::es=>by
  have ih:=yP q v es
  rw[nk]
  split
  ·simp
  ·exact List.mem_cons_of_mem _ ih
theorem BS {q:ad} {v:AV} {p:ad}:∀{es:List En},p∈(nk es q v).map (·.1)->p=q∨p∈es.map (·.1)
 |[],h=>by simp[nk]at h;exact .inl h
 |e::es,h=>by
  rw[nk]at h
  split at h
  ·simp only[List.map_cons,List.mem_cons]at h ⊢
   exact h.imp_right .inr
  ·simp only[List.map_cons,List.mem_cons]at h ⊢
   rcases h with h|h
   ·exact .inr (.inl h)
   ·exact(BS h).imp_right .inr
theorem wJ (q:ad) (v:AV):∀{es:List En},(es.map (·.1)).Nodup->((nk es q v).map (·.1)).Nodup
 |[],_=>by simp[nk]
 |e::es,h=>by
  obtain⟨h1,h2⟩:=List.nodup_cons.1 (show(e.1::es.map (·.1)).Nodup from h)
  rw[nk]
  split
  ·rename_i he
   refine List.nodup_cons.2 ⟨?_,h2⟩
   show q∉_
   rw[<-he];exact h1
  ·rename_i he
   refine List.nodup_cons.2 ⟨fun hc=>?_,wJ q v h2⟩
   rcases BS hc with h3|h3
   ·exact he h3
   ·exact h1 h3
theorem B6 {q:ad} {x:En}:∀{es:List En},x.1≠q->(x∈rM es q↔x∈es)
 |[],_=>Iff.rfl
 |e::es,h=>by
  have ih:=@B6 q x es h
  rw[rM]
  split
  ·rename_i he
   rw[List.mem_cons]
   exact⟨.inr,fun h1=>h1.elim (fun e'=>absurd (by rw[e'];exact he) h) id⟩
  ·rw[List.mem_cons,List.mem_cons,ih]
theorem vE {q:ad}:∀{es:List En},(rM es q).Sublist es
 |[]=>List.Sublist.slnil
 |e::es=>by
  rw[rM]
  split
  ·exact List.sublist_cons_self _ _
  ·exact(vE (es:=es)).cons_cons _
theorem Dc (q:ad) {es:List En} (h:(es.map (·.1)).Nodup):((rM es q).map (·.1)).Nodup:=((vE (q:=q) (es:=es)).map _).nodup h
theorem E8 {q:ad}:∀{es:List En},(es.map (·.1)).Nodup->∀e∈rM es q,e.1≠q
 |[],_,e,h=>by cases h
 |x::es,hn,e,h=>by
  obtain⟨h1,h2⟩:=List.nodup_cons.1 (show(x.1::es.map (·.1)).Nodup from hn)
  rw[rM]at h
  split at h
  ·rename_i hx
   intro he
   exact h1 (by rw[hx,<-he];exact List.mem_map_of_mem h)
  ·rename_i hx
   rcases List.mem_cons.1 h with rfl|h
   ·exact hx
   ·exact E8 h2 e h
theorem FC {es:List En} (hn:(es.map (·.1)).Nodup) {q:ad} {u v:AV} (h1:(q,u)∈es) (h2:(q,v)∈es):u=v:=by
 induction es with
 |nil=>cases h1
 |cons e es ih=>
  obtain⟨n1,n2⟩:=List.nodup_cons.1 (show(e.1::es.map (·.1)).Nodup from hn)
  rcases List.mem_cons.1 h1 with a|a<;>rcases List.mem_cons.1 h2 with b|b
  ·rw[<-a]at b;injection b with _ b;exact b.symm
  ·exact absurd (by rw[<-a];exact List.mem_map_of_mem (f:=(·.1)) b) n1
  ·exact absurd (by rw[<-b];exact List.mem_map_of_mem (f:=(·.1)) a) n1
  ·exact ih n2 a b
structure uW (g:Rows) (n:Nat) (es:List En) (fs:ad->List Int) (A:ad->Prop):Prop where
 nodup:(es.map (·.1)).Nodup
 at_:∀q,A q->(fs q=[]/\∀e∈es,e.1≠q)∨(fs q≠[]/\∃o:Id,(q,AV.own o 0 (fs q).length)∈es/\o.bm<n/\g o=some ⟨true,1,(fs q).map aw⟩)
theorem uW.mono {g:Rows} {n:Nat} {es:List En} {fs:ad->List Int} {A A':ad->Prop} (h:uW g n es fs A) (hA:∀q,A' q->A q):uW g n es fs A':=⟨h.nodup,fun q hq=>h.at_ q (hA q hq)⟩
theorem uW.frame {g g':Rows} {n n':Nat} {es:List En} {fs:ad->List Int} {A:ad->Prop} (h:uW g n es fs A) (hn:n<=n') (hf:∀x:Id,x.bm<n->(∃k r,g x=some ⟨k,1,r⟩)->g' x=g x):uW g' n' es fs A:=⟨h.nodup,fun q hq=>by
 rcases h.at_ q hq with h1|⟨h1,o,h2,h3,h4⟩
 ·exact .inl h1
 ·exact .inr ⟨h1,o,h2,by omega,(hf o h3 ⟨_,_,h4⟩).trans h4⟩⟩
theorem uW.other {g:Rows} {n:Nat} {es:List En} {fs QW:ad->List Int} {A A':ad->Prop} (h:uW g n es fs A) (hA:∀q,A' q->A q/\QW q=fs q):uW g n es QW A':=⟨h.nodup,fun q hq=>by
 obtain⟨h1,h2⟩:=hA q hq
 rw[h2];exact h.at_ q h1⟩
theorem uW.put {g:Rows} {n:Nat} {es:List En} {fs:ad->List Int} {A:ad->Prop} (h:uW g n es fs A) {q:ad} {o:Id} (h0:fs q≠[]) (ho:o.bm<n) (hg:g o=some ⟨true,1,(fs q).map aw⟩):uW g n (nk es q (.own o 0 (fs q).length)) fs (fun p=>A p∨p=q):=⟨wJ _ _ h.nodup,fun p hp=>by
 by_cases e:p=q
 ·subst e
  exact .inr ⟨h0,o,yP _ _ _,ho,hg⟩
 ·rcases hp with hp|hp
  ·rcases h.at_ p hp with⟨h1,h2⟩|⟨h1,o',h2,h3⟩
   ·refine .inl ⟨h1,fun x hx hxp=>?_⟩
    have hxq:x.1≠q:=fun e'=>e (hxp.symm.trans e')
    exact h2 x ((wo hxq).1 hx) hxp
   ·exact .inr ⟨h1,o',(wo e).2 h2,h3⟩
  ·exact absurd hp e⟩
theorem uW.cut {g:Rows} {n:Nat} {es:List En} {fs:ad->List Int} {A:ad->Prop} (h:uW g n es fs A) {q:ad} (h0:fs q=[]):uW g n (rM es q) fs (fun p=>A p∨p=q):=⟨Dc _ h.nodup,fun p hp=>by
 by_cases e:p=q
 ·subst e
  exact .inl ⟨h0,E8 h.nodup⟩
 ·rcases hp with hp|hp
  ·rcases h.at_ p hp with⟨h1,h2⟩|⟨h1,o',h2,h3⟩
   ·exact .inl ⟨h1,fun x hx=>h2 x (vE.subset hx)⟩
   ·exact .inr ⟨h1,o',(B6 e).2 h2,h3⟩
  ·exact absurd hp e⟩
theorem B8 (p:ad):∀(es:List En) (i:Nat),∃fi,gi ⟨true,[.tI,.tI]⟩ (ab p) (es.map pg) i=some fi/\
  (∀v,(match fi with|some j=>(es.map pg).set (j-i) [.int .i64 p.eI,.int .i64 p.eF,v]|none=>es.map pg++[[.int .i64 p.eI,.int .i64 p.eF,v]])=(nk es p v).map pg)/\
  ((match fi with|some j=>(es.map pg).eraseIdx (j-i)|none=>es.map pg)=(rM es p).map pg)/\
  (∀j,fi=some j->i<=j/\j-i<es.length/\∃v,es[j-i]? =some (p,v))/\(fi=none->∀e∈es,e.1≠p)
 |[],i=>⟨none,by simp[gi],fun v=>rfl,rfl,fun _ h=>(by cases h),fun _ _ he=>(by cases he)⟩
 |e::es,i=>by
  have hq:eU [TS.tI,TS.tI] (ab p) ((pg e).take 2)=some (decide (p=e.1)):=by
   have h:(p=e.1)↔(p.eI=e.1.eI/\p.eF=e.1.eF):=⟨fun h=>by rw[h];exact⟨rfl,rfl⟩,fun h=>wH h.1 h.2⟩
   simp[ab,pg,eU,fY,h]
  by_cases h:p=e.1
  ·refine⟨some i,?_,fun v=>?_,?_,fun j hj=>?_,fun hc=>by cases hc⟩
   ·rw[List.map_cons]
    unfold gi
    rw[show(⟨true,[.tI,.tI]⟩:MK).ts=[.tI,.tI]from rfl,show(⟨true,[.tI,.tI]⟩:MK).ks=2 from rfl,hq,decide_eq_true h]
   ·simp[nk,h,pg]
   ·simp[rM,h]
   ·cases hj
    exact⟨Nat.le_refl _,by simp,e.2,by simp[h]⟩
  ·obtain⟨fi,h1,h2,h3,h4,h5⟩:=B8 p es (i+1)
   have he:¬e.1=p:=fun hc=>h hc.symm
   refine⟨fi,?_,fun v=>?_,?_,fun j hj=>?_,fun hc x hx=>?_⟩
   ·rw[List.map_cons]
    unfold gi
    rw[show(⟨true,[.tI,.tI]⟩:MK).ts=[.tI,.tI]from rfl,show(⟨true,[.tI,.tI]⟩:MK).ks=2 from rfl,hq,decide_eq_false h]
    exact h1
   ·have SI:=h2 v
    rw[nk,if_neg he]
    cases fi with
    |none=>
     simp only[List.map_cons,List.cons_append]at SI ⊢
     rw[SI]
    |some j=>
     obtain⟨h6,_⟩:=h4 j rfl
     obtain⟨k,hk⟩:∃k,j=i+1+k:=⟨j-(i+1),by omega⟩
     subst hk
     simp only[show i+1+k-i=k+1 by omega,show i+1+k-(i+1)=k by omega,List.map_cons,List.set_cons_succ]at SI ⊢
     rw[SI]
   ·rw[rM,if_neg he]
    cases fi with
    |none=>
     simp only[List.map_cons]at h3 ⊢
     rw[h3]
    |some j=>
     obtain⟨h6,_⟩:=h4 j rfl
     obtain⟨k,hk⟩:∃k,j=i+1+k:=⟨j-(i+1),by omega⟩
     subst hk
     simp only[show i+1+k-i=k+1 by omega,show i+1+k-(i+1)=k by omega,List.map_cons,List.eraseIdx_cons_succ]at h3 ⊢
     rw[h3]
   ·obtain⟨h6,h7,v,h8⟩:=h4 j hj
    refine⟨by omega,by simp only[List.length_cons];omega,v,?_⟩
    rw[show j-i=(j-(i+1))+1 by omega,List.getElem?_cons_succ];exact h8
   ·rcases List.mem_cons.1 hx with rfl|hx
    ·exact he
    ·exact h5 hc x hx
theorem ta (p:ad) (es:List En):∃fi,fV ⟨true,[.tI,.tI]⟩ (.agg [.int .i64 p.eI,.int .i64 p.eF]) (es.map pg)=some fi/\(∀v,dE (es.map pg) [.int .i64 p.eI,.int .i64 p.eF,v] fi=(nk es p v).map pg)/\dJ (es.map pg) fi=(rM es p).map pg/\
  (∀j,fi=some j->∃v,es[j]? =some (p,v))/\(fi=none->∀e∈es,e.1≠p):=by
 obtain⟨fi,h1,h2,h3,h4,h5⟩:=B8 p es 0
 refine⟨fi,?_,fun v=>?_,?_,fun j hj=>?_,h5⟩
 ·unfold fV
  rw[if_pos ⟨rfl,rfl,rfl⟩]
  exact h1
 ·rw[<-h2 v];cases fi<;>rfl
 ·rw[<-h3];cases fi<;>rfl
 ·obtain⟨_,_,v,h6⟩:=h4 j hj
  exact⟨v,by simpa using h6⟩
theorem yT (p:ad) (k:Nat) (hk:k<4):bd (bd p k) (kF k)=p:=by
 have:k=0∨k=1∨k=2∨k=3:=by omega
 rcases this with rfl|rfl|rfl|rfl<;>(cases p;simp[bd,kF,iO];try omega)
theorem bind_some {s:au} {F:ad->Int} {p:ad} {t:Int}:∀d:Nat,0<dq s F p t d->∃k:Nat,k<d/\0<=F (bd p k)
 |0,h=>by simp[dq]at h
 |d+1,h=>by
  by_cases h0:0<=F (bd p d)
  ·exact⟨d,Nat.lt_succ_self d,h0⟩
  ·rw[dq,if_neg h0,Int.add_zero]at h
   obtain⟨k,hk,h1⟩:=bind_some d h
   exact⟨k,Nat.lt_succ_of_lt hk,h1⟩
theorem ID {s:aD} (hT:1<=s.ay) {l:List ae} (hA:lp s.aB l) {p:ad} {t:Int} (h:eS s l p t=true):AH l p:=by
 simp[eS]at h
 obtain⟨⟨h1,h2⟩,h3⟩:=h
 obtain⟨k,hk,h4⟩:=bind_some (s:=s.aB) (F:=gR l) (p:=p) (t:=t) 4 (by have:qb s.aB (gR l) p t=dq s.aB (gR l) p t 4:=rfl;omega)
 have h5:0<=eJ l (bd p k):=by
  unfold gR at h4
  split at h4
  ·assumption
  ·omega
 obtain⟨h6,h7⟩:=kD h5
 refine⟨h1,(H7 hA p).1 h2,(eJ l (bd p k)).toNat,(kF k).toNat,h6,?_,?_⟩
 ·have:k=0∨k=1∨k=2∨k=3:=by omega
  rcases this with rfl|rfl|rfl|rfl<;>decide
 ·rw[h7]
  have:((kF k).toNat:Int)=kF k:=by
   have:k=0∨k=1∨k=2∨k=3:=by omega
   rcases this with rfl|rfl|rfl|rfl<;>decide
  rw[this,yT p k hk]
noncomputable def lO (s:aD) (l:List ae):List ad:=(ig l).filter fun p=>decide (jT (eS s l) p s.aB.ah.length≠[])
theorem wh {s:aD} (hT:1<=s.ay) {l:List ae} (hA:lp s.aB l) (p:ad):p∈lO s l↔jT (eS s l) p s.aB.ah.length≠[]:=by
 unfold lO
 rw[List.mem_filter,yI,decide_eq_true_eq]
 refine⟨fun h=>h.2,fun h=>⟨?_,h⟩⟩
 obtain⟨k,_,hk⟩:=Bk h
 exact ID hT hA hk
theorem Dn (s:aD) (l:List ae):mJ (lO s l):=List.Pairwise.sublist List.filter_sublist (qT l _)
theorem C7 (s:aD) (l:List ae):uA (eS s l) s.aB.ah.length (ig l)=uA (eS s l) s.aB.ah.length (lO s l):=by
 unfold lO
 generalize ig l=ps
 induction ps with
 |nil=>rfl
 |cons p ps ih=>
  unfold uA at *
  rw[List.flatMap_cons,List.filter_cons,ih]
  split
  ·rw[List.flatMap_cons]
  ·rename_i h
   simp only[decide_eq_true_eq,ne_eq,Classical.not_not]at h
   rw[ve,h];rfl
end Go.Proofs.YtgoelphibofcmaaGreat.V

namespace Go.Proofs.YtgoelphibofcmaaGreat.V
open Go.RowKit
attribute [local irreducible] ek wpOps gq Call
attribute [local go_sem] aH fF eK ga fZ da upd ck K.av cH AV.cells AV.cell rowOf rowsOf part ld rowAt bF cj dy dW gU bG cX eh fY eU dn ea cV cU dH dI bJ aW cK bI cN cL dY eb dZ cJ bL cW dX bH aL cQ cC gT bj cF bK aT du bf dz AV.undef bw bE dM dU dE dJ cE ef ep cw ee ec cP cR List.getD_cons_zero List.getD_cons_succ List.getD_nil List.all_cons List.all_nil Bool.and_true Bool.true_and Bool.and_self Bool.not_true Bool.not_false Option.map_some Option.map_none Option.bind_some Option.bind_none List.length_cons List.length_nil List.take_succ_cons List.take_zero List.take_nil List.drop_succ_cons List.drop_zero List.drop_nil List.head?_cons List.map_cons List.map_nil List.getElem?_cons_zero List.getElem?_cons_succ List.cons_append List.nil_append List.append_nil List.length_map List.set_cons_zero List.set_cons_succ Nat.reduceMul eq_self Int.toNat_natCast Int.natCast_nonneg and_self true_and and_true decide_true decide_false Bool.false_eq_true Nat.zero_add Nat.add_zero List.contains_cons List.contains_nil Bool.or_false Bool.false_or beq_self_eq_true Nat.reduceBEq ne_eq not_true_eq_false not_false_eq_true Id.mk.injEq false_and and_false Nat.reduceLT Int.reduceLE Int.reduceLT Int.reduceToNat Int.reduceNeg Int.reduceAdd Nat.le_refl List.length_append beq_true beq_false Bool.not_eq_eq_eq_not or_false false_or dF ai ao aG aZ bt bW aP aY aQ aV cI bD
def TC (n:Nat) (L:List ae) (r:AV) (σ':ar):Prop:=∃o:Id,r=.agg [.own o 0 L.length]/\σ'.get o=some ⟨true,3,L.map aj⟩/\n<=o.bm/\o.bm<σ'.next
theorem TC.val {f:Nat} {args er:List AV} {L:List ae} {σ:ar} (h:∀n,Call Tryz.prog f er ⟨fun _=>none,n⟩ (TC n L)) (hv:cG (dF σ.get) 6 args=some er):Call Tryz.prog f args σ (fun r σ'=>TC σ.next L r σ'/\Kept σ σ'):=by
 refine uT mixed hv (aI _ _ _ _ _ (fun r σ' hq=>?_) (xP mixed (h σ.next)))
 obtain⟨⟨o,rfl,h2,h3,h4⟩,hn⟩:=hq
 refine⟨[o],rfl,fun i hi=>?_,⟨o,rfl,(o9 (by simp)).trans h2,h3,h4⟩,hn,fun j hj=>mz fun hc=>?_⟩
 ·rw[List.mem_singleton.1 hi]
  exact⟨_,h2,rfl,fun cs dr a ha=>by
   obtain⟨x,_,rfl⟩:=List.mem_map.1 dr
   simp[aj]at ha
   rcases ha with rfl|rfl|rfl<;>rfl⟩
 ·rw[List.mem_singleton.1 hc]at hj;omega
end Go.Proofs.YtgoelphibofcmaaGreat.V
