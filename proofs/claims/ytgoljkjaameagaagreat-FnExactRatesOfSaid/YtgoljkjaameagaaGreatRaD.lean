/- Groups, by the reference. -/
import Derived.Test.YtgoljkjaameagaaGreatRaC
import Derived.Test.YtgoljkjaameagaaGreatRaB
set_option linter.unusedVariables false
set_option linter.unusedSimpArgs false
set_option maxRecDepth 100000
set_option maxHeartbeats 16000000
namespace Go.Proofs.YtgoljkjaameagaaGreat.V
open Go.RowKit
attribute [local irreducible] eu wpOps gq Call
attribute [local go_sem] aI fJ eP fZ fY dc upd cz K.av cJ AV.cells AV.cell rowOf rowsOf part ld rowAt bR cq dC ea gV bJ cZ eo fX eY dr ef cX cW dM dO bP aX cN bL cQ cP ec eh ee cL bU cY eb bK aO cU cG gU bp cI bQ aW dx bf dD AV.undef bD bF dR dY dI dP cH ek ew cF ej ei cR cV List.getD_cons_zero List.getD_cons_succ List.getD_nil List.all_cons List.all_nil Bool.and_true Bool.true_and Bool.and_self Bool.not_true Bool.not_false Option.map_some Option.map_none Option.bind_some Option.bind_none List.length_cons List.length_nil List.take_succ_cons List.take_zero List.take_nil List.drop_succ_cons List.drop_zero List.drop_nil List.head?_cons List.map_cons List.map_nil List.getElem?_cons_zero List.getElem?_cons_succ List.cons_append List.nil_append List.append_nil List.length_map List.set_cons_zero List.set_cons_succ Nat.reduceMul eq_self Int.toNat_natCast Int.natCast_nonneg and_self true_and and_true decide_true decide_false Bool.false_eq_true Nat.zero_add Nat.add_zero List.contains_cons List.contains_nil Bool.or_false Bool.false_or beq_self_eq_true Nat.reduceBEq ne_eq not_true_eq_false not_false_eq_true Id.mk.injEq false_and and_false Nat.reduceLT Int.reduceLE Int.reduceLT Int.reduceToNat Int.reduceNeg Int.reduceAdd Nat.le_refl List.length_append beq_true beq_false Bool.not_eq_eq_eq_not or_false false_or dJ aj aq aH aZ bB ck aT bc aU aY cK bG
theorem Ci (a b:Nat):ar Tryz.prog 192 [.int .i64 a,.int .i64 b] (.int .i64 (min a b:Nat)):=by
 refine ar.body eG rfl fun hl n0=>?_
 clear hl
 by_cases h:(a:Int)<(b:Int)
 ·(try((repeat(revert hN;revert N;apply Pn.out));refine wk @h ?_;(repeat(refine Pn.mk ?_;intro N hN))))
  exact cr (b:=(a:Int)) (.inl rfl) (sd @Nat.zero_add) (by omega)
 ·(try((repeat(revert hN;revert N;apply Pn.out));refine wk @h ?_;(repeat(refine Pn.mk ?_;intro N hN))))
  exact cr (b:=(b:Int)) (.inl rfl) (sd @Nat.zero_add) (by omega)
theorem Ch (a b:Nat):ar Tryz.prog 191 [.int .i64 a,.int .i64 b] (.int .i64 (max a b:Nat)):=by
 refine ar.body eG rfl fun hl n0=>?_
 clear hl
 by_cases h:(b:Int)<(a:Int)
 ·(try((repeat(revert hN;revert N;apply Pn.out));refine wk @h ?_;(repeat(refine Pn.mk ?_;intro N hN))))
  exact cr (b:=(a:Int)) (.inl rfl) (sd @Nat.zero_add) (by omega)
 ·(try((repeat(revert hN;revert N;apply Pn.out));refine wk @h ?_;(repeat(refine Pn.mk ?_;intro N hN))))
  exact cr (b:=(b:Int)) (.inl rfl) (sd @Nat.zero_add) (by omega)
def dG (f:Nat->Nat) (n:Nat):List (List AV):=(List.range n).map fun i=>eN (f i)
theorem gn (f:Nat->Nat) (n:Nat):(dG f n).length=n:=by simp[dG]
theorem fx {f:Nat->Nat} {n i:Nat} (h:i<n):(dG f n)[i]? =some (eN (f i)):=by simp[dG,h]
theorem gZ {f g:Nat->Nat} {n:Nat} (h:∀i,i<n->f i=g i):dG f n=dG g n:=List.map_congr_left fun i hi=>by rw[h i (List.mem_range.1 hi)]
theorem pQ {f g:Nat->Nat} {n k v:Nat} (hk:k<n) (hv:g k=v) (h:∀i,i<n->i≠k->g i=f i):(dG f n).set k (eN v)=dG g n:=by
 refine List.ext_getElem? fun i=>?_
 rw[List.getElem?_set]
 by_cases hi:k=i
 ·subst hi
  rw[if_pos rfl,gn,if_pos hk,fx hk,hv]
 ·rw[if_neg hi]
  by_cases fB:i<n
  ·rw[fx fB,fx fB,h i fB (fun h=>hi h.symm)]
  ·rw[List.getElem?_eq_none (by rw[gn];omega),List.getElem?_eq_none (by rw[gn];omega)]
theorem Cj (cnt:Nat) (hn:cnt<=1048576) (bs:List PB) (hb:∀b∈bs,b.a<cnt/\b.b<cnt) (oe:bs.length<=1048576):ar Tryz.prog 125 [.int .i64 cnt,.sl (bs.map aC)] (.sl ((fE cnt (eE bs)).map AQ)):=by
 refine ar.body eG rfl fun hl n0=>?_
 clear hl
 (try((repeat(revert hN;revert N;apply Pn.out));refine wk @Nat.zero_add ?_;(repeat(refine Pn.mk ?_;intro N hN))))
 refine aM (fun n env st=>∃k:Nat,n=(cnt)-k/\k<=(cnt)/\env 6=.int .i64 (k:Int)/\(∃o:Id,env 5=.own o 0 k/\st.get o=some ⟨true,1,dG id k⟩/\o.bj<st.next)) (cnt) ⟨0,by omega,by omega,sl @Nat.zero_add,⟨⟨125001000,n0+1⟩,sd @Nat.zero_add,by simp only[go_sem, ↓reduceIte,Nat.reduceEqDiff,Nat.reduceAdd,Nat.reduceSub,Nat.reduceLeDiff,reduceCtorEq];rfl,by(try dsimp only);omega⟩⟩ ?_
 rintro n_a env_a st_a ⟨k,rfl,ale,a6,j8⟩ di
 have a0:=di 0 (by kernel_rfl);have a1:=di 1 (by kernel_rfl)
 simp only[go_sem, ↓reduceIte,Nat.reduceEqDiff,Nat.reduceAdd,Nat.reduceSub,Nat.reduceLeDiff,reduceCtorEq]at a0 a1
 clear di
 obtain⟨o,a5,ag,rX⟩:=j8
 have tl:=gn id k
 have qS:=dB rX
 by_cases hk:(k:Int)<(cnt:Int)
 ·have cm:∀{e:Env} {gg:Rows} {nx:Nat},(e 6=.int .i64 (IntKind.i64.wrap ((k:Int)+1)))->(∃o:Id,e 5=.own o 0 (k+1)/\gg o=some ⟨true,1,dG id (k+1)⟩/\o.bj<nx)->∃m0,m0<(cnt)-k/\∃k:Nat,m0=(cnt)-k/\k<=(cnt)/\e 6=.int .i64 (k:Int)/\(∃o:Id,e 5=.own o 0 k/\gg o=some ⟨true,1,dG id k⟩/\o.bj<nx):=fun x1 x2=>⟨_,by omega,k+1,rfl,by omega,(by rw[x1,ay (by omega)]),x2⟩
  have eU:k<cnt:=by omega
  have e1:k+1<=16777216:=by omega
  have qd:dG id k++[[.int .i64 (k:Int)]]=dG id (k+1):=by simp[dG,List.range_succ,eN]
  (try((repeat(revert hN;revert N;apply Pn.out));refine wk (tw @a6 (tw @a0 (tw @a1 (tw @a5 (tw @ag (tw @qS (tw @hk (tw @tl (tw @e1 @qd))))))))) ?_;(repeat(refine Pn.mk ?_;intro N hN))))
  exact cm (sd (tw @a6 (tw @a0 @a1))) (⟨⟨125005003,st_a.next+1⟩,sd @Nat.zero_add,sd @qd,by(try dsimp only);omega⟩)
 have jN:k=cnt:=by omega
 subst jN
 have Vp:st_a.get o=some ⟨true,1,dG (eE (bs.take 0)) k⟩:=ag
 clear ag
 (try((repeat(revert hN;revert N;apply Pn.out));refine wk (tw @a6 (tw @a0 (tw @a1 @hk))) ?_;(repeat(refine Pn.mk ?_;intro N hN))))
 refine aM (fun n env st=>∃j:Nat,n=(bs.length)-j/\j<=(bs.length)/\env 7=.int .i64 (j:Int)/\st.get o=some ⟨true,1,dG (eE (bs.take j)) k⟩/\(o.bj<st.next)) (bs.length) ⟨0,by omega,by omega,sl (tw @a6 (tw @a0 (tw @a1 (tw @a5 @Vp)))),sl (tw @a6 (tw @a0 (tw @a1 (tw @a5 @Vp)))),(by(try dsimp only);omega)⟩ ?_
 rintro n_b env_b st_b ⟨j,rfl,ble,b7,bg0,bI0⟩ e7
 have b0:=e7 0 (by kernel_rfl);have b1:=e7 1 (by kernel_rfl);have b5:=e7 5 (by kernel_rfl)
 simp only[go_sem, ↓reduceIte,Nat.reduceEqDiff,Nat.reduceAdd,Nat.reduceSub,Nat.reduceLeDiff,reduceCtorEq,a6,a0,a1,a5,Vp]at b0 b1 b5
 clear e7
 by_cases hj:(j:Int)<(bs.length:Int)
 ·have ft:∀{e:Env} {gg:Rows} {nx:Nat},(e 7=.int .i64 (IntKind.i64.wrap ((j:Int)+1)))->(gg o=some ⟨true,1,dG (eE (bs.take (j+1))) k⟩)->(o.bj<nx)->∃m0,m0<(bs.length)-j/\∃j:Nat,m0=(bs.length)-j/\j<=(bs.length)/\e 7=.int .i64 (j:Int)/\gg o=some ⟨true,1,dG (eE (bs.take j)) k⟩/\(o.bj<nx):=fun x1 x2 x3=>⟨_,by omega,j+1,rfl,by omega,(by rw[x1,ay (by omega)]),x2,x3⟩
  have iy:j<bs.length:=by omega
  have zN:(bs.map aC)[j]? =some (aC bs[j]):=by simp[iy]
  have LR:=hb _ (List.getElem_mem iy)
  have oZ:bs.take (j+1)=bs.take j++[bs[j]]:=List.take_succ_eq_append_getElem iy
  have lV:eE (bs.take (j+1))=eQ (eE (bs.take j)) bs[j]:=by rw[oZ,wo]
  generalize eE (bs.take j)=L at *
  generalize bs[j]=b at *
  have hA:=fx (f:=L) LR.1
  have hB:=fx (f:=L) LR.2
  have Te:=Ci (L b.a) (L b.b)
  have Tf:=Ch (L b.a) (L b.b)
  have tl:=gn L k
  have gI:(b.a:Int)<(k:Int):=by omega
  have fD:(b.b:Int)<(k:Int):=by omega
  (try((repeat(revert hN;revert N;apply Pn.out));refine wk (tw @b7 (tw @bg0 (tw @b0 (tw @b1 (tw @b5 (tw @hj (tw @zN (tw @aC.eq_1 (tw @hA (tw @hB (tw @gI (tw @fD (tw @tl @eN.eq_1))))))))))))) ?_;(repeat(refine Pn.mk ?_;intro N hN))))
  refine aM (fun n env st=>∃i:Nat,n=(k)-i/\i<=(k)/\env 10=.int .i64 (i:Int)/\st.get o=some ⟨true,1,dG (fun x=>if x<i then eQ L b x else L x) k⟩/\(o.bj<st.next)) (k) ⟨0,by omega,by omega,sl (tw @b7 (tw @bg0 (tw @b0 (tw @b1 (tw @b5 @Nat.not_lt_zero))))),sl (tw @b7 (tw @bg0 (tw @b0 (tw @b1 (tw @b5 @Nat.not_lt_zero))))),(by(try dsimp only);omega)⟩ ?_
  rintro n_c env_c st_c ⟨i,rfl,cle,jC,cg0,cI0⟩ iM
  have c0:=iM 0 (by kernel_rfl);have c1:=iM 1 (by kernel_rfl);have c5:=iM 5 (by kernel_rfl);have c7:=iM 7 (by kernel_rfl);have c8:=iM 8 (by kernel_rfl);have c9:=iM 9 (by kernel_rfl)
  simp only[go_sem, ↓reduceIte,Nat.reduceEqDiff,Nat.reduceAdd,Nat.reduceSub,Nat.reduceLeDiff,reduceCtorEq,b7,bg0,b0,b1,b5,Nat.not_lt_zero]at c0 c1 c5 c7 c8 c9
  clear iM
  have hC:=fx (f:=fun x=>if x<i then eQ L b x else L x) (n:=k) (i:=i)
  have tc:=gn (fun x=>if x<i then eQ L b x else L x) k
  by_cases hi:(i:Int)<(k:Int)
  ·have gF:∀{e:Env} {gg:Rows} {nx:Nat},(e 10=.int .i64 (IntKind.i64.wrap ((i:Int)+1)))->(gg o=some ⟨true,1,dG (fun x=>if x<(i+1)then eQ L b x else L x) k⟩)->(o.bj<nx)->∃m0,m0<(k)-i/\∃i:Nat,m0=(k)-i/\i<=(k)/\e 10=.int .i64 (i:Int)/\gg o=some ⟨true,1,dG (fun x=>if x<i then eQ L b x else L x) k⟩/\(o.bj<nx):=fun x1 x2 x3=>⟨_,by omega,i+1,rfl,by omega,(by rw[x1,ay (by omega)]),x2,x3⟩
   have fB:i<k:=by omega
   replace hC:=hC fB
   rw[if_neg (Nat.lt_irrefl i)]at hC
   by_cases he:L i=max (L b.a) (L b.b)
   ·have xu:decide ((L i:Int)=((max (L b.a) (L b.b):Nat):Int))=true:=decide_eq_true (by rw[he])
    have dW:(dG (fun x=>if x<i then eQ L b x else L x) k).set i (eN (min (L b.a) (L b.b)))=dG (fun x=>if x<i+1 then eQ L b x else L x) k:=pQ fB (by rw[if_pos (by omega),eQ,if_pos he]) fun x hx Db=>by
     by_cases h:x<i
     ·rw[if_pos h,if_pos (by omega)]
     ·rw[if_neg h,if_neg (by omega)]
    rw[eN]at dW hC
    (repeat(first|((repeat(revert hN;revert N;apply Pn.out));refine wk (tw @jC (tw @cg0 (tw @c0 (tw @c1 (tw @c5 (tw @c7 (tw @c8 (tw @c9 (tw @hi (tw @hC (tw @tc (tw @xu @dW)))))))))))) ?_;(repeat(refine Pn.mk ?_;intro N hN)))|((try apply Or.inl);refine⟨_,ar.x (Te) (sd (tw @jC (tw @cg0 (tw @c0 (tw @c1 (tw @c5 (tw @c7 (tw @c8 (tw @c9 (tw @hi (tw @hC (tw @tc (tw @xu @dW))))))))))))),?_⟩;refine hN _ _ ?_;clear hN N)|((try apply Or.inl);refine⟨_,ar.x (Tf) (sd (tw @jC (tw @cg0 (tw @c0 (tw @c1 (tw @c5 (tw @c7 (tw @c8 (tw @c9 (tw @hi (tw @hC (tw @tc (tw @xu @dW))))))))))))),?_⟩;refine hN _ _ ?_;clear hN N)))
    refine gF ?_ ?_ (by(try dsimp only);omega)
    all_goals simp only[go_sem, ↓reduceIte,Nat.reduceEqDiff,Nat.reduceAdd,Nat.reduceSub,Nat.reduceLeDiff,reduceCtorEq,jC,cg0,c0,c1,c5,c7,c8,c9]
   ·have xu:decide ((L i:Int)=((max (L b.a) (L b.b):Nat):Int))=false:=decide_eq_false fun h=>he (by omega)
    have mC:dG (fun x=>if x<i then eQ L b x else L x) k=dG (fun x=>if x<i+1 then eQ L b x else L x) k:=gZ fun x hx=>by
     by_cases h:x<i
     ·rw[if_pos h,if_pos (by omega)]
     ·by_cases Db:x=i
      ·subst Db;rw[if_neg h,if_pos (by omega),eQ,if_neg he]
      ·rw[if_neg h,if_neg (by omega)]
    rw[eN]at hC
    (repeat(first|((repeat(revert hN;revert N;apply Pn.out));refine wk (tw @jC (tw @cg0 (tw @c0 (tw @c1 (tw @c5 (tw @c7 (tw @c8 (tw @c9 (tw @hi (tw @hC (tw @tc @xu))))))))))) ?_;(repeat(refine Pn.mk ?_;intro N hN)))|((try apply Or.inl);refine⟨_,ar.x (Te) (sd (tw @jC (tw @cg0 (tw @c0 (tw @c1 (tw @c5 (tw @c7 (tw @c8 (tw @c9 (tw @hi (tw @hC (tw @tc @xu)))))))))))),?_⟩;refine hN _ _ ?_;clear hN N)|((try apply Or.inl);refine⟨_,ar.x (Tf) (sd (tw @jC (tw @cg0 (tw @c0 (tw @c1 (tw @c5 (tw @c7 (tw @c8 (tw @c9 (tw @hi (tw @hC (tw @tc @xu)))))))))))),?_⟩;refine hN _ _ ?_;clear hN N)))
    rw[mC]at cg0
    refine gF ?_ ?_ (by(try dsimp only);omega)
    all_goals simp only[go_sem, ↓reduceIte,Nat.reduceEqDiff,Nat.reduceAdd,Nat.reduceSub,Nat.reduceLeDiff,reduceCtorEq,jC,cg0,c0,c1,c5,c7,c8,c9]
  ·have yC:i=k:=by omega
   subst yC
   have dE:dG (fun x=>if x<i then eQ L b x else L x) i=dG (eQ L b) i:=gZ fun x hx=>if_pos hx
   rw[dE]at cg0
   rw[<-lV]at cg0
   (try((repeat(revert hN;revert N;apply Pn.out));refine wk (tw @jC (tw @cg0 (tw @c0 (tw @c1 (tw @c5 (tw @c7 (tw @c8 (tw @c9 (tw @hi @tc))))))))) ?_;(repeat(refine Pn.mk ?_;intro N hN))))
   refine ft ?_ ?_ (by(try dsimp only);omega)
   all_goals simp only[go_sem, ↓reduceIte,Nat.reduceEqDiff,Nat.reduceAdd,Nat.reduceSub,Nat.reduceLeDiff,reduceCtorEq,b7,bg0,b0,b1,b5,jC,cg0,c0,c1,c5,c7,c8,c9]
 have gM:j=bs.length:=by omega
 subst gM
 rw[List.take_length]at bg0
 have hL:=ub bs
 generalize eE bs=L at *
 have tl:=gn L k
 (try((repeat(revert hN;revert N;apply Pn.out));refine wk (tw @b7 (tw @bg0 (tw @b0 (tw @b1 (tw @b5 @hj))))) ?_;(repeat(refine Pn.mk ?_;intro N hN))))
 have O8:o.bj<st_b.next:=bI0
 refine aM (fun n env st=>∃i:Nat,n=(k)-i/\i<=(k)/\env 12=.int .i64 (i:Int)/\st.get o=some ⟨true,1,dG L k⟩/\(∃oo rows ids,env 11=.own oo 0 rows.length/\st.get oo=some ⟨true,1,rows⟩/\eI Qk st.get rows ((leads i L).map (members k L)) ids/\(∀x∈oo::ids,st_b.next<=x.bj/\x.bj<st.next)/\st_b.next<=st.next/\oo∉ids)) (k) ⟨0,by omega,by omega,sl (tw @b7 (tw @bg0 (tw @b0 (tw @b1 (tw @b5 (dB O8)))))),sl (tw @b7 (tw @bg0 (tw @b0 (tw @b1 (tw @b5 (dB O8)))))),⟨⟨125016000,st_b.next+1⟩,[],[],by(simp only[go_sem, ↓reduceIte,Nat.reduceEqDiff,Nat.reduceAdd,Nat.reduceSub,Nat.reduceLeDiff,reduceCtorEq])<;>rfl,sd @Nat.zero_add,.nil,fun x hx=>by rw[List.mem_singleton.1 hx];(try dsimp only);omega,by(try dsimp only);omega,by simp⟩⟩ ?_
 rintro n_d env_d st_d ⟨i,rfl,dle,d12,dg0,dI0⟩ dfr
 have d0:=dfr 0 (by kernel_rfl);have d5:=dfr 5 (by kernel_rfl)
 simp only[go_sem, ↓reduceIte,Nat.reduceEqDiff,Nat.reduceAdd,Nat.reduceSub,Nat.reduceLeDiff,reduceCtorEq,b7,bg0,b0,b1,b5,dB O8]at d0 d5
 clear dfr
 obtain⟨oo,rows,ids,d11,dg,hR,oj,hle,xN⟩:=dI0
 have qd:=gN i L
 have sR:=hR.len
 by_cases hi:(i:Int)<(k:Int)
 ·have ue:∀{e:Env} {gg:Rows} {nx:Nat},(e 12=.int .i64 (IntKind.i64.wrap ((i:Int)+1)))->(gg o=some ⟨true,1,dG L k⟩)->(∃oo rows ids,e 11=.own oo 0 rows.length/\gg oo=some ⟨true,1,rows⟩/\eI Qk gg rows ((leads (i+1) L).map (members k L)) ids/\(∀x∈oo::ids,st_b.next<=x.bj/\x.bj<nx)/\st_b.next<=nx/\oo∉ids)->∃m0,m0<(k)-i/\∃i:Nat,m0=(k)-i/\i<=(k)/\e 12=.int .i64 (i:Int)/\gg o=some ⟨true,1,dG L k⟩/\(∃oo rows ids,e 11=.own oo 0 rows.length/\gg oo=some ⟨true,1,rows⟩/\eI Qk gg rows ((leads i L).map (members k L)) ids/\(∀x∈oo::ids,st_b.next<=x.bj/\x.bj<nx)/\st_b.next<=nx/\oo∉ids):=fun x1 x2 x3=>⟨_,by omega,i+1,rfl,by omega,(by rw[x1,ay (by omega)]),x2,x3⟩
  have fB:i<k:=by omega
  have hC:=fx (f:=L) fB
  have kS:=dB (i:=o) (n:=st_d.next) (by omega)
  have R9:=dB (i:=oo) (n:=st_d.next) (oj oo (by simp)).2
  by_cases he:L i=i
  ·rw[if_pos he]at qd
   have xu:decide ((L i:Int)=(i:Int))=true:=decide_eq_true (by rw[he])
   rw[eN]at hC
   (try((repeat(revert hN;revert N;apply Pn.out));refine wk (tw @d12 (tw @dg0 (tw @d0 (tw @d5 (tw @d11 (tw @dg (tw @hi (tw @hC (tw @tl (tw @xu (tw @kS @R9))))))))))) ?_;(repeat(refine Pn.mk ?_;intro N hN))))
   refine aM (fun n env st=>∃m:Nat,n=((k-i))-m/\m<=((k-i))/\env 14=(.int .i64 ((i+m:Nat):Int))/\(∃pp:Id,env 13=.own pp 0 (members (i+m) L i).length/\st.get pp=some ⟨true,1,(members (i+m) L i).map eN⟩/\st_d.next<=pp.bj/\pp.bj<st.next/\(∀x:Id,x.bj<st_d.next->st.get x=st_d.get x)/\st_d.next<=st.next)) ((k-i)) ⟨0,by omega,by omega,sl (tw @d12 (tw @dg0 (tw @d0 (tw @d5 @d11)))),⟨⟨125021000,st_d.next+1+1⟩,by rw[show members (i+0) L i=[]from nr hL (Nat.le_refl i)];(simp only[go_sem, ↓reduceIte,Nat.reduceEqDiff,Nat.reduceAdd,Nat.reduceSub,Nat.reduceLeDiff,reduceCtorEq])<;>rfl,by rw[show members (i+0) L i=[]from nr hL (Nat.le_refl i)];(simp only[go_sem, ↓reduceIte,Nat.reduceEqDiff,Nat.reduceAdd,Nat.reduceSub,Nat.reduceLeDiff,reduceCtorEq])<;>rfl,by(try dsimp only);omega,by(try dsimp only);omega,fun x hx=>sd (dB hx),by(try dsimp only);omega⟩⟩ ?_
   rintro n_f env_f st_f ⟨m,rfl,fle,f14,fI0⟩ ffr
   have f0:=ffr 0 (by kernel_rfl);have f5:=ffr 5 (by kernel_rfl);have f11:=ffr 11 (by kernel_rfl);have f12:=ffr 12 (by kernel_rfl)
   simp only[go_sem, ↓reduceIte,Nat.reduceEqDiff,Nat.reduceAdd,Nat.reduceSub,Nat.reduceLeDiff,reduceCtorEq,d12,dg0,d0,d5,d11]at f0 f5 f11 f12
   clear ffr
   obtain⟨pp,f13,fg,Pd,JA,mz,pD⟩:=fI0
   have uA:st_f.get o=some ⟨true,1,dG L k⟩:=(mz o (by omega)).trans dg0
   have U7:st_f.get oo=some ⟨true,1,rows⟩:=(mz oo (oj oo (by simp)).2).trans dg
   have AY:=dB JA
   have B9:=dB (i:=o) (n:=st_f.next) (by omega)
   have Sa:=dB (i:=oo) (n:=st_f.next) (by have:=(oj oo (by simp)).2;omega)
   have O5:members (i+(m+1)) L i=members (i+m) L i++if L (i+m)=i then[i+m]else[]:=jt (i+m) L i
   have Vi:(members (i+m) L i).length<=i+m:=by
    have:=List.length_filter_le (fun k=>L k==i) (List.range (i+m))
    simpa[members]using this
   have x1:=dv (a:=o) (b:=pp) (by omega)
   have x2:=dv (a:=oo) (b:=pp) (by have:=(oj oo (by simp)).2;omega)
   have x3:=dv (a:=o) (b:=oo) (by have:=(oj oo (by simp)).1;omega)
   by_cases hm:m<k-i
   ·have sj:∀{e:Env} {gg:Rows} {nx:Nat},(e 14=(.int .i64 ((i+(m+1):Nat):Int)))->(∃pp:Id,e 13=.own pp 0 (members (i+(m+1)) L i).length/\gg pp=some ⟨true,1,(members (i+(m+1)) L i).map eN⟩/\st_d.next<=pp.bj/\pp.bj<nx/\(∀x:Id,x.bj<st_d.next->gg x=st_d.get x)/\st_d.next<=nx)->∃m0,m0<((k-i))-m/\∃m:Nat,m0=((k-i))-m/\m<=((k-i))/\e 14=(.int .i64 ((i+m:Nat):Int))/\(∃pp:Id,e 13=.own pp 0 (members (i+m) L i).length/\gg pp=some ⟨true,1,(members (i+m) L i).map eN⟩/\st_d.next<=pp.bj/\pp.bj<nx/\(∀x:Id,x.bj<st_d.next->gg x=st_d.get x)/\st_d.next<=nx):=fun x1 x2=>⟨_,by omega,m+1,rfl,by omega,x1,x2⟩
    have C8:((i+m:Nat):Int)<(k:Int):=by omega
    have Uo:=fx (f:=L) (show i+m<k by omega)
    have hw:IntKind.i64.wrap (((i+m:Nat):Int)+1)=((i+(m+1):Nat):Int):=by rw[br (by omega)];omega
    rw[eN]at Uo
    by_cases hq:L (i+m)=i
    ·have uz:decide ((L (i+m):Int)=(i:Int))=true:=decide_eq_true (by rw[hq])
     rw[if_pos hq]at O5
     have e1:(members (i+m) L i).length+1<=16777216:=by omega
     have gY:((members (i+m) L i).map eN).length=(members (i+m) L i).length:=by simp
     (try((repeat(revert hN;revert N;apply Pn.out));refine wk (tw @f14 (tw @f0 (tw @f5 (tw @f11 (tw @f12 (tw @f13 (tw @fg (tw @uA (tw @C8 (tw @Uo (tw @tl (tw @uz (tw @AY (tw @B9 (tw @x1 (tw @e1 @gY)))))))))))))))) ?_;(repeat(refine Pn.mk ?_;intro N hN))))
     exact sj (sd (tw @f14 (tw @f0 (tw @f5 (tw @f11 (tw @f12 (tw @uA (tw @hw (tw @B9 @x1))))))))) (⟨⟨125026003,st_f.next+1+1⟩,by rw[O5,List.length_append];simp only[go_sem, ↓reduceIte,Nat.reduceEqDiff,Nat.reduceAdd,Nat.reduceSub,Nat.reduceLeDiff,reduceCtorEq,List.length_cons,List.length_nil],by rw[O5,List.map_append,List.map_cons,List.map_nil];simp only[go_sem, ↓reduceIte,Nat.reduceEqDiff,Nat.reduceAdd,Nat.reduceSub,Nat.reduceLeDiff,reduceCtorEq,eN],by(try dsimp only);omega,by(try dsimp only);omega,fun x hx=>by
      have y1:=mz x hx
      have y2:=dv (a:=x) (b:=pp) (by omega)
      simp only[go_sem, ↓reduceIte,Nat.reduceEqDiff,Nat.reduceAdd,Nat.reduceSub,Nat.reduceLeDiff,reduceCtorEq,dB (show x.bj<st_f.next by omega),y1,y2],by(try dsimp only);omega⟩)
    ·have uz:decide ((L (i+m):Int)=(i:Int))=false:=decide_eq_false fun h=>hq (by omega)
     rw[if_neg hq,List.append_nil]at O5
     (try((repeat(revert hN;revert N;apply Pn.out));refine wk (tw @f14 (tw @f0 (tw @f5 (tw @f11 (tw @f12 (tw @f13 (tw @fg (tw @uA (tw @C8 (tw @Uo (tw @tl (tw @uz (tw @AY (tw @B9 @x1)))))))))))))) ?_;(repeat(refine Pn.mk ?_;intro N hN))))
     exact sj (sd (tw @f14 (tw @f0 (tw @f5 (tw @f11 (tw @f12 (tw @uA @hw))))))) (⟨pp,by rw[O5];simp only[go_sem, ↓reduceIte,Nat.reduceEqDiff,Nat.reduceAdd,Nat.reduceSub,Nat.reduceLeDiff,reduceCtorEq,f13],by rw[O5];simp only[go_sem, ↓reduceIte,Nat.reduceEqDiff,Nat.reduceAdd,Nat.reduceSub,Nat.reduceLeDiff,reduceCtorEq,fg],Pd,by(try dsimp only);omega,mz,by(try dsimp only);omega⟩)
   ·have hmk:i+m=k:=by omega
    have C8:¬((i+m:Nat):Int)<(k:Int):=by omega
    rw[hmk]at f13 fg Vi
    have e1:rows.length+1<=16777216:=by
     have:=jR i L
     rw[sR,List.length_map];omega
    (try((repeat(revert hN;revert N;apply Pn.out));refine wk (tw @f14 (tw @f0 (tw @f5 (tw @f11 (tw @f12 (tw @f13 (tw @fg (tw @uA (tw @U7 (tw @C8 (tw @AY (tw @B9 (tw @Sa (tw @x1 (tw @x2 @e1))))))))))))))) ?_;(repeat(refine Pn.mk ?_;intro N hN))))
    refine ue ?_ ?_ (⟨⟨125027003,st_f.next+1⟩,rows++[[.own pp 0 (members k L i).length]],ids++[pp],by rw[List.length_append];simp only[go_sem, ↓reduceIte,Nat.reduceEqDiff,Nat.reduceAdd,Nat.reduceSub,Nat.reduceLeDiff,reduceCtorEq,List.length_cons,List.length_nil],sd @Nat.zero_add,by
      rw[qd,List.map_append]
      refine(hR.frame Mt fun x hx=>?_).app (.one ⟨pp,rfl,?_,rfl⟩)
      ·have h1:=oj x (by simp[hx])
       have y1:=mz x h1.2
       have y2:=dv (a:=x) (b:=pp) (by omega)
       have y3:(x=oo)=False:=by
        simp only[eq_iff_iff,iff_false]
        rintro rfl
        exact xN hx
       simp only[go_sem, ↓reduceIte,Nat.reduceEqDiff,Nat.reduceAdd,Nat.reduceSub,Nat.reduceLeDiff,reduceCtorEq,dB (show x.bj<st_f.next by omega),y1,y2,y3]
      ·simp only[go_sem, ↓reduceIte,Nat.reduceEqDiff,Nat.reduceAdd,Nat.reduceSub,Nat.reduceLeDiff,reduceCtorEq,AY,x2,fg],fun x hx=>by
      rcases List.mem_cons.1 hx with rfl|hx
      ·(try dsimp only);omega
      ·rcases List.mem_append.1 hx with hx|hx
       ·have:=oj x (by simp[hx]);(try dsimp only);omega
       ·rw[List.mem_singleton.1 hx];(try dsimp only);omega,by(try dsimp only);omega,fun hc=>by
      rcases List.mem_append.1 hc with hc|hc
      ·have:=(oj _ (List.mem_cons_of_mem _ hc)).2;(try dsimp only at this);omega
      ·have:=List.mem_singleton.1 hc;rw[<-this]at JA;(try dsimp only at JA);omega⟩)
    all_goals simp only[go_sem, ↓reduceIte,Nat.reduceEqDiff,Nat.reduceAdd,Nat.reduceSub,Nat.reduceLeDiff,reduceCtorEq,f14,f0,f5,f11,f12,uA,B9,x3]
  ·rw[if_neg he,List.append_nil]at qd
   have xu:decide ((L i:Int)=(i:Int))=false:=decide_eq_false fun h=>he (by omega)
   rw[eN]at hC
   (try((repeat(revert hN;revert N;apply Pn.out));refine wk (tw @d12 (tw @dg0 (tw @d0 (tw @d5 (tw @d11 (tw @dg (tw @hi (tw @hC (tw @tl (tw @xu (tw @kS @R9))))))))))) ?_;(repeat(refine Pn.mk ?_;intro N hN))))
   refine ue ?_ ?_ (⟨oo,rows,ids,sd @d11,sd @dg,by rw[qd];exact hR,fun x hx=>by have:=oj x hx;(try dsimp only);omega,by(try dsimp only);omega,xN⟩)
   all_goals simp only[go_sem, ↓reduceIte,Nat.reduceEqDiff,Nat.reduceAdd,Nat.reduceSub,Nat.reduceLeDiff,reduceCtorEq,d12,dg0,d0,d5]
 ·have yC:i=k:=by omega
  (try((repeat(revert hN;revert N;apply Pn.out));refine wk (tw @d12 (tw @dg0 (tw @d0 (tw @d5 (tw @d11 (tw @dg @hi)))))) ?_;(repeat(refine Pn.mk ?_;intro N hN))))
  refine w7 (.inl rfl) (by simp only[go_sem, ↓reduceIte,Nat.reduceEqDiff,Nat.reduceAdd,Nat.reduceSub,Nat.reduceLeDiff,reduceCtorEq];rfl) ?_
  rw[uO dg (by simp) (rows':=(fE k L).map AQ) (by rw[List.drop_zero,List.take_of_length_le (Nat.le_refl _)];rw[yC]at hR;exact JT 3 hR)]
theorem xk (n:Nat):List.replicate n [AV.int .i64 0]=dG (fun _=>0) n:=by
 refine List.ext_getElem? fun i=>?_
 by_cases h:i<n
 ·rw[fx h,List.getElem?_replicate,if_pos h];rfl
 ·rw[List.getElem?_eq_none (by simp;omega),List.getElem?_eq_none (by rw[gn];omega)]
def de (cnt:Nat) (L:Nat->Nat) (i m:Nat):Nat->Nat:=fun x=>if bW L x<i then bW L x else if x∈(members cnt L ((leads cnt L).getD i 0)).take m then i else 0
theorem o8 (cnt:Nat) (L:Nat->Nat):de cnt L 0 0=fun _=>0:=by funext x;simp[de]
theorem uj (t:Int) (bs:List PB) (k:Nat) (h:k<bs.length):aL t (bs.take (k+1))=aL t (bs.take k)++if t<=(bs[k]).s then[bs[k]]else[]:=by
 unfold aL
 rw[List.take_succ_eq_append_getElem h,List.filter_append]
 congr 1
 by_cases h:t<=bs[k].s<;>simp[h]
theorem xg {t:Int} {bs:List PB} {b:PB} (h:b∈aL t bs):b∈bs:=(List.mem_filter.1 h).1
theorem nB (t:Int) (bs:List PB):(aL t bs).length<=bs.length:=List.length_filter_le _ _
theorem Cl (cnt:Nat) (hn:cnt<=1048576) (bs:List PB) (hb:∀b∈bs,b.a<cnt/\b.b<cnt) (oe:bs.length<=1048576) (t:Int):ar Tryz.prog 240 [.int .i64 cnt,.sl (bs.map aC),.int .i64 t] (.iD [.int .i64 (leads cnt (eE (aL t bs))).length,.sl ((e9 (eE (aL t bs)) bs).map aC)]):=by
 refine ar.body eG rfl fun hl n0=>?_
 clear hl
 (try((repeat(revert hN;revert N;apply Pn.out));refine wk @Nat.zero_add ?_;(repeat(refine Pn.mk ?_;intro N hN))))
 refine aM (fun n env st=>∃k:Nat,n=(bs.length)-k/\k<=(bs.length)/\env 9=.int .i64 (k:Int)/\(∃o:Id,env 8=.own o 0 (aL t (bs.take k)).length/\st.get o=some ⟨true,3,(aL t (bs.take k)).map aC⟩/\o.bj<st.next)) (bs.length) ⟨0,by omega,by omega,sl @Nat.zero_add,⟨⟨240001000,n0+1⟩,by(simp only[go_sem, ↓reduceIte,Nat.reduceEqDiff,Nat.reduceAdd,Nat.reduceSub,Nat.reduceLeDiff,reduceCtorEq])<;>rfl,by(simp only[go_sem, ↓reduceIte,Nat.reduceEqDiff,Nat.reduceAdd,Nat.reduceSub,Nat.reduceLeDiff,reduceCtorEq])<;>rfl,by(try dsimp only);omega⟩⟩ ?_
 rintro n_a env_a st_a ⟨k,rfl,ale,a9,j8⟩ di
 have a0:=di 0 (by kernel_rfl);have a1:=di 1 (by kernel_rfl);have a2:=di 2 (by kernel_rfl)
 simp only[go_sem, ↓reduceIte,Nat.reduceEqDiff,Nat.reduceAdd,Nat.reduceSub,Nat.reduceLeDiff,reduceCtorEq]at a0 a1 a2
 clear di
 obtain⟨o,a8,ag,rX⟩:=j8
 have qS:=dB rX
 by_cases hk:(k:Int)<(bs.length:Int)
 ·have cm:∀{e:Env} {gg:Rows} {nx:Nat},(e 9=.int .i64 (IntKind.i64.wrap ((k:Int)+1)))->(∃o:Id,e 8=.own o 0 (aL t (bs.take (k+1))).length/\gg o=some ⟨true,3,(aL t (bs.take (k+1))).map aC⟩/\o.bj<nx)->∃m0,m0<(bs.length)-k/\∃k:Nat,m0=(bs.length)-k/\k<=(bs.length)/\e 9=.int .i64 (k:Int)/\(∃o:Id,e 8=.own o 0 (aL t (bs.take k)).length/\gg o=some ⟨true,3,(aL t (bs.take k)).map aC⟩/\o.bj<nx):=fun x1 x2=>⟨_,by omega,k+1,rfl,by omega,(by rw[x1,ay (by omega)]),x2⟩
  have eU:k<bs.length:=by omega
  have eB:(bs.map aC)[k]? =some (aC bs[k]):=by simp[eU]
  have hs:=uj t bs k eU
  have xx:=nB t (bs.take k)
  rw[List.length_take]at xx
  by_cases hc:t<=(bs[k]).s
  ·rw[if_pos hc]at hs
   have e1:(aL t (bs.take k)).length+1<=16777216:=by omega
   have gY:((aL t (bs.take k)).map aC).length=(aL t (bs.take k)).length:=by simp
   generalize bs[k]=b at *
   (try((repeat(revert hN;revert N;apply Pn.out));refine wk (tw @a9 (tw @a0 (tw @a1 (tw @a2 (tw @a8 (tw @ag (tw @qS (tw @hk (tw @eB (tw @hc (tw @e1 (tw @gY @aC.eq_1)))))))))))) ?_;(repeat(refine Pn.mk ?_;intro N hN))))
   exact cm (sd (tw @a9 (tw @a0 (tw @a1 @a2)))) (⟨⟨240006006,st_a.next+1+1⟩,by rw[hs,List.length_append];simp only[go_sem, ↓reduceIte,Nat.reduceEqDiff,Nat.reduceAdd,Nat.reduceSub,Nat.reduceLeDiff,reduceCtorEq,List.length_cons,List.length_nil],by rw[hs,List.map_append,List.map_cons,List.map_nil];simp only[go_sem, ↓reduceIte,Nat.reduceEqDiff,Nat.reduceAdd,Nat.reduceSub,Nat.reduceLeDiff,reduceCtorEq,aC],by(try dsimp only);omega⟩)
  ·rw[if_neg hc,List.append_nil]at hs
   generalize bs[k]=b at *
   (try((repeat(revert hN;revert N;apply Pn.out));refine wk (tw @a9 (tw @a0 (tw @a1 (tw @a2 (tw @a8 (tw @ag (tw @qS (tw @hk (tw @eB (tw @hc @aC.eq_1)))))))))) ?_;(repeat(refine Pn.mk ?_;intro N hN))))
   exact cm (sd (tw @a9 (tw @a0 (tw @a1 @a2)))) (⟨o,by rw[hs];simp only[go_sem, ↓reduceIte,Nat.reduceEqDiff,Nat.reduceAdd,Nat.reduceSub,Nat.reduceLeDiff,reduceCtorEq,a8],by rw[hs];simp only[go_sem, ↓reduceIte,Nat.reduceEqDiff,Nat.reduceAdd,Nat.reduceSub,Nat.reduceLeDiff,reduceCtorEq,ag],by(try dsimp only);omega⟩)
 have jN:k=bs.length:=by omega
 subst jN
 rw[List.take_length]at a8 ag
 have Ib:=Cj cnt hn (aL t bs) (fun b h=>hb b (xg h)) (by have:=nB t bs;omega)
 have hL:=ub (aL t bs)
 have C5:fz (dJ st_a.get) 6 (.own o 0 (aL t bs).length)=some (.sl ((aL t bs).map aC)):=fA (sz:=3) (by simp[dJ,ag]) rfl fun b=>zC _ 4 b
 have U6:∀x,dd (dJ st_a.get) 6 [.int .i64 x,.own o 0 (aL t bs).length]=some [.int .i64 x,.sl ((aL t bs).map aC)]:=fun x=>by simp only[aj,aq,aH,C5,Option.map_some]
 (try((repeat(revert hN;revert N;apply Pn.out));refine wk (tw @a9 (tw @a0 (tw @a1 (tw @a2 (tw @a8 @hk))))) ?_;(repeat(refine Pn.mk ?_;intro N hN))))
 refine .inl ⟨_,ar.x Ib (U6 _),?_⟩
 refine hN _ _ ?_
 clear hN N
 generalize eE (aL t bs)=L at *
 have sP:((fE cnt L).map AQ).length=(leads cnt L).length:=by simp[fE]
 have Tv:=jR cnt L
 have jM:(0:Int)<=(cnt:Int):=by omega
 have p9:(cnt:Int)<=((16777216:Nat):Int):=by omega
 have ia:List.replicate cnt [AV.int .i64 0]=dG (de cnt L 0 0) cnt:=by rw[xk,o8]
 (try((repeat(revert hN;revert N;apply Pn.out));refine wk (tw @a9 (tw @a0 (tw @a1 (tw @a2 (tw @jM (tw @p9 @Int.le_refl)))))) ?_;(repeat(refine Pn.mk ?_;intro N hN))))
 refine aM (fun n env st=>∃i:Nat,n=((leads cnt L).length)-i/\i<=((leads cnt L).length)/\env 12=.int .i64 (i:Int)/\st.get ⟨240008001,st_a.next+1+1⟩=some ⟨true,1,dG (de cnt L i 0) cnt⟩/\(st_a.next+1+1<st.next)) ((leads cnt L).length) ⟨0,by omega,by omega,sl (tw @a9 (tw @a0 (tw @a1 (tw @a2 @ia)))),sl (tw @a9 (tw @a0 (tw @a1 (tw @a2 @ia)))),(by(try dsimp only);omega)⟩ ?_
 rintro n_c env_c st_c ⟨i,rfl,cle,qx,cg0,cI0⟩ iM
 have c1:=iM 1 (by kernel_rfl);have jC:=iM 10 (by kernel_rfl);have nW:=iM 11 (by kernel_rfl)
 simp only[go_sem, ↓reduceIte,Nat.reduceEqDiff,Nat.reduceAdd,Nat.reduceSub,Nat.reduceLeDiff,reduceCtorEq,a9,a0,a1,a2,ia]at c1 jC nW
 clear iM
 by_cases hi:(i:Int)<((leads cnt L).length:Int)
 ·have gF:∀{e:Env} {gg:Rows} {nx:Nat},(e 12=.int .i64 (IntKind.i64.wrap ((i:Int)+1)))->(gg ⟨240008001,st_a.next+1+1⟩=some ⟨true,1,dG (de cnt L (i+1) 0) cnt⟩)->(st_a.next+1+1<nx)->∃m0,m0<((leads cnt L).length)-i/\∃i:Nat,m0=((leads cnt L).length)-i/\i<=((leads cnt L).length)/\e 12=.int .i64 (i:Int)/\gg ⟨240008001,st_a.next+1+1⟩=some ⟨true,1,dG (de cnt L i 0) cnt⟩/\(st_a.next+1+1<nx):=fun x1 x2 x3=>⟨_,by omega,i+1,rfl,by omega,(by rw[x1,ay (by omega)]),x2,x3⟩
  have fB:i<(leads cnt L).length:=by omega
  have kJ:((fE cnt L).map AQ)[i]? =some (AQ (members cnt L (leads cnt L)[i])):=by simp[fE,fB]
  have sO:(leads cnt L).getD i 0=(leads cnt L)[i]:=by simp[List.getD_eq_getElem?_getD,fB]
  have AX:∀m,de cnt L i m=fun x=>if bW L x<i then bW L x else if x∈(members cnt L (leads cnt L)[i]).take m then i else 0:=fun m=>by unfold de;rw[sO]
  have rW:=fun x (hx:x<cnt)=>tr hL (n:=cnt) (k:=x) (i:=i) hx fB
  have mh:(members cnt L (leads cnt L)[i]).Nodup:=List.nodup_range.filter _
  have LY:∀x∈members cnt L (leads cnt L)[i],x<cnt:=fun x hx=>(lW.1 hx).1
  have hMc:(members cnt L (leads cnt L)[i]).length<=cnt:=by
   have:=List.length_filter_le (fun k=>L k==(leads cnt L)[i]) (List.range cnt)
   simpa[members]using this
  generalize members cnt L (leads cnt L)[i]=M at *
  have C4:(M.map eN).length=M.length:=by simp
  (try((repeat(revert hN;revert N;apply Pn.out));refine wk (tw @qx (tw @cg0 (tw @c1 (tw @jC (tw @nW (tw @hi @sP)))))) ?_;(repeat(refine Pn.mk ?_;intro N hN))))
  refine aM (fun n env st=>∃m:Nat,n=(M.length)-m/\m<=(M.length)/\env 13=.int .i64 (m:Int)/\st.get ⟨240008001,st_a.next+1+1⟩=some ⟨true,1,dG (de cnt L i m) cnt⟩/\(st_a.next+1+1<st.next)) (M.length) ⟨0,by omega,by omega,sl (tw @qx (tw @cg0 (tw @c1 (tw @jC @nW)))),sl (tw @qx (tw @cg0 (tw @c1 (tw @jC @nW)))),(by(try dsimp only);omega)⟩ ?_
  rintro n_d env_d st_d ⟨m,rfl,dle,d13,dg0,dI0⟩ dfr
  have d1:=dfr 1 (by kernel_rfl);have d10:=dfr 10 (by kernel_rfl);have d11:=dfr 11 (by kernel_rfl);have d12:=dfr 12 (by kernel_rfl)
  simp only[go_sem, ↓reduceIte,Nat.reduceEqDiff,Nat.reduceAdd,Nat.reduceSub,Nat.reduceLeDiff,reduceCtorEq,qx,cg0,c1,jC,nW]at d1 d10 d11 d12
  clear dfr
  have tl:=gn (de cnt L i m) cnt
  by_cases hm:(m:Int)<(M.length:Int)
  ·have ue:∀{e:Env} {gg:Rows} {nx:Nat},(e 13=.int .i64 (IntKind.i64.wrap ((m:Int)+1)))->(gg ⟨240008001,st_a.next+1+1⟩=some ⟨true,1,dG (de cnt L i (m+1)) cnt⟩)->(st_a.next+1+1<nx)->∃m0,m0<(M.length)-m/\∃m:Nat,m0=(M.length)-m/\m<=(M.length)/\e 13=.int .i64 (m:Int)/\gg ⟨240008001,st_a.next+1+1⟩=some ⟨true,1,dG (de cnt L i m) cnt⟩/\(st_a.next+1+1<nx):=fun x1 x2 x3=>⟨_,by omega,m+1,rfl,by omega,(by rw[x1,ay (by omega)]),x2,x3⟩
   have zP:m<M.length:=by omega
   have sQ:(M.map eN)[m]? =some (eN M[m]):=by simp[zP]
   have wi:=LY _ (List.getElem_mem zP)
   have Db:(M[m]:Int)<(cnt:Int):=by omega
   have Da:=fx (f:=de cnt L i m) wi
   have dW:(dG (de cnt L i m) cnt).set M[m] (eN i)=dG (de cnt L i (m+1)) cnt:=pQ wi (by
    have h1:=(rW _ wi).1 (List.getElem_mem zP)
    rw[AX]
    simp only[]
    rw[if_neg (by omega),if_pos (by rw[List.take_succ_eq_append_getElem zP];exact List.mem_append_right _ (List.mem_singleton.2 rfl))]) fun x hx il=>by
    rw[AX,AX]
    simp only[]
    rw[List.take_succ_eq_append_getElem zP]
    simp only[List.mem_append,List.mem_singleton,il,or_false]
   rw[eN]at dW Da
   generalize M[m]=xm at *
   (try((repeat(revert hN;revert N;apply Pn.out));refine wk (tw @d13 (tw @dg0 (tw @d1 (tw @d10 (tw @d11 (tw @d12 (tw @hm (tw @hi (tw @kJ (tw @sP (tw @sQ (tw @C4 (tw @Db (tw @Da (tw @tl (tw @dW (tw @AQ.eq_1 @eN.eq_1))))))))))))))))) ?_;(repeat(refine Pn.mk ?_;intro N hN))))
   refine ue ?_ ?_ (by(try dsimp only);omega)
   all_goals simp only[go_sem, ↓reduceIte,Nat.reduceEqDiff,Nat.reduceAdd,Nat.reduceSub,Nat.reduceLeDiff,reduceCtorEq,d13,dg0,d1,d10,d11,d12,dW]
  ·have gY:m=M.length:=by omega
   subst gY
   have pD:dG (de cnt L i M.length) cnt=dG (de cnt L (i+1) 0) cnt:=gZ fun x hx=>by
    rw[AX,List.take_length]
    simp only[de,List.take_zero,List.not_mem_nil,if_false]
    have h1:=rW x hx
    by_cases h2:bW L x<i
    ·rw[if_pos h2,if_pos (by omega)]
    ·rw[if_neg h2]
     by_cases h3:x∈M
     ·rw[if_pos h3,if_pos (by have:=h1.1 h3;omega),h1.1 h3]
     ·rw[if_neg h3,if_neg fun h4=>h3 (h1.2 (by omega))]
   (try((repeat(revert hN;revert N;apply Pn.out));refine wk (tw @d13 (tw @dg0 (tw @d1 (tw @d10 (tw @d11 (tw @d12 (tw @hm (tw @hi (tw @kJ (tw @sP (tw @C4 @AQ.eq_1))))))))))) ?_;(repeat(refine Pn.mk ?_;intro N hN))))
   refine gF ?_ ?_ (by(try dsimp only);omega)
   all_goals simp only[go_sem, ↓reduceIte,Nat.reduceEqDiff,Nat.reduceAdd,Nat.reduceSub,Nat.reduceLeDiff,reduceCtorEq,qx,cg0,c1,jC,nW,d13,dg0,d1,d10,d11,d12,pD]
 have nR:i=(leads cnt L).length:=by omega
 subst nR
 have xN:dG (de cnt L (leads cnt L).length 0) cnt=dG (bW L) cnt:=gZ fun x hx=>by rw[de,if_pos (kh hL hx)]
 rw[xN]at cg0
 have tl:=gn (bW L) cnt
 (try((repeat(revert hN;revert N;apply Pn.out));refine wk (tw @qx (tw @cg0 (tw @c1 (tw @jC (tw @nW (tw @hi @sP)))))) ?_;(repeat(refine Pn.mk ?_;intro N hN))))
 have Tm:st_a.next+1+1<st_c.next:=cI0
 refine aM (fun n env st=>∃j:Nat,n=(bs.length)-j/\j<=(bs.length)/\env 15=.int .i64 (j:Int)/\st.get ⟨240008001,st_a.next+1+1⟩=some ⟨true,1,dG (bW L) cnt⟩/\(∃p:Id,env 14=.own p 0 (e9 L (bs.take j)).length/\st.get p=some ⟨true,3,(e9 L (bs.take j)).map aC⟩/\st_c.next<=p.bj/\p.bj<st.next)) (bs.length) ⟨0,by omega,by omega,sl (tw @qx (tw @cg0 (tw @c1 (tw @jC @nW)))),sl (tw @qx (tw @cg0 (tw @c1 (tw @jC @nW)))),⟨⟨240016000,st_c.next+1⟩,by(simp only[go_sem, ↓reduceIte,Nat.reduceEqDiff,Nat.reduceAdd,Nat.reduceSub,Nat.reduceLeDiff,reduceCtorEq])<;>rfl,by(simp only[go_sem, ↓reduceIte,Nat.reduceEqDiff,Nat.reduceAdd,Nat.reduceSub,Nat.reduceLeDiff,reduceCtorEq])<;>rfl,by(try dsimp only);omega,by(try dsimp only);omega⟩⟩ ?_
 rintro n_f env_f st_f ⟨j,rfl,fle,f15,fg0,fI0⟩ ffr
 have f1:=ffr 1 (by kernel_rfl);have f10:=ffr 10 (by kernel_rfl);have f11:=ffr 11 (by kernel_rfl)
 simp only[go_sem, ↓reduceIte,Nat.reduceEqDiff,Nat.reduceAdd,Nat.reduceSub,Nat.reduceLeDiff,reduceCtorEq,qx,cg0,c1,jC,nW]at f1 f10 f11
 clear ffr
 obtain⟨p,f14,fg,Pd,JA⟩:=fI0
 have x1:=dv (a:=⟨240008001,st_a.next+1+1⟩) (b:=p) (by(try dsimp only);omega)
 have AY:=dB JA
 have hvn:st_a.next+1+1<st_f.next:=by omega
 have G5:=dB (i:=⟨240008001,st_a.next+1+1⟩) (n:=st_f.next) hvn
 have xx:=(nA L (bs.take j)).2
 rw[List.length_take]at xx
 by_cases hj:(j:Int)<(bs.length:Int)
 ·have sj:∀{e:Env} {gg:Rows} {nx:Nat},(e 15=.int .i64 (IntKind.i64.wrap ((j:Int)+1)))->(gg ⟨240008001,st_a.next+1+1⟩=some ⟨true,1,dG (bW L) cnt⟩)->(∃p:Id,e 14=.own p 0 (e9 L (bs.take (j+1))).length/\gg p=some ⟨true,3,(e9 L (bs.take (j+1))).map aC⟩/\st_c.next<=p.bj/\p.bj<nx)->∃m0,m0<(bs.length)-j/\∃j:Nat,m0=(bs.length)-j/\j<=(bs.length)/\e 15=.int .i64 (j:Int)/\gg ⟨240008001,st_a.next+1+1⟩=some ⟨true,1,dG (bW L) cnt⟩/\(∃p:Id,e 14=.own p 0 (e9 L (bs.take j)).length/\gg p=some ⟨true,3,(e9 L (bs.take j)).map aC⟩/\st_c.next<=p.bj/\p.bj<nx):=fun x1 x2 x3=>⟨_,by omega,j+1,rfl,by omega,(by rw[x1,ay (by omega)]),x2,x3⟩
  have iy:j<bs.length:=by omega
  have zN:(bs.map aC)[j]? =some (aC bs[j]):=by simp[iy]
  have LR:=hb _ (List.getElem_mem iy)
  have hs:=Aw L (bs.take j) bs[j]
  rw[<-List.take_succ_eq_append_getElem iy]at hs
  generalize bs[j]=b at *
  have hA:=fx (f:=bW L) LR.1
  have hB:=fx (f:=bW L) LR.2
  have gI:(b.a:Int)<(cnt:Int):=by omega
  have fD:(b.b:Int)<(cnt:Int):=by omega
  have Te:=Ci (bW L b.a) (bW L b.b)
  have Tf:=Ch (bW L b.a) (bW L b.b)
  rw[eN]at hA hB
  by_cases he:bW L b.a=bW L b.b
  ·rw[if_pos he,List.append_nil]at hs
   have xu:decide ((bW L b.a:Int)=(bW L b.b:Int))=true:=decide_eq_true (by rw[he])
   (try((repeat(revert hN;revert N;apply Pn.out));refine wk (tw @f15 (tw @fg0 (tw @f1 (tw @f10 (tw @f11 (tw @f14 (tw @fg (tw @hj (tw @zN (tw @hA (tw @hB (tw @gI (tw @fD (tw @tl (tw @xu (tw @x1 (tw @AY @aC.eq_1))))))))))))))))) ?_;(repeat(refine Pn.mk ?_;intro N hN))))
   refine sj ?_ ?_ (⟨p,by rw[hs];simp only[go_sem, ↓reduceIte,Nat.reduceEqDiff,Nat.reduceAdd,Nat.reduceSub,Nat.reduceLeDiff,reduceCtorEq,f14],by rw[hs];simp only[go_sem, ↓reduceIte,Nat.reduceEqDiff,Nat.reduceAdd,Nat.reduceSub,Nat.reduceLeDiff,reduceCtorEq,fg],Pd,by(try dsimp only);omega⟩)
   all_goals simp only[go_sem, ↓reduceIte,Nat.reduceEqDiff,Nat.reduceAdd,Nat.reduceSub,Nat.reduceLeDiff,reduceCtorEq,f15,fg0,f1,f10,f11]
  ·rw[if_neg he]at hs
   have xu:decide ((bW L b.a:Int)=(bW L b.b:Int))=false:=decide_eq_false fun h=>he (by omega)
   have e1:(e9 L (bs.take j)).length+1<=16777216:=by omega
   have gY:((e9 L (bs.take j)).map aC).length=(e9 L (bs.take j)).length:=by simp
   (repeat(first|((repeat(revert hN;revert N;apply Pn.out));refine wk (tw @f15 (tw @fg0 (tw @f1 (tw @f10 (tw @f11 (tw @f14 (tw @fg (tw @hj (tw @zN (tw @hA (tw @hB (tw @gI (tw @fD (tw @tl (tw @xu (tw @x1 (tw @AY (tw @G5 (tw @e1 (tw @gY @aC.eq_1)))))))))))))))))))) ?_;(repeat(refine Pn.mk ?_;intro N hN)))|((try apply Or.inl);refine⟨_,ar.x (Te) (sd (tw @f15 (tw @fg0 (tw @f1 (tw @f10 (tw @f11 (tw @f14 (tw @fg (tw @hj (tw @zN (tw @hA (tw @hB (tw @gI (tw @fD (tw @tl (tw @xu (tw @x1 (tw @AY (tw @G5 (tw @e1 (tw @gY @aC.eq_1))))))))))))))))))))),?_⟩;refine hN _ _ ?_;clear hN N)|((try apply Or.inl);refine⟨_,ar.x (Tf) (sd (tw @f15 (tw @fg0 (tw @f1 (tw @f10 (tw @f11 (tw @f14 (tw @fg (tw @hj (tw @zN (tw @hA (tw @hB (tw @gI (tw @fD (tw @tl (tw @xu (tw @x1 (tw @AY (tw @G5 (tw @e1 (tw @gY @aC.eq_1))))))))))))))))))))),?_⟩;refine hN _ _ ?_;clear hN N)))
   refine sj ?_ ?_ (⟨⟨240023014,st_f.next+1+1+1+1⟩,by rw[hs,List.length_append];simp only[go_sem, ↓reduceIte,Nat.reduceEqDiff,Nat.reduceAdd,Nat.reduceSub,Nat.reduceLeDiff,reduceCtorEq,List.length_cons,List.length_nil],by rw[hs,List.map_append,List.map_cons,List.map_nil];simp only[go_sem, ↓reduceIte,Nat.reduceEqDiff,Nat.reduceAdd,Nat.reduceSub,Nat.reduceLeDiff,reduceCtorEq,aC],by(try dsimp only);omega,by(try dsimp only);omega⟩)
   all_goals simp only[go_sem, ↓reduceIte,Nat.reduceEqDiff,Nat.reduceAdd,Nat.reduceSub,Nat.reduceLeDiff,reduceCtorEq,f15,fg0,f1,f10,f11,x1,G5]
 ·have gM:j=bs.length:=by omega
  subst gM
  rw[List.take_length]at f14 fg
  (try((repeat(revert hN;revert N;apply Pn.out));refine wk (tw @f15 (tw @fg0 (tw @f1 (tw @f10 (tw @f11 (tw @f14 (tw @hj @sP))))))) ?_;(repeat(refine Pn.mk ?_;intro N hN))))
  refine jy (.inl rfl) (r1:=.int .i64 ((leads cnt L).length:Int)) (sd @Nat.zero_add) (by simp only[go_sem, ↓reduceIte,Nat.reduceEqDiff,Nat.reduceAdd,Nat.reduceSub,Nat.reduceLeDiff,reduceCtorEq];rfl) ?_
  have h1:gx st_f.get 5 (.own p 0 (e9 L bs).length)=some (.sl ((e9 L bs).map aC)):=fj (sz:=3) fg rfl fun b=>uN _ 3 b
  simp only[eX,bz,cD,eC,h1,Option.map_some]
end Go.Proofs.YtgoljkjaameagaaGreat.V

namespace Go.Proofs.YtgoljkjaameagaaGreat.V
def Ff (bs:List PB) (e v:Nat):Prop:=(cE bs e).a=v∨(cE bs e).b=v
def ja (bs:List PB) (m v:Nat):List Nat:=(List.range m).filter fun i=>(cE bs i).a==v||(cE bs i).b==v
theorem r9 {bs:List PB} {m v e:Nat}:e∈ja bs m v↔e<m/\Ff bs e v:=by simp[ja,Ff]
theorem G9 (bs:List PB) (m v:Nat):ja bs (m+1) v=ja bs m v++if (cE bs m).a=v∨(cE bs m).b=v then[m]else[]:=by
 unfold ja
 rw[List.range_succ,List.filter_append]
 congr 1
 by_cases h:(cE bs m).a=v<;>by_cases h2:(cE bs m).b=v<;>simp[h,h2]
theorem r8 (bs:List PB) (m v:Nat):(ja bs m v).length<=m:=by
 have:=List.length_filter_le (fun i=>(cE bs i).a==v||(cE bs i).b==v) (List.range m)
 simpa[ja]using this
def nG (cnt:Nat) (bs:List PB):Prop:=∀e,e<bs.length->(cE bs e).a<cnt/\(cE bs e).b<cnt/\(cE bs e).a≠(cE bs e).b
theorem pb {cnt:Nat} {bs:List PB} (h:nG cnt bs) {e v:Nat} (he:e<bs.length):cj bs e v<cnt:=by
 have:=h e he;unfold cj;split;exact this.2.1;exact this.1
theorem Kd {cnt:Nat} {bs:List PB} (h:nG cnt bs) {e v:Nat} (he:e<bs.length) (hi:Ff bs e v):cj bs e v≠v:=by
 have h1:=(h e he).2.2
 unfold cj
 split
 ·rename_i ha;rw[<-ha];exact fun h=>h1 h.symm
 ·rename_i ha;rcases hi with hi|hi
  ·exact absurd hi ha
  ·rw[<-hi];exact h1
theorem y4 {bs:List PB} {e v:Nat}:Ff bs e (cj bs e v):=by
 unfold cj Ff;split
 ·exact .inr rfl
 ·exact .inl rfl
theorem pc {cnt:Nat} {bs:List PB} (h:nG cnt bs) {e v:Nat} (he:e<bs.length) (hi:Ff bs e v):cj bs e (cj bs e v)=v:=by
 have h1:=(h e he).2.2
 unfold cj
 by_cases ha:(cE bs e).a=v
 ·rw[if_pos ha,if_neg h1];exact ha
 ·rw[if_neg ha,if_pos rfl]
  rcases hi with hi|hi
  ·exact absurd hi ha
  ·exact hi
structure zk (cnt:Nat) (bs:List PB) (f:Nat->Int) (y:Nat) (out:Nat->Int):Prop where
 lo:∀v,v<cnt->-1<=out v/\out v<=cnt
 first:out y=0
 zero:∀v,v<cnt->out v=0->v=y
 down:∀v,v<cnt->0<out v->∃e,e<bs.length/\Ff bs e v/\0<fM bs f e v/\out (cj bs e v)=out v-1
 shut:∀e v,e<bs.length->Ff bs e v->0<=out (cj bs e v)->0<fM bs f e v->0<=out v
structure AO (cnt:Nat) (bs:List PB) (f:Nat->Int) (y:Nat) (out:Nat->Int) (Q:List Nat) (i:Nat):Prop where
 nd:Q.Nodup
 lt:∀x∈Q,x<cnt
 iff:∀v,v<cnt->(0<=out v↔v∈Q)
 lo:∀v,v<cnt->-1<=out v
 first:out y=0
 up:∀j (h:j<Q.length),out Q[j]<=j
 zero:∀v,v<cnt->out v=0->v=y
 down:∀v,v<cnt->0<out v->∃e,e<bs.length/\Ff bs e v/\0<fM bs f e v/\out (cj bs e v)=out v-1
 shut:∀j (h:j<Q.length),j<i->∀e,e<bs.length->Ff bs e Q[j]->0<fM bs f e (cj bs e Q[j])->0<=out (cj bs e Q[j])
section
variable {cnt:Nat} {bs:List PB} {f:Nat->Int} {y:Nat} {out:Nat->Int} {Q:List Nat} {i:Nat}
theorem AO.start (hy:y<cnt):AO cnt bs f y (fun v=>if v=y then 0 else -1) [y] 0 where
 nd:=by simp
 lt:=fun x hx=>by rw[List.mem_singleton.1 hx];exact hy
 iff:=fun v _=>by
  by_cases h:v=y<;>simp[h]
 lo:=fun v _=>by split<;>omega
 first:=if_pos rfl
 up:=fun j h=>by
  have:j=0:=by simp at h;omega
  subst this;simp
 zero:=fun v _ h=>by
  by_cases hv:v=y
  ·exact hv
  ·rw[if_neg hv]at h;omega
 down:=fun v _ h=>by
  by_cases hv:v=y
  ·rw[if_pos hv]at h;omega
  ·rw[if_neg hv]at h;omega
 shut:=fun j h hj=>by omega
theorem AO.len (h:AO cnt bs f y out Q i):Q.length<=cnt:=o9 cnt Q h.nd h.lt
theorem AO.visit (h:AO cnt bs f y out Q i) (ok:nG cnt bs) (hi:i<Q.length) {e:Nat} (he:e<bs.length) (qa:Ff bs e Q[i]) (kf:out (cj bs e Q[i])<0) (ga:0<fM bs f e (cj bs e Q[i])):
  AO cnt bs f y (fun v=>if v=cj bs e Q[i]then out Q[i]+1 else out v) (Q++[cj bs e Q[i]]) i:=by
 have NK:0<=out Q[i]:=(h.iff _ (h.lt _ (List.getElem_mem hi))).2 (List.getElem_mem hi)
 have hq:=pb ok (v:=Q[i]) he
 have il:=Kd ok he qa
 have RY:=pc ok he qa
 have Vn:cj bs e Q[i]∉Q:=fun hm=>by have:=(h.iff _ hq).2 hm;omega
 have AX:=h.up i hi
 generalize hw:cj bs e Q[i]=w at *
 have uE:∀v,0<=out v->(if v=w then out Q[i]+1 else out v)=out v:=fun v hv=>by
  rw[if_neg];rintro rfl;omega
 have mono:∀v,0<=out v->0<=(if v=w then out Q[i]+1 else out v):=fun v hv=>by rw[uE v hv];exact hv
 refine⟨?_,?_,?_,?_,?_,?_,?_,?_,?_⟩
 ·rw[List.nodup_append]
  exact⟨h.nd,by simp,fun a ha b hb=>by rw[List.mem_singleton.1 hb];rintro rfl;exact Vn ha⟩
 ·intro x hx
  rcases List.mem_append.1 hx with hx|hx
  ·exact h.lt x hx
  ·rw[List.mem_singleton.1 hx];exact hq
 ·intro v hv
  by_cases Ii:v=w
  ·subst Ii;simp;omega
  ·rw[if_neg Ii,h.iff v hv];simp[Ii]
 ·intro v hv
  by_cases Ii:v=w
  ·rw[if_pos Ii];omega
  ·rw[if_neg Ii];exact h.lo v hv
 ·rw[uE y (by rw[h.first];exact Int.le_refl _)];exact h.first
 ·intro j hj
  by_cases gM:j<Q.length
  ·rw[List.getElem_append_left gM,uE _ ((h.iff _ (h.lt _ (List.getElem_mem gM))).2 (List.getElem_mem gM))]
   exact h.up j gM
  ·have LV:j=Q.length:=by simp at hj;omega
   subst LV
   simp
   omega
 ·intro v hv h0
  by_cases Ii:v=w
  ·rw[if_pos Ii]at h0;omega
  ·rw[if_neg Ii]at h0;exact h.zero v hv h0
 ·intro v hv h0
  by_cases Ii:v=w
  ·subst Ii
   rw[if_pos rfl]
   refine⟨e,he,by rw[<-hw];exact y4,ga,?_⟩
   rw[RY,uE _ NK];omega
  ·rw[if_neg Ii]at h0 ⊢
   obtain⟨e',h1,h2,h3,h4⟩:=h.down v hv h0
   exact⟨e',h1,h2,h3,by rw[uE _ (by omega)];exact h4⟩
 ·intro j hj mO e' zM ND hr
  have gM:j<Q.length:=by omega
  rw[List.getElem_append_left gM]at ND hr ⊢
  exact mono _ (h.shut j gM mO e' zM ND hr)
theorem AO.next (h:AO cnt bs f y out Q i) (hi:i<Q.length) (hs:∀e∈ja bs bs.length Q[i],0<fM bs f e (cj bs e Q[i])->0<=out (cj bs e Q[i])):AO cnt bs f y out Q (i+1):=
 ⟨h.nd,h.lt,h.iff,h.lo,h.first,h.up,h.zero,h.down,fun j hj mO e he qa hr=>by
  by_cases LV:j=i
  ·subst LV;exact hs e (r9.2 ⟨he,qa⟩) hr
  ·exact h.shut j hj (by omega) e he qa hr⟩
theorem AO.done (h:AO cnt bs f y out Q i) (ok:nG cnt bs) (hi:Q.length<=i):zk cnt bs f y out where
 lo:=fun v hv=>⟨h.lo v hv,by
  by_cases h0:0<=out v
  ·obtain⟨j,hj,rfl⟩:=List.getElem_of_mem ((h.iff v hv).1 h0)
   have:=h.up j hj
   have:=h.len
   omega
  ·omega⟩
 first:=h.first
 zero:=h.zero
 down:=h.down
 shut:=fun e v he qa h0 hr=>by
  obtain⟨j,hj,QA⟩:=List.getElem_of_mem ((h.iff _ (pb ok he)).1 h0)
  have h2:=h.shut j hj (by omega) e he (by rw[QA];exact y4)
  rw[QA,pc ok he qa]at h2
  exact h2 hr
end
end Go.Proofs.YtgoljkjaameagaaGreat.V

namespace Go.Proofs.YtgoljkjaameagaaGreat.V
open Go.RowKit
attribute [local irreducible] eu wpOps gq Call
attribute [local go_sem] aI fJ eP fZ fY dc upd cz K.av cJ AV.cells AV.cell rowOf rowsOf part ld rowAt bR cq dC ea gV bJ cZ eo fX eY dr ef cX cW dM dO bP aX cN bL cQ cP ec eh ee cL bU cY eb bK aO cU cG gU bp cI bQ aW dx bf dD AV.undef bD bF dR dY dI dP cH ek ew cF ej ei cR cV List.getD_cons_zero List.getD_cons_succ List.getD_nil List.all_cons List.all_nil Bool.and_true Bool.true_and Bool.and_self Bool.not_true Bool.not_false Option.map_some Option.map_none Option.bind_some Option.bind_none List.length_cons List.length_nil List.take_succ_cons List.take_zero List.take_nil List.drop_succ_cons List.drop_zero List.drop_nil List.head?_cons List.map_cons List.map_nil List.getElem?_cons_zero List.getElem?_cons_succ List.cons_append List.nil_append List.append_nil List.length_map List.set_cons_zero List.set_cons_succ Nat.reduceMul eq_self Int.toNat_natCast Int.natCast_nonneg and_self true_and and_true decide_true decide_false Bool.false_eq_true Nat.zero_add Nat.add_zero List.contains_cons List.contains_nil Bool.or_false Bool.false_or beq_self_eq_true Nat.reduceBEq ne_eq not_true_eq_false not_false_eq_true Id.mk.injEq false_and and_false Nat.reduceLT Int.reduceLE Int.reduceLT Int.reduceToNat Int.reduceNeg Int.reduceAdd Nat.le_refl List.length_append beq_true beq_false Bool.not_eq_eq_eq_not or_false false_or dJ aj aq aH aZ bB ck aT bc aU aY cK bG
def mi (P:Program) (f:Nat) (args:List AV) (R:AV->Prop):Prop:=∀n:Nat,Call P f args ⟨fun _=>none,n⟩ fun r0 σ'=>∃r',gx σ'.get 6 r0=some r'/\R r'
theorem ar.r {P:Program} {f:Nat} {args:List AV} {r:AV} (h:ar P f args r):mi P f args (fun r'=>r'=r):=h
theorem GP {P:Program} {f:Nat} {args eF:List AV} {g:Rows} {n:Nat} {R:AV->Prop} (hv:dd (dJ g) 6 args=some eF) (h:Sound P f eF ⟨fun _=>none,n⟩ fun r0 σ'=>∃r',gx σ'.get 6 r0=some r'/\R r'):Sound P f args ⟨g,n⟩ fun r σ'=>R r/\σ'=⟨g,n⟩:=by
 intro hs D ι w vs S U A
 refine(x9 (g0:=g) (K:=R) ⟨eF,hv,h⟩ (fun _ _ h=>h) S U A).mono ?_
 rintro e w' ⟨r,D',u,rfl,hR,T,S',hr⟩
 exact⟨r,g,n,D',ι,u,rfl,⟨hR,rfl⟩,T,S',U,Nat.le_refl _,hr⟩
theorem mi.x {P:Program} (hm:P.follows .mixedOrders=true) {f:Nat} {args eF:List AV} {R:AV->Prop} (h:mi P f eF R) {σ:ax} (hv:dd (dJ σ.get) 6 args=some eF):Call P f args σ fun r σ'=>R r/\σ'=σ:=
 fP (GP hv (iq hm (h σ.next)))
theorem mi.body {P:Program} {f:Nat} {args:List AV} {R:AV->Prop} {nt na:Nat} {body:VC} {res:List oH} (hf:mo P f=some ⟨nt,na,body,res⟩) (ha:na=args.length) (h:(∀a∈args,eH a)->∀n:Nat,eu (Call P) body (lq res fun r0 σ'=>∃r',gx σ'.get 6 r0=some r'/\R r') (cz args) ⟨fun _=>none,n⟩):mi P f args R:=fun n=>mj hf ha fun hl=>h hl n
def dZ (f:Nat->Int) (n:Nat):List (List AV):=(List.range n).map fun i=>aw (f i)
theorem dF (f:Nat->Int) (n:Nat):(dZ f n).length=n:=by simp[dZ]
theorem dS {f:Nat->Int} {n i:Nat} (h:i<n):(dZ f n)[i]? =some (aw (f i)):=by simp[dZ,h]
theorem lz {f g:Nat->Int} {n k:Nat} {v:Int} (hk:k<n) (hv:g k=v) (h:∀i,i<n->i≠k->g i=f i):(dZ f n).set k (aw v)=dZ g n:=by
 refine List.ext_getElem? fun i=>?_
 rw[List.getElem?_set]
 by_cases hi:k=i
 ·subst hi
  rw[if_pos rfl,dF,if_pos hk,dS hk,hv]
 ·rw[if_neg hi]
  by_cases fB:i<n
  ·rw[dS fB,dS fB,h i fB (fun h=>hi h.symm)]
  ·rw[List.getElem?_eq_none (by rw[dF];omega),List.getElem?_eq_none (by rw[dF];omega)]
theorem HP (f:Nat->Int) (n:Nat):dZ f (n+1)=dZ f n++[aw (f n)]:=by simp[dZ,List.range_succ]
theorem fzI (g:Rows) (n:Nat) (a:Int):dd g (n+1) (aw a)=some (aw a):=by simp[aw,aj,aq,aH]
theorem Uj (g:Rows) (n:Nat) (a:Int):ez g (n+1) (aw a)=some (aw a):=by simp[aw,bz,cD,eC]
theorem KG {g:Rows} {f:Nat->Int} {n m:Nat}:ig g (m+1) (dZ f n)=some (dZ f n):=by
 have:dZ f n=((List.range n).map f).map aw:=by simp[dZ]
 rw[this];exact tU fun x=>Uj g m x
theorem AF {g:Rows} {f:Nat->Int} {n m:Nat}:dU g (m+1) (dZ f n)=some (dZ f n):=by
 have:dZ f n=((List.range n).map f).map aw:=by simp[dZ]
 rw[this];exact qK fun x=>fzI g m x
def PN (l:List Nat):AV:=if l=[]then .cu else .sl (l.map eN)
def qv (cnt:Nat) (bs:List PB) (m:Nat):List (List AV):=(List.range cnt).map fun v=>[PN (ja bs m v)]
theorem Dk {cnt:Nat} {bs:List PB} {m v:Nat} (h:v<cnt):(qv cnt bs m)[v]? =some [PN (ja bs m v)]:=by simp[qv,h]
def fW (cnt:Nat) (bs:List PB) (f:Nat->Int):List AV:=[.int .i64 cnt,.sl (bs.map aC),.sl (qv cnt bs bs.length),.sl (dZ f bs.length)]
theorem uJ {bs:List PB} {e:Nat} (h:e<bs.length):(bs.map aC)[e]? =some (aC (cE bs e)):=getD_map aC h
def Small (bs:List PB) (f:Nat->Int):Prop:=∀e,e<bs.length->(0<=(cE bs e).s/\(cE bs e).s<=4)/\-4<=f e/\f e<=4
theorem Kq (cnt:Nat) (bs:List PB) (f:Nat->Int) (hs:Small bs f) (e v:Nat) (he:e<bs.length):ar Tryz.prog 297 [.dn (fW cnt bs f),.int .i64 v,.int .i64 e] (.iD [.int .i64 (fM bs f e v),.int .i64 (cj bs e v)]):=by
 refine ar.body eG rfl fun hl n0=>?_
 clear hl
 have hb:=uJ he
 have hf:=dS (f:=f) he
 obtain⟨⟨s0,s1⟩,s2,s3⟩:=hs e he
 have w1:IntKind.i64.wrap ((cE bs e).s-f e)=(cE bs e).s-f e:=br (by omega)
 have w2:IntKind.i64.wrap ((cE bs e).s+f e)=(cE bs e).s+f e:=br (by omega)
 unfold fM cj
 generalize cE bs e=b at *
 by_cases h:b.a=v
 ·have hd:decide ((b.a:Int)=(v:Int))=true:=decide_eq_true (by rw[h])
  (try((repeat(revert hN;revert N;apply Pn.out));refine wk (tw @fW.eq_1 (tw @hb (tw @hf (tw @aC.eq_1 (tw @aw.eq_1 (tw @hd (tw @w1 @w2))))))) ?_;(repeat(refine Pn.mk ?_;intro N hN))))
  refine jy (.inl rfl) (by simp only[go_sem, ↓reduceIte,Nat.reduceEqDiff,Nat.reduceAdd,Nat.reduceSub,Nat.reduceLeDiff,reduceCtorEq];rfl) (by simp only[go_sem, ↓reduceIte,Nat.reduceEqDiff,Nat.reduceAdd,Nat.reduceSub,Nat.reduceLeDiff,reduceCtorEq];rfl) ?_
  simp only[eX,bz,cD,eC,Option.map_some,if_pos h]
 ·have hd:decide ((b.a:Int)=(v:Int))=false:=decide_eq_false fun hc=>h (by omega)
  (try((repeat(revert hN;revert N;apply Pn.out));refine wk (tw @fW.eq_1 (tw @hb (tw @hf (tw @aC.eq_1 (tw @aw.eq_1 (tw @hd (tw @w1 @w2))))))) ?_;(repeat(refine Pn.mk ?_;intro N hN))))
  refine jy (.inl rfl) (by simp only[go_sem, ↓reduceIte,Nat.reduceEqDiff,Nat.reduceAdd,Nat.reduceSub,Nat.reduceLeDiff,reduceCtorEq];rfl) (by simp only[go_sem, ↓reduceIte,Nat.reduceEqDiff,Nat.reduceAdd,Nat.reduceSub,Nat.reduceLeDiff,reduceCtorEq];rfl) ?_
  simp only[eX,bz,cD,eC,Option.map_some,if_neg h]
theorem F9 (cnt:Nat) (hn:cnt<=1048576) (bs:List PB) (ok:nG cnt bs) (oe:bs.length<=1048576) (f:Nat->Int) (hs:Small bs f) (y:Nat) (hy:y<cnt):
  mi Tryz.prog 253 [.dn (fW cnt bs f),.int .i64 y] fun r=>∃out,r=.sl (dZ out cnt)/\zk cnt bs f y out:=by
 refine mi.body eG rfl fun hl n0=>?_
 clear hl
 (try((repeat(revert hN;revert N;apply Pn.out));refine wk @fW.eq_1 ?_;(repeat(refine Pn.mk ?_;intro N hN))))
 refine aM (fun n env st=>∃k:Nat,n=(cnt)-k/\k<=(cnt)/\env 6=.int .i64 (k:Int)/\(∃o:Id,env 5=.own o 0 k/\st.get o=some ⟨true,1,dZ (fun _=>-1) k⟩/\o.bj<st.next)) (cnt) ⟨0,by omega,by omega,sl @fW.eq_1,⟨⟨253001000,n0+1⟩,by(simp only[go_sem, ↓reduceIte,Nat.reduceEqDiff,Nat.reduceAdd,Nat.reduceSub,Nat.reduceLeDiff,reduceCtorEq])<;>rfl,by(simp only[go_sem, ↓reduceIte,Nat.reduceEqDiff,Nat.reduceAdd,Nat.reduceSub,Nat.reduceLeDiff,reduceCtorEq])<;>rfl,by(try dsimp only);omega⟩⟩ ?_
 rintro n_a env_a st_a ⟨k,rfl,ale,a6,j8⟩ di
 have a0:=di 0 (by kernel_rfl);have a1:=di 1 (by kernel_rfl)
 simp only[go_sem, ↓reduceIte,Nat.reduceEqDiff,Nat.reduceAdd,Nat.reduceSub,Nat.reduceLeDiff,reduceCtorEq,fW]at a0 a1
 clear di
 obtain⟨o,a5,ag,rX⟩:=j8
 have tl:=dF (fun _=>-1) k
 have qS:=dB rX
 by_cases hk:(k:Int)<(cnt:Int)
 ·have cm:∀{e:Env} {gg:Rows} {nx:Nat},(e 6=.int .i64 (IntKind.i64.wrap ((k:Int)+1)))->(∃o:Id,e 5=.own o 0 (k+1)/\gg o=some ⟨true,1,dZ (fun _=>-1) (k+1)⟩/\o.bj<nx)->∃m0,m0<(cnt)-k/\∃k:Nat,m0=(cnt)-k/\k<=(cnt)/\e 6=.int .i64 (k:Int)/\(∃o:Id,e 5=.own o 0 k/\gg o=some ⟨true,1,dZ (fun _=>-1) k⟩/\o.bj<nx):=fun x1 x2=>⟨_,by omega,k+1,rfl,by omega,(by rw[x1,ay (by omega)]),x2⟩
  have e1:k+1<=16777216:=by omega
  have qd:dZ (fun _=>-1) k++[[.int .i64 (-1)]]=dZ (fun _=>-1) (k+1):=(HP _ _).symm
  (try((repeat(revert hN;revert N;apply Pn.out));refine wk (tw @a6 (tw @a0 (tw @a1 (tw @a5 (tw @ag (tw @qS (tw @hk (tw @tl (tw @e1 (tw @qd @fW.eq_1)))))))))) ?_;(repeat(refine Pn.mk ?_;intro N hN))))
  exact cm (sd (tw @a6 (tw @a0 (tw @a1 @fW.eq_1)))) (⟨⟨253005002,st_a.next+1⟩,sd @Nat.zero_add,sd @qd,by(try dsimp only);omega⟩)
 have jN:k=cnt:=by omega
 subst jN
 have TM:(y:Int)<(k:Int):=by omega
 have hym:=dS (f:=fun _=>-1) hy
 have B6:(dZ (fun _=>-1) k).set y (aw 0)=dZ (fun v=>if v=y then 0 else -1) k:=lz hy (if_pos rfl) fun i _ hi=>if_neg hi
 rw[aw]at B6 hym
 (try((repeat(revert hN;revert N;apply Pn.out));refine wk (tw @a6 (tw @a0 (tw @a1 (tw @a5 (tw @ag (tw @qS (tw @hk (tw @tl (tw @TM (tw @hym (tw @B6 @fW.eq_1))))))))))) ?_;(repeat(refine Pn.mk ?_;intro N hN))))
 refine aM (fun m env st=>∃(i:Nat) (out:Nat->Int) (Q:List Nat) (p:Id),m=k-i/\env 8=.int .i64 (i:Int)/\env 7=.own p 0 Q.length/\st.get p=some ⟨true,1,Q.map eN⟩/\st.get o=some ⟨true,1,dZ out k⟩/\o.bj<p.bj/\p.bj<st.next/\AO k bs f y out Q i/\i<=Q.length) k ⟨0,_,[y],⟨253007001,st_a.next+1+1⟩,by omega,by(simp only[go_sem, ↓reduceIte,Nat.reduceEqDiff,Nat.reduceAdd,Nat.reduceSub,Nat.reduceLeDiff,reduceCtorEq])<;>rfl,by(simp only[go_sem, ↓reduceIte,Nat.reduceEqDiff,Nat.reduceAdd,Nat.reduceSub,Nat.reduceLeDiff,reduceCtorEq])<;>rfl,by(simp only[go_sem, ↓reduceIte,Nat.reduceEqDiff,Nat.reduceAdd,Nat.reduceSub,Nat.reduceLeDiff,reduceCtorEq])<;>rfl,sd @qS,by(try dsimp only);omega,by(try dsimp only);omega,AO.start hy,by simp⟩ ?_
 rintro n env_b st_b ⟨i,out,Q,p,rfl,b8,b7,bgp,bgo,dK,hpn,hB,hiq⟩ e7
 have b0:=e7 0 (by kernel_rfl)
 have b5:=e7 5 (by kernel_rfl)
 simp only[go_sem, ↓reduceIte,Nat.reduceEqDiff,Nat.reduceAdd,Nat.reduceSub,Nat.reduceLeDiff,reduceCtorEq,a6,a0,a1,a5,fW]at b0 b5
 clear e7
 have TB:=hB.len
 have TP:=dF out k
 have hqm:(Q.map eN).length=Q.length:=by simp
 have AY:=dB hpn
 have kS:=dB (i:=o) (n:=st_b.next) (by omega)
 by_cases hi:(i:Int)<(Q.length:Int)
 ·have fB:i<Q.length:=by omega
  have kJ:(Q.map eN)[i]? =some (eN Q[i]):=by simp[fB]
  have NK:=hB.lt _ (List.getElem_mem fB)
  obtain⟨vt,Pq⟩:∃vt,vt=Q[i]:=⟨_,rfl⟩
  rw[<-Pq]at kJ NK
  have hA:=Dk (cnt:=k) (bs:=bs) (m:=bs.length) NK
  have L7:(vt:Int)<(k:Int):=by omega
  have nR:=r8 bs bs.length vt
  have hme:∀x,x<(ja bs bs.length vt).length->(ja bs bs.length vt).getD x 0<bs.length/\Ff bs ((ja bs bs.length vt).getD x 0) vt:=fun x hx=>by
   rw[List.getD_eq_getElem?_getD,List.getElem?_eq_getElem hx]
   exact r9.1 (List.getElem_mem hx)
  have RS:∀e∈ja bs bs.length vt,∃x,x<(ja bs bs.length vt).length/\(ja bs bs.length vt).getD x 0=e:=fun e he=>by
   obtain⟨x,hx,rfl⟩:=List.getElem_of_mem he
   exact⟨x,hx,by rw[List.getD_eq_getElem?_getD,List.getElem?_eq_getElem hx];rfl⟩
  generalize hIn:ja bs bs.length vt=I at *
  unfold PN at hA
  by_cases Qs:I=[]
  ·rw[if_pos Qs]at hA
   have hI1:I.length=0:=by rw[Qs];rfl
   (try((repeat(revert hN;revert N;apply Pn.out));refine wk (tw @b0 (tw @b5 (tw @b7 (tw @b8 (tw @bgp (tw @hi (tw @kJ (tw @hqm (tw @eN.eq_1 @fW.eq_1))))))))) ?_;(repeat(refine Pn.mk ?_;intro N hN))))
   refine aM (fun n env st=>∃x:Nat,n=(I.length)-x/\x<=(I.length)/\env 10=.int .i64 (x:Int)/\(∃(iQ:Nat->Int) (Q':List Nat) (p':Id),env 7=.own p' 0 Q'.length/\st.get p'=some ⟨true,1,Q'.map eN⟩/\st.get o=some ⟨true,1,dZ iQ k⟩/\o.bj<p'.bj/\p'.bj<st.next/\AO k bs f y iQ Q' i/\(∃h:i<Q'.length,Q'[i]=vt)/\(∀z,z<x->0<fM bs f (I.getD z 0) (cj bs (I.getD z 0) vt)->0<=iQ (cj bs (I.getD z 0) vt)))) (I.length) ⟨0,by omega,by omega,sl (tw @b0 (tw @b5 (tw @b8 @fW.eq_1))),⟨out,Q,p,sd @b7,sd @bgp,sd @bgo,dK,by(try dsimp only);omega,hB,⟨fB,Pq.symm⟩,fun z hz=>by omega⟩⟩ ?_
   rintro n_c env_c st_c ⟨x,rfl,cle,jC,cI0⟩ iM
   have c0:=iM 0 (by kernel_rfl);have c5:=iM 5 (by kernel_rfl);have c8:=iM 8 (by kernel_rfl);have c9:=iM 9 (by kernel_rfl)
   simp only[go_sem, ↓reduceIte,Nat.reduceEqDiff,Nat.reduceAdd,Nat.reduceSub,Nat.reduceLeDiff,reduceCtorEq,b0,b5,b8,fW]at c0 c5 c8 c9
   clear iM
   obtain⟨iQ,Q',p',c7,IX,yi,D9,Pe,dH,⟨xM,qR⟩,Ld⟩:=cI0
   have Vt:=dH.len
   have PR:=dF iQ k
   have Pg:(Q'.map eN).length=Q'.length:=by simp
   have zT:=dB Pe
   have mD:=dB (i:=o) (n:=st_c.next) (by omega)
   have x1:=dv D9
   have hx:¬(x:Int)<((0:Nat):Int):=by omega
   have hxe:x=I.length:=by omega
   have hw:IntKind.i64.wrap ((i:Int)+1)=((i+1:Nat):Int):=ay (by omega)
   (try((repeat(revert hN;revert N;apply Pn.out));refine wk (tw @jC (tw @c0 (tw @c5 (tw @c8 (tw @c9 (tw @c7 (tw @hx (tw @hA (tw @L7 @fW.eq_1))))))))) ?_;(repeat(refine Pn.mk ?_;intro N hN))))
   refine⟨_,?_,i+1,iQ,Q',p',rfl,sd (tw @jC (tw @c0 (tw @c5 (tw @c8 (tw @c9 @hw))))),sd @c7,sd @IX,sd @yi,D9,by(try dsimp only);omega,dH.next xM fun e he hr=>?_,by omega⟩
   ·omega
   ·rw[qR,hIn]at he
    rw[qR]at hr ⊢
    obtain⟨z,hz,rfl⟩:=RS e he
    exact Ld z (by omega) hr
  ·rw[if_neg Qs]at hA
   have qN:(I.map eN).length=I.length:=by simp
   (try((repeat(revert hN;revert N;apply Pn.out));refine wk (tw @b0 (tw @b5 (tw @b7 (tw @b8 (tw @bgp (tw @hi (tw @kJ (tw @hqm (tw @eN.eq_1 @fW.eq_1))))))))) ?_;(repeat(refine Pn.mk ?_;intro N hN))))
   refine aM (fun n env st=>∃x:Nat,n=(I.length)-x/\x<=(I.length)/\env 10=.int .i64 (x:Int)/\(∃(iQ:Nat->Int) (Q':List Nat) (p':Id),env 7=.own p' 0 Q'.length/\st.get p'=some ⟨true,1,Q'.map eN⟩/\st.get o=some ⟨true,1,dZ iQ k⟩/\o.bj<p'.bj/\p'.bj<st.next/\AO k bs f y iQ Q' i/\(∃h:i<Q'.length,Q'[i]=vt)/\(∀z,z<x->0<fM bs f (I.getD z 0) (cj bs (I.getD z 0) vt)->0<=iQ (cj bs (I.getD z 0) vt)))) (I.length) ⟨0,by omega,by omega,sl (tw @b0 (tw @b5 (tw @b8 @fW.eq_1))),⟨out,Q,p,sd @b7,sd @bgp,sd @bgo,dK,by(try dsimp only);omega,hB,⟨fB,Pq.symm⟩,fun z hz=>by omega⟩⟩ ?_
   rintro n_c env_c st_c ⟨x,rfl,cle,jC,cI0⟩ iM
   have c0:=iM 0 (by kernel_rfl);have c5:=iM 5 (by kernel_rfl);have c8:=iM 8 (by kernel_rfl);have c9:=iM 9 (by kernel_rfl)
   simp only[go_sem, ↓reduceIte,Nat.reduceEqDiff,Nat.reduceAdd,Nat.reduceSub,Nat.reduceLeDiff,reduceCtorEq,b0,b5,b8,fW]at c0 c5 c8 c9
   clear iM
   obtain⟨iQ,Q',p',c7,IX,yi,D9,Pe,dH,⟨xM,qR⟩,Ld⟩:=cI0
   have Vt:=dH.len
   have PR:=dF iQ k
   have Pg:(Q'.map eN).length=Q'.length:=by simp
   have zT:=dB Pe
   have mD:=dB (i:=o) (n:=st_c.next) (by omega)
   have x1:=dv D9
   by_cases hx:(x:Int)<(I.length:Int)
   ·have gF:∀{e:Env} {gg:Rows} {nx:Nat},(e 10=.int .i64 (IntKind.i64.wrap ((x:Int)+1)))->(∃(iQ:Nat->Int) (Q':List Nat) (p':Id),e 7=.own p' 0 Q'.length/\gg p'=some ⟨true,1,Q'.map eN⟩/\gg o=some ⟨true,1,dZ iQ k⟩/\o.bj<p'.bj/\p'.bj<nx/\AO k bs f y iQ Q' i/\(∃h:i<Q'.length,Q'[i]=vt)/\(∀z,z<(x+1)->0<fM bs f (I.getD z 0) (cj bs (I.getD z 0) vt)->0<=iQ (cj bs (I.getD z 0) vt)))->∃m0,m0<(I.length)-x/\∃x:Nat,m0=(I.length)-x/\x<=(I.length)/\e 10=.int .i64 (x:Int)/\(∃(iQ:Nat->Int) (Q':List Nat) (p':Id),e 7=.own p' 0 Q'.length/\gg p'=some ⟨true,1,Q'.map eN⟩/\gg o=some ⟨true,1,dZ iQ k⟩/\o.bj<p'.bj/\p'.bj<nx/\AO k bs f y iQ Q' i/\(∃h:i<Q'.length,Q'[i]=vt)/\(∀z,z<x->0<fM bs f (I.getD z 0) (cj bs (I.getD z 0) vt)->0<=iQ (cj bs (I.getD z 0) vt))):=fun x1 x2=>⟨_,by omega,x+1,rfl,by omega,(by rw[x1,ay (by omega)]),x2⟩
    have QP:x<I.length:=by omega
    have OC:(I.map eN)[x]? =some (eN (I.getD x 0)):=getD_map eN QP
    obtain⟨he,qa⟩:=hme x QP
    obtain⟨e,Tp⟩:∃e,e=I.getD x 0:=⟨_,rfl⟩
    rw[<-Tp]at OC he qa
    have iG:=uJ he
    have hq:=pb ok (v:=vt) he
    have RY:=pc ok he qa
    have L5:=Kq k bs f hs e (cj bs e vt) he
    have RF:=ok e he
    have o3:IntKind.i64.wrap (((cE bs e).a:Int)+((cE bs e).b:Int))=((cE bs e).a:Int)+((cE bs e).b:Int):=br (by omega)
    have wh:IntKind.i64.wrap (((cE bs e).a:Int)+((cE bs e).b:Int)-(vt:Int))=(cj bs e vt:Int):=by
     rw[br (by omega)]
     unfold cj
     rcases qa with h1|h1
     ·rw[if_pos h1];omega
     ·rw[if_neg fun h2=>RF.2.2 (h2.trans h1.symm)];omega
    have QI:(cj bs e vt:Int)<(k:Int):=by omega
    have OU:=dS (f:=iQ) hq
    have xL:=dS (f:=iQ) NK
    rw[fW]at L5
    have AX:=dH.up i xM
    rw[qR]at AX
    have ke:=dH.lo vt NK
    have Sb:IntKind.i64.wrap (iQ vt+1)=iQ vt+1:=br (by omega)
    rw[aw]at OU xL
    generalize yw:cE bs e=b at *
    by_cases kf:iQ (cj bs e vt)<0
    ·by_cases ga:0<fM bs f e (cj bs e vt)
     ·have hV:=dH.visit ok xM (e:=e) he (by rw[qR];exact qa) (by rw[qR];exact kf) (by rw[qR];exact ga)
      rw[qR]at hV
      have dW:(dZ iQ k).set (cj bs e vt) (aw (iQ vt+1))=dZ (fun v=>if v=cj bs e vt then iQ vt+1 else iQ v) k:=lz hq (if_pos rfl) fun v _ hv=>if_neg hv
      rw[aw]at dW
      have e1:Q'.length+1<=16777216:=by omega
      (repeat(first|((repeat(revert hN;revert N;apply Pn.out));refine wk (tw @jC (tw @c0 (tw @c5 (tw @c8 (tw @c9 (tw @c7 (tw @IX (tw @yi (tw @hx (tw @hA (tw @qN (tw @OC (tw @L7 (tw @iG (tw @o3 (tw @wh (tw @QI (tw @OU (tw @xL (tw @kf (tw @ga (tw @Sb (tw @dW (tw @Pg (tw @PR (tw @zT (tw @mD (tw @x1 (tw @e1 (tw @eN.eq_1 (tw @aC.eq_1 @fW.eq_1))))))))))))))))))))))))))))))) ?_;(repeat(refine Pn.mk ?_;intro N hN)))|((try apply Or.inl);refine⟨_,ar.x (L5) (sd (tw @jC (tw @c0 (tw @c5 (tw @c8 (tw @c9 (tw @c7 (tw @IX (tw @yi (tw @hx (tw @hA (tw @qN (tw @OC (tw @L7 (tw @iG (tw @o3 (tw @wh (tw @QI (tw @OU (tw @xL (tw @kf (tw @ga (tw @Sb (tw @dW (tw @Pg (tw @PR (tw @zT (tw @mD (tw @x1 (tw @e1 (tw @eN.eq_1 (tw @aC.eq_1 @fW.eq_1)))))))))))))))))))))))))))))))),?_⟩;refine hN _ _ ?_;clear hN N)))
      exact gF (sd (tw @jC (tw @c0 (tw @c5 (tw @c8 @c9))))) (⟨_,Q'++[cj bs e vt],⟨253020003,st_c.next+1+1+1+1+1+1⟩,by rw[List.length_append];simp only[go_sem, ↓reduceIte,Nat.reduceEqDiff,Nat.reduceAdd,Nat.reduceSub,Nat.reduceLeDiff,reduceCtorEq,List.length_cons,List.length_nil],by rw[List.map_append,List.map_cons,List.map_nil];simp only[go_sem, ↓reduceIte,Nat.reduceEqDiff,Nat.reduceAdd,Nat.reduceSub,Nat.reduceLeDiff,reduceCtorEq,eN],sd (tw @mD @x1),by(try dsimp only);omega,by(try dsimp only);omega,hV,⟨by simp;omega,by rw[List.getElem_append_left xM];exact qR⟩,fun z hz hr=>by
       by_cases Sj:z=x
       ·subst Sj
        rw[<-Tp,if_pos rfl]
        have:=(dH.iff vt NK).2 (by rw[<-qR];exact List.getElem_mem xM)
        omega
       ·have:=Ld z (by omega) hr
        split
        ·have:=(dH.iff vt NK).2 (by rw[<-qR];exact List.getElem_mem xM)
         omega
        ·exact this⟩)
     ·(repeat(first|((repeat(revert hN;revert N;apply Pn.out));refine wk (tw @jC (tw @c0 (tw @c5 (tw @c8 (tw @c9 (tw @c7 (tw @IX (tw @yi (tw @hx (tw @hA (tw @qN (tw @OC (tw @L7 (tw @iG (tw @o3 (tw @wh (tw @QI (tw @OU (tw @kf (tw @ga (tw @PR (tw @zT (tw @mD (tw @x1 (tw @eN.eq_1 (tw @aC.eq_1 @fW.eq_1)))))))))))))))))))))))))) ?_;(repeat(refine Pn.mk ?_;intro N hN)))|((try apply Or.inl);refine⟨_,ar.x (L5) (sd (tw @jC (tw @c0 (tw @c5 (tw @c8 (tw @c9 (tw @c7 (tw @IX (tw @yi (tw @hx (tw @hA (tw @qN (tw @OC (tw @L7 (tw @iG (tw @o3 (tw @wh (tw @QI (tw @OU (tw @kf (tw @ga (tw @PR (tw @zT (tw @mD (tw @x1 (tw @eN.eq_1 (tw @aC.eq_1 @fW.eq_1))))))))))))))))))))))))))),?_⟩;refine hN _ _ ?_;clear hN N)))
      exact gF (sd (tw @jC (tw @c0 (tw @c5 (tw @c8 @c9))))) (⟨iQ,Q',p',sd @c7,sd (tw @IX @zT),sd (tw @yi @mD),D9,by(try dsimp only);omega,dH,⟨xM,qR⟩,fun z hz hr=>by
       by_cases Sj:z=x
       ·subst Sj;rw[<-Tp]at hr;exact absurd hr ga
       ·exact Ld z (by omega) hr⟩)
    ·(repeat(first|((repeat(revert hN;revert N;apply Pn.out));refine wk (tw @jC (tw @c0 (tw @c5 (tw @c8 (tw @c9 (tw @c7 (tw @IX (tw @yi (tw @hx (tw @hA (tw @qN (tw @OC (tw @L7 (tw @iG (tw @o3 (tw @wh (tw @QI (tw @OU (tw @kf (tw @PR (tw @zT (tw @mD (tw @x1 (tw @eN.eq_1 (tw @aC.eq_1 @fW.eq_1))))))))))))))))))))))))) ?_;(repeat(refine Pn.mk ?_;intro N hN)))|((try apply Or.inl);refine⟨_,ar.x (L5) (sd (tw @jC (tw @c0 (tw @c5 (tw @c8 (tw @c9 (tw @c7 (tw @IX (tw @yi (tw @hx (tw @hA (tw @qN (tw @OC (tw @L7 (tw @iG (tw @o3 (tw @wh (tw @QI (tw @OU (tw @kf (tw @PR (tw @zT (tw @mD (tw @x1 (tw @eN.eq_1 (tw @aC.eq_1 @fW.eq_1)))))))))))))))))))))))))),?_⟩;refine hN _ _ ?_;clear hN N)))
     exact gF (sd (tw @jC (tw @c0 (tw @c5 (tw @c8 @c9))))) (⟨iQ,Q',p',sd @c7,sd (tw @IX @zT),sd (tw @yi @mD),D9,by(try dsimp only);omega,dH,⟨xM,qR⟩,fun z hz hr=>by
      by_cases Sj:z=x
      ·subst Sj;rw[<-Tp];omega
      ·exact Ld z (by omega) hr⟩)
   ·have hxe:x=I.length:=by omega
    have hw:IntKind.i64.wrap ((i:Int)+1)=((i+1:Nat):Int):=ay (by omega)
    (try((repeat(revert hN;revert N;apply Pn.out));refine wk (tw @jC (tw @c0 (tw @c5 (tw @c8 (tw @c9 (tw @c7 (tw @hx (tw @hA (tw @qN (tw @L7 @fW.eq_1)))))))))) ?_;(repeat(refine Pn.mk ?_;intro N hN))))
    refine⟨_,?_,i+1,iQ,Q',p',rfl,sd (tw @jC (tw @c0 (tw @c5 (tw @c8 (tw @c9 @hw))))),sd @c7,sd @IX,sd @yi,D9,by(try dsimp only);omega,dH.next xM fun e he hr=>?_,by omega⟩
    ·omega
    ·rw[qR,hIn]at he
     rw[qR]at hr ⊢
     obtain⟨z,hz,rfl⟩:=RS e he
     exact Ld z (by omega) hr
 ·(try((repeat(revert hN;revert N;apply Pn.out));refine wk (tw @b0 (tw @b5 (tw @b7 (tw @b8 (tw @hi @fW.eq_1))))) ?_;(repeat(refine Pn.mk ?_;intro N hN))))
  have te:gx st_b.get 6 (.own o 0 k)=some (.sl (dZ out k)):=uO bgo (by rw[TP];omega) (by rw[List.drop_zero,List.take_of_length_le (by rw[TP];omega)];exact KG)
  exact⟨_,rfl,_,by simp only[go_sem, ↓reduceIte,Nat.reduceEqDiff,Nat.reduceAdd,Nat.reduceSub,Nat.reduceLeDiff,reduceCtorEq,fm];exact te,out,rfl,hB.done ok (by omega)⟩
end Go.Proofs.YtgoljkjaameagaaGreat.V

namespace Go.Proofs.YtgoljkjaameagaaGreat.V
open Go.RowKit
attribute [local irreducible] eu wpOps gq Call
attribute [local go_sem] aI fJ eP fZ fY dc upd cz K.av cJ AV.cells AV.cell rowOf rowsOf part ld rowAt bR cq dC ea gV bJ cZ eo fX eY dr ef cX cW dM dO bP aX cN bL cQ cP ec eh ee cL bU cY eb bK aO cU cG gU bp cI bQ aW dx bf dD AV.undef bD bF dR dY dI dP cH ek ew cF ej ei cR cV List.getD_cons_zero List.getD_cons_succ List.getD_nil List.all_cons List.all_nil Bool.and_true Bool.true_and Bool.and_self Bool.not_true Bool.not_false Option.map_some Option.map_none Option.bind_some Option.bind_none List.length_cons List.length_nil List.take_succ_cons List.take_zero List.take_nil List.drop_succ_cons List.drop_zero List.drop_nil List.head?_cons List.map_cons List.map_nil List.getElem?_cons_zero List.getElem?_cons_succ List.cons_append List.nil_append List.append_nil List.length_map List.set_cons_zero List.set_cons_succ eq_self Int.toNat_natCast Int.natCast_nonneg and_self true_and and_true decide_true decide_false Bool.false_eq_true Nat.zero_add Nat.add_zero List.contains_cons List.contains_nil Bool.or_false Bool.false_or beq_self_eq_true ne_eq not_true_eq_false not_false_eq_true Id.mk.injEq false_and and_false Nat.le_refl List.length_append beq_true beq_false Bool.not_eq_eq_eq_not or_false false_or dJ aj aq aH aZ bB ck aT bc aU aY cK bG
def Qj:C2 (List Nat):=fun g cs x ids=>(x=[]/\cs=[.cu]/\ids=[])∨∃id,cs=[.own id 0 x.length]/\0<x.length/\g id=some ⟨true,1,x.map eN⟩/\ids=[id]
theorem NP:xC Qj 1 where
 frame:=fun h hf=>by
  rcases h with h|⟨id,h1,h0,h2,h3⟩
  ·exact .inl h
  ·subst h3;exact .inr ⟨id,h1,h0,(hf id (by simp)).trans h2,rfl⟩
 len:=fun h=>by rcases h with⟨_,h,_⟩|⟨id,h,_⟩<;>subst h<;>rfl
 cell:=fun h=>by rcases h with⟨_,h,_⟩|⟨id,h,_⟩<;>subst h<;>rfl
 live:=fun h i hi=>by
  rcases h with⟨_,_,h⟩|⟨id,h1,h0,h2,h3⟩
  ·subst h;cases hi
  ·subst h3
   have:i=id:=by simpa using hi
   subst this
   exact⟨_,h2,rfl,by simp[sg]⟩
 small:=by simp[sg]
theorem Pz {g:Rows} {rows:List (List AV)} {xs:List (List Nat)} {ids:List Id} (n:Nat) (h:eI Qj g rows xs ids):dU (dJ g) (n+2) rows=some (xs.map fun l=>[PN l]):=
 h.fz (fun {cs x ids} h=>by
  rcases h with⟨h0,h1,_⟩|⟨id,h1,h0,h2,_⟩
  ·subst h0 h1;rw[aj,aq,aT];rfl
  ·have il:x≠[]:=by rintro rfl;simp at h0
   subst h1
   rw[aj,aq,fA (e:=eN) (sz:=1) (by simp[dJ,h2]) rfl fun a=>fzN _ n a]
   simp[PN,il])
theorem eI.SB {α:Type} {R:C2 α} {sz:Nat} {g:Rows} {rows:List (List AV)} {xs:List α} {ids:List Id} (ok:xC R sz) (h:eI R g rows xs ids) (mh:ids.Nodup) (k:Nat) (hk:k<xs.length):
  ∃cs ic,rows[k]? =some cs/\R g cs xs[k] ic/\(∀i∈ic,i∈ids)/\∀(g':Rows) ql x' QR,R g' ql x' QR->(∀i∈ids,i∉ic->g' i=g i)->QR.Nodup->(∀i∈QR,i∉ids)->∃Ef,eI R g' (rows.set k ql) (xs.set k x') Ef/\Ef.Nodup/\∀i∈Ef,i∈QR∨i∈ids:=by
 obtain⟨r1,cs,r2,i1,ic,i2,rfl,rfl,rfl,h3,h4,h5⟩:=h.split k hk
 obtain⟨n1,n2,n3⟩:=List.nodup_append.1 mh
 obtain⟨nc,n5,n4⟩:=List.nodup_append.1 n2
 refine⟨cs,ic,by simp,h4,fun i hi=>by simp[hi],fun g' ql x' QR hR hf hn' k5=>⟨i1++(QR++i2),?_,?_,fun i hi=>?_⟩⟩
 ·have e:xs.set r1.length x'=xs.take r1.length++x'::xs.drop (r1.length+1):=by rw[List.set_eq_take_append_cons_drop,if_pos hk]
  have e2:(r1++cs::r2).set r1.length ql=r1++ql::r2:=by simp
  rw[e,e2]
  refine(h3.frame ok fun i hi=>hf i (by simp[hi]) fun hc=>n3 i hi i (by simp[hc]) rfl).app (.cons hR (h5.frame ok fun i hi=>hf i (by simp[hi]) fun hc=>n4 i hc i hi rfl))
 ·rw[List.nodup_append,List.nodup_append]
  refine⟨n1,⟨hn',n5,fun x hx y hy he=>?_⟩,fun x hx y hy he=>?_⟩
  ·subst he;exact k5 x hx (by simp[hy])
  ·subst he
   rcases List.mem_append.1 hy with hy|hy
   ·exact k5 x hy (by simp[hx])
   ·exact n3 x hx x (by simp[hy]) rfl
 ·rcases List.mem_append.1 hi with hi|hi
  ·exact .inr (by simp[hi])
  ·rcases List.mem_append.1 hi with hi|hi
   ·exact .inl hi
   ·exact .inr (by simp[hi])
def rz (A:Id) (lo:Nat) (L:List (List Nat)) (g:Rows) (nx:Nat):Prop:=∃rows ids,g A=some ⟨true,1,rows⟩/\eI Qj g rows L ids/\ids.Nodup/\∀i∈ids,lo<i.bj/\i.bj<nx
def bE (cnt:Nat) (bs:List PB) (A F:Id):List AV:=[.int .i64 cnt,.sl (bs.map aC),.own A 0 cnt,.own F 0 bs.length]
def lK (cnt:Nat) (bs:List PB) (m:Nat):List (List Nat):=(List.range cnt).map fun v=>ja bs m v
theorem js (cnt:Nat) (bs:List PB) (m:Nat):(lK cnt bs m).length=cnt:=by simp[lK]
structure oE (cnt:Nat) (bs:List PB) (f:Nat->Int) (X A F:Id) (g:Rows) (nx:Nat):Prop where
 x:g X=some ⟨true,4,[bE cnt bs A F]⟩
 a:rz A F.bj (lK cnt bs bs.length) g nx
 f:g F=some ⟨true,1,dZ f bs.length⟩
 xa:X.bj<A.bj
 af:A.bj<F.bj
 fn:F.bj<nx
theorem rz.fz {A:Id} {lo cnt:Nat} {bs:List PB} {m nx n:Nat} {g:Rows} (h:rz A lo (lK cnt bs m) g nx):V.fz (dJ g) (n+3) (.own A 0 cnt)=some (.sl (qv cnt bs m)):=by
 obtain⟨rows,ids,h1,h2,_,_⟩:=h
 have hl:=h2.len
 rw[js]at hl
 rw[ij]
 simp only[dJ,h1,Option.map_some,if_true]
 rw[if_pos (by omega),List.drop_zero,List.take_of_length_le (by omega)]
 have:=Pz n h2
 rw[this]
 simp[lK,qv]
theorem oE.fz {cnt:Nat} {bs:List PB} {f:Nat->Int} {X A F:Id} {g:Rows} {nx:Nat} (h:oE cnt bs f X A F g nx):V.fz (dJ g) 6 (.ptr X 0 0)=some (.dn (fW cnt bs f)):=by
 have hF:dJ g F=some ⟨true,1,dZ f bs.length⟩:=by simp[dJ,h.f]
 have hX:dJ g X=some ⟨true,4,[bE cnt bs A F]⟩:=by simp[dJ,h.x]
 have hf:V.fz (dJ g) 5 (.own F 0 bs.length)=some (.sl (dZ f bs.length)):=by
  rw[ij]
  simp only[hF,if_true]
  rw[if_pos (by rw[dF];omega),List.drop_zero,List.take_of_length_le (by rw[dF];omega),AF];rfl
 have ha:=h.a.fz (n:=2)
 rw[aY]
 simp only[hX,if_true,List.getElem?_cons_zero,List.drop_zero,bE,aj,aq,aH,ck,ha,hf,Option.map_some,fW]
theorem G8 (cnt:Nat) (bs:List PB):lK cnt bs 0=List.replicate cnt []:=by
 refine List.ext_getElem? fun i=>?_
 simp only[lK,List.getElem?_map,List.getElem?_replicate]
 by_cases h:i<cnt
 ·rw[List.getElem?_range h,if_pos h];rfl
 ·rw[List.getElem?_eq_none (by simpa using h),if_neg h];rfl
theorem y8 (g:Rows):∀n:Nat,eI Qj g (List.replicate n [.cu]) (List.replicate n []) []
 |0=>.nil
 |n+1=>.cons (i1:=[]) (.inl ⟨rfl,rfl,rfl⟩) (y8 g n)
def xQ (cnt:Nat) (bs:List PB) (m:Nat):List (List Nat):=(lK cnt bs m).set (cE bs m).a (ja bs m (cE bs m).a++[m])
theorem Cd {cnt:Nat} {bs:List PB} {m v:Nat} (hv:v<cnt) (il:(cE bs m).a≠v):(xQ cnt bs m)[v]? =some (ja bs m v):=by
 unfold xQ
 rw[List.getElem?_set_ne il]
 simp[lK,hv]
theorem G7 {cnt:Nat} {bs:List PB} {m:Nat} (ha:(cE bs m).a<cnt) (hb:(cE bs m).b<cnt) (il:(cE bs m).a≠(cE bs m).b):(xQ cnt bs m).set (cE bs m).b (ja bs m (cE bs m).b++[m])=lK cnt bs (m+1):=by
 refine List.ext_getElem? fun i=>?_
 by_cases hi:i<cnt
 ·have hr:(lK cnt bs (m+1))[i]? =some (ja bs (m+1) i):=by simp[lK,hi]
  rw[hr,G9]
  by_cases h1:(cE bs m).b=i
  ·rw[List.getElem?_set,if_pos h1,if_pos (by simp[xQ,js];omega),if_pos (.inr h1),h1]
  ·rw[List.getElem?_set_ne h1]
   by_cases h2:(cE bs m).a=i
   ·unfold xQ
    rw[List.getElem?_set,if_pos h2,if_pos (by rw[js];omega),if_pos (.inl h2),h2]
   ·rw[Cd hi h2,if_neg (fun h=>h.elim h2 h1),List.append_nil]
 ·rw[List.getElem?_eq_none (by simp[xQ,js];omega),List.getElem?_eq_none (by rw[js];omega)]
theorem kY {α:Type} {l:List α} {k:Nat} {x:α} (h:l[k]? =some x) (hk:k<l.length):l[k]=x:=by
 rw[List.getElem?_eq_getElem hk]at h;exact Option.some.inj h
theorem F1 {A K:Id} {lo Sy nx k j:Nat} {L:List (List Nat)} {La:List Nat} {g:Rows} {rows:List (List AV)} {ids:List Id} (hR:eI Qj g rows L ids) (mh:ids.Nodup) (oj:∀i∈ids,lo<i.bj/\i.bj<Sy) (hA:A.bj<=lo) (hL:L[k]? =some La) (hK1:Sy<=K.bj) (Rm:K.bj<nx) (ke:lo<Sy):
  ∃cs,rows[k]? =some cs/\((La=[]/\cs=[.cu])∨∃id:Id,cs=[.own id 0 La.length]/\0<La.length/\g id=some ⟨true,1,La.map eN⟩/\id.bj<Sy/\lo<id.bj)/\
   ∀g':Rows,g' A=some ⟨true,1,rows.set k [.own K 0 (La.length+1)]⟩->g' K=some ⟨true,1,La.map eN++[[.int .i64 j]]⟩->(∀i:Id,i.bj<Sy->(i=A)=False->(∀id,cs=[.own id 0 La.length]->(i=id)=False)->g' i=g i)->rz A lo (L.set k (La++[j])) g' nx:=by
 have hk:k<L.length:=(List.getElem?_eq_some_iff.1 hL).1
 have UA:=kY hL hk
 obtain⟨cs,ic,dw,Qt,RM,rY⟩:=hR.SB NP mh k hk
 rw[UA]at Qt
 refine⟨cs,dw,?_,fun g' h1 h2 h3=>?_⟩
 ·rcases Qt with⟨h1,h2,_⟩|⟨id,h1,h2,h3,h4⟩
  ·exact .inl ⟨h1,h2⟩
  ·subst h4
   have:=oj id (RM id (by simp))
   exact .inr ⟨id,h1,h2,h3,this.2,this.1⟩
 ·obtain⟨Ef,q1,q2,q3⟩:=rY g' [.own K 0 (La.length+1)] (La++[j]) [K] (.inr ⟨K,by simp,by simp,by rw[h2];simp[eN],rfl⟩) (fun i hi Tz=>by
   refine h3 i (oj i hi).2 ?_ fun id hid=>?_
   ·simp only[eq_iff_iff,iff_false];rintro rfl;have:=oj _ hi;omega
   ·simp only[eq_iff_iff,iff_false]
    rintro rfl
    rcases Qt with⟨_,h4,_⟩|⟨k6,h4,_,_,h5⟩
    ·rw[hid]at h4;cases h4
    ·rw[hid]at h4
     simp only[List.cons.injEq,AV.own.injEq,and_true]at h4
     rw[h5,h4]at Tz
     exact Tz (by simp)) (by simp) fun i hi hc=>by
   rw[List.mem_singleton.1 hi]at hc;have:=oj _ hc;omega
  refine⟨_,Ef,h1,q1,q2,fun i hi=>?_⟩
  rcases q3 i hi with h|h
  ·rw[List.mem_singleton.1 h];omega
  ·have:=oj i h;omega
theorem Nc {P:Program} {Q:Ex->Env->ax->Prop} {c:VC} {env:Env} {σ:ax} (I:Env->ax->Prop) (h2:∀e s,I e s->Q .normal e s) (h1:∀N':Env->ax->Prop,(∀e s,I e s->N' e s)->eu (Call P) c (dx N' Q) env σ):eu (Call P) c Q env σ:=by
 refine lD (fun _ _ _ _ h=>h) aJ c _ _ env σ (fun x e s h=>?_) (h1 I fun _ _ h=>h)
 cases x with
 |normal=>exact h2 e s h
 |exit id=>exact h
 |ret=>exact h
end Go.Proofs.YtgoljkjaameagaaGreat.V

namespace Go.Proofs.YtgoljkjaameagaaGreat.V
open Go.RowKit
attribute [local irreducible] eu wpOps gq Call
attribute [local go_sem] aI fJ eP fZ fY dc upd cz K.av cJ AV.cells AV.cell rowOf rowsOf part ld rowAt bR cq dC ea gV bJ cZ eo fX eY dr ef cX cW dM dO bP aX cN bL cQ cP ec eh ee cL bU cY eb bK aO cU cG gU bp cI bQ aW dx bf dD AV.undef bD bF dR dY dI dP cH ek ew cF ej ei cR cV List.getD_cons_zero List.getD_cons_succ List.getD_nil List.all_cons List.all_nil Bool.and_true Bool.true_and Bool.and_self Bool.not_true Bool.not_false Option.map_some Option.map_none Option.bind_some Option.bind_none List.length_cons List.length_nil List.take_succ_cons List.take_zero List.take_nil List.drop_succ_cons List.drop_zero List.drop_nil List.head?_cons List.map_cons List.map_nil List.getElem?_cons_zero List.getElem?_cons_succ List.cons_append List.nil_append List.append_nil List.length_map List.set_cons_zero List.set_cons_succ Nat.reduceMul eq_self Int.toNat_natCast Int.natCast_nonneg and_self true_and and_true decide_true decide_false Bool.false_eq_true Nat.zero_add Nat.add_zero List.contains_cons List.contains_nil Bool.or_false Bool.false_or beq_self_eq_true Nat.reduceBEq ne_eq not_true_eq_false not_false_eq_true Id.mk.injEq false_and and_false Nat.reduceLT Int.reduceLE Int.reduceLT Int.reduceToNat Int.reduceNeg Int.reduceAdd Nat.le_refl List.length_append beq_true beq_false Bool.not_eq_eq_eq_not or_false false_or dJ aj aq aH aZ bB ck aT bc aU aY cK bG
theorem JO (cnt:Nat) (hn:cnt<=1048576) (bs:List PB) (ok:nG cnt bs) (oe:bs.length<=1048576) (σ:ax):
  Call Tryz.prog 251 [.int .i64 cnt,.sl (bs.map aC)] σ fun r σ'=>∃X A F,r=.ptr X 0 0/\σ.next<=X.bj/\oE cnt bs (fun _=>0) X A F σ'.get σ'.next:=by
 refine Im Oi rfl fun hl=>?_
 try simp only[q]
 clear hl
 have jM:(0:Int)<=(cnt:Int):=by omega
 have p9:(cnt:Int)<=((16777216:Nat):Int):=by omega
 have DS:(0:Int)<=(bs.length:Int):=by omega
 have H9:(bs.length:Int)<=((16777216:Nat):Int):=by omega
 have hz:List.replicate bs.length [AV.int .i64 0]=dZ (fun _=>0) bs.length:=by
  refine List.ext_getElem? fun i=>?_
  by_cases h:i<bs.length
  ·rw[dS h,List.getElem?_replicate,if_pos h];rfl
  ·rw[List.getElem?_eq_none (by simp;omega),List.getElem?_eq_none (by rw[dF];omega)]
 (try((repeat(revert hN;revert N;apply Pn.out));refine wk (tw @jM (tw @p9 (tw @DS (tw @H9 (tw @Int.le_refl @hz))))) ?_;(repeat(refine Pn.mk ?_;intro N hN))))
 obtain⟨X,hX⟩:∃X:Id,X=⟨251001003,σ.next+1⟩:=⟨_,rfl⟩
 obtain⟨A,hA⟩:∃X:Id,X=⟨251002002,σ.next+1+1⟩:=⟨_,rfl⟩
 obtain⟨F,hF⟩:∃X:Id,X=⟨251003003,σ.next+1+1+1⟩:=⟨_,rfl⟩
 have hXA:X.bj<A.bj:=by rw[hX,hA];(try dsimp only);omega
 have hAF:A.bj<F.bj:=by rw[hA,hF];(try dsimp only);omega
 have hXs:σ.next<=X.bj:=by rw[hX];(try dsimp only);omega
 refine aM (fun n env st=>∃j:Nat,n=(bs.length)-j/\j<=(bs.length)/\env 6=.int .i64 (j:Int)/\env 5=(.ptr X 0 0)/\st.get X=some ⟨true,4,[bE cnt bs A F]⟩/\st.get F=some ⟨true,1,dZ (fun _=>0) bs.length⟩/\(rz A F.bj (lK cnt bs j) st.get st.next/\F.bj<st.next)) (bs.length) ⟨0,by omega,by omega,by(try simp only[go_sem, ↓reduceIte,Nat.reduceEqDiff,Nat.reduceAdd,Nat.reduceSub,Nat.reduceLeDiff,reduceCtorEq,hX,hF,hA,bE,hz]);try rfl,by(try simp only[go_sem, ↓reduceIte,Nat.reduceEqDiff,Nat.reduceAdd,Nat.reduceSub,Nat.reduceLeDiff,reduceCtorEq,hX,hF,hA,bE,hz]);try rfl,by(try simp only[go_sem, ↓reduceIte,Nat.reduceEqDiff,Nat.reduceAdd,Nat.reduceSub,Nat.reduceLeDiff,reduceCtorEq,hX,hF,hA,bE,hz]);try rfl,by(try simp only[go_sem, ↓reduceIte,Nat.reduceEqDiff,Nat.reduceAdd,Nat.reduceSub,Nat.reduceLeDiff,reduceCtorEq,hX,hF,hA,bE,hz]);try rfl,⟨⟨List.replicate cnt [.cu],[],by rw[hA];(simp only[go_sem, ↓reduceIte,Nat.reduceEqDiff,Nat.reduceAdd,Nat.reduceSub,Nat.reduceLeDiff,reduceCtorEq])<;>rfl,by rw[G8];exact y8 _ _,List.nodup_nil,fun i hi=>by cases hi⟩,by rw[hF];(try dsimp only);omega⟩⟩ ?_
 rintro n_a env_a st_a ⟨j,rfl,ale,a6,a5,ag0,ag1,j8⟩ di
 have a0:=di 0 (by kernel_rfl);have a1:=di 1 (by kernel_rfl)
 simp only[go_sem, ↓reduceIte,Nat.reduceEqDiff,Nat.reduceAdd,Nat.reduceSub,Nat.reduceLeDiff,reduceCtorEq,hX,hF,hA,bE,hz]at a0 a1
 clear di
 obtain⟨⟨rows,ids,ag,hR,mh,oj⟩,hFn⟩:=j8
 have x1:=dv hXA
 have x2:=dv hAF
 have x3:=dv (a:=X) (b:=F) (by omega)
 have vX:=dB (i:=X) (n:=st_a.next) (by omega)
 have vA:=dB (i:=A) (n:=st_a.next) (by omega)
 have vF:=dB (i:=F) (n:=st_a.next) (by omega)
 by_cases hj:(j:Int)<(bs.length:Int)
 ·have cm:∀{e:Env} {gg:Rows} {nx:Nat},(e 6=.int .i64 (IntKind.i64.wrap ((j:Int)+1)))->(e 5=(.ptr X 0 0))->(gg X=some ⟨true,4,[bE cnt bs A F]⟩)->(gg F=some ⟨true,1,dZ (fun _=>0) bs.length⟩)->(rz A F.bj (lK cnt bs (j+1)) gg nx/\F.bj<nx)->∃m0,m0<(bs.length)-j/\∃j:Nat,m0=(bs.length)-j/\j<=(bs.length)/\e 6=.int .i64 (j:Int)/\e 5=(.ptr X 0 0)/\gg X=some ⟨true,4,[bE cnt bs A F]⟩/\gg F=some ⟨true,1,dZ (fun _=>0) bs.length⟩/\(rz A F.bj (lK cnt bs j) gg nx/\F.bj<nx):=fun x1 x2 x3 x4 x5=>⟨_,by omega,j+1,rfl,by omega,(by rw[x1,ay (by omega)]),x2,x3,x4,x5⟩
  have iy:j<bs.length:=by omega
  have iG:=uJ iy
  obtain⟨ha1,Ru,il⟩:=ok j iy
  have gI:((cE bs j).a:Int)<(cnt:Int):=by omega
  have fD:((cE bs j).b:Int)<(cnt:Int):=by omega
  have pD:=G7 (m:=j) ha1 Ru il
  have e1:=r8 bs j (cE bs j).a
  have e2:=r8 bs j (cE bs j).b
  have OT:(xQ cnt bs j)[(cE bs j).b]? =some (ja bs j (cE bs j).b):=Cd Ru il
  have RI:(lK cnt bs j)[(cE bs j).a]? =some (ja bs j (cE bs j).a):=by simp[lK,ha1]
  have Ul:xQ cnt bs j=(lK cnt bs j).set (cE bs j).a (ja bs j (cE bs j).a++[j]):=rfl
  have Jj:(xQ cnt bs j).length=cnt:=by rw[Ul,List.length_set,js]
  have jg:=hR.len
  rw[js]at jg
  obtain⟨cs7,jo,Jm,JB⟩:=F1 (A:=A) (K:=⟨251007022,st_a.next+1⟩) (nx:=st_a.next+1+1) (j:=j) hR mh oj (by omega) RI (by(try dsimp only);omega) (by(try dsimp only);omega) hFn
  rw[<-Ul]at JB
  obtain⟨c7,rfl⟩:∃c,cs7=[c]:=by
   rcases Jm with⟨_,h⟩|⟨id,h,_⟩<;>exact⟨_,h⟩
  generalize ja bs j (cE bs j).a=La at *
  generalize ja bs j (cE bs j).b=Lb at *
  generalize cE bs j=b at *
  generalize xQ cnt bs j=LA at *
  clear Ul
  (try((repeat(revert hN;revert N;apply Pn.out));refine wk (tw @a6 (tw @a5 (tw @ag0 (tw @ag1 (tw @a0 (tw @a1 (tw @hj (tw @iG (tw @aC.eq_1 (tw @ag (tw @jo (tw @gI (tw @fD (tw @jg (tw @x1 (tw @x2 (tw @x3 (tw @vX (tw @vA (tw @vF @bE.eq_1)))))))))))))))))))) ?_;(repeat(refine Pn.mk ?_;intro N hN))))
  refine Fb (fun e s=>e 0=.int .i64 cnt/\e 1=.sl (bs.map aC)/\e 5=.ptr X 0 0/\e 6=.int .i64 j/\s.get X=some ⟨true,4,[bE cnt bs A F]⟩/\s.get F=some ⟨true,1,dZ (fun _=>0) bs.length⟩/\rz A F.bj LA s.get s.next/\F.bj<s.next) ?_ ?_
  ·rintro e1 s1 ⟨m0,m1,m5,m6,mX,mF,⟨rows1,ids1,mg,mR,mnd,mver⟩,mn⟩
   refine hN _ _ ?_
   clear hN N
   have jh:=mR.len
   rw[Jj]at jh
   have wX:=dB (i:=X) (n:=s1.next) (by omega)
   have wA:=dB (i:=A) (n:=s1.next) (by omega)
   have wF:=dB (i:=F) (n:=s1.next) (by omega)
   obtain⟨cs8,jq,Jn,JC⟩:=F1 (A:=A) (K:=⟨251008022,s1.next⟩) (nx:=s1.next+1) (j:=j) mR mnd mver (by omega) OT (by(try dsimp only);omega) (by(try dsimp only);omega) mn
   rw[pD]at JC
   obtain⟨c8,rfl⟩:∃c,cs8=[c]:=by
    rcases Jn with⟨_,h⟩|⟨id,h,_⟩<;>exact⟨_,h⟩
   (try((repeat(revert hN;revert N;apply Pn.out));refine wk (tw @m0 (tw @m1 (tw @m5 (tw @m6 (tw @mX (tw @mF (tw @hj (tw @iG (tw @aC.eq_1 (tw @mg (tw @jq (tw @gI (tw @fD (tw @jh (tw @x1 (tw @x2 (tw @x3 (tw @wX (tw @wA (tw @wF @bE.eq_1)))))))))))))))))))) ?_;(repeat(refine Pn.mk ?_;intro N hN))))
   refine Nc (fun e s=>e 0=.int .i64 cnt/\e 1=.sl (bs.map aC)/\e 5=.ptr X 0 0/\e 6=.int .i64 j/\s.get X=some ⟨true,4,[bE cnt bs A F]⟩/\s.get F=some ⟨true,1,dZ (fun _=>0) bs.length⟩/\rz A F.bj (lK cnt bs (j+1)) s.get s.next/\F.bj<s.next) ?_ ?_
   ·rintro e2 s2 ⟨p0,p1,p5,p6,pX,pF,pL,pn⟩
    simp only[dx,bf]
    refine hN _ _ ?_
    clear hN N
    (try((repeat(revert hN;revert N;apply Pn.out));refine wk (tw @p0 (tw @p1 (tw @p5 @p6))) ?_;(repeat(refine Pn.mk ?_;intro N hN))))
    refine cm ?_ ?_ ?_ ?_ (⟨by obtain⟨r,i,q1,q2,q3,q4⟩:=pL;exact⟨r,i,sd @q1,q2,q3,fun x hx=>by have:=q4 x hx;(try dsimp only);omega⟩,by(try dsimp only);omega⟩)
    all_goals simp only[go_sem, ↓reduceIte,Nat.reduceEqDiff,Nat.reduceAdd,Nat.reduceSub,Nat.reduceLeDiff,reduceCtorEq,p0,p1,p5,p6,pX,pF]
   ·intro N hN
    rcases Jn with⟨Ro,zL⟩|⟨id,zL,hLp,hid,Js,yz⟩
    ·simp only[List.cons.injEq,and_true]at zL
     subst zL
     subst Ro
     refine fc ?_ ?_<;>(try((repeat(revert hN;revert N;apply Pn.out));refine wk (tw @m0 (tw @m1 (tw @m5 (tw @m6 (tw @mX (tw @mF (tw @hj (tw @iG (tw @aC.eq_1 (tw @mg (tw @jq (tw @gI (tw @fD (tw @jh (tw @x1 (tw @x2 (tw @x3 (tw @wX (tw @wA (tw @wF @bE.eq_1)))))))))))))))))))) ?_;(repeat(refine Pn.mk ?_;intro N hN))))<;>(try refine fc ?_ ?_)<;>(try((repeat(revert hN;revert N;apply Pn.out));refine wk (tw @m0 (tw @m1 (tw @m5 (tw @m6 (tw @mX (tw @mF (tw @hj (tw @iG (tw @aC.eq_1 (tw @mg (tw @jq (tw @gI (tw @fD (tw @jh (tw @x1 (tw @x2 (tw @x3 (tw @wX (tw @wA (tw @wF @bE.eq_1)))))))))))))))))))) ?_;(repeat(refine Pn.mk ?_;intro N hN))))<;>(try refine fc ?_ ?_)<;>(try((repeat(revert hN;revert N;apply Pn.out));refine wk (tw @m0 (tw @m1 (tw @m5 (tw @m6 (tw @mX (tw @mF (tw @hj (tw @iG (tw @aC.eq_1 (tw @mg (tw @jq (tw @gI (tw @fD (tw @jh (tw @x1 (tw @x2 (tw @x3 (tw @wX (tw @wA (tw @wF @bE.eq_1)))))))))))))))))))) ?_;(repeat(refine Pn.mk ?_;intro N hN))))<;>(try refine fc ?_ ?_)<;>(try((repeat(revert hN;revert N;apply Pn.out));refine wk (tw @m0 (tw @m1 (tw @m5 (tw @m6 (tw @mX (tw @mF (tw @hj (tw @iG (tw @aC.eq_1 (tw @mg (tw @jq (tw @gI (tw @fD (tw @jh (tw @x1 (tw @x2 (tw @x3 (tw @wX (tw @wA (tw @wF @bE.eq_1)))))))))))))))))))) ?_;(repeat(refine Pn.mk ?_;intro N hN))))<;>(try refine fc ?_ ?_)<;>(try((repeat(revert hN;revert N;apply Pn.out));refine wk (tw @m0 (tw @m1 (tw @m5 (tw @m6 (tw @mX (tw @mF (tw @hj (tw @iG (tw @aC.eq_1 (tw @mg (tw @jq (tw @gI (tw @fD (tw @jh (tw @x1 (tw @x2 (tw @x3 (tw @wX (tw @wA (tw @wF @bE.eq_1)))))))))))))))))))) ?_;(repeat(refine Pn.mk ?_;intro N hN))))<;>(try refine fc ?_ ?_)<;>(try((repeat(revert hN;revert N;apply Pn.out));refine wk (tw @m0 (tw @m1 (tw @m5 (tw @m6 (tw @mX (tw @mF (tw @hj (tw @iG (tw @aC.eq_1 (tw @mg (tw @jq (tw @gI (tw @fD (tw @jh (tw @x1 (tw @x2 (tw @x3 (tw @wX (tw @wA (tw @wF @bE.eq_1)))))))))))))))))))) ?_;(repeat(refine Pn.mk ?_;intro N hN))))
     all_goals
      refine⟨by simp only[go_sem, ↓reduceIte,Nat.reduceEqDiff,Nat.reduceAdd,Nat.reduceSub,Nat.reduceLeDiff,reduceCtorEq,m0,m1,m5,m6,mX,mF,hj,iG,aC,mg,jq,gI,fD,jh,x1,x2,x3,wX,wA,wF,bE],by simp only[go_sem, ↓reduceIte,Nat.reduceEqDiff,Nat.reduceAdd,Nat.reduceSub,Nat.reduceLeDiff,reduceCtorEq,m0,m1,m5,m6,mX,mF,hj,iG,aC,mg,jq,gI,fD,jh,x1,x2,x3,wX,wA,wF,bE],by simp only[go_sem, ↓reduceIte,Nat.reduceEqDiff,Nat.reduceAdd,Nat.reduceSub,Nat.reduceLeDiff,reduceCtorEq,m0,m1,m5,m6,mX,mF,hj,iG,aC,mg,jq,gI,fD,jh,x1,x2,x3,wX,wA,wF,bE],by simp only[go_sem, ↓reduceIte,Nat.reduceEqDiff,Nat.reduceAdd,Nat.reduceSub,Nat.reduceLeDiff,reduceCtorEq,m0,m1,m5,m6,mX,mF,hj,iG,aC,mg,jq,gI,fD,jh,x1,x2,x3,wX,wA,wF,bE],by simp only[go_sem, ↓reduceIte,Nat.reduceEqDiff,Nat.reduceAdd,Nat.reduceSub,Nat.reduceLeDiff,reduceCtorEq,m0,m1,m5,m6,mX,mF,hj,iG,aC,mg,jq,gI,fD,jh,x1,x2,x3,wX,wA,wF,bE],by simp only[go_sem, ↓reduceIte,Nat.reduceEqDiff,Nat.reduceAdd,Nat.reduceSub,Nat.reduceLeDiff,reduceCtorEq,m0,m1,m5,m6,mX,mF,hj,iG,aC,mg,jq,gI,fD,jh,x1,x2,x3,wX,wA,wF,bE],JC _ (by simp only[go_sem, ↓reduceIte,Nat.reduceEqDiff,Nat.reduceAdd,Nat.reduceSub,Nat.reduceLeDiff,reduceCtorEq,m0,m1,m5,m6,mX,mF,hj,iG,aC,mg,jq,gI,fD,jh,x1,x2,x3,wX,wA,wF,bE,List.length_nil]) (by simp only[go_sem, ↓reduceIte,Nat.reduceEqDiff,Nat.reduceAdd,Nat.reduceSub,Nat.reduceLeDiff,reduceCtorEq,m0,m1,m5,m6,mX,mF,hj,iG,aC,mg,jq,gI,fD,jh,x1,x2,x3,wX,wA,wF,bE,List.map_nil,List.nil_append]) (fun i hi OX fB=>?_),by(try dsimp only);omega⟩
      clear fB
      simp only[go_sem, ↓reduceIte,Nat.reduceEqDiff,Nat.reduceAdd,Nat.reduceSub,Nat.reduceLeDiff,reduceCtorEq,wX,wA,wF,dB hi,OX]
    ·simp only[List.cons.injEq,and_true]at zL
     subst zL
     have sL:=dB Js
     have y1:=dv (a:=A) (b:=id) (by omega)
     have y2:=dv (a:=F) (b:=id) yz
     have y3:=dv (a:=X) (b:=id) (by omega)
     have e3:Lb.length+1<=16777216:=by omega
     have z1:(Lb.map eN).length=Lb.length:=by simp
     refine fc ?_ ?_<;>(try((repeat(revert hN;revert N;apply Pn.out));refine wk (tw @m0 (tw @m1 (tw @m5 (tw @m6 (tw @mX (tw @mF (tw @hj (tw @iG (tw @aC.eq_1 (tw @mg (tw @jq (tw @gI (tw @fD (tw @jh (tw @x1 (tw @x2 (tw @x3 (tw @wX (tw @wA (tw @wF (tw @bE.eq_1 (tw @hid (tw @sL (tw @y1 (tw @y2 (tw @y3 (tw @e3 @z1))))))))))))))))))))))))))) ?_;(repeat(refine Pn.mk ?_;intro N hN))))<;>(try refine fc ?_ ?_)<;>(try((repeat(revert hN;revert N;apply Pn.out));refine wk (tw @m0 (tw @m1 (tw @m5 (tw @m6 (tw @mX (tw @mF (tw @hj (tw @iG (tw @aC.eq_1 (tw @mg (tw @jq (tw @gI (tw @fD (tw @jh (tw @x1 (tw @x2 (tw @x3 (tw @wX (tw @wA (tw @wF (tw @bE.eq_1 (tw @hid (tw @sL (tw @y1 (tw @y2 (tw @y3 (tw @e3 @z1))))))))))))))))))))))))))) ?_;(repeat(refine Pn.mk ?_;intro N hN))))<;>(try refine fc ?_ ?_)<;>(try((repeat(revert hN;revert N;apply Pn.out));refine wk (tw @m0 (tw @m1 (tw @m5 (tw @m6 (tw @mX (tw @mF (tw @hj (tw @iG (tw @aC.eq_1 (tw @mg (tw @jq (tw @gI (tw @fD (tw @jh (tw @x1 (tw @x2 (tw @x3 (tw @wX (tw @wA (tw @wF (tw @bE.eq_1 (tw @hid (tw @sL (tw @y1 (tw @y2 (tw @y3 (tw @e3 @z1))))))))))))))))))))))))))) ?_;(repeat(refine Pn.mk ?_;intro N hN))))<;>(try refine fc ?_ ?_)<;>(try((repeat(revert hN;revert N;apply Pn.out));refine wk (tw @m0 (tw @m1 (tw @m5 (tw @m6 (tw @mX (tw @mF (tw @hj (tw @iG (tw @aC.eq_1 (tw @mg (tw @jq (tw @gI (tw @fD (tw @jh (tw @x1 (tw @x2 (tw @x3 (tw @wX (tw @wA (tw @wF (tw @bE.eq_1 (tw @hid (tw @sL (tw @y1 (tw @y2 (tw @y3 (tw @e3 @z1))))))))))))))))))))))))))) ?_;(repeat(refine Pn.mk ?_;intro N hN))))<;>(try refine fc ?_ ?_)<;>(try((repeat(revert hN;revert N;apply Pn.out));refine wk (tw @m0 (tw @m1 (tw @m5 (tw @m6 (tw @mX (tw @mF (tw @hj (tw @iG (tw @aC.eq_1 (tw @mg (tw @jq (tw @gI (tw @fD (tw @jh (tw @x1 (tw @x2 (tw @x3 (tw @wX (tw @wA (tw @wF (tw @bE.eq_1 (tw @hid (tw @sL (tw @y1 (tw @y2 (tw @y3 (tw @e3 @z1))))))))))))))))))))))))))) ?_;(repeat(refine Pn.mk ?_;intro N hN))))<;>(try refine fc ?_ ?_)<;>(try((repeat(revert hN;revert N;apply Pn.out));refine wk (tw @m0 (tw @m1 (tw @m5 (tw @m6 (tw @mX (tw @mF (tw @hj (tw @iG (tw @aC.eq_1 (tw @mg (tw @jq (tw @gI (tw @fD (tw @jh (tw @x1 (tw @x2 (tw @x3 (tw @wX (tw @wA (tw @wF (tw @bE.eq_1 (tw @hid (tw @sL (tw @y1 (tw @y2 (tw @y3 (tw @e3 @z1))))))))))))))))))))))))))) ?_;(repeat(refine Pn.mk ?_;intro N hN))))
     all_goals
      refine⟨by simp only[go_sem, ↓reduceIte,Nat.reduceEqDiff,Nat.reduceAdd,Nat.reduceSub,Nat.reduceLeDiff,reduceCtorEq,m0,m1,m5,m6,mX,mF,hj,iG,aC,mg,jq,gI,fD,jh,x1,x2,x3,wX,wA,wF,bE,hid,sL,y1,y2,y3,e3,z1],by simp only[go_sem, ↓reduceIte,Nat.reduceEqDiff,Nat.reduceAdd,Nat.reduceSub,Nat.reduceLeDiff,reduceCtorEq,m0,m1,m5,m6,mX,mF,hj,iG,aC,mg,jq,gI,fD,jh,x1,x2,x3,wX,wA,wF,bE,hid,sL,y1,y2,y3,e3,z1],by simp only[go_sem, ↓reduceIte,Nat.reduceEqDiff,Nat.reduceAdd,Nat.reduceSub,Nat.reduceLeDiff,reduceCtorEq,m0,m1,m5,m6,mX,mF,hj,iG,aC,mg,jq,gI,fD,jh,x1,x2,x3,wX,wA,wF,bE,hid,sL,y1,y2,y3,e3,z1],by simp only[go_sem, ↓reduceIte,Nat.reduceEqDiff,Nat.reduceAdd,Nat.reduceSub,Nat.reduceLeDiff,reduceCtorEq,m0,m1,m5,m6,mX,mF,hj,iG,aC,mg,jq,gI,fD,jh,x1,x2,x3,wX,wA,wF,bE,hid,sL,y1,y2,y3,e3,z1],by simp only[go_sem, ↓reduceIte,Nat.reduceEqDiff,Nat.reduceAdd,Nat.reduceSub,Nat.reduceLeDiff,reduceCtorEq,m0,m1,m5,m6,mX,mF,hj,iG,aC,mg,jq,gI,fD,jh,x1,x2,x3,wX,wA,wF,bE,hid,sL,y1,y2,y3,e3,z1],by simp only[go_sem, ↓reduceIte,Nat.reduceEqDiff,Nat.reduceAdd,Nat.reduceSub,Nat.reduceLeDiff,reduceCtorEq,m0,m1,m5,m6,mX,mF,hj,iG,aC,mg,jq,gI,fD,jh,x1,x2,x3,wX,wA,wF,bE,hid,sL,y1,y2,y3,e3,z1],JC _ (by simp only[go_sem, ↓reduceIte,Nat.reduceEqDiff,Nat.reduceAdd,Nat.reduceSub,Nat.reduceLeDiff,reduceCtorEq,m0,m1,m5,m6,mX,mF,hj,iG,aC,mg,jq,gI,fD,jh,x1,x2,x3,wX,wA,wF,bE,hid,sL,y1,y2,y3,e3,z1,List.length_nil]) (by simp only[go_sem, ↓reduceIte,Nat.reduceEqDiff,Nat.reduceAdd,Nat.reduceSub,Nat.reduceLeDiff,reduceCtorEq,m0,m1,m5,m6,mX,mF,hj,iG,aC,mg,jq,gI,fD,jh,x1,x2,x3,wX,wA,wF,bE,hid,sL,y1,y2,y3,e3,z1,List.map_nil,List.nil_append]) (fun i hi OX fB=>?_),by(try dsimp only);omega⟩
      have il:=fB id rfl
      simp only[go_sem, ↓reduceIte,Nat.reduceEqDiff,Nat.reduceAdd,Nat.reduceSub,Nat.reduceLeDiff,reduceCtorEq,wX,wA,wF,dB hi,OX,il]
  ·intro N hN
   rcases Jm with⟨Ro,zL⟩|⟨id,zL,hLp,hid,Js,yz⟩
   ·simp only[List.cons.injEq,and_true]at zL
    subst zL
    subst Ro
    refine fc ?_ ?_<;>(try((repeat(revert hN;revert N;apply Pn.out));refine wk (tw @a6 (tw @a5 (tw @ag0 (tw @ag1 (tw @a0 (tw @a1 (tw @hj (tw @iG (tw @aC.eq_1 (tw @ag (tw @jo (tw @gI (tw @fD (tw @jg (tw @x1 (tw @x2 (tw @x3 (tw @vX (tw @vA (tw @vF @bE.eq_1)))))))))))))))))))) ?_;(repeat(refine Pn.mk ?_;intro N hN))))<;>(try refine fc ?_ ?_)<;>(try((repeat(revert hN;revert N;apply Pn.out));refine wk (tw @a6 (tw @a5 (tw @ag0 (tw @ag1 (tw @a0 (tw @a1 (tw @hj (tw @iG (tw @aC.eq_1 (tw @ag (tw @jo (tw @gI (tw @fD (tw @jg (tw @x1 (tw @x2 (tw @x3 (tw @vX (tw @vA (tw @vF @bE.eq_1)))))))))))))))))))) ?_;(repeat(refine Pn.mk ?_;intro N hN))))<;>(try refine fc ?_ ?_)<;>(try((repeat(revert hN;revert N;apply Pn.out));refine wk (tw @a6 (tw @a5 (tw @ag0 (tw @ag1 (tw @a0 (tw @a1 (tw @hj (tw @iG (tw @aC.eq_1 (tw @ag (tw @jo (tw @gI (tw @fD (tw @jg (tw @x1 (tw @x2 (tw @x3 (tw @vX (tw @vA (tw @vF @bE.eq_1)))))))))))))))))))) ?_;(repeat(refine Pn.mk ?_;intro N hN))))<;>(try refine fc ?_ ?_)<;>(try((repeat(revert hN;revert N;apply Pn.out));refine wk (tw @a6 (tw @a5 (tw @ag0 (tw @ag1 (tw @a0 (tw @a1 (tw @hj (tw @iG (tw @aC.eq_1 (tw @ag (tw @jo (tw @gI (tw @fD (tw @jg (tw @x1 (tw @x2 (tw @x3 (tw @vX (tw @vA (tw @vF @bE.eq_1)))))))))))))))))))) ?_;(repeat(refine Pn.mk ?_;intro N hN))))<;>(try refine fc ?_ ?_)<;>(try((repeat(revert hN;revert N;apply Pn.out));refine wk (tw @a6 (tw @a5 (tw @ag0 (tw @ag1 (tw @a0 (tw @a1 (tw @hj (tw @iG (tw @aC.eq_1 (tw @ag (tw @jo (tw @gI (tw @fD (tw @jg (tw @x1 (tw @x2 (tw @x3 (tw @vX (tw @vA (tw @vF @bE.eq_1)))))))))))))))))))) ?_;(repeat(refine Pn.mk ?_;intro N hN))))<;>(try refine fc ?_ ?_)<;>(try((repeat(revert hN;revert N;apply Pn.out));refine wk (tw @a6 (tw @a5 (tw @ag0 (tw @ag1 (tw @a0 (tw @a1 (tw @hj (tw @iG (tw @aC.eq_1 (tw @ag (tw @jo (tw @gI (tw @fD (tw @jg (tw @x1 (tw @x2 (tw @x3 (tw @vX (tw @vA (tw @vF @bE.eq_1)))))))))))))))))))) ?_;(repeat(refine Pn.mk ?_;intro N hN))))
    all_goals
     refine⟨by simp only[go_sem, ↓reduceIte,Nat.reduceEqDiff,Nat.reduceAdd,Nat.reduceSub,Nat.reduceLeDiff,reduceCtorEq,a6,a5,ag0,ag1,a0,a1,hj,iG,aC,ag,jo,gI,fD,jg,x1,x2,x3,vX,vA,vF,bE],by simp only[go_sem, ↓reduceIte,Nat.reduceEqDiff,Nat.reduceAdd,Nat.reduceSub,Nat.reduceLeDiff,reduceCtorEq,a6,a5,ag0,ag1,a0,a1,hj,iG,aC,ag,jo,gI,fD,jg,x1,x2,x3,vX,vA,vF,bE],by simp only[go_sem, ↓reduceIte,Nat.reduceEqDiff,Nat.reduceAdd,Nat.reduceSub,Nat.reduceLeDiff,reduceCtorEq,a6,a5,ag0,ag1,a0,a1,hj,iG,aC,ag,jo,gI,fD,jg,x1,x2,x3,vX,vA,vF,bE],by simp only[go_sem, ↓reduceIte,Nat.reduceEqDiff,Nat.reduceAdd,Nat.reduceSub,Nat.reduceLeDiff,reduceCtorEq,a6,a5,ag0,ag1,a0,a1,hj,iG,aC,ag,jo,gI,fD,jg,x1,x2,x3,vX,vA,vF,bE],by simp only[go_sem, ↓reduceIte,Nat.reduceEqDiff,Nat.reduceAdd,Nat.reduceSub,Nat.reduceLeDiff,reduceCtorEq,a6,a5,ag0,ag1,a0,a1,hj,iG,aC,ag,jo,gI,fD,jg,x1,x2,x3,vX,vA,vF,bE],by simp only[go_sem, ↓reduceIte,Nat.reduceEqDiff,Nat.reduceAdd,Nat.reduceSub,Nat.reduceLeDiff,reduceCtorEq,a6,a5,ag0,ag1,a0,a1,hj,iG,aC,ag,jo,gI,fD,jg,x1,x2,x3,vX,vA,vF,bE],JB _ (by simp only[go_sem, ↓reduceIte,Nat.reduceEqDiff,Nat.reduceAdd,Nat.reduceSub,Nat.reduceLeDiff,reduceCtorEq,a6,a5,ag0,ag1,a0,a1,hj,iG,aC,ag,jo,gI,fD,jg,x1,x2,x3,vX,vA,vF,bE,List.length_nil]) (by simp only[go_sem, ↓reduceIte,Nat.reduceEqDiff,Nat.reduceAdd,Nat.reduceSub,Nat.reduceLeDiff,reduceCtorEq,a6,a5,ag0,ag1,a0,a1,hj,iG,aC,ag,jo,gI,fD,jg,x1,x2,x3,vX,vA,vF,bE,List.map_nil,List.nil_append]) (fun i hi OX fB=>?_),by(try dsimp only);omega⟩
     clear fB
     simp only[go_sem, ↓reduceIte,Nat.reduceEqDiff,Nat.reduceAdd,Nat.reduceSub,Nat.reduceLeDiff,reduceCtorEq,vX,vA,vF,dB hi,OX]
   ·simp only[List.cons.injEq,and_true]at zL
    subst zL
    have sL:=dB Js
    have y1:=dv (a:=A) (b:=id) (by omega)
    have y2:=dv (a:=F) (b:=id) yz
    have y3:=dv (a:=X) (b:=id) (by omega)
    have e3:La.length+1<=16777216:=by omega
    have z1:(La.map eN).length=La.length:=by simp
    refine fc ?_ ?_<;>(try((repeat(revert hN;revert N;apply Pn.out));refine wk (tw @a6 (tw @a5 (tw @ag0 (tw @ag1 (tw @a0 (tw @a1 (tw @hj (tw @iG (tw @aC.eq_1 (tw @ag (tw @jo (tw @gI (tw @fD (tw @jg (tw @x1 (tw @x2 (tw @x3 (tw @vX (tw @vA (tw @vF (tw @bE.eq_1 (tw @hid (tw @sL (tw @y1 (tw @y2 (tw @y3 (tw @e3 @z1))))))))))))))))))))))))))) ?_;(repeat(refine Pn.mk ?_;intro N hN))))<;>(try refine fc ?_ ?_)<;>(try((repeat(revert hN;revert N;apply Pn.out));refine wk (tw @a6 (tw @a5 (tw @ag0 (tw @ag1 (tw @a0 (tw @a1 (tw @hj (tw @iG (tw @aC.eq_1 (tw @ag (tw @jo (tw @gI (tw @fD (tw @jg (tw @x1 (tw @x2 (tw @x3 (tw @vX (tw @vA (tw @vF (tw @bE.eq_1 (tw @hid (tw @sL (tw @y1 (tw @y2 (tw @y3 (tw @e3 @z1))))))))))))))))))))))))))) ?_;(repeat(refine Pn.mk ?_;intro N hN))))<;>(try refine fc ?_ ?_)<;>(try((repeat(revert hN;revert N;apply Pn.out));refine wk (tw @a6 (tw @a5 (tw @ag0 (tw @ag1 (tw @a0 (tw @a1 (tw @hj (tw @iG (tw @aC.eq_1 (tw @ag (tw @jo (tw @gI (tw @fD (tw @jg (tw @x1 (tw @x2 (tw @x3 (tw @vX (tw @vA (tw @vF (tw @bE.eq_1 (tw @hid (tw @sL (tw @y1 (tw @y2 (tw @y3 (tw @e3 @z1))))))))))))))))))))))))))) ?_;(repeat(refine Pn.mk ?_;intro N hN))))<;>(try refine fc ?_ ?_)<;>(try((repeat(revert hN;revert N;apply Pn.out));refine wk (tw @a6 (tw @a5 (tw @ag0 (tw @ag1 (tw @a0 (tw @a1 (tw @hj (tw @iG (tw @aC.eq_1 (tw @ag (tw @jo (tw @gI (tw @fD (tw @jg (tw @x1 (tw @x2 (tw @x3 (tw @vX (tw @vA (tw @vF (tw @bE.eq_1 (tw @hid (tw @sL (tw @y1 (tw @y2 (tw @y3 (tw @e3 @z1))))))))))))))))))))))))))) ?_;(repeat(refine Pn.mk ?_;intro N hN))))<;>(try refine fc ?_ ?_)<;>(try((repeat(revert hN;revert N;apply Pn.out));refine wk (tw @a6 (tw @a5 (tw @ag0 (tw @ag1 (tw @a0 (tw @a1 (tw @hj (tw @iG (tw @aC.eq_1 (tw @ag (tw @jo (tw @gI (tw @fD (tw @jg (tw @x1 (tw @x2 (tw @x3 (tw @vX (tw @vA (tw @vF (tw @bE.eq_1 (tw @hid (tw @sL (tw @y1 (tw @y2 (tw @y3 (tw @e3 @z1))))))))))))))))))))))))))) ?_;(repeat(refine Pn.mk ?_;intro N hN))))<;>(try refine fc ?_ ?_)<;>(try((repeat(revert hN;revert N;apply Pn.out));refine wk (tw @a6 (tw @a5 (tw @ag0 (tw @ag1 (tw @a0 (tw @a1 (tw @hj (tw @iG (tw @aC.eq_1 (tw @ag (tw @jo (tw @gI (tw @fD (tw @jg (tw @x1 (tw @x2 (tw @x3 (tw @vX (tw @vA (tw @vF (tw @bE.eq_1 (tw @hid (tw @sL (tw @y1 (tw @y2 (tw @y3 (tw @e3 @z1))))))))))))))))))))))))))) ?_;(repeat(refine Pn.mk ?_;intro N hN))))
    all_goals
     refine⟨by simp only[go_sem, ↓reduceIte,Nat.reduceEqDiff,Nat.reduceAdd,Nat.reduceSub,Nat.reduceLeDiff,reduceCtorEq,a6,a5,ag0,ag1,a0,a1,hj,iG,aC,ag,jo,gI,fD,jg,x1,x2,x3,vX,vA,vF,bE,hid,sL,y1,y2,y3,e3,z1],by simp only[go_sem, ↓reduceIte,Nat.reduceEqDiff,Nat.reduceAdd,Nat.reduceSub,Nat.reduceLeDiff,reduceCtorEq,a6,a5,ag0,ag1,a0,a1,hj,iG,aC,ag,jo,gI,fD,jg,x1,x2,x3,vX,vA,vF,bE,hid,sL,y1,y2,y3,e3,z1],by simp only[go_sem, ↓reduceIte,Nat.reduceEqDiff,Nat.reduceAdd,Nat.reduceSub,Nat.reduceLeDiff,reduceCtorEq,a6,a5,ag0,ag1,a0,a1,hj,iG,aC,ag,jo,gI,fD,jg,x1,x2,x3,vX,vA,vF,bE,hid,sL,y1,y2,y3,e3,z1],by simp only[go_sem, ↓reduceIte,Nat.reduceEqDiff,Nat.reduceAdd,Nat.reduceSub,Nat.reduceLeDiff,reduceCtorEq,a6,a5,ag0,ag1,a0,a1,hj,iG,aC,ag,jo,gI,fD,jg,x1,x2,x3,vX,vA,vF,bE,hid,sL,y1,y2,y3,e3,z1],by simp only[go_sem, ↓reduceIte,Nat.reduceEqDiff,Nat.reduceAdd,Nat.reduceSub,Nat.reduceLeDiff,reduceCtorEq,a6,a5,ag0,ag1,a0,a1,hj,iG,aC,ag,jo,gI,fD,jg,x1,x2,x3,vX,vA,vF,bE,hid,sL,y1,y2,y3,e3,z1],by simp only[go_sem, ↓reduceIte,Nat.reduceEqDiff,Nat.reduceAdd,Nat.reduceSub,Nat.reduceLeDiff,reduceCtorEq,a6,a5,ag0,ag1,a0,a1,hj,iG,aC,ag,jo,gI,fD,jg,x1,x2,x3,vX,vA,vF,bE,hid,sL,y1,y2,y3,e3,z1],JB _ (by simp only[go_sem, ↓reduceIte,Nat.reduceEqDiff,Nat.reduceAdd,Nat.reduceSub,Nat.reduceLeDiff,reduceCtorEq,a6,a5,ag0,ag1,a0,a1,hj,iG,aC,ag,jo,gI,fD,jg,x1,x2,x3,vX,vA,vF,bE,hid,sL,y1,y2,y3,e3,z1,List.length_nil]) (by simp only[go_sem, ↓reduceIte,Nat.reduceEqDiff,Nat.reduceAdd,Nat.reduceSub,Nat.reduceLeDiff,reduceCtorEq,a6,a5,ag0,ag1,a0,a1,hj,iG,aC,ag,jo,gI,fD,jg,x1,x2,x3,vX,vA,vF,bE,hid,sL,y1,y2,y3,e3,z1,List.map_nil,List.nil_append]) (fun i hi OX fB=>?_),by(try dsimp only);omega⟩
     have il:=fB id rfl
     simp only[go_sem, ↓reduceIte,Nat.reduceEqDiff,Nat.reduceAdd,Nat.reduceSub,Nat.reduceLeDiff,reduceCtorEq,vX,vA,vF,dB hi,OX,il]
 ·have gM:j=bs.length:=by omega
  subst gM
  (try((repeat(revert hN;revert N;apply Pn.out));refine wk (tw @a6 (tw @a5 (tw @ag0 (tw @ag1 (tw @a0 (tw @a1 @hj)))))) ?_;(repeat(refine Pn.mk ?_;intro N hN))))
  exact fq (.inl rfl) (by simp only[fy,iv,go_sem, ↓reduceIte,Nat.reduceEqDiff,Nat.reduceAdd,Nat.reduceSub,Nat.reduceLeDiff,reduceCtorEq];rfl) ⟨X,A,F,rfl,hXs,⟨ag0,⟨rows,ids,ag,hR,mh,fun x hx=>by have:=oj x hx;(try dsimp only);omega⟩,ag1,hXA,hAF,by(try dsimp only);omega⟩⟩
theorem rz.frame {A:Id} {lo nx uV:Nat} {L:List (List Nat)} {g g':Rows} (h:rz A lo L g nx) (hA:A.bj<nx) (hf:∀i:Id,i.bj<nx->lo<i.bj∨i=A->g' i=g i) (hn:nx<=uV):rz A lo L g' uV:=by
 obtain⟨rows,ids,h1,h2,h3,h4⟩:=h
 refine⟨rows,ids,(hf A hA (.inr rfl)).trans h1,h2.frame NP fun i hi=>hf i (h4 i hi).2 (.inl (h4 i hi).1),h3,fun i hi=>?_⟩
 have:=h4 i hi;omega
theorem oE.frame {cnt:Nat} {bs:List PB} {f:Nat->Int} {X A F:Id} {g g':Rows} {nx uV:Nat} (h:oE cnt bs f X A F g nx) (hf:∀i:Id,i.bj<nx->g' i=g i) (hn:nx<=uV):oE cnt bs f X A F g' uV:=by
 have h1:=h.xa;have h2:=h.af;have h3:=h.fn
 exact⟨(hf X (by omega)).trans h.x,h.a.frame (by omega) (fun i hi _=>hf i hi) hn,(hf F h3).trans h.f,h1,h2,by omega⟩
theorem oE.Rf {cnt:Nat} {bs:List PB} {f f':Nat->Int} {X A F:Id} {g g':Rows} {nx uV:Nat} (h:oE cnt bs f X A F g nx) (hF:g' F=some ⟨true,1,dZ f' bs.length⟩) (hf:∀i:Id,i.bj<nx->(i=F)=False->g' i=g i) (hn:nx<=uV):oE cnt bs f' X A F g' uV:=by
 have h1:=h.xa;have h2:=h.af;have h3:=h.fn
 refine⟨(hf X (by omega) (dv (by omega)).1).trans h.x,h.a.frame (by omega) (fun i hi ke=>hf i hi ?_) hn,hF,h1,h2,by omega⟩
 rcases ke with ke|rfl
 ·exact(dv ke).2
 ·exact(dv h2).1
theorem PG (cnt:Nat) (bs:List PB) (f:Nat->Int) (hs:Small bs f) (e v:Nat) (he:e<bs.length) (X A F:Id) (σ:ax) (nx:Nat) (hS:oE cnt bs f X A F σ.get nx) (hn:nx<=σ.next):
  Call Tryz.prog 298 [.ptr X 0 0,.int .i64 v,.int .i64 e] σ fun r σ'=>oE cnt bs (uf bs f e v) X A F σ'.get nx/\σ.next<=σ'.next/\∀i:Id,(i=F)=False->σ'.get i=σ.get i:=by
 refine eZ eG rfl fun hl=>?_
 clear hl
 have hX:=hS.x
 have hF:=hS.f
 have hb:=uJ he
 have U4:=dS (f:=f) he
 have tl:=dF f bs.length
 obtain⟨⟨s0,s1⟩,s2,s3⟩:=hs e he
 have hei:(e:Int)<(bs.length:Int):=by omega
 have w1:IntKind.i64.wrap (f e+1)=f e+1:=br (by omega)
 have w2:IntKind.i64.wrap (f e-1)=f e+-1:=by rw[br (by omega)];omega
 rw[aw]at U4
 unfold uf
 by_cases h:(cE bs e).a=v
 ·have dW:(dZ f bs.length).set e (aw (f e+1))=dZ (fun j=>f j+if j=e then(if (cE bs e).a=v then 1 else -1)else 0) bs.length:=lz he (by rw[if_pos rfl,if_pos h]) fun i _ hi=>by rw[if_neg hi,Int.add_zero]
  rw[aw]at dW
  generalize Tl:cE bs e=b at *
  have hd:decide ((b.a:Int)=(v:Int))=true:=decide_eq_true (by rw[h])
  (try((repeat(revert hN;revert N;apply Pn.out));refine wk (tw @hX (tw @hF (tw @hb (tw @U4 (tw @tl (tw @hei (tw @w1 (tw @dW (tw @hd (tw @aC.eq_1 @bE.eq_1)))))))))) ?_;(repeat(refine Pn.mk ?_;intro N hN))))
  exact fq (.inr rfl) (vs:=[]) rfl ⟨hS.Rf (sd @Nat.zero_add) (fun i hi il=>sd @il) (Nat.le_refl _),by(try dsimp only);omega,fun i il=>sd @il⟩
 ·have dW:(dZ f bs.length).set e (aw (f e+-1))=dZ (fun j=>f j+if j=e then(if (cE bs e).a=v then 1 else -1)else 0) bs.length:=lz he (by rw[if_pos rfl,if_neg h]) fun i _ hi=>by rw[if_neg hi,Int.add_zero]
  rw[aw]at dW
  generalize Tl:cE bs e=b at *
  have hd:decide ((b.a:Int)=(v:Int))=false:=decide_eq_false fun hc=>h (by omega)
  (try((repeat(revert hN;revert N;apply Pn.out));refine wk (tw @hX (tw @hF (tw @hb (tw @U4 (tw @tl (tw @hei (tw @w2 (tw @dW (tw @hd (tw @aC.eq_1 @bE.eq_1)))))))))) ?_;(repeat(refine Pn.mk ?_;intro N hN))))
  exact fq (.inr rfl) (vs:=[]) rfl ⟨hS.Rf (sd @Nat.zero_add) (fun i hi il=>sd @il) (Nat.le_refl _),by(try dsimp only);omega,fun i il=>sd @il⟩
structure oF (bs:List PB) (out:Nat->Int) (f f':Nat->Int) (x v:Nat):Prop where
 le:∀i,i<bs.length->f' i<=(cE bs i).s/\-(cE bs i).s<=f' i
 cut:∀S:Nat->Bool,GA S bs f'=GA S bs f+bi (S x)-bi (S v)
 Cz:∀e,e<bs.length->out (cE bs e).a<=out v->out (cE bs e).b<=out v->f' e=f e
section
variable {cnt:Nat} {bs:List PB} {out:Nat->Int} {f f':Nat->Int} {x v y:Nat}
theorem oF.start (h:∀i,i<bs.length->f i<=(cE bs i).s/\-(cE bs i).s<=f i):oF bs out f f x x:=⟨h,fun S=>by omega,fun _ _ _ _=>rfl⟩
theorem oF.step (h:oF bs out f f' x v) {e:Nat} (he:e<bs.length) (hi:Ff bs e v) (hr:0<fM bs f' e v) (hd:out (cj bs e v)=out v-1):oF bs out f (uf bs f' e v) x (cj bs e v):=by
 refine⟨fun i nR=>?_,fun S=>?_,fun i nR ha hb=>?_⟩
 ·have h1:=h.le i nR
  unfold uf
  by_cases G1:i=e
  ·subst G1
   rw[if_pos rfl]
   unfold fM at hr
   split at hr<;>rename_i hc
   ·rw[if_pos hc];omega
   ·rw[if_neg hc];omega
  ·rw[if_neg G1];omega
 ·rw[GB he hi,h.cut S];omega
 ·have G1:i≠e:=by
   rintro rfl
   rcases hi with hi|hi
   ·rw[hi]at ha;omega
   ·rw[hi]at hb;omega
  unfold uf
  rw[if_neg G1,Int.add_zero]
  exact h.Cz i nR (by omega) (by omega)
theorem oF.goes (h:oF bs out f f' x v) (hs:zk cnt bs f y out) (hv:v<cnt) (h0:0<out v):∃e∈ja bs bs.length v,0<fM bs f' e v/\out (cj bs e v)=out v-1:=by
 obtain⟨e,h1,h2,h3,h4⟩:=hs.down v hv h0
 refine⟨e,r9.2 ⟨h1,h2⟩,?_,h4⟩
 have hf:f' e=f e:=by
  refine h.Cz e h1 ?_ ?_
  ·unfold cj at h4
   split at h4
   ·rename_i ha;rw[ha];exact Int.le_refl _
   ·omega
  ·unfold cj at h4
   rcases h2 with h2|h2
   ·rw[if_pos h2]at h4;omega
   ·rw[h2];exact Int.le_refl _
 unfold fM at h3 ⊢
 rw[hf];exact h3
theorem oF.done {val:Int} (h:oF bs out f f' x y) (hf:j6 bs f x y val):j6 bs f' x y (val+1):=
 ⟨h.le,fun S hx hy=>by rw[h.cut S,hf.cut S hx hy,hx,hy];simp[bi]⟩
theorem EU {val:Int} (hs:zk cnt bs f y out) (ok:nG cnt bs) (hf:j6 bs f x y val) (hx:out x<0):∃S:Nat->Bool,S x=true/\S y=false/\val=jf S bs:=by
 refine⟨fun v=>decide (out v<0),decide_eq_true hx,decide_eq_false (by rw[hs.first];omega),hf.full (decide_eq_true hx) (decide_eq_false (by rw[hs.first];omega)) fun i hi od=>⟨fun h1 h2 hr=>?_,fun h1 h2 hr=>?_⟩⟩
 ·have OA:=of_decide_eq_true h1
  have C3:=of_decide_eq_false h2
  have:=hs.shut i (cE bs i).a hi (.inl rfl) (by unfold cj;rw[if_pos rfl];omega) hr
  omega
 ·have OA:=of_decide_eq_true h1
  have C3:=of_decide_eq_false h2
  have:=hs.shut i (cE bs i).b hi (.inr rfl) (by unfold cj;rw[if_neg od];omega) hr
  omega
end
theorem xf {bs:List PB} {f:Nat->Int} (dQ:∀e,e<bs.length->0<=(cE bs e).s/\(cE bs e).s<=4) (h:∀i,i<bs.length->f i<=(cE bs i).s/\-(cE bs i).s<=f i):Small bs f:=fun e he=>by
 have:=dQ e he;have:=h e he;omega
theorem rz.at_ {A:Id} {lo nx v:Nat} {L:List (List Nat)} {l:List Nat} {g:Rows} (h:rz A lo L g nx) (hv:L[v]? =some l) (hl:0<l.length):∃(rows:List (List AV)) (id:Id),g A=some ⟨true,1,rows⟩/\rows.length=L.length/\rows[v]? =some [.own id 0 l.length]/\g id=some ⟨true,1,l.map eN⟩/\lo<id.bj/\id.bj<nx:=by
 obtain⟨rows,ids,h1,h2,h3,h4⟩:=h
 have hk:v<L.length:=(List.getElem?_eq_some_iff.1 hv).1
 obtain⟨cs,ic,dw,hR,RM⟩:=h2.at_ v hk
 rw[kY hv hk]at hR
 rcases hR with⟨h5,_⟩|⟨id,rfl,_,h6,rfl⟩
 ·subst h5;simp at hl
 ·have:=h4 id (RM id (by simp))
  exact⟨rows,id,h1,h2.len,dw,h6,this.1,this.2⟩
theorem Oz (cnt:Nat) (hn:cnt<=1048576) (bs:List PB) (ok:nG cnt bs) (oe:bs.length<=1048576) (dQ:∀e,e<bs.length->0<=(cE bs e).s/\(cE bs e).s<=4) (f:Nat->Int) (x y:Nat) (hx:x<cnt) (hy:y<cnt) (Sf:x≠y) (val:Int) (hf:j6 bs f x y val)
  (X A F:Id) (σ:ax) (nb:Nat) (hS:oE cnt bs f X A F σ.get nb) (pD:nb<=σ.next):
  Call Tryz.prog 252 [.ptr X 0 0,.int .i64 x,.int .i64 y] σ fun r σ'=>∃b f',r=.bool b/\oE cnt bs f' X A F σ'.get nb/\σ.next<=σ'.next/\(∀i:Id,i.bj<nb->(i=F)=False->σ'.get i=σ.get i)/\
   (b=false->f'=f/\∃S:Nat->Bool,S x=true/\S y=false/\val=jf S bs)/\(b=true->j6 bs f' x y (val+1)):=by
 refine eZ eG rfl fun hl=>?_
 clear hl
 have Db:(x:Int)<(cnt:Int):=by omega
 have hz:∀(g:Rows),(∀i:Id,i.bj<nb->g i=σ.get i)->dd (dJ g) 6 [.ptr X 0 0,.int .i64 (y:Int)]=some [.dn (fW cnt bs f),.int .i64 y]:=fun g hg=>by
  have:=(hS.frame hg (Nat.le_refl _)).fz
  simp only[aj,aq,this,aH,Option.map_some]
 (try((repeat(revert hN;revert N;apply Pn.out));refine wk @Nat.zero_add ?_;(repeat(refine Pn.mk ?_;intro N hN))))
 refine .inr (aJ _ _ _ _ _ (fun r σ1 hq=>?_) ((F9 cnt hn bs ok oe f (xf dQ hf.le) y hy).x mixed (hz _ (fun i hi=>rfl))))
 obtain⟨⟨out,rfl,Pk⟩,rfl⟩:=hq
 refine hN _ _ ?_
 clear hN N
 have Pb:=dS (f:=out) hx
 have tl:=dF out cnt
 by_cases kf:out x<0
 ·(try((repeat(revert hN;revert N;apply Pn.out));refine wk (tw @Pb (tw @kf (tw @Db (tw @tl @aw.eq_1)))) ?_;(repeat(refine Pn.mk ?_;intro N hN))))
  exact fq (.inl rfl) (vs:=[.bool false]) (sd @Nat.zero_add) ⟨false,f,rfl,hS.frame (fun i hi=>rfl) (Nat.le_refl _),by(try dsimp only);omega,fun i _ _=>rfl,fun _=>⟨rfl,EU Pk ok hf kf⟩,fun h=>by cases h⟩
 (try((repeat(revert hN;revert N;apply Pn.out));refine wk (tw @Pb (tw @kf (tw @Db (tw @tl @aw.eq_1)))) ?_;(repeat(refine Pn.mk ?_;intro N hN))))
 refine aM (fun m env st=>∃(v:Nat) (f':Nat->Int),m=(out v).toNat/\v<cnt/\0<=out v/\env 8=.int .i64 (v:Int)/\oF bs out f f' x v/\oE cnt bs f' X A F st.get nb/\(∀i:Id,i.bj<nb->(i=F)=False->st.get i=σ.get i)/\σ.next<=st.next) (out x).toNat ⟨x,f,rfl,hx,by omega,by(simp only[go_sem, ↓reduceIte,Nat.reduceEqDiff,Nat.reduceAdd,Nat.reduceSub,Nat.reduceLeDiff,reduceCtorEq]),oF.start hf.le,hS.frame (fun i hi=>rfl) (Nat.le_refl _),fun i _ _=>rfl,by(try dsimp only);omega⟩ ?_
 rintro m env_b st_b ⟨v,f',rfl,hv,qS,b8,hW,hN1,mz,hle⟩ e7
 have b0:=e7 0 (by kernel_rfl)
 have b2:=e7 2 (by kernel_rfl)
 have b7:=e7 7 (by kernel_rfl)
 simp only[go_sem, ↓reduceIte,Nat.reduceEqDiff,Nat.reduceAdd,Nat.reduceSub,Nat.reduceLeDiff,reduceCtorEq]at b0 b2 b7
 clear e7
 by_cases TI:v=y
 ·have hd:decide ((v:Int)=(y:Int))=true:=decide_eq_true (by rw[TI])
  subst TI
  (try((repeat(revert hN;revert N;apply Pn.out));refine wk (tw @b0 (tw @b2 (tw @b7 (tw @b8 @hd)))) ?_;(repeat(refine Pn.mk ?_;intro N hN))))
  exact fq (.inl rfl) (vs:=[.bool true]) (sd @Nat.zero_add) ⟨true,f',rfl,hN1,by(try dsimp only);omega,mz,fun h=>(by cases h),fun _=>hW.done hf⟩
 have hd:decide ((v:Int)=(y:Int))=false:=decide_eq_false fun h=>TI (by omega)
 have AY:0<out v:=by
  have:=Pk.zero v hv
  rcases Int.lt_or_eq_of_le qS with h|h
  ·exact h
  ·exact absurd (this h.symm) TI
 have NB:=hW.goes Pk hv AY
 have hIm:∀ed∈ja bs bs.length v,ed<bs.length/\Ff bs ed v:=fun ed h=>r9.1 h
 have hIL:(lK cnt bs bs.length)[v]? =some (ja bs bs.length v):=by simp[lK,hv]
 have hIl:=r8 bs bs.length v
 generalize ja bs bs.length v=I at *
 have hIp:0<I.length:=by
  obtain⟨ed,h,_⟩:=NB
  exact List.length_pos_of_mem h
 obtain⟨rows,id,hgA,sR,lU,hid,hid1,hid2⟩:=hN1.a.at_ hIL hIp
 rw[js]at sR
 have hgX:=hN1.x
 have Ec:(v:Int)<(cnt:Int):=by omega
 have rX:=dS (f:=out) hv
 have o3:IntKind.i64.wrap (out v-1)=out v-1:=br (by have:=Pk.lo v hv;omega)
 have qN:(I.map eN).length=I.length:=by simp
 have Eb:=xf dQ hW.le
 have kK:∀(g:Rows),(∀i:Id,i.bj<nb->g i=st_b.get i)->∀ed:Nat,dd (dJ g) 6 [.ptr X 0 0,.int .i64 (v:Int),.int .i64 (ed:Int)]=some [.dn (fW cnt bs f'),.int .i64 v,.int .i64 ed]:=fun g hg ed=>by
  have:=(hN1.frame hg (Nat.le_refl _)).fz
  simp only[aj,aq,this,aH,Option.map_some]
 rw[aw]at rX
 (try((repeat(revert hN;revert N;apply Pn.out));refine wk (tw @b0 (tw @b2 (tw @b7 (tw @b8 @hd)))) ?_;(repeat(refine Pn.mk ?_;intro N hN))))
 refine aM (fun n env st=>∃k:Nat,n=(I.length)-k/\k<=(I.length)/\env 11=.int .i64 (k:Int)/\(∃(yY Fp:Int),env 9=.int .i64 yY/\env 10=.int .i64 Fp/\((yY<0/\∀z,z<k->¬(0<fM bs f' (I.getD z 0) v/\out (cj bs (I.getD z 0) v)=out v-1))∨∃ed:Nat,ed∈I/\Fp=(ed:Int)/\yY=(cj bs ed v:Int)/\0<fM bs f' ed v/\out (cj bs ed v)=out v-1))/\((∀i:Id,st.get i=st_b.get i)/\st_b.next<=st.next)) (I.length) ⟨0,by omega,by omega,sl (tw @b0 (tw @b2 (tw @b7 @b8))),⟨-1,0,by(simp only[go_sem, ↓reduceIte,Nat.reduceEqDiff,Nat.reduceAdd,Nat.reduceSub,Nat.reduceLeDiff,reduceCtorEq]),by(simp only[go_sem, ↓reduceIte,Nat.reduceEqDiff,Nat.reduceAdd,Nat.reduceSub,Nat.reduceLeDiff,reduceCtorEq]),.inl ⟨by omega,fun z hz=>by omega⟩⟩,⟨fun i=>rfl,by(try dsimp only);omega⟩⟩ ?_
 rintro n_c env_c st_c ⟨k,rfl,cle,nW,cI0,cI1⟩ iM
 have c0:=iM 0 (by kernel_rfl);have c2:=iM 2 (by kernel_rfl);have c7:=iM 7 (by kernel_rfl);have c8:=iM 8 (by kernel_rfl)
 simp only[go_sem, ↓reduceIte,Nat.reduceEqDiff,Nat.reduceAdd,Nat.reduceSub,Nat.reduceLeDiff,reduceCtorEq,b0,b2,b7,b8]at c0 c2 c7 c8
 clear iM
 obtain⟨yY,Fp,c9,jC,Jl⟩:=cI0
 obtain⟨mC,Tm⟩:=cI1
 have DZ:=(mC X).trans hgX
 have DY:=(mC A).trans hgA
 have D5:=(mC id).trans hid
 by_cases hk:(k:Int)<(I.length:Int)
 ·have gF:∀{e:Env} {gg:Rows} {nx:Nat},(e 11=.int .i64 (IntKind.i64.wrap ((k:Int)+1)))->(∃(yY Fp:Int),e 9=.int .i64 yY/\e 10=.int .i64 Fp/\((yY<0/\∀z,z<(k+1)->¬(0<fM bs f' (I.getD z 0) v/\out (cj bs (I.getD z 0) v)=out v-1))∨∃ed:Nat,ed∈I/\Fp=(ed:Int)/\yY=(cj bs ed v:Int)/\0<fM bs f' ed v/\out (cj bs ed v)=out v-1))->((∀i:Id,gg i=st_b.get i)/\st_b.next<=nx)->∃m0,m0<(I.length)-k/\∃k:Nat,m0=(I.length)-k/\k<=(I.length)/\e 11=.int .i64 (k:Int)/\(∃(yY Fp:Int),e 9=.int .i64 yY/\e 10=.int .i64 Fp/\((yY<0/\∀z,z<k->¬(0<fM bs f' (I.getD z 0) v/\out (cj bs (I.getD z 0) v)=out v-1))∨∃ed:Nat,ed∈I/\Fp=(ed:Int)/\yY=(cj bs ed v:Int)/\0<fM bs f' ed v/\out (cj bs ed v)=out v-1))/\((∀i:Id,gg i=st_b.get i)/\st_b.next<=nx):=fun x1 x2 x3=>⟨_,by omega,k+1,rfl,by omega,(by rw[x1,ay (by omega)]),x2,x3⟩
  have eU:k<I.length:=by omega
  have eB:(I.map eN)[k]? =some (eN (I.getD k 0)):=getD_map eN eU
  have qc:I.getD k 0∈I:=by rw[List.getD_eq_getElem?_getD,List.getElem?_eq_getElem eU];exact List.getElem_mem eU
  obtain⟨he,qa⟩:=hIm _ qc
  have L5:=Kq cnt bs f' Eb (I.getD k 0) v he
  have tZ:=kK st_c.get (fun i _=>mC i) (I.getD k 0)
  have hq:=pb ok (v:=v) he
  have QG:=dS (f:=out) hq
  obtain⟨ed,hed⟩:∃ed,ed=I.getD k 0:=⟨_,rfl⟩
  rw[<-hed]at eB he qa L5 tZ hq QG qc
  rw[aw]at QG
  rw[eN]at eB
  (try((repeat(revert hN;revert N;apply Pn.out));refine wk (tw @nW (tw @c0 (tw @c2 (tw @c7 (tw @c8 (tw @c9 (tw @jC (tw @hk (tw @DZ (tw @DY (tw @D5 (tw @lU (tw @sR (tw @Ec (tw @eB (tw @qN @bE.eq_1)))))))))))))))) ?_;(repeat(refine Pn.mk ?_;intro N hN))))
  refine .inl ⟨_,ar.x L5 tZ,?_⟩
  refine hN _ _ ?_
  clear hN N
  have stay:∀k',k'=k+1->(¬(0<fM bs f' ed v/\out (cj bs ed v)=out v-1))->((yY<0/\∀z,z<k'->¬(0<fM bs f' (I.getD z 0) v/\out (cj bs (I.getD z 0) v)=out v-1))∨∃ed:Nat,ed∈I/\Fp=(ed:Int)/\yY=(cj bs ed v:Int)/\0<fM bs f' ed v/\out (cj bs ed v)=out v-1):=fun k' Jv lH=>by
   rcases Jl with⟨h1,h2⟩|h
   ·refine .inl ⟨h1,fun z hz=>?_⟩
    by_cases Ee:z=k
    ·subst Ee;rw[<-hed];exact lH
    ·exact h2 z (by omega)
   ·exact .inr h
  by_cases hr:0<fM bs f' ed v
  ·by_cases Qv:out (cj bs ed v)=out v-1
   ·have uz:decide (out (cj bs ed v)=out v-1)=true:=decide_eq_true Qv
    have found:∃Rb:Nat,Rb∈I/\(ed:Int)=(Rb:Int)/\(cj bs ed v:Int)=(cj bs Rb v:Int)/\0<fM bs f' Rb v/\out (cj bs Rb v)=out v-1:=⟨ed,qc,rfl,rfl,hr,Qv⟩
    by_cases QD:yY<0
    ·(try((repeat(revert hN;revert N;apply Pn.out));refine wk (tw @nW (tw @c0 (tw @c2 (tw @c7 (tw @c8 (tw @c9 (tw @jC (tw @hk (tw @DZ (tw @DY (tw @D5 (tw @lU (tw @sR (tw @Ec (tw @eB (tw @qN (tw @hr (tw @QG (tw @rX (tw @o3 (tw @uz (tw @QD @bE.eq_1)))))))))))))))))))))) ?_;(repeat(refine Pn.mk ?_;intro N hN))))
     exact gF (sd (tw @nW (tw @c0 (tw @c2 (tw @c7 @c8))))) (⟨_,_,sd @Nat.zero_add,sd @Nat.zero_add,.inr found⟩) (⟨mC,by(try dsimp only);omega⟩)
    ·by_cases dV:(cj bs ed v:Int)<yY
     ·(try((repeat(revert hN;revert N;apply Pn.out));refine wk (tw @nW (tw @c0 (tw @c2 (tw @c7 (tw @c8 (tw @c9 (tw @jC (tw @hk (tw @DZ (tw @DY (tw @D5 (tw @lU (tw @sR (tw @Ec (tw @eB (tw @qN (tw @hr (tw @QG (tw @rX (tw @o3 (tw @uz (tw @QD (tw @dV @bE.eq_1))))))))))))))))))))))) ?_;(repeat(refine Pn.mk ?_;intro N hN))))
      exact gF (sd (tw @nW (tw @c0 (tw @c2 (tw @c7 @c8))))) (⟨_,_,sd @Nat.zero_add,sd @Nat.zero_add,.inr found⟩) (⟨mC,by(try dsimp only);omega⟩)
     ·(try((repeat(revert hN;revert N;apply Pn.out));refine wk (tw @nW (tw @c0 (tw @c2 (tw @c7 (tw @c8 (tw @c9 (tw @jC (tw @hk (tw @DZ (tw @DY (tw @D5 (tw @lU (tw @sR (tw @Ec (tw @eB (tw @qN (tw @hr (tw @QG (tw @rX (tw @o3 (tw @uz (tw @QD (tw @dV @bE.eq_1))))))))))))))))))))))) ?_;(repeat(refine Pn.mk ?_;intro N hN))))
      exact gF (sd (tw @nW (tw @c0 (tw @c2 (tw @c7 @c8))))) (⟨yY,Fp,sd @c9,sd @jC,by
       rcases Jl with⟨h1,_⟩|h
       ·exact absurd h1 QD
       ·exact .inr h⟩) (⟨mC,by(try dsimp only);omega⟩)
   ·have uz:decide (out (cj bs ed v)=out v-1)=false:=decide_eq_false Qv
    (try((repeat(revert hN;revert N;apply Pn.out));refine wk (tw @nW (tw @c0 (tw @c2 (tw @c7 (tw @c8 (tw @c9 (tw @jC (tw @hk (tw @DZ (tw @DY (tw @D5 (tw @lU (tw @sR (tw @Ec (tw @eB (tw @qN (tw @hr (tw @QG (tw @rX (tw @o3 (tw @uz @bE.eq_1))))))))))))))))))))) ?_;(repeat(refine Pn.mk ?_;intro N hN))))
    exact gF (sd (tw @nW (tw @c0 (tw @c2 (tw @c7 @c8))))) (⟨yY,Fp,sd @c9,sd @jC,stay _ rfl fun h=>Qv h.2⟩) (⟨mC,by(try dsimp only);omega⟩)
  ·(try((repeat(revert hN;revert N;apply Pn.out));refine wk (tw @nW (tw @c0 (tw @c2 (tw @c7 (tw @c8 (tw @c9 (tw @jC (tw @hk (tw @DZ (tw @DY (tw @D5 (tw @lU (tw @sR (tw @Ec (tw @eB (tw @qN (tw @hr @bE.eq_1))))))))))))))))) ?_;(repeat(refine Pn.mk ?_;intro N hN))))
   exact gF (sd (tw @nW (tw @c0 (tw @c2 (tw @c7 @c8))))) (⟨yY,Fp,sd @c9,sd @jC,stay _ rfl fun h=>hr h.1⟩) (⟨mC,by(try dsimp only);omega⟩)
 ·have jN:k=I.length:=by omega
  have U5:∃ed:Nat,ed∈I/\Fp=(ed:Int)/\yY=(cj bs ed v:Int)/\0<fM bs f' ed v/\out (cj bs ed v)=out v-1:=by
   rcases Jl with⟨h1,h2⟩|h
   ·exfalso
    obtain⟨ed,he,hq⟩:=NB
    obtain⟨z,hz,rfl⟩:=List.getElem_of_mem he
    refine h2 z (by omega) ?_
    rw[List.getD_eq_getElem?_getD,List.getElem?_eq_getElem hz];exact hq
   ·exact h
  obtain⟨ed,qc,rfl,rfl,hr,Qv⟩:=U5
  obtain⟨he,qa⟩:=hIm _ qc
  (try((repeat(revert hN;revert N;apply Pn.out));refine wk (tw @nW (tw @c0 (tw @c2 (tw @c7 (tw @c8 (tw @c9 (tw @jC (tw @hk (tw @DZ (tw @DY (tw @D5 (tw @lU (tw @sR (tw @Ec (tw @qN @bE.eq_1))))))))))))))) ?_;(repeat(refine Pn.mk ?_;intro N hN))))
  refine .inr (aJ _ _ _ _ _ (fun r σ1 hq=>?_) (PG cnt bs f' Eb ed v he X A F ⟨st_c.get,_⟩ nb (hN1.frame (fun i _=>mC i) (Nat.le_refl _)) (by(try dsimp only);omega)))
  obtain⟨Tg,np,Jq⟩:=hq
  (try dsimp only at np Jq)
  refine hN _ _ ?_
  clear hN N
  (try((repeat(revert hN;revert N;apply Pn.out));refine wk (tw @nW (tw @c0 (tw @c2 (tw @c7 (tw @c8 @c9))))) ?_;(repeat(refine Pn.mk ?_;intro N hN))))
  refine⟨_,?_,cj bs ed v,uf bs f' ed v,rfl,pb ok he,by omega,sd @Nat.zero_add,hW.step he qa hr Qv,Tg,fun i hi hF=>by rw[Jq i hF,mC i,mz i hi hF],by(try dsimp only);omega⟩
  omega
def tJ (P:Program) (f:Nat) (args:List AV) (R:AV->Prop):Prop:=∀σ:ax,Call P f args ⟨V.ro σ.get,σ.next⟩ fun r0 σ'=>∃r',V.fz σ'.get 6 r0=some r'/\R r'
theorem DK {P:Program} {f:Nat} {args:List AV} {g:Rows} {n:Nat} {R:AV->Prop} (h:Sound P f args ⟨V.ro g,n⟩ fun r0 σ'=>∃r',V.fz σ'.get 6 r0=some r'/\R r'):Sound P f args ⟨g,n⟩ fun r σ'=>R r/\σ'=⟨g,n⟩:=by
 intro hs D ι w vs S U A
 refine(A9 (g0:=g) (K:=R) h (fun _ _ h=>h) S U A).mono ?_
 rintro e w' ⟨r,D',u,rfl,hR,T,S',hr⟩
 exact⟨r,g,n,D',ι,u,rfl,⟨hR,rfl⟩,T,S',U,Nat.le_refl _,hr⟩
theorem tJ.x {P:Program} (hm:P.follows .mixedOrders=true) {f:Nat} {args:List AV} {R:AV->Prop} (h:tJ P f args R) {σ:ax}:Call P f args σ fun r σ'=>R r/\σ'=σ:=
 fP (DK (iq hm (h σ)))
theorem tJ.body {P:Program} {f:Nat} {args:List AV} {R:AV->Prop} {nt na:Nat} {body:VC} {res:List oH} (hf:mo P f=some ⟨nt,na,body,res⟩) (ha:na=args.length) (h:(∀a∈args,eH a)->∀σ:ax,eu (Call P) body (lq res fun r0 σ'=>∃r',V.fz σ'.get 6 r0=some r'/\R r') (cz args) ⟨V.ro σ.get,σ.next⟩):tJ P f args R:=fun σ=>mj hf ha fun hl=>h hl σ
theorem Mu {g:Rows} {rows:List (List AV)} {xs:List (List Nat)} {ids:List Id} (n:Nat) (h:eI Qj g rows xs ids):dU g (n+2) rows=some (xs.map fun l=>[PN l]):=by
 induction h with
 |nil=>rw[dU];rfl
 |cons h1 _ ih=>
  rename_i x _ _ _ _ _
  rcases h1 with⟨h0,h1,_⟩|⟨id,h1,h0,h2,_⟩
  ·subst h0 h1;rw[dU,ih,aj,aq,aT];rfl
  ·have il:x≠[]:=by rintro rfl;simp at h0
   subst h1
   rw[dU,ih,aj,aq,fA (e:=eN) (sz:=1) h2 rfl fun a=>fzN _ n a]
   simp[PN,il]
theorem oE.fz0 {cnt:Nat} {bs:List PB} {f:Nat->Int} {X A F:Id} {g:Rows} {nx:Nat} (h:oE cnt bs f X A F g nx):V.fz g 5 (.ptr X 0 0)=some (.dn (fW cnt bs f)):=by
 have hf:V.fz g 4 (.own F 0 bs.length)=some (.sl (dZ f bs.length)):=by
  rw[ij]
  simp only[h.f,if_true]
  rw[if_pos (by rw[dF];omega),List.drop_zero,List.take_of_length_le (by rw[dF];omega),AF];rfl
 have ha:V.fz g 4 (.own A 0 cnt)=some (.sl (qv cnt bs bs.length)):=by
  obtain⟨rows,ids,h1,h2,_,_⟩:=h.a
  have hl:=h2.len
  rw[js]at hl
  rw[ij]
  simp only[h1,if_true]
  rw[if_pos (by omega),List.drop_zero,List.take_of_length_le (by omega),Mu 1 h2]
  simp[lK,qv]
 rw[aY]
 simp only[h.x,if_true,List.getElem?_cons_zero,List.drop_zero,bE,aj,aq,aH,ck,ha,hf,Option.map_some,fW]
theorem Fq {S:Nat->Bool}:∀bs:List PB,(∀b∈bs,b.s<=4)->jf S bs<=4*bs.length
 |[],_=>by simp[jf]
 |b::bs,h=>by
  rw[s9]
  have:=Fq (S:=S) bs fun x hx=>h x (List.mem_cons_of_mem _ hx)
  have:=h b (by simp)
  simp only[List.length_cons]
  split<;>omega
theorem j6.zero {bs:List PB} {x y:Nat} (h:∀e,e<bs.length->0<=(cE bs e).s/\(cE bs e).s<=4):j6 bs (fun _=>0) x y 0:=
 ⟨fun i hi=>by have:=h i hi;omega,fun S _ _=>jY fun i _=>by simp⟩
theorem Lr {bs:List PB} {b:PB} (h:b∈bs):∃e,e<bs.length/\cE bs e=b:=by
 obtain⟨e,he,rfl⟩:=List.getElem_of_mem h
 exact⟨e,he,by simp[cE,List.getD_eq_getElem?_getD,he]⟩
theorem Hh (cnt:Nat) (hn:cnt<=1048576) (bs:List PB) (ok:nG cnt bs) (oe:bs.length<=1048576) (dQ:∀e,e<bs.length->0<=(cE bs e).s/\(cE bs e).s<=4) (x y:Nat) (hx:x<cnt) (hy:y<cnt) (Sf:x≠y):
  tJ Tryz.prog 193 [.int .i64 cnt,.sl (bs.map aC),.int .i64 x,.int .i64 y] fun r=>∃f val,r=.iD [.dn (fW cnt bs f),.int .i64 val]/\j6 bs f x y val/\∃S:Nat->Bool,S x=true/\S y=false/\val=jf S bs:=by
 refine tJ.body eG rfl fun hl σ=>?_
 clear hl
 (try((repeat(revert hN;revert N;apply Pn.out));refine wk @Nat.zero_add ?_;(repeat(refine Pn.mk ?_;intro N hN))))
 refine .inr (aJ _ _ _ _ _ (fun r σ1 hq=>?_) (JO cnt hn bs ok oe _))
 obtain⟨X,A,F,rfl,hX,hS⟩:=hq
 refine hN _ _ ?_
 clear hN N
 have hS0:∀f val,j6 bs f x y val->val<=jf (fun v=>decide (v=x)) bs:=fun f val hf=>hf.bound (decide_eq_true rfl) (decide_eq_false fun h=>Sf h.symm)
 have htot:=Fq (S:=fun v=>decide (v=x)) bs fun b hb=>by
  obtain⟨e,he,rfl⟩:=Lr hb
  exact(dQ e he).2
 generalize jf (fun v=>decide (v=x)) bs=T at *
 (try((repeat(revert hN;revert N;apply Pn.out));refine wk @Nat.zero_add ?_;(repeat(refine Pn.mk ?_;intro N hN))))
 refine aM (fun m env st=>∃(f:Nat->Int) (val:Int),m=(T-val).toNat/\0<=val/\env 10=.ptr X 0 0/\env 11=.int .i64 val/\j6 bs f x y val/\oE cnt bs f X A F st.get σ1.next/\σ1.next<=st.next) T.toNat ⟨_,0,by simp,by omega,by(simp only[go_sem, ↓reduceIte,Nat.reduceEqDiff,Nat.reduceAdd,Nat.reduceSub,Nat.reduceLeDiff,reduceCtorEq]),by(simp only[go_sem, ↓reduceIte,Nat.reduceEqDiff,Nat.reduceAdd,Nat.reduceSub,Nat.reduceLeDiff,reduceCtorEq]),j6.zero dQ,hS.frame (fun i hi=>rfl) (Nat.le_refl _),by(try dsimp only);omega⟩ ?_
 rintro m env_b st_b ⟨f,val,rfl,qS,b10,b11,hf,hN1,hle⟩ e7
 have b2:=e7 2 (by kernel_rfl)
 have b3:=e7 3 (by kernel_rfl)
 simp only[go_sem, ↓reduceIte,Nat.reduceEqDiff,Nat.reduceAdd,Nat.reduceSub,Nat.reduceLeDiff,reduceCtorEq]at b2 b3
 clear e7
 (try((repeat(revert hN;revert N;apply Pn.out));refine wk (tw @b2 (tw @b3 @b10)) ?_;(repeat(refine Pn.mk ?_;intro N hN))))
 refine .inr (aJ _ _ _ _ _ (fun r σ2 hq=>?_) (Oz cnt hn bs ok oe dQ f x y hx hy Sf val hf X A F ⟨st_b.get,_⟩ σ1.next hN1 (by(try dsimp only);omega)))
 obtain⟨b,f',rfl,Tg,np,_,lH,VG⟩:=hq
 (try dsimp only at np)
 refine hN _ _ ?_
 clear hN N
 cases b with
 |true=>
  have kI:=VG rfl
  have H9:=hS0 _ _ hf
  have BR:=hS0 _ _ kI
  have hw:IntKind.i64.wrap (val+1)=val+1:=br (by omega)
  (try((repeat(revert hN;revert N;apply Pn.out));refine wk (tw @b10 (tw @b11 @hw)) ?_;(repeat(refine Pn.mk ?_;intro N hN))))
  exact⟨_,by omega,f',val+1,rfl,by omega,sd @b10,sd (tw @b11 @hw),kI,Tg,by(try dsimp only);omega⟩
 |false=>
  obtain⟨rfl,S,h1,h2,h3⟩:=lH rfl
  (try((repeat(revert hN;revert N;apply Pn.out));refine wk (tw @b10 @b11) ?_;(repeat(refine Pn.mk ?_;intro N hN))))
  have hz:=Tg.fz0
  exact⟨[.ptr X 0 0,.int .i64 val],sd @Nat.zero_add,.iD [.dn (fW cnt bs f'),.int .i64 val],by simp only[fm,bG,aj,aq,hz,aH,Option.map_some],f',val,rfl,hf,S,h1,h2,h3⟩
theorem Hi (cnt:Nat) (hn:cnt<=1048576) (bs:List PB) (ok:nG cnt bs) (oe:bs.length<=1048576) (f:Nat->Int) (hs:Small bs f) (y:Nat) (hy:y<cnt):
  mi Tryz.prog 194 [.dn (fW cnt bs f),.int .i64 y] fun r=>∃l:List Nat,r=.sl (l.map eN)/\l.length<=cnt:=by
 refine mi.body eG rfl fun hl n0=>?_
 clear hl
 have hz:∀g:Rows,dd (dJ g) 6 [.dn (fW cnt bs f),.int .i64 (y:Int)]=some [.dn (fW cnt bs f),.int .i64 y]:=fun g=>by simp only[aj,aq,aU,aH,Option.map_some]
 (try((repeat(revert hN;revert N;apply Pn.out));refine wk @Nat.zero_add ?_;(repeat(refine Pn.mk ?_;intro N hN))))
 refine .inr (aJ _ _ _ _ _ (fun r σ1 hq=>?_) ((F9 cnt hn bs ok oe f hs y hy).x mixed (hz _)))
 obtain⟨⟨out,rfl,Pk⟩,rfl⟩:=hq
 refine hN _ _ ?_
 clear hN N
 (try((repeat(revert hN;revert N;apply Pn.out));refine wk @fW.eq_1 ?_;(repeat(refine Pn.mk ?_;intro N hN))))
 refine aM (fun n env st=>∃k:Nat,n=(cnt)-k/\k<=(cnt)/\env 7=.int .i64 (k:Int)/\(∃(o:Id) (l:List Nat),env 6=.own o 0 l.length/\st.get o=some ⟨true,1,l.map eN⟩/\o.bj<st.next/\l.length<=k)) (cnt) ⟨0,by omega,by omega,sl @fW.eq_1,⟨⟨194002000,n0+1+1+1⟩,[],by(simp only[go_sem, ↓reduceIte,Nat.reduceEqDiff,Nat.reduceAdd,Nat.reduceSub,Nat.reduceLeDiff,reduceCtorEq])<;>rfl,by(simp only[go_sem, ↓reduceIte,Nat.reduceEqDiff,Nat.reduceAdd,Nat.reduceSub,Nat.reduceLeDiff,reduceCtorEq])<;>rfl,by(try dsimp only);omega,by simp⟩⟩ ?_
 rintro n_a env_a st_a ⟨k,rfl,ale,a7,j8⟩ di
 have a0:=di 0 (by kernel_rfl);have a5:=di 5 (by kernel_rfl)
 simp only[go_sem, ↓reduceIte,Nat.reduceEqDiff,Nat.reduceAdd,Nat.reduceSub,Nat.reduceLeDiff,reduceCtorEq,fW]at a0 a5
 clear di
 obtain⟨o,l,a6,ag,rX,G2⟩:=j8
 have qS:=dB rX
 have gY:(l.map eN).length=l.length:=by simp
 by_cases hk:(k:Int)<(cnt:Int)
 ·have cm:∀{e:Env} {gg:Rows} {nx:Nat},(e 7=.int .i64 (IntKind.i64.wrap ((k:Int)+1)))->(∃(o:Id) (l:List Nat),e 6=.own o 0 l.length/\gg o=some ⟨true,1,l.map eN⟩/\o.bj<nx/\l.length<=(k+1))->∃m0,m0<(cnt)-k/\∃k:Nat,m0=(cnt)-k/\k<=(cnt)/\e 7=.int .i64 (k:Int)/\(∃(o:Id) (l:List Nat),e 6=.own o 0 l.length/\gg o=some ⟨true,1,l.map eN⟩/\o.bj<nx/\l.length<=k):=fun x1 x2=>⟨_,by omega,k+1,rfl,by omega,(by rw[x1,ay (by omega)]),x2⟩
  have we:=dS (f:=out) (show k<cnt by omega)
  rw[aw]at we
  have e1:l.length+1<=16777216:=by omega
  by_cases h0:0<=out k
  ·(try((repeat(revert hN;revert N;apply Pn.out));refine wk (tw @a7 (tw @a0 (tw @a5 (tw @a6 (tw @ag (tw @qS (tw @hk (tw @we (tw @h0 (tw @e1 (tw @gY @fW.eq_1))))))))))) ?_;(repeat(refine Pn.mk ?_;intro N hN))))
   exact cm (sd (tw @a7 (tw @a0 (tw @a5 @fW.eq_1)))) (⟨⟨194007003,st_a.next+1+1⟩,l++[k],by rw[List.length_append];simp only[go_sem, ↓reduceIte,Nat.reduceEqDiff,Nat.reduceAdd,Nat.reduceSub,Nat.reduceLeDiff,reduceCtorEq,List.length_cons,List.length_nil],by rw[List.map_append,List.map_cons,List.map_nil];simp only[go_sem, ↓reduceIte,Nat.reduceEqDiff,Nat.reduceAdd,Nat.reduceSub,Nat.reduceLeDiff,reduceCtorEq,eN],by(try dsimp only);omega,by simp;omega⟩)
  ·(try((repeat(revert hN;revert N;apply Pn.out));refine wk (tw @a7 (tw @a0 (tw @a5 (tw @a6 (tw @ag (tw @qS (tw @hk (tw @we (tw @h0 (tw @gY @fW.eq_1)))))))))) ?_;(repeat(refine Pn.mk ?_;intro N hN))))
   exact cm (sd (tw @a7 (tw @a0 (tw @a5 @fW.eq_1)))) (⟨o,l,sd @a6,sd @ag,by(try dsimp only);omega,by omega⟩)
 ·(try((repeat(revert hN;revert N;apply Pn.out));refine wk (tw @a7 (tw @a0 (tw @a5 (tw @a6 (tw @hk @fW.eq_1))))) ?_;(repeat(refine Pn.mk ?_;intro N hN))))
  have te:gx st_a.get 6 (.own o 0 l.length)=some (.sl (l.map eN)):=fj ag rfl fun b=>Ox _ 4 b
  exact⟨_,rfl,_,by simp only[go_sem, ↓reduceIte,Nat.reduceEqDiff,Nat.reduceAdd,Nat.reduceSub,Nat.reduceLeDiff,reduceCtorEq,fm];exact te,l,rfl,by omega⟩
theorem Ck (v1 v2:Int) (l1 l2:List Nat) (h1:l1.length<=1048576) (h2:l2.length<=1048576):
  mi Tryz.prog 195 [.int .i64 v1,.sl (l1.map eN),.int .i64 v2,.sl (l2.map eN)] fun r=>∃b,r=.bool b/\(v1<v2->b=true)/\(v2<v1->b=false):=by
 refine mi.body eG rfl fun hl n0=>?_
 clear hl
 have ret:∀{t:Nat} {env:Env} {σ:ax} {b:Bool} {x:Ex},(x=.ret∨x=.normal)->env t=.bool b->((v1<v2->b=true)/\(v2<v1->b=false))->lq [.tmp t] (fun r0 σ'=>∃r',gx σ'.get 6 r0=some r'/\∃b,r'=.bool b/\(v1<v2->b=true)/\(v2<v1->b=false)) x env σ:=by
  intro t env σ b x hx he hb
  have:∃vs,fy env σ.get [.tmp t]=some vs/\∃r',gx σ.get 6 (fm vs)=some r'/\∃b,r'=.bool b/\(v1<v2->b=true)/\(v2<v1->b=false):=⟨[env t],rfl,.bool b,by rw[he];exact fR _ _ _,b,rfl,hb⟩
  rcases hx with rfl|rfl
  ·exact this
  ·exact this
 have m1:(l1.map eN).length=l1.length:=by simp
 have m2:(l2.map eN).length=l2.length:=by simp
 by_cases hv:v1=v2
 ·have hd:decide (v1=v2)=true:=decide_eq_true hv
  by_cases G2:(l1.length:Int)=(l2.length:Int)
  ·have uz:decide ((l1.length:Int)=(l2.length:Int))=true:=decide_eq_true G2
   have UU:decide (l1.length=l2.length)=true:=decide_eq_true (by omega)
   (try((repeat(revert hN;revert N;apply Pn.out));refine wk (tw @hd (tw @uz (tw @UU (tw @m1 @m2)))) ?_;(repeat(refine Pn.mk ?_;intro N hN))))
   refine aM (fun n env st=>∃k:Nat,n=(l1.length)-k/\k<=(l1.length)/\env 9=.int .i64 (k:Int)) (l1.length) ⟨0,by omega,by omega,sl @Nat.zero_add⟩ ?_
   rintro n_a env_a st_a ⟨k,rfl,ale,a9⟩ di
   have a1:=di 1 (by kernel_rfl);have a3:=di 3 (by kernel_rfl)
   simp only[go_sem, ↓reduceIte,Nat.reduceEqDiff,Nat.reduceAdd,Nat.reduceSub,Nat.reduceLeDiff,reduceCtorEq]at a1 a3
   clear di
   by_cases hk:(k:Int)<(l1.length:Int)
   ·have cm:∀{e:Env},(e 9=.int .i64 (IntKind.i64.wrap ((k:Int)+1)))->∃m0,m0<(l1.length)-k/\∃k:Nat,m0=(l1.length)-k/\k<=(l1.length)/\e 9=.int .i64 (k:Int):=fun x1=>⟨_,by omega,k+1,rfl,by omega,(by rw[x1,ay (by omega)])⟩
    have g1:(l1.map eN)[k]? =some (eN (l1.getD k 0)):=getD_map eN (by omega)
    have g2:(l2.map eN)[k]? =some (eN (l2.getD k 0)):=getD_map eN (by omega)
    rw[eN]at g1 g2
    by_cases he:((l1.getD k 0:Nat):Int)=((l2.getD k 0:Nat):Int)
    ·have RD:decide (((l1.getD k 0:Nat):Int)=((l2.getD k 0:Nat):Int))=true:=decide_eq_true he
     have UW:decide (l1.getD k 0=l2.getD k 0)=true:=decide_eq_true (by omega)
     (try((repeat(revert hN;revert N;apply Pn.out));refine wk (tw @a9 (tw @a1 (tw @a3 (tw @hk (tw @m1 (tw @g1 (tw @g2 (tw @RD @UW)))))))) ?_;(repeat(refine Pn.mk ?_;intro N hN))))
     exact cm (sd (tw @a9 (tw @a1 @a3)))
    ·have RD:decide (((l1.getD k 0:Nat):Int)=((l2.getD k 0:Nat):Int))=false:=decide_eq_false he
     have UW:decide (l1.getD k 0=l2.getD k 0)=false:=decide_eq_false (by omega)
     (try((repeat(revert hN;revert N;apply Pn.out));refine wk (tw @a9 (tw @a1 (tw @a3 (tw @hk (tw @m1 (tw @g1 (tw @g2 (tw @RD @UW)))))))) ?_;(repeat(refine Pn.mk ?_;intro N hN))))
     exact ret (.inl rfl) (by simp only[go_sem, ↓reduceIte,Nat.reduceEqDiff,Nat.reduceAdd,Nat.reduceSub,Nat.reduceLeDiff,reduceCtorEq];rfl) ⟨fun h=>by omega,fun h=>by omega⟩
   ·(try((repeat(revert hN;revert N;apply Pn.out));refine wk (tw @a9 (tw @a1 (tw @a3 (tw @hk @m1)))) ?_;(repeat(refine Pn.mk ?_;intro N hN))))
    exact ret (b:=false) (.inl rfl) (sd @Nat.zero_add) ⟨fun h=>by omega,fun h=>by omega⟩
  ·have uz:decide ((l1.length:Int)=(l2.length:Int))=false:=decide_eq_false G2
   have UU:decide (l1.length=l2.length)=false:=decide_eq_false (by omega)
   (try((repeat(revert hN;revert N;apply Pn.out));refine wk (tw @hd (tw @uz (tw @UU (tw @m1 @m2)))) ?_;(repeat(refine Pn.mk ?_;intro N hN))))
   exact ret (.inl rfl) (by simp only[go_sem, ↓reduceIte,Nat.reduceEqDiff,Nat.reduceAdd,Nat.reduceSub,Nat.reduceLeDiff,reduceCtorEq];rfl) ⟨fun h=>by omega,fun h=>by omega⟩
 ·have hd:decide (v1=v2)=false:=decide_eq_false hv
  (try((repeat(revert hN;revert N;apply Pn.out));refine wk @hd ?_;(repeat(refine Pn.mk ?_;intro N hN))))
  exact ret (b:=decide (v1<v2)) (.inl rfl) (sd @Nat.zero_add) ⟨fun h=>decide_eq_true h,fun h=>decide_eq_false (by omega)⟩
def vd (bs:List PB) (cnt:Nat) (jm:Int) (k:Nat):Prop:=(k=1/\jm= -1)∨(0<=jm/\(∀z,1<=z->z<k->∀S:Nat->Bool,S 0=true->S z=false->jm<=jf S bs)/\∃S:Nat->Bool,S 0=true/\(∃z,z<cnt/\S z=false)/\jm=jf S bs)
theorem j6.nn {bs:List PB} {val:Int} {S:Nat->Bool} (dQ:∀e,e<bs.length->0<=(cE bs e).s/\(cE bs e).s<=4) (h:val=jf S bs):0<=val:=by
 rw[h,vL]
 have:=sD (f:=fun _=>0) (g:=fun i=>if S (cE bs i).a=S (cE bs i).b then 0 else(cE bs i).s) (n:=bs.length) fun i hi=>by
  have:=dQ i hi
  split<;>omega
 rw[jY fun _ _=>rfl]at this
 exact this
theorem vd.done {bs:List PB} {cnt:Nat} {jm:Int} (hc:2<=cnt) (h:vd bs cnt jm cnt) (t:Int):t<=jm↔kU cnt bs t:=by
 rcases h with⟨h,_⟩|⟨_,h1,S,h2,⟨z,hz,kK⟩,h3⟩
 ·omega
 ·constructor
  ·intro ht S h0 ⟨y,hy,hy2⟩
   have:y≠0:=by rintro rfl;rw[h0]at hy2;cases hy2
   have:=h1 y (by omega) hy S h0 hy2
   omega
  ·intro hH
   rw[h3];exact hH S h2 ⟨z,hz,kK⟩
theorem zV (cnt:Nat) (h2:2<=cnt) (hn:cnt<=1048576) (bs:List PB) (ok:nG cnt bs) (oe:bs.length<=1048576) (dQ:∀e,e<bs.length->0<=(cE bs e).s/\(cE bs e).s<=4):
  tJ Tryz.prog 126 [.int .i64 cnt,.sl (bs.map aC)] fun r=>∃jm p,r=.iD [.int .i64 jm,p]/\∀t:Int,t<=jm↔kU cnt bs t:=by
 refine tJ.body eG rfl fun hl σ=>?_
 clear hl
 (try((repeat(revert hN;revert N;apply Pn.out));refine wk @Nat.zero_add ?_;(repeat(refine Pn.mk ?_;intro N hN))))
 have z0:∀(g:Rows) (id:Id),g id=some ⟨true,1,[]⟩->V.fz (dJ g) 6 (.own id 0 0)=some (.sl (([]:List Nat).map eN))/\V.fz g 5 (.own id 0 0)=some (.sl (([]:List Nat).map eN)):=fun g id h=>by
  have h':dJ g id=some ⟨true,1,[]⟩:=by simp[dJ,h]
  constructor
  ·rw[ij];simp only[h',if_true];rw[if_pos (by simp)];simp[oV]
  ·rw[ij];simp only[h,if_true];rw[if_pos (by simp)];simp[oV]
 refine aM (fun m env st=>∃(k:Nat) (jm:Int) (l:List Nat) (p:AV),m=cnt-k/\1<=k/\k<=cnt/\env 8=.int .i64 (k:Int)/\env 6=.int .i64 jm/\env 7=p/\V.fz (dJ st.get) 6 p=some (.sl (l.map eN))/\V.fz st.get 5 p=some (.sl (l.map eN))/\l.length<=cnt/\vd bs cnt jm k) (cnt-1) ⟨1,-1,[],.own ⟨126002000,σ.next+1+1⟩ 0 0,rfl,by omega,by omega,by(simp only[go_sem, ↓reduceIte,Nat.reduceEqDiff,Nat.reduceAdd,Nat.reduceSub,Nat.reduceLeDiff,reduceCtorEq])<;>rfl,by(simp only[go_sem, ↓reduceIte,Nat.reduceEqDiff,Nat.reduceAdd,Nat.reduceSub,Nat.reduceLeDiff,reduceCtorEq])<;>rfl,by(simp only[go_sem, ↓reduceIte,Nat.reduceEqDiff,Nat.reduceAdd,Nat.reduceSub,Nat.reduceLeDiff,reduceCtorEq])<;>rfl,(z0 _ _ (sd @Nat.zero_add)).1,(z0 _ _ (sd @Nat.zero_add)).2,by simp,.inl ⟨rfl,rfl⟩⟩ ?_
 rintro m env_b st_b ⟨k,jm,l,p,rfl,qb,tg,b8,b6,b7,yJ,kK,hl,hB⟩ e7
 have b0:=e7 0 (by kernel_rfl)
 have b1:=e7 1 (by kernel_rfl)
 simp only[go_sem, ↓reduceIte,Nat.reduceEqDiff,Nat.reduceAdd,Nat.reduceSub,Nat.reduceLeDiff,reduceCtorEq]at b0 b1
 clear e7 z0
 by_cases hk:(k:Int)<(cnt:Int)
 ·have eU:k<cnt:=by omega
  have hFl:=Hh cnt hn bs ok oe dQ 0 k (by omega) eU (by omega)
  rw[show(((0:Nat):Int))=0 from rfl]at hFl
  (try((repeat(revert hN;revert N;apply Pn.out));refine wk (tw @b0 (tw @b1 (tw @b6 (tw @b7 (tw @b8 @hk))))) ?_;(repeat(refine Pn.mk ?_;intro N hN))))
  refine .inr (aJ _ _ _ _ _ (fun r σ1 hq=>?_) (hFl.x mixed))
  obtain⟨⟨f,val,rfl,hf,S,OO,LQ,Ti⟩,rfl⟩:=hq
  refine hN _ _ ?_
  clear hN N
  have Eb:=xf dQ hf.le
  have r6:=j6.nn (val:=val) dQ Ti
  (try((repeat(revert hN;revert N;apply Pn.out));refine wk (tw @b0 (tw @b1 (tw @b6 (tw @b7 @b8)))) ?_;(repeat(refine Pn.mk ?_;intro N hN))))
  refine .inr (aJ _ _ _ _ _ (fun r σ1 hq=>?_) ((Hi cnt hn bs ok oe f Eb k eU).x mixed (by simp only[aj,aq,aU,aH,Option.map_some])))
  obtain⟨⟨l',rfl,K8⟩,rfl⟩:=hq
  refine hN _ _ ?_
  clear hN N
  have hw:IntKind.i64.wrap ((k:Int)+1)=((k+1:Nat):Int):=ay (by omega)
  have SG:(∀z,1<=z->z<k->∀S:Nat->Bool,S 0=true->S z=false->val<=jf S bs)->vd bs cnt val (k+1):=fun h=>.inr ⟨r6,fun z yJ kK S' h0 h1=>by
   by_cases tZ:z=k
   ·subst tZ;exact hf.bound h0 h1
   ·exact h z yJ (by omega) S' h0 h1,S,OO,⟨k,eU,LQ⟩,Ti⟩
  by_cases kf:jm<0
  ·have xt:k=1:=by
    rcases hB with⟨h,_⟩|⟨h,_⟩
    ·exact h
    ·omega
   (try((repeat(revert hN;revert N;apply Pn.out));refine wk (tw @b0 (tw @b1 (tw @b6 (tw @b7 (tw @b8 (tw @kf @hw)))))) ?_;(repeat(refine Pn.mk ?_;intro N hN))))
   refine⟨_,?_,k+1,val,l',.sl (l'.map eN),rfl,by omega,by omega,sd (tw @b8 @hw),sd @Nat.zero_add,sd @Nat.zero_add,ck _ _ _,ck _ _ _,K8,SG fun z h1 h2=>by omega⟩
   omega
  ·have xt:(∀z,1<=z->z<k->∀S:Nat->Bool,S 0=true->S z=false->jm<=jf S bs)/\∃S:Nat->Bool,S 0=true/\(∃z,z<cnt/\S z=false)/\jm=jf S bs:=by
    rcases hB with⟨_,h⟩|⟨_,h⟩
    ·omega
    ·exact h
   (try((repeat(revert hN;revert N;apply Pn.out));refine wk (tw @b0 (tw @b1 (tw @b6 (tw @b7 (tw @b8 (tw @kf @hw)))))) ?_;(repeat(refine Pn.mk ?_;intro N hN))))
   refine .inr (aJ _ _ _ _ _ (fun r σ1 hq=>?_) ((Ck val jm l' l (by omega) (by omega)).x mixed (by simp only[aj,aq,ck,aH,yJ,Option.map_some])))
   obtain⟨⟨b,rfl,H9,BR⟩,rfl⟩:=hq
   refine hN _ _ ?_
   clear hN N
   cases b with
   |true=>
    have QL:val<=jm:=by
     rcases Int.lt_or_le jm val with h|h
     ·exact absurd (BR h) (by simp)
     ·exact h
    (try((repeat(revert hN;revert N;apply Pn.out));refine wk (tw @b0 (tw @b1 (tw @b6 (tw @b7 (tw @b8 @hw))))) ?_;(repeat(refine Pn.mk ?_;intro N hN))))
    refine⟨_,?_,k+1,val,l',.sl (l'.map eN),rfl,by omega,by omega,sd (tw @b8 @hw),sd @Nat.zero_add,sd @Nat.zero_add,ck _ _ _,ck _ _ _,K8,SG fun z h1 h2 S' h3 h4=>by have:=xt.1 z h1 h2 S' h3 h4;omega⟩
    omega
   |false=>
    have QL:jm<=val:=by
     rcases Int.lt_or_le val jm with h|h
     ·exact absurd (H9 h) (by simp)
     ·exact h
    (try((repeat(revert hN;revert N;apply Pn.out));refine wk (tw @b0 (tw @b1 (tw @b6 (tw @b7 (tw @b8 @hw))))) ?_;(repeat(refine Pn.mk ?_;intro N hN))))
    refine⟨_,?_,k+1,jm,l,p,rfl,by omega,by omega,sd (tw @b8 @hw),sd @b6,sd @b7,yJ,kK,hl,.inr ⟨by omega,fun z h1 h2 S' h3 h4=>?_,xt.2⟩⟩
    ·omega
    ·by_cases tZ:z=k
     ·subst tZ;have:=hf.bound h3 h4;omega
     ·exact xt.1 z h1 (by omega) S' h3 h4
 ·have jN:k=cnt:=by omega
  (try((repeat(revert hN;revert N;apply Pn.out));refine wk (tw @b0 (tw @b1 (tw @b6 (tw @b7 (tw @b8 @hk))))) ?_;(repeat(refine Pn.mk ?_;intro N hN))))
  exact⟨[.int .i64 jm,p],sd @Nat.zero_add,.iD [.int .i64 jm,.sl (l.map eN)],by simp only[fm,bG,aj,aq,kK,aH,Option.map_some],jm,_,rfl,vd.done h2 (jN▸hB)⟩
theorem M1 {s:au} (hS:ik s) (a d:Int):qf s (dj (dm s a) d)<=4:=by
 have hF:=hS.form
 have fB:dj (dm s a) d=0∨(0<=dj (dm s a) d/\dj (dm s a) d<=s.aA.length):=by
  unfold dj dm
  rw[List.getD_eq_getElem?_getD,List.getD_eq_getElem?_getD]
  rcases ht:s.ad[a.toNat]? with _|t
  ·exact .inl (by simp[Ak])
  ·have Vx:=List.mem_of_getElem? ht
   simp only[Option.getD_some]
   rcases hg:t.bq[d.toNat]? with _|g
   ·exact .inl rfl
   ·exact .inr (hF.tV t Vx g (List.mem_of_getElem? hg))
 unfold qf
 by_cases h0:dj (dm s a) d=0
 ·rw[if_pos h0];omega
 ·rw[if_neg h0]
  have hk:(dj (dm s a) d-1).toNat<s.aA.length:=by omega
  have:=dX (hS.S6 _ hk).2.1
  unfold p4 at this
  unfold qL
  omega
theorem Bl {s:au} (hS:ik s) (a d b:Int):gS s a d b<=4:=by
 unfold gS
 split
 ·exact M1 hS a d
 ·omega
theorem Gv {s:au} {l:List ae} (hS:ik s) {i:Nat} (hi:i<l.length) {d:Int}:∀b∈nf s l i d,b.a<l.length/\b.b<l.length/\0<=b.s/\b.s<=4:=by
 intro b hb
 unfold nf at hb
 split at hb
 ·rename_i h
  simp only[List.mem_singleton]at hb
  subst hb
  exact⟨hi,(kM h.1).1,by simp only;omega,Bl hS ..⟩
 ·cases hb
theorem yf {s:au} {l:List ae} (hS:ik s):∀b∈da s l,b.a<l.length/\b.b<l.length/\0<=b.s/\b.s<=4:=by
 intro b hb
 simp only[da,gK,gj,List.mem_flatMap,List.mem_range]at hb
 obtain⟨i,hi,j,_,hb⟩:=hb
 exact Gv hS hi b hb
theorem qw {s:au} {l:List ae} (hF:kD l):(da s l).length<=1000:=by
 have:=tM s l l.length
 have:=hF.BC
 rw[da];omega
theorem IG {bs:List PB} {e:Nat} (h:e<bs.length):cE bs e∈bs:=by
 rw[cE,List.getD_eq_getElem?_getD,List.getElem?_eq_getElem h];exact List.getElem_mem h
theorem G3 {n:Nat} {bs:List PB} {t:Int} (h:n<2):kU n bs t:=fun S h0 ⟨y,hy,hf⟩=>by
 have:y=0:=by omega
 subst this;rw[h0]at hf;cases hf
def iw (s:au) (l:List ae) (t:Int):Nat:=(leads l.length (eE (aL t (da s l)))).length
noncomputable def nS (s:au) (l:List ae) (t:Int):Bool:=@decide (pw l.length (da s l) t) (Classical.propDecidable _)
def ta (s:au) (l:List ae) (t:Int):Int:=if 64<iw s l t then 4 else 0
theorem mK {s:au} {l:List ae} {t:Int} {p:Prop} [Decidable p] (h:p↔pw l.length (da s l) t):decide p=nS s l t:=by
 letI:=Classical.propDecidable (pw l.length (da s l) t)
 unfold nS
 by_cases hp:p
 ·rw[decide_eq_true hp];exact(decide_eq_true (h.1 hp)).symm
 ·rw[decide_eq_false hp];exact(decide_eq_false fun k=>hp (h.2 k)).symm
theorem Cm (s:au) (l:List ae) (t:Int) (hS:ik s) (hA:kn s l):ar Tryz.prog 168 [.dn (aa s),.dn [.sl (l.map ai)],.int .i64 t] (.iD [.bool (nS s l t),.int .i64 (ta s l t)]):=by
 refine ar.body eG rfl fun hl n0=>?_
 clear hl
 have hb:=yf (l:=l) hS
 have oe:=qw (s:=s) hA.1
 have GZ:=hA.1.BC
 have yw:=El s l hS.form hA
 have Ld:=Cl l.length (by omega) (da s l) (fun b h=>⟨(hb b h).1,(hb b h).2.1⟩) (by omega) t
 have hL:=ub (aL t (da s l))
 have fB:=EO hL (fun b h=>⟨(hb b h).1,(hb b h).2.1⟩)
 have hlen:=(nA (eE (aL t (da s l))) (da s l)).2
 have og:=jR l.length (eE (aL t (da s l)))
 have fe:(l.map ai).length=l.length:=by simp
 by_cases uw:(64:Int)<(iw s l t:Int)
 ·have uy:64<iw s l t:=by omega
  have hd:nS s l t=false:=(mK (p:=False) ⟨False.elim,fun h=>by have:=h.1;unfold iw at uy;omega⟩).symm.trans (by simp)
  rw[iw]at uw
  (repeat(first|((repeat(revert hN;revert N;apply Pn.out));refine wk (tw @aa.eq_1 (tw @uw @fe)) ?_;(repeat(refine Pn.mk ?_;intro N hN)))|((try apply Or.inl);refine⟨_,ar.x (yw) (sd (tw @aa.eq_1 (tw @uw @fe))),?_⟩;refine hN _ _ ?_;clear hN N)|((try apply Or.inl);refine⟨_,ar.x (Ld) (sd (tw @aa.eq_1 (tw @uw @fe))),?_⟩;refine hN _ _ ?_;clear hN N)))
  exact jy (.inl rfl) (r1:=.bool false) (r2:=.int .i64 4) (sd @Nat.zero_add) (sd @Nat.zero_add) (by rw[hd,ta,if_pos uy];simp only[eX,bz,cD,fR,eC,Option.map_some])
 have uy:¬64<iw s l t:=by omega
 have hf:ta s l t=0:=by rw[ta,if_neg uy]
 by_cases h2:(iw s l t:Int)<2
 ·have hd:nS s l t=true:=(mK (p:=True) ⟨fun _=>⟨by unfold iw at uy;omega,G3 (by unfold iw at h2;omega)⟩,fun _=>trivial⟩).symm.trans (by simp)
  rw[iw]at uw h2
  (repeat(first|((repeat(revert hN;revert N;apply Pn.out));refine wk (tw @aa.eq_1 (tw @uw (tw @h2 @fe))) ?_;(repeat(refine Pn.mk ?_;intro N hN)))|((try apply Or.inl);refine⟨_,ar.x (yw) (sd (tw @aa.eq_1 (tw @uw (tw @h2 @fe)))),?_⟩;refine hN _ _ ?_;clear hN N)|((try apply Or.inl);refine⟨_,ar.x (Ld) (sd (tw @aa.eq_1 (tw @uw (tw @h2 @fe)))),?_⟩;refine hN _ _ ?_;clear hN N)))
  exact jy (.inl rfl) (r1:=.bool true) (r2:=.int .i64 0) (sd @Nat.zero_add) (sd @Nat.zero_add) (by rw[hd,hf];simp only[eX,bz,cD,fR,eC,Option.map_some])
 have Ps:=zV (iw s l t) (by omega) (by unfold iw;omega) (e9 (eE (aL t (da s l))) (da s l)) (fun e he=>by have:=fB _ (IG he);exact⟨this.1,this.2.1,this.2.2.1⟩) (by omega) (fun e he=>by
  obtain⟨_,_,_,c,hc,dw⟩:=fB _ (IG he)
  rw[dw];have:=hb c hc;omega)
 rw[iw]at uw h2 Ps
 (repeat(first|((repeat(revert hN;revert N;apply Pn.out));refine wk (tw @aa.eq_1 (tw @uw (tw @h2 @fe))) ?_;(repeat(refine Pn.mk ?_;intro N hN)))|((try apply Or.inl);refine⟨_,ar.x (yw) (sd (tw @aa.eq_1 (tw @uw (tw @h2 @fe)))),?_⟩;refine hN _ _ ?_;clear hN N)|((try apply Or.inl);refine⟨_,ar.x (Ld) (sd (tw @aa.eq_1 (tw @uw (tw @h2 @fe)))),?_⟩;refine hN _ _ ?_;clear hN N)))
 refine .inr (aJ _ _ _ _ _ (fun r σ1 hq=>?_) (Ps.x mixed))
 obtain⟨⟨jm,p,rfl,Rv⟩,rfl⟩:=hq
 refine hN _ _ ?_
 clear hN N
 (try((repeat(revert hN;revert N;apply Pn.out));refine wk @Nat.zero_add ?_;(repeat(refine Pn.mk ?_;intro N hN))))
 exact jy (.inl rfl) (r1:=.bool (decide (t<=jm))) (r2:=.int .i64 0) (sd @Nat.zero_add) (sd @Nat.zero_add) (by
  rw[hf,mK (s:=s) (l:=l) (t:=t) (p:=t<=jm) ((Rv t).trans (D8.trans ⟨fun h=>⟨by unfold iw at uy;omega,h⟩,fun h=>h.2⟩))]
  simp only[eX,bz,cD,fR,eC,Option.map_some])
theorem tq (t:Int):ar Tryz.prog 123 [.int .i64 t] (.bool (gJ t 1 16)):=by
 refine ar.body eG rfl fun hl n0=>?_
 clear hl
 have h:=kN t 1 16
 (repeat(first|((repeat(revert hN;revert N;apply Pn.out));refine wk @Nat.zero_add ?_;(repeat(refine Pn.mk ?_;intro N hN)))|((try apply Or.inl);refine⟨_,ar.x (h) (sd @Nat.zero_add),?_⟩;refine hN _ _ ?_;clear hN N)))
 exact aQ (b:=gJ t 1 16) (.inl rfl) (sd @Nat.zero_add) rfl
structure zl (s:aE):Prop where
 set:ik s.aB
 Kt:kn s.aB s.cw.ad
 some:1<=s.cw.ad.length
 HR:gJ s.az 1 16=true
 holds:pw s.cw.ad.length (da s.aB s.cw.ad) s.az
noncomputable def kR (s:aE):Bool:=@decide (zl s) (Classical.propDecidable _)
theorem sE {s:aE}:kR s=true↔zl s:=by simp[kR]
theorem j5 {s:aE} (h:¬zl s):false=kR s:=by simp[kR,h]
theorem CL {s:aE} (h:zl s):true=kR s:=by simp[kR,h]
theorem pO {s:au} {l:List ae} {t:Int}:nS s l t=true↔pw l.length (da s l) t:=by simp[nS]
theorem Mp (s:aE) (hn:fV s.aB) (hg:s.aB.aA.length<=1048576) (ht:s.aB.ad.length<=1048576):ar Tryz.prog 94 [.dn (aD s)] (.bool (kR s)):=by
 refine ar.body eG rfl fun hl n0=>?_
 clear hl
 have h1:=(FW s.aB hn hg ht).cut mixed (.ptr _ [.sl (s.cw.ad.map ai),.int .i64 s.az] .nil)
 by_cases hS:ik s.aB
 ·rw[lv.2 hS]at h1
  have h2:=(FX s.aB s.cw.ad).cut mixed (.ptr _ [.sl (s.cw.ad.map ai),.int .i64 s.az] (.ptr _ [.int .i64 s.az] .nil))
  by_cases hA:kn s.aB s.cw.ad
  ·rw[kW.2 hA]at h2
   by_cases h0:(s.cw.ad.length:Int)=0
   ·have hd:decide ((s.cw.ad.length:Int)=0)=true:=decide_eq_true h0
    have lH:false=kR s:=j5 fun h=>by have:=h.some;omega
    generalize fe:(s.cw.ad.map ai).length=len at *
    (repeat(first|((repeat(revert hN;revert N;apply Pn.out));refine wk (tw @aD.eq_1 (tw @aa.eq_1 @hd)) ?_;(repeat(refine Pn.mk ?_;intro N hN)))|((try apply Or.inl);refine⟨_,ar.x (h1) (sd (tw @aD.eq_1 (tw @aa.eq_1 @hd))),?_⟩;refine hN _ _ ?_;clear hN N)|((try apply Or.inl);refine⟨_,ar.x (h2) (sd (tw @aD.eq_1 (tw @aa.eq_1 @hd))),?_⟩;refine hN _ _ ?_;clear hN N)))
    exact aQ (b:=false) (.inl rfl) (sd @Nat.zero_add) lH
   ·have hd:decide ((s.cw.ad.length:Int)=0)=false:=decide_eq_false h0
    have h3:=tq s.az
    cases hT:gJ s.az 1 16
    ·rw[hT]at h3
     (repeat(first|((repeat(revert hN;revert N;apply Pn.out));refine wk (tw @aD.eq_1 (tw @aa.eq_1 @hd)) ?_;(repeat(refine Pn.mk ?_;intro N hN)))|((try apply Or.inl);refine⟨_,ar.x (h1) (sd (tw @aD.eq_1 (tw @aa.eq_1 @hd))),?_⟩;refine hN _ _ ?_;clear hN N)|((try apply Or.inl);refine⟨_,ar.x (h2) (sd (tw @aD.eq_1 (tw @aa.eq_1 @hd))),?_⟩;refine hN _ _ ?_;clear hN N)|((try apply Or.inl);refine⟨_,ar.x (h3) (sd (tw @aD.eq_1 (tw @aa.eq_1 @hd))),?_⟩;refine hN _ _ ?_;clear hN N)))
     exact aQ (b:=false) (.inl rfl) (sd @Nat.zero_add) (j5 fun h=>by have:=h.HR;rw[hT]at this;cases this)
    ·rw[hT]at h3
     have h4:=(Cm s.aB s.cw.ad s.az hS hA).cut mixed (.ptr _ [.sl (s.cw.ad.map ai),.int .i64 s.az] (.ptr _ [.int .i64 s.az] (.same _ .nil)))
     cases hB:nS s.aB s.cw.ad s.az
     ·rw[hB]at h4
      (repeat(first|((repeat(revert hN;revert N;apply Pn.out));refine wk (tw @aD.eq_1 (tw @aa.eq_1 @hd)) ?_;(repeat(refine Pn.mk ?_;intro N hN)))|((try apply Or.inl);refine⟨_,ar.x (h1) (sd (tw @aD.eq_1 (tw @aa.eq_1 @hd))),?_⟩;refine hN _ _ ?_;clear hN N)|((try apply Or.inl);refine⟨_,ar.x (h2) (sd (tw @aD.eq_1 (tw @aa.eq_1 @hd))),?_⟩;refine hN _ _ ?_;clear hN N)|((try apply Or.inl);refine⟨_,ar.x (h3) (sd (tw @aD.eq_1 (tw @aa.eq_1 @hd))),?_⟩;refine hN _ _ ?_;clear hN N)|((try apply Or.inl);refine⟨_,ar.x (h4) (sd (tw @aD.eq_1 (tw @aa.eq_1 @hd))),?_⟩;refine hN _ _ ?_;clear hN N)))
      exact aQ (b:=false) (.inl rfl) (sd @Nat.zero_add) (j5 fun h=>by have:=pO.2 h.holds;rw[hB]at this;cases this)
     ·have hP:=pO.1 hB
      have hf:ta s.aB s.cw.ad s.az=0:=by
       have:=hP.1
       rw[ta,if_neg (by unfold iw;omega)]
      rw[hB,hf]at h4
      (repeat(first|((repeat(revert hN;revert N;apply Pn.out));refine wk (tw @aD.eq_1 (tw @aa.eq_1 @hd)) ?_;(repeat(refine Pn.mk ?_;intro N hN)))|((try apply Or.inl);refine⟨_,ar.x (h1) (sd (tw @aD.eq_1 (tw @aa.eq_1 @hd))),?_⟩;refine hN _ _ ?_;clear hN N)|((try apply Or.inl);refine⟨_,ar.x (h2) (sd (tw @aD.eq_1 (tw @aa.eq_1 @hd))),?_⟩;refine hN _ _ ?_;clear hN N)|((try apply Or.inl);refine⟨_,ar.x (h3) (sd (tw @aD.eq_1 (tw @aa.eq_1 @hd))),?_⟩;refine hN _ _ ?_;clear hN N)|((try apply Or.inl);refine⟨_,ar.x (h4) (sd (tw @aD.eq_1 (tw @aa.eq_1 @hd))),?_⟩;refine hN _ _ ?_;clear hN N)))
      exact aQ (b:=true) (.inl rfl) (sd @Nat.zero_add) (CL ⟨hS,hA,by omega,hT,hP⟩)
  ·have hb:mW s.aB s.cw.ad=false:=Bool.eq_false_iff.2 fun h=>hA (kW.1 h)
   rw[hb]at h2
   (repeat(first|((repeat(revert hN;revert N;apply Pn.out));refine wk (tw @aD.eq_1 @aa.eq_1) ?_;(repeat(refine Pn.mk ?_;intro N hN)))|((try apply Or.inl);refine⟨_,ar.x (h1) (sd (tw @aD.eq_1 @aa.eq_1)),?_⟩;refine hN _ _ ?_;clear hN N)|((try apply Or.inl);refine⟨_,ar.x (h2) (sd (tw @aD.eq_1 @aa.eq_1)),?_⟩;refine hN _ _ ?_;clear hN N)))
   exact aQ (b:=false) (.inl rfl) (sd @Nat.zero_add) (j5 fun h=>hA h.Kt)
 ·have hb:oq s.aB=false:=Bool.eq_false_iff.2 fun h=>hS (lv.1 h)
  rw[hb]at h1
  (repeat(first|((repeat(revert hN;revert N;apply Pn.out));refine wk (tw @aD.eq_1 @aa.eq_1) ?_;(repeat(refine Pn.mk ?_;intro N hN)))|((try apply Or.inl);refine⟨_,ar.x (h1) (sd (tw @aD.eq_1 @aa.eq_1)),?_⟩;refine hN _ _ ?_;clear hN N)))
  exact aQ (b:=false) (.inl rfl) (sd @Nat.zero_add) (j5 fun h=>hS h.set)
theorem M0 {s:au} (hS:ik s) (a d:Int):0<=qf s (dj (dm s a) d):=by
 have hF:=hS.form
 have fB:dj (dm s a) d=0∨(0<=dj (dm s a) d/\dj (dm s a) d<=s.aA.length):=by
  unfold dj dm
  rw[List.getD_eq_getElem?_getD,List.getD_eq_getElem?_getD]
  rcases ht:s.ad[a.toNat]? with _|t
  ·exact .inl (by simp[Ak])
  ·have Vx:=List.mem_of_getElem? ht
   simp only[Option.getD_some]
   rcases hg:t.bq[d.toNat]? with _|g
   ·exact .inl rfl
   ·exact .inr (hF.tV t Vx g (List.mem_of_getElem? hg))
 unfold qf
 by_cases h0:dj (dm s a) d=0
 ·rw[if_pos h0];omega
 ·rw[if_neg h0]
  have hk:(dj (dm s a) d-1).toNat<s.aA.length:=by omega
  have:=dX (hS.S6 _ hk).2.1
  unfold p4 at this
  unfold qL
  omega
theorem Bk {s:au} (hS:ik s) (a d b:Int):0<=gS s a d b/\gS s a d b<=4:=by
 refine⟨?_,Bl hS a d b⟩
 unfold gS
 split
 ·exact M0 hS a d
 ·omega
def du (s:au) (f:ah->Int) (p:ah) (t:Int):Nat->Int
 |0=>0
 |d+1=>du s f p t d+if 0<=f (bd p d)then gS s t d (f (bd p d))else 0
def qj (s:au) (f:ah->Int) (p:ah) (t:Int):Int:=du s f p t 4
theorem j9 {s:au} (hS:ik s) (f:ah->Int) (p:ah) (t:Int):∀d,0<=du s f p t d/\du s f p t d<=4*(d:Int)
 |0=>⟨Int.le_refl _,Int.le_refl _⟩
 |d+1=>by
  have:=j9 hS f p t d
  have hb:=Bk hS t d (f (bd p d))
  simp only[du]
  split<;>omega
theorem IF {s:au} {l:List ae} (hA:kn s l) {p:ah} (h:0<=gR l p):eV s (gR l p)=true:=by
 unfold gR at h ⊢
 split at h
 ·rename_i h0
  rw[if_pos h0]
  exact hA.2 _ (gT (kM h0).1)
 ·omega
noncomputable def zp (s:aE) (l:List ae):Bool:=kR s&&mW s.aB l
theorem ID {s:aE} {l:List ae}:zp s l=true↔zl s/\kn s.aB l:=by simp[zp,sE,kW]
theorem CP {s:au} {k:Nat} (h:k<s.ad.length):eV s k=true:=by
 unfold eV;exact jr (by omega)
theorem IE {s:au} {l:List ae} (hA:kn s l) (p:ah):gR l p<0↔eO l p<0:=by
 constructor
 ·intro h
  rcases Int.lt_or_le (eO l p) 0 with h0|h0
  ·exact h0
  ·exfalso
   obtain⟨h1,_⟩:=kM h0
   have h2:=(dX (hA.2 _ (gT h1))).1
   rw[gR,if_pos h0]at h
   omega
 ·intro h
  rw[gR,if_neg (by omega)];omega
abbrev mP:MK:=⟨true,[.tI,.tI]⟩
theorem Ct (p:ah):∀(ts:List ae) (i:Nat),gh mP (ab p) (ts.map ai) i=some (if qT ts p<ts.length then some (i+qT ts p)else none)
 |[],i=>by simp[gh,qT]
 |t::ts,i=>by
  have e:eY mP.ts (ab p) ((ai t).take mP.ks)=some (decide (p=t.bH)):=by
   have h:(p=t.bH)↔(p.eR=t.bH.eR/\p.eM=t.bH.eM):=⟨fun h=>by rw[h];exact⟨rfl,rfl⟩,fun h=>wP h.1 h.2⟩
   simp[MK.ks,ab,ai,eY,fX,h]
  have ih:=Ct p ts (i+1)
  rw[List.map_cons]
  unfold gh
  rw[e]
  by_cases h:p=t.bH
  ·rw[decide_eq_true h]
   have h0:qT (t::ts) p=0:=by simp[qT,List.findIdx_cons,h]
   simp[h0]
  ·rw[decide_eq_false h]
   have h0:qT (t::ts) p=qT ts p+1:=by
    simp[qT,List.findIdx_cons,Ne.symm h]
   simp only[ih,h0,List.length_cons,Nat.add_lt_add_iff_right]
   congr 1
   split<;>simp;omega
theorem yV (ts:List ae) (p:ah):fS mP (.agg [.int .i64 p.eR,.int .i64 p.eM]) (ts.map ai)=some (if 0<=eO ts p then some (eO ts p).toNat else none):=by
 have h:=Ct p ts 0
 unfold fS
 rw[if_pos ⟨rfl,rfl,rfl⟩]
 show gh mP (ab p) _ 0= _
 rw[h]
 unfold eO
 split<;>simp
theorem Hs {ts:List ae} {p:ah} (h:0<=eO ts p):fS mP (.agg [.int .i64 p.eR,.int .i64 p.eM]) (ts.map ai)=some (some (eO ts p).toNat):=by rw[yV,if_pos h]
theorem wK {ts:List ae} {p:ah} (h:eO ts p<0):fS mP (.agg [.int .i64 p.eR,.int .i64 p.eM]) (ts.map ai)=some none:=by rw[yV,if_neg (by omega)]
structure zj (g:Rows) (n:Nat) (c T O:Id) (s:aE) (ts:List ae):Prop where
 row:∃b,g c=some ⟨b,6,[[.sl (s.aB.aA.map bV),.sl (s.aB.ad.map bm),.sl (s.cw.ad.map ai),.int .i64 s.az,.map T mP,.map O mP]]⟩
 tl:∃b,g T=some ⟨b,mP.ma,ts.map ai⟩
 cv:c.bj<n
 tv:T.bj<n
 ov:O.bj<n
theorem zj.ro {g:Rows} {n:Nat} {c T O:Id} {s:aE} {ts:List ae} (h:zj g n c T O s ts):zj (V.ro g) n c T O s ts:=by
 obtain⟨b,h1⟩:=h.row
 obtain⟨b2,h2⟩:=h.tl
 exact⟨⟨false,by simp[V.ro,h1]⟩,⟨false,by simp[V.ro,h2]⟩,h.cv,h.tv,h.ov⟩
theorem zj.frame {g g':Rows} {n n':Nat} {c T O:Id} {s:aE} {ts:List ae} (h:zj g n c T O s ts) (hn:n<=n') (hc:g' c=g c) (hT:g' T=g T):zj g' n' c T O s ts:=
 ⟨by rw[hc];exact h.row,by rw[hT];exact h.tl,Nat.lt_of_lt_of_le h.cv hn,Nat.lt_of_lt_of_le h.tv hn,Nat.lt_of_lt_of_le h.ov hn⟩
theorem T7 {σ:ax} {c T O:Id} {s:aE} {ts:List ae} (h:zj σ.get σ.next c T O s ts) (p:ah):Call Tryz.prog 281 [.ptr c 0 0,.agg (ab p)] σ (fun r _=>r=.int .i64 (gR ts p)):=by
 refine eZ eG rfl fun lG=>?_
 clear lG
 obtain⟨b,h1⟩:=h.row
 obtain⟨b2,h2⟩:=h.tl
 have v1:=dB h.cv
 have v2:=dB h.tv
 by_cases h0:0<=eO ts p
 ·have hm:=Hs h0
  have hg:=fC (kM h0).1
  have ho:(some (eO ts p).toNat).isSome=true:=rfl
  (try((repeat(revert hN;revert N;apply Pn.out));refine wk (tw @h1 (tw @h2 (tw @v1 (tw @v2 (tw @hm (tw @hg (tw @ho (tw @ab.eq_1 @ai.eq_1)))))))) ?_;(repeat(refine Pn.mk ?_;intro N hN))))
  exact fq (.inl rfl) (vs:=[.int .i64 (aV ts (eO ts p).toNat).bx]) (sd @Nat.zero_add) (by rw[gR,if_pos h0];rfl)
 ·have hm:=wK (ts:=ts) (p:=p) (by omega)
  have ho:(none:Option Nat).isSome=false:=rfl
  (try((repeat(revert hN;revert N;apply Pn.out));refine wk (tw @h1 (tw @h2 (tw @v1 (tw @v2 (tw @hm (tw @ho @ab.eq_1)))))) ?_;(repeat(refine Pn.mk ?_;intro N hN))))
  exact fq (.inl rfl) (vs:=[.int .i64 (-1)]) (sd @Nat.zero_add) (by rw[gR,if_neg h0];rfl)
theorem Oa {σ:ax} {c T O:Id} {s:aE} {ts:List ae} (h:zj σ.get σ.next c T O s ts) (p:ah):gq (Call Tryz.prog) 281 [.ptr c 0 0,.agg (ab p)] σ (fun r=>r=.int .i64 (gR ts p)):=by
 unfold gq PC
 exact Or.inl (aJ _ _ _ _ _ (fun r σ' hr=>⟨_,by rw[hr];exact aH _ _ _ _,rfl⟩) (T7 (σ:=⟨V.ro σ.get,σ.next⟩) h.ro p))
theorem Gt {σ:ax} (s:au) (hS:ik s) (F:ah->Int) (hF:∀q,0<=F q->eV s (F q)=true) (p:ah) (hx:iB p.eR) (hy:iB p.eM) (t:Int) (ht:eV s t=true) (f:Nat) (first:List AV)
  (AS:∀σ':ax,σ.next<=σ'.next->(∀x:Id,x.bj<σ.next->σ'.get x=σ.get x)->∀q,gq (Call Tryz.prog) f (first++[.agg (ab q)]) σ' (fun r=>r=.int .i64 (F q))):
  Call Tryz.prog 249 [.agg (aa s),.agg (ab p),.int .i64 t,.ud f first] σ (fun r _=>r=.int .i64 (qj s F p t)):=by
 refine eZ eG rfl fun lG=>?_
 clear lG
 (try((repeat(revert hN;revert N;apply Pn.out));refine wk (tw @ab.eq_1 @aa.eq_1) ?_;(repeat(refine Pn.mk ?_;intro N hN))))
 refine aM (fun n env st=>∃k:Nat,n=(4)-k/\k<=(4)/\env 12=.int .i64 (k:Int)/\env 9=.int .i64 (du s F p t k)/\st.get ⟨249000000,σ.next⟩=some ⟨true,2,[aa s]⟩/\st.get ⟨249000001,σ.next⟩=some ⟨true,2,[ab p]⟩/\(σ.next<st.next/\∀x:Id,x.bj<σ.next->st.get x=σ.get x)) (4) ⟨0,by omega,by omega,sl (tw @ab.eq_1 @aa.eq_1),sl (tw @ab.eq_1 @aa.eq_1),sl (tw @ab.eq_1 @aa.eq_1),sl (tw @ab.eq_1 @aa.eq_1),⟨by(try dsimp only);omega,fun x hx=>by
  have:=dB hx
  simp only[go_sem, ↓reduceIte,Nat.reduceEqDiff,Nat.reduceAdd,Nat.reduceSub,Nat.reduceLeDiff,reduceCtorEq,this]⟩⟩ ?_
 rintro n_a env_a st_a ⟨k,rfl,ale,a12,a9,ag0,ag1,j8⟩ di
 have a2:=di 2 (by kernel_rfl);have a3:=di 3 (by kernel_rfl);have a4:=di 4 (by kernel_rfl);have a5:=di 5 (by kernel_rfl)
 simp only[go_sem, ↓reduceIte,Nat.reduceEqDiff,Nat.reduceAdd,Nat.reduceSub,Nat.reduceLeDiff,reduceCtorEq,ab,aa]at a2 a3 a4 a5
 clear di
 obtain⟨an,di⟩:=j8
 by_cases hk:(k:Int)<4
 ·have cm:∀{e:Env} {gg:Rows} {nx:Nat},(e 12=.int .i64 (IntKind.i64.wrap ((k:Int)+1)))->(e 9=.int .i64 (du s F p t (k+1)))->(gg ⟨249000000,σ.next⟩=some ⟨true,2,[aa s]⟩)->(gg ⟨249000001,σ.next⟩=some ⟨true,2,[ab p]⟩)->(σ.next<nx/\∀x:Id,x.bj<σ.next->gg x=σ.get x)->∃m0,m0<(4)-k/\∃k:Nat,m0=(4)-k/\k<=(4)/\e 12=.int .i64 (k:Int)/\e 9=.int .i64 (du s F p t k)/\gg ⟨249000000,σ.next⟩=some ⟨true,2,[aa s]⟩/\gg ⟨249000001,σ.next⟩=some ⟨true,2,[ab p]⟩/\(σ.next<nx/\∀x:Id,x.bj<σ.next->gg x=σ.get x):=fun x1 x2 x3 x4 x5=>⟨_,by omega,k+1,rfl,by omega,(by rw[x1,ay (by omega)]),x2,x3,x4,x5⟩
  have dQ:=ET p k (jr (by omega)) hx hy
  have fB:=j9 hS F p t k
  (repeat(first|((repeat(revert hN;revert N;apply Pn.out));refine wk (tw @a12 (tw @a9 (tw @ag0 (tw @ag1 (tw @a2 (tw @a3 (tw @a4 (tw @a5 (tw @hk @ab.eq_1))))))))) ?_;(repeat(refine Pn.mk ?_;intro N hN)))|((try apply Or.inl);refine⟨_,ar.x (dQ) (sd (tw @a12 (tw @a9 (tw @ag0 (tw @ag1 (tw @a2 (tw @a3 (tw @a4 (tw @a5 (tw @hk @ab.eq_1)))))))))),?_⟩;refine hN _ _ ?_;clear hN N)))
  refine .inl ⟨_,AS _ (by(try dsimp only);omega) (fun x hx=>sd (di x hx)) (bd p k),?_⟩
  refine hN _ _ ?_
  clear hN N
  by_cases h0:0<=F (bd p k)
  ·have yw:=IQ s hS.form t k (F (bd p k)) ht (hF _ h0) (jr (by omega))
   have fD:=Bk hS t k (F (bd p k))
   have hw:IntKind.i64.wrap (du s F p t k+gS s t k (F (bd p k)))=du s F p t (k+1):=by
    rw[br (by omega),du,if_pos h0]
   rw[aa]at yw
   (repeat(first|((repeat(revert hN;revert N;apply Pn.out));refine wk (tw @a12 (tw @a9 (tw @ag0 (tw @ag1 (tw @a2 (tw @a3 (tw @a4 (tw @a5 (tw @h0 @aa.eq_1))))))))) ?_;(repeat(refine Pn.mk ?_;intro N hN)))|((try apply Or.inl);refine⟨_,ar.x (yw) (sd (tw @a12 (tw @a9 (tw @ag0 (tw @ag1 (tw @a2 (tw @a3 (tw @a4 (tw @a5 (tw @h0 @aa.eq_1)))))))))),?_⟩;refine hN _ _ ?_;clear hN N)))
   refine cm ?_ ?_ ?_ ?_ (⟨by(try dsimp only);omega,fun x hx=>by
    have h1:=di x hx
    simp only[go_sem, ↓reduceIte,Nat.reduceEqDiff,Nat.reduceAdd,Nat.reduceSub,Nat.reduceLeDiff,reduceCtorEq,h1]⟩)
   all_goals simp only[go_sem, ↓reduceIte,Nat.reduceEqDiff,Nat.reduceAdd,Nat.reduceSub,Nat.reduceLeDiff,reduceCtorEq,a12,a9,ag0,ag1,a2,a3,a4,a5,hw,ab,aa]
  ·have hw:du s F p t (k+1)=du s F p t k:=by rw[du,if_neg h0,Int.add_zero]
   (try((repeat(revert hN;revert N;apply Pn.out));refine wk (tw @a12 (tw @a9 (tw @ag0 (tw @ag1 (tw @a2 (tw @a3 (tw @a4 (tw @a5 @h0)))))))) ?_;(repeat(refine Pn.mk ?_;intro N hN))))
   refine cm ?_ ?_ ?_ ?_ (⟨by(try dsimp only);omega,fun x hx=>by
    have h1:=di x hx
    simp only[go_sem, ↓reduceIte,Nat.reduceEqDiff,Nat.reduceAdd,Nat.reduceSub,Nat.reduceLeDiff,reduceCtorEq,h1]⟩)
   all_goals simp only[go_sem, ↓reduceIte,Nat.reduceEqDiff,Nat.reduceAdd,Nat.reduceSub,Nat.reduceLeDiff,reduceCtorEq,a12,a9,ag0,ag1,a2,a3,a4,a5,hw,ab,aa]
 ·(try((repeat(revert hN;revert N;apply Pn.out));refine wk (tw @a12 (tw @a9 (tw @ag0 (tw @ag1 (tw @a2 (tw @a3 (tw @a4 (tw @a5 @hk)))))))) ?_;(repeat(refine Pn.mk ?_;intro N hN))))
  exact fq (.inl rfl) (vs:=[.int .i64 (du s F p t k)]) (sd (tw @a12 (tw @a9 (tw @ag0 (tw @ag1 (tw @a2 (tw @a3 (tw @a4 @a5)))))))) (by rw[show k=4 by omega];rfl)
noncomputable def eJ (s:aE) (ts:List ae) (p:ah) (t:Int):Bool:=Ao p&&decide (gR ts p<0)&&decide (s.az<=qj s.aB (gR ts) p t)
theorem Gu {σ:ax} {c T O:Id} {s:aE} {ts:List ae} (h:zj σ.get σ.next c T O s ts) (hS:ik s.aB) (hF:∀q,0<=gR ts q->eV s.aB (gR ts q)=true) (p:ah) (hx:iB p.eR) (hy:iB p.eM) (t:Int) (ht:eV s.aB t=true):
  gq (Call Tryz.prog) 249 [.agg (aa s.aB),.agg (ab p),.int .i64 t,.ud 281 [.ptr c 0 0]] σ (fun r=>r=.int .i64 (qj s.aB (gR ts) p t)):=by
 unfold gq PC
 exact Or.inl (aJ _ _ _ _ _ (fun r σ' hr=>⟨_,by rw[hr];exact aH _ _ _ _,rfl⟩) (Gt (σ:=⟨V.ro σ.get,σ.next⟩) s.aB hS (gR ts) hF p hx hy t ht _ _
  (fun σ' hn hk q=>Oa (h.ro.frame hn (hk _ h.cv) (hk _ h.tv)) q)))
theorem Ou {σ:ax} {c T O:Id} {s:aE} {ts:List ae} (h:zj σ.get σ.next c T O s ts) (hS:ik s.aB) (hF:∀q,0<=gR ts q->eV s.aB (gR ts q)=true) (p:ah) (t:Int) (ht:eV s.aB t=true):
  Call Tryz.prog 229 [.ptr c 0 0,.agg (ab p),.int .i64 t] σ (fun r _=>r=.bool (eJ s ts p t)):=by
 refine eZ eG rfl fun lG=>?_
 clear lG
 obtain⟨b,h1⟩:=h.row
 have v1:=dB h.cv
 have hw:=rI p
 have v2:=dB h.tv
 by_cases h0:Ao p=true
 ·rw[h0]at hw
  obtain⟨hx,hy⟩:=tu h0
  by_cases h2:gR ts p<0
  ·(repeat(first|((repeat(revert hN;revert N;apply Pn.out));refine wk (tw @h1 (tw @v1 (tw @h2 @ab.eq_1))) ?_;(repeat(refine Pn.mk ?_;intro N hN)))|((try apply Or.inl);refine⟨_,ar.x (hw) (sd (tw @h1 (tw @v1 (tw @h2 @ab.eq_1)))),?_⟩;refine hN _ _ ?_;clear hN N)))
   refine⟨_,Oa (h.frame (by(try dsimp only);omega) (sd @v1) (sd @v2)) p,?_⟩
   refine hN _ _ ?_
   clear hN N
   (repeat(first|((repeat(revert hN;revert N;apply Pn.out));refine wk (tw @h1 (tw @v1 (tw @h2 (tw @ab.eq_1 @aa.eq_1)))) ?_;(repeat(refine Pn.mk ?_;intro N hN)))|((try apply Or.inl);refine⟨_,ar.x (hw) (sd (tw @h1 (tw @v1 (tw @h2 (tw @ab.eq_1 @aa.eq_1))))),?_⟩;refine hN _ _ ?_;clear hN N)))
   refine⟨_,Gu (h.frame (by(try dsimp only);omega) (sd @v1) (sd @v2)) hS hF p hx hy t ht,?_⟩
   refine hN _ _ ?_
   clear hN N
   have hb:=j9 hS (gR ts) p t 4
   (repeat(first|((repeat(revert hN;revert N;apply Pn.out));refine wk (tw @h1 (tw @v1 (tw @h2 (tw @ab.eq_1 @aa.eq_1)))) ?_;(repeat(refine Pn.mk ?_;intro N hN)))|((try apply Or.inl);refine⟨_,ar.x (hw) (sd (tw @h1 (tw @v1 (tw @h2 (tw @ab.eq_1 @aa.eq_1))))),?_⟩;refine hN _ _ ?_;clear hN N)))
   exact fq (.inl rfl) (vs:=[.bool (decide (s.az<=qj s.aB (gR ts) p t))]) (sd @Nat.zero_add) (by rw[show eJ s ts p t=decide (s.az<=qj s.aB (gR ts) p t) by simp[eJ,h0,h2]];rfl)
  ·(repeat(first|((repeat(revert hN;revert N;apply Pn.out));refine wk (tw @h1 (tw @v1 (tw @h2 @ab.eq_1))) ?_;(repeat(refine Pn.mk ?_;intro N hN)))|((try apply Or.inl);refine⟨_,ar.x (hw) (sd (tw @h1 (tw @v1 (tw @h2 @ab.eq_1)))),?_⟩;refine hN _ _ ?_;clear hN N)))
   refine⟨_,Oa (h.frame (by(try dsimp only);omega) (sd @v1) (sd @v2)) p,?_⟩
   refine hN _ _ ?_
   clear hN N
   (repeat(first|((repeat(revert hN;revert N;apply Pn.out));refine wk (tw @h1 (tw @v1 (tw @h2 @ab.eq_1))) ?_;(repeat(refine Pn.mk ?_;intro N hN)))|((try apply Or.inl);refine⟨_,ar.x (hw) (sd (tw @h1 (tw @v1 (tw @h2 @ab.eq_1)))),?_⟩;refine hN _ _ ?_;clear hN N)))
   exact fq (.inl rfl) (vs:=[.bool false]) (sd @Nat.zero_add) (by rw[show eJ s ts p t=false by simp[eJ,h2]];rfl)
 ·rw[Bool.not_eq_true]at h0
  rw[h0]at hw
  (repeat(first|((repeat(revert hN;revert N;apply Pn.out));refine wk (tw @h1 (tw @v1 @ab.eq_1)) ?_;(repeat(refine Pn.mk ?_;intro N hN)))|((try apply Or.inl);refine⟨_,ar.x (hw) (sd (tw @h1 (tw @v1 @ab.eq_1))),?_⟩;refine hN _ _ ?_;clear hN N)))
  exact fq (.inl rfl) (vs:=[.bool false]) (sd @Nat.zero_add) (by rw[show eJ s ts p t=false by simp[eJ,h0]];rfl)
def OW (rows:List (List AV)):Prop:=∀r∈rows,∃(x y:Int) (v:AV),r=[.int .i64 x,.int .i64 y,v]
def lQ (σ:ax) (O:Id) (g:Rows) (n:Nat):Prop:=σ.next<=n/\(∀x:Id,x.bj<σ.next->x≠O->g x=σ.get x)/\∃rows,g O=some ⟨true,mP.ma,rows⟩/\OW rows
theorem lQ.KZ {σ:ax} {g:Rows} {n:Nat} {c T O:Id} {s:aE} {ts:List ae} (h:zj σ.get σ.next c T O s ts) (hc:c≠O) (hT:T≠O) (k:lQ σ O g n):zj g n c T O s ts:=
 h.frame k.1 (k.2.1 _ h.cv hc) (k.2.1 _ h.tv hT)
theorem lQ.trans {a b:ax} {O:Id} {g:Rows} {n:Nat} (h:lQ a O b.get b.next) (k:lQ b O g n):lQ a O g n:=
 ⟨Nat.le_trans h.1 k.1,fun x hx hO=>(k.2.1 x (Nat.lt_of_lt_of_le hx h.1) hO).trans (h.2.1 x hx hO),k.2.2⟩
theorem lQ.frame {a:ax} {O:Id} {g g':Rows} {n n' m:Nat} (h:lQ a O g n) (ha:a.next<=m) (ho:O.bj<m) (hn:n<=n') (hf:∀x:Id,x.bj<m->g' x=g x):lQ a O g' n':=by
 refine⟨Nat.le_trans h.1 hn,fun x hx hO=>(hf x (Nat.lt_of_lt_of_le hx ha)).trans (h.2.1 x hx hO),?_⟩
 obtain⟨rows,h1,h2⟩:=h.2.2
 exact⟨rows,(hf O ho).trans h1,h2⟩
theorem lQ.write {a:ax} {O:Id} {g g':Rows} {n n':Nat} (h:lQ a O g n) (hn:n<=n') (hf:∀x:Id,x.bj<a.next->x≠O->g' x=g x) {rows:List (List AV)} (ho:g' O=some ⟨true,mP.ma,rows⟩) (hw:OW rows):lQ a O g' n':=
 ⟨Nat.le_trans h.1 hn,fun x hx hO=>(hf x hx hO).trans (h.2.1 x hx hO),rows,ho,hw⟩
theorem Ov {σ:ax} {c T O:Id} {s:aE} {ts:List ae} (h:zj σ.get σ.next c T O s ts) (hS:ik s.aB) (hF:∀q,0<=gR ts q->eV s.aB (gR ts q)=true) (p:ah) (t:Int) (ht:eV s.aB t=true):
  gq (Call Tryz.prog) 229 [.ptr c 0 0,.agg (ab p),.int .i64 t] σ (fun r=>r=.bool (eJ s ts p t)):=by
 unfold gq PC
 exact Or.inl (aJ _ _ _ _ _ (fun r σ' hr=>⟨_,by rw[hr];exact aZ _ _ _,rfl⟩) (Ou (σ:=⟨V.ro σ.get,σ.next⟩) h.ro hS hF p t ht))
structure pU (g:Rows) (n:Nat) (c T O:Id) (s:aE) (ts:List ae):Prop where
 row:g c=some ⟨true,6,[[.sl (s.aB.aA.map bV),.sl (s.aB.ad.map bm),.sl (s.cw.ad.map ai),.int .i64 s.az,.map T mP,.map O mP]]⟩
 tl:g T=some ⟨true,mP.ma,ts.map ai⟩
 op:∃rows,g O=some ⟨true,mP.ma,rows⟩/\OW rows
 cv:c.bj<n
 tv:T.bj<n
 ov:O.bj<n
 cT:c≠T
 cO:c≠O
 TO:T≠O
theorem pU.KZ {g:Rows} {n:Nat} {c T O:Id} {s:aE} {ts:List ae} (h:pU g n c T O s ts):zj g n c T O s ts:=⟨⟨_,h.row⟩,⟨_,h.tl⟩,h.cv,h.tv,h.ov⟩
theorem pU.look {σ:ax} {g:Rows} {n:Nat} {c T O:Id} {s:aE} {ts:List ae} (h:pU σ.get σ.next c T O s ts) (k:lQ σ O g n):pU g n c T O s ts:=
 ⟨(k.2.1 _ h.cv h.cO).trans h.row,(k.2.1 _ h.tv h.TO).trans h.tl,k.2.2,Nat.lt_of_lt_of_le h.cv k.1,Nat.lt_of_lt_of_le h.tv k.1,Nat.lt_of_lt_of_le h.ov k.1,h.cT,h.cO,h.TO⟩
theorem pU.frame {g g':Rows} {n n':Nat} {c T O:Id} {s:aE} {ts:List ae} (h:pU g n c T O s ts) (hn:n<=n') (hf:∀x:Id,x.bj<n->g' x=g x):pU g' n' c T O s ts:=
 ⟨(hf _ h.cv).trans h.row,(hf _ h.tv).trans h.tl,by rw[hf _ h.ov];exact h.op,Nat.lt_of_lt_of_le h.cv hn,Nat.lt_of_lt_of_le h.tv hn,Nat.lt_of_lt_of_le h.ov hn,h.cT,h.cO,h.TO⟩
theorem Cb {l:List ae} {p:ah}:eO l p<0↔∀t∈l,t.bH≠p:=by
 unfold eO qT
 by_cases h:(l.findIdx fun c=>decide (c.bH=p))<l.length
 ·rw[if_pos h]
  obtain⟨t,ht,h2⟩:=List.findIdx_lt_length.1 h
  exact⟨fun h=>by omega,fun h=>absurd (by simpa using h2) (h t ht)⟩
 ·rw[if_neg h]
  exact⟨fun _ t ht e=>h (List.findIdx_lt_length.2 ⟨t,ht,by simp[e]⟩),fun _=>by omega⟩
theorem KH {l:List ae} (h:sW l) {k:Nat} (hk:k<l.length):eO (l.take k) (aV l k).bH<0:=by
 rw[Cb]
 intro t ht e
 obtain⟨j,hj,rfl⟩:=List.getElem_of_mem ht
 have K6:j<k:=by rw[List.length_take]at hj;omega
 have:=h j k K6 hk
 rw[List.getElem_take]at e
 have e2:aV l j=l[j]'(by omega):=by unfold aV;rw[List.getD_eq_getElem?_getD,List.getElem?_eq_getElem (by omega)];rfl
 rw[e2,e]at this
 simp[kO]at this
theorem M4 {l:List ae} {k:Nat} (hk:k<l.length):(l.take k).map ai++[[.int .i64 (aV l k).bH.eR,.int .i64 (aV l k).bH.eM,.int .i64 (aV l k).bx]]=(l.take (k+1)).map ai:=by
 have e2:aV l k=l[k]:=by unfold aV;rw[List.getD_eq_getElem?_getD,List.getElem?_eq_getElem hk];rfl
 rw[List.take_succ_eq_append_getElem hk,List.map_append,e2]
 rfl
theorem ik.Nq {s:au} {l:List ae} (hA:kn s l):∀q,0<=gR l q->eV s (gR l q)=true:=fun _ h=>IF hA h
def jG (ps:List ah) (i:Nat):ah:=ps.getD i ⟨0,0⟩
theorem jU {ps:List ah} {i:Nat} (h:i<ps.length):jG ps i=ps[i]:=by simp[jG,List.getD_eq_getElem?_getD,h]
theorem Aq {ps:List ah} {i:Nat} (h:i<ps.length):jG ps i∈ps:=by rw[jU h];exact List.getElem_mem h
theorem ug {ps:List ah} {i:Nat} (h:i<ps.length):(ps.map ab)[i]? =some (ab (jG ps i)):=by simp[jG,List.getD_eq_getElem?_getD,h]
def mU (ps:List ah):Prop:=ps.Pairwise fun a b=>kO a b=true
theorem mU.at_ {ps:List ah} (h:mU ps) {i j:Nat} (D6:i<j) (hj:j<ps.length):kO (jG ps i) (jG ps j)=true:=by
 rw[jU hj,jU (by omega)]
 exact List.pairwise_iff_getElem.1 h i j (by omega) hj D6
def jS (ps:List ah) (p:ah):Nat:=ps.findIdx fun q=> !kO q p
theorem z8 (ps:List ah) (p:ah):jS ps p<=ps.length:=List.findIdx_le_length
theorem FZ {ps:List ah} {p:ah} {x:Nat} (h:x<jS ps p):kO (jG ps x) p=true:=by
 have hx:x<ps.length:=Nat.lt_of_lt_of_le h (z8 ps p)
 have:=List.not_of_lt_findIdx h
 rw[jU hx]
 simpa using this
theorem z7 {ps:List ah} {p:ah} (hR:mU ps) {x:Nat} (h:jS ps p<=x) (hx:x<ps.length):kO (jG ps x) p=false:=by
 have h0:jS ps p<ps.length:=by omega
 have h1:kO (jG ps (jS ps p)) p=false:=by
  have:=List.findIdx_getElem (p:=fun q=> !kO q p) (xs:=ps) (w:=h0)
  rw[jU h0]
  have e:(!kO ps[jS ps p] p)=true:=this
  simpa using e
 by_cases he:jS ps p=x
 ·rw[<-he];exact h1
 ·have h2:=hR.at_ (show jS ps p<x by omega) hx
  cases hc:kO (jG ps x) p
  ·rfl
  ·rw[iz h2 hc]at h1;cases h1
def qe (ps:List ah) (p:ah):List ah:=if jS ps p<ps.length/\jG ps (jS ps p)=p then ps else ps.take (jS ps p)++p::ps.drop (jS ps p)
theorem Ki (ps:List ah) (p:ah):(qe ps p).length<=ps.length+1:=by
 unfold qe
 have:=z8 ps p
 split
 ·omega
 ·simp;omega
theorem JY (ps:List ah) (p x:ah):x∈qe ps p↔x=p∨x∈ps:=by
 unfold qe
 split
 ·rename_i h
  refine⟨.inr,fun hx=>hx.elim (fun e=>?_) id⟩
  rw[e,<-h.2];exact Aq h.1
 ·have:x∈ps↔x∈ps.take (jS ps p)++ps.drop (jS ps p):=by rw[List.take_append_drop]
  rw[this]
  simp only[List.mem_append,List.mem_cons]
  constructor
  ·rintro(h|h|h)
   ·exact .inr (.inl h)
   ·exact .inl h
   ·exact .inr (.inr h)
  ·rintro(h|h|h)
   ·exact .inr (.inl h)
   ·exact .inl h
   ·exact .inr (.inr h)
theorem Kj {ps:List ah} (hR:mU ps) (p:ah):mU (qe ps p):=by
 unfold qe
 split
 ·exact hR
 ·rename_i lH
  have hd:∀x∈ps.drop (jS ps p),kO p x=true:=fun x hx=>by
   obtain⟨j,hj,rfl⟩:=List.getElem_of_mem hx
   rw[List.length_drop]at hj
   rw[List.getElem_drop]
   have gM:jS ps p+j<ps.length:=by omega
   have h1:=z7 (p:=p) hR (Nat.le_add_right _ j) gM
   rw[<-jU gM]
   refine Aa h1 fun he=>?_
   by_cases h0:j=0
   ·subst h0
    exact lH ⟨by omega,by simpa using he⟩
   ·have:=hR.at_ (show jS ps p<jS ps p+j by omega) gM
    rw[he]at this
    have h2:=z7 (p:=p) hR (Nat.le_refl _) (show jS ps p<ps.length by omega)
    rw[this]at h2;cases h2
  have ht:∀x∈ps.take (jS ps p),kO x p=true:=fun x hx=>by
   obtain⟨j,hj,rfl⟩:=List.getElem_of_mem hx
   rw[List.length_take]at hj
   rw[List.getElem_take]
   have:=FZ (ps:=ps) (p:=p) (x:=j) (by omega)
   rwa [jU (by omega)]at this
  refine List.pairwise_append.2 ⟨hR.sublist (List.take_sublist _ _),List.pairwise_cons.2 ⟨hd,hR.sublist (List.drop_sublist _ _)⟩,fun x hx y hy=>?_⟩
  rcases List.mem_cons.1 hy with rfl|hy
  ·exact ht x hx
  ·exact iz (ht x hx) (hd y hy)
theorem F7:∀{ps qs:List ah},mU ps->mU qs->(∀x,x∈ps↔x∈qs)->ps=qs
 |[],[],_,_,_=>rfl
 |[],q::qs,_,_,h=>absurd ((h q).2 (by simp)) (by simp)
 |p::ps,[],_,_,h=>absurd ((h p).1 (by simp)) (by simp)
 |p::ps,q::qs,hp,hq,h=>by
  obtain⟨p1,p2⟩:=List.pairwise_cons.1 hp
  obtain⟨q1,q2⟩:=List.pairwise_cons.1 hq
  have e:p=q:=by
   rcases List.mem_cons.1 ((h p).1 (by simp))with e|e
   ·exact e
   ·rcases List.mem_cons.1 ((h q).2 (by simp))with e'|e'
    ·exact e'.symm
    ·have:=JU (q1 p e)
     rw[p1 q e']at this;cases this
  subst e
  congr 1
  refine F7 p2 q2 fun x=>⟨fun hx=>?_,fun hx=>?_⟩
  ·rcases List.mem_cons.1 ((h x).1 (List.mem_cons_of_mem _ hx))with e|e
   ·subst e;have:=p1 x hx;rw[nq]at this;cases this
   ·exact e
  ·rcases List.mem_cons.1 ((h x).2 (List.mem_cons_of_mem _ hx))with e|e
   ·subst e;have:=q1 x hx;rw[nq]at this;cases this
   ·exact e
def QX (σ:ax) (kp:Id->Prop) (ps:List ah) (r:AV) (σ':ax):Prop:=
 ∃o:Id,r=.own o 0 ps.length/\σ'.get o=some ⟨true,2,ps.map ab⟩/\σ.next<=σ'.next/\o.bj<σ'.next/\(σ.next<=o.bj∨¬kp o)/\∀x:Id,x.bj<σ.next->kp x->σ'.get x=σ.get x
theorem NR {ps:List ah} {i:Nat} {q:ah}:(ps.map ab).set i (ab q)=(ps.set i q).map ab:=List.map_set.symm
def zf (ps:List ah) (p:ah) (i:Nat):List ah:=(ps++[p]).take (i+1)++ps.drop i
theorem pT (ps:List ah) (p:ah) {i:Nat} (h:i<=ps.length):(zf ps p i).length=ps.length+1:=by simp[zf];omega
theorem PS {ps:List ah} {p:ah} {i j:Nat} (hi:i<=ps.length) (hj:j<i):jG (zf ps p i) j=jG ps j:=by
 unfold jG zf
 rw[List.getD_eq_getElem?_getD,List.getD_eq_getElem?_getD,List.getElem?_append_left (by simp;omega),List.getElem?_take,if_pos (by omega),List.getElem?_append_left (by omega)]
theorem HY (ps:List ah) (p:ah):zf ps p ps.length=ps++[p]:=by
 unfold zf
 rw[List.drop_length,List.append_nil,List.take_of_length_le (by simp)]
theorem KN {ps:List ah} {p:ah} {i:Nat} (hi:i<ps.length):(zf ps p (i+1)).set (i+1) (jG ps i)=zf ps p i:=by
 refine List.ext_getElem? fun j=>?_
 rw[List.getElem?_set,pT ps p (by omega)]
 unfold zf
 by_cases hj:i+1=j
 ·subst hj
  rw[if_pos rfl,if_pos (by omega),List.getElem?_append_right (by simp;omega)]
  simp only[List.length_take,List.length_append,List.length_cons,List.length_nil]
  rw[show i+1-min (i+1) (ps.length+(0+1))=0 by omega,List.getElem?_drop,Nat.add_zero,List.getElem?_eq_getElem hi,jU hi]
 ·rw[if_neg hj]
  by_cases dV:j<i+1
  ·rw[List.getElem?_append_left (by simp;omega),List.getElem?_append_left (by simp;omega),List.getElem?_take,List.getElem?_take,if_pos (by omega),if_pos dV]
  ·rw[List.getElem?_append_right (by simp;omega),List.getElem?_append_right (by simp;omega)]
   simp only[List.length_take,List.length_append,List.length_cons,List.length_nil,List.getElem?_drop]
   congr 1
   omega
theorem M8 {ps:List ah} {p:ah} {i:Nat} (hi:i<=ps.length):(zf ps p i).set i p=ps.take i++p::ps.drop i:=by
 refine List.ext_getElem? fun j=>?_
 rw[List.getElem?_set,pT ps p hi]
 unfold zf
 by_cases hj:i=j
 ·subst hj
  rw[if_pos rfl,if_pos (by omega),List.getElem?_append_right (by simp;omega)]
  simp[Nat.min_eq_left hi]
 ·rw[if_neg hj]
  by_cases dV:j<i
  ·rw[List.getElem?_append_left (by simp;omega),List.getElem?_append_left (by simp;omega),List.getElem?_take,List.getElem?_take,if_pos (by omega),if_pos dV,List.getElem?_append_left (by omega)]
  ·rw[List.getElem?_append_right (by simp;omega),List.getElem?_append_right (by simp;omega)]
   simp only[List.length_take,List.length_append,List.length_cons,List.length_nil]
   rw[show j-min i ps.length=(j-i-1)+1 by omega,List.getElem?_cons_succ]
   congr 1
   omega
theorem Nb {X:fK} {Q:Ex->Env->ax->Prop} {N:Env->ax->Prop} {c:VC} {env:Env} {σ:ax} {id:Nat} (I:Env->ax->Prop) (h2:∀e s,I e s->N e s) (h1:∀N':Env->ax->Prop,(∀e s,I e s->N' e s)->eu X c (bf id (dx N' Q)) env σ):eu X c (bf id (dx N Q)) env σ:=h1 N h2
theorem xT (ps:List ah) (hR:mU ps) (hlen:ps.length<=1048576) (p:ah) (o:Id) (σ:ax) (ho:σ.get o=some ⟨true,2,ps.map ab⟩) (rX:o.bj<σ.next):
  Call Tryz.prog 223 [.own o 0 ps.length,.agg (ab p)] σ (QX σ (fun x=>(x=o)=False) (qe ps p)):=by
 refine eZ eG rfl fun lG=>?_
 clear lG
 have qS:=dB rX
 have Tx:=z8 ps p
 have yE:(ps.map ab).length=ps.length:=by simp
 (try((repeat(revert hN;revert N;apply Pn.out));refine wk (tw @ab.eq_1 @qS) ?_;(repeat(refine Pn.mk ?_;intro N hN))))
 refine Nb (fun e s=>e 5=.int .i64 (jS ps p:Int)/\e 0=.own o 0 ps.length/\e 3=.ptr ⟨223000000,σ.next⟩ 0 0/\s.get ⟨223000000,σ.next⟩=some ⟨true,2,[ab p]⟩/\s.get o=some ⟨true,2,ps.map ab⟩/\σ.next<s.next/\∀x:Id,x.bj<σ.next->s.get x=σ.get x) ?_ ?_
 ·rintro e s ⟨f5,f0,f3,fg0,fg1,fn,ffr⟩
  refine hN _ _ ?_
  clear hN N
  have Mb:=dB (i:=o) (n:=s.next) (by omega)
  obtain⟨a,ha⟩:∃a,jS ps p=a:=⟨_,rfl⟩
  rw[ha]at f5 Tx
  by_cases hex:a<ps.length/\jG ps a=p
  ·have dV:(a:Int)<(ps.length:Int):=by omega
   have hg:=ug hex.1
   have hx:decide ((jG ps a).eR=p.eR)=true:=decide_eq_true (by rw[hex.2])
   have hy:decide ((jG ps a).eM=p.eM)=true:=decide_eq_true (by rw[hex.2])
   (try((repeat(revert hN;revert N;apply Pn.out));refine wk (tw @f5 (tw @f0 (tw @f3 (tw @fg0 (tw @fg1 (tw @dV (tw @hg (tw @hx (tw @hy (tw @yE @ab.eq_1)))))))))) ?_;(repeat(refine Pn.mk ?_;intro N hN))))
   have hp:qe ps p=ps:=by unfold qe;rw[ha,if_pos hex]
   rw[hp]
   exact fq (.inl rfl) (vs:=[.own o 0 ps.length]) (sd @Nat.zero_add) ⟨o,rfl,sd @fg1,by(try dsimp only);omega,by(try dsimp only);omega,.inr (by simp),fun x hx _=>sd (ffr x hx)⟩
  refine C0 (fun N hN=>?_)
  refine Fb (fun e s=>e 5=.int .i64 (a:Int)/\e 0=.own o 0 ps.length/\e 3=.ptr ⟨223000000,σ.next⟩ 0 0/\s.get ⟨223000000,σ.next⟩=some ⟨true,2,[ab p]⟩/\s.get o=some ⟨true,2,ps.map ab⟩/\σ.next<s.next/\∀x:Id,x.bj<σ.next->s.get x=σ.get x) ?_ ?_
  ·clear f5 f0 f3 fg0 fg1 fn ffr Mb
   rintro e s ⟨f5,f0,f3,fg0,fg1,fn,ffr⟩
   refine hN _ _ ?_
   clear hN N
   have Mb:=dB (i:=o) (n:=s.next) (by omega)
   have QL:=dB (i:=⟨223000000,σ.next⟩) (n:=s.next) fn
   have e1:ps.length+1<=16777216:=by omega
   have qd:ps.map ab++[[.int .i64 p.eR,.int .i64 p.eM]]=(zf ps p ps.length).map ab:=by rw[HY];simp[ab]
   have o3:IntKind.i64.wrap ((ps.length:Int)+1-1)=(ps.length:Int):=by rw[br (by omega)];omega
   have hp:qe ps p=ps.take a++p::ps.drop a:=by unfold qe;rw[ha,if_neg hex]
   have O8:((⟨223000000,σ.next⟩:Id)=o)=False:=by
    refine eq_false fun h=>?_
    rw[<-h]at rX;exact Nat.lt_irrefl _ rX
   (try((repeat(revert hN;revert N;apply Pn.out));refine wk (tw @f5 (tw @f0 (tw @f3 (tw @fg0 (tw @fg1 (tw @Mb (tw @QL (tw @O8 (tw @yE (tw @e1 (tw @qd (tw @o3 (tw @Int.natCast_add (tw @Int.cast_ofNat_Int @ab.eq_1)))))))))))))) ?_;(repeat(refine Pn.mk ?_;intro N hN))))
   refine aM (fun m env st=>∃i:Nat,m=i/\a<=i/\i<=ps.length/\env 6=.int .i64 (i:Int)/\st.get ⟨223006003,s.next⟩=some ⟨true,2,(zf ps p i).map ab⟩/\st.get ⟨223000000,σ.next⟩=some ⟨true,2,[ab p]⟩/\s.next<st.next/\∀x:Id,x.bj<σ.next->(x=o)=False->st.get x=σ.get x) ps.length ⟨ps.length,rfl,Tx,Nat.le_refl _,sd (tw @o3 (tw @Int.natCast_add @Int.cast_ofNat_Int)),sd @qd,sd (tw @fg0 (tw @QL (tw @O8 @ab.eq_1))),by(try dsimp only);omega,fun x hx A5=>by
    have h1:=dB (i:=x) (n:=s.next) (by omega)
    have h2:=ffr x hx
    simp only[go_sem, ↓reduceIte,Nat.reduceEqDiff,Nat.reduceAdd,Nat.reduceSub,Nat.reduceLeDiff,reduceCtorEq,h1,h2,A5]⟩ ?_
   rintro m env_b st_b ⟨i,hmi,bl,ble,b6,bg0,bg1,bn,e7⟩ bkp
   have b0:=bkp 0 (by kernel_rfl)
   have b3:=bkp 3 (by kernel_rfl)
   have b5:=bkp 5 (by kernel_rfl)
   simp only[go_sem, ↓reduceIte,Nat.reduceEqDiff,Nat.reduceAdd,Nat.reduceSub,Nat.reduceLeDiff,reduceCtorEq,f0,f3,f5,ab]at b0 b3 b5
   clear bkp
   have L8:((zf ps p i).map ab).length=ps.length+1:=by rw[List.length_map,pT ps p ble]
   by_cases K4:(a:Int)<(i:Int)
   ·obtain⟨k,rfl⟩:∃k,i=k+1:=⟨i-1,by omega⟩
    have eU:k<ps.length:=by omega
    have wh:IntKind.i64.wrap (((k+1:Nat):Int)-1)=(k:Int):=by rw[br (by omega)];omega
    have hq:((zf ps p (k+1)).map ab)[k]? =some (ab (jG ps k)):=by rw[ug (by rw[pT ps p ble];omega),PS ble (Nat.lt_succ_self _)]
    have yH:∃z,((zf ps p (k+1)).map ab)[k+1]? =some (ab z):=⟨_,ug (by rw[pT ps p ble];omega)⟩
    obtain⟨z,yH⟩:=yH
    have dW:((zf ps p (k+1)).map ab).set (k+1) (ab (jG ps k))=(zf ps p k).map ab:=by rw[NR,KN eU]
    have c1:(k:Int)<(ps.length:Int)+1:=by omega
    have c2:(k:Int)+1<(ps.length:Int)+1:=by omega
    have c3:(0:Int)<=(k:Int)+1:=by omega
    have c4:((k:Int)+1).toNat=k+1:=by omega
    have c5:(a:Int)<(k:Int)+1:=by omega
    have c6:IntKind.i64.wrap ((k:Int)+1-1)=(k:Int):=by rw[br (by omega)];omega
    rw[ab]at dW hq yH
    (try((repeat(revert hN;revert N;apply Pn.out));refine wk (tw @b0 (tw @b3 (tw @b5 (tw @b6 (tw @bg0 (tw @bg1 (tw @K4 (tw @wh (tw @hq (tw @yH (tw @dW (tw @L8 (tw @c1 (tw @c2 (tw @c3 (tw @c4 (tw @c5 (tw @c6 (tw @Int.natCast_add @Int.cast_ofNat_Int))))))))))))))))))) ?_;(repeat(refine Pn.mk ?_;intro N hN))))
    exact⟨k,by omega,k,rfl,by omega,by omega,sd @c6,sd @dW,sd (tw @bg1 @O8),by(try dsimp only);omega,fun x hx A5=>by
     have h1:=dB (i:=x) (n:=s.next) (by omega)
     have h2:=e7 x hx A5
     simp only[go_sem, ↓reduceIte,Nat.reduceEqDiff,Nat.reduceAdd,Nat.reduceSub,Nat.reduceLeDiff,reduceCtorEq,h1,h2]⟩
   ·obtain rfl:i=a:=by omega
    have dW:((zf ps p i).map ab).set i (ab p)=(qe ps p).map ab:=by rw[NR,M8 Tx,hp]
    have yH:∃z,((zf ps p i).map ab)[i]? =some (ab z):=⟨_,ug (by rw[pT ps p ble];omega)⟩
    obtain⟨z,yH⟩:=yH
    have mQ:(qe ps p).length=ps.length+1:=by rw[hp];simp;omega
    have c1:(i:Int)<(ps.length:Int)+1:=by omega
    rw[ab]at dW yH
    (try((repeat(revert hN;revert N;apply Pn.out));refine wk (tw @b0 (tw @b3 (tw @b5 (tw @b6 (tw @bg0 (tw @bg1 (tw @K4 (tw @yH (tw @dW (tw @L8 (tw @c1 (tw @Int.natCast_add (tw @Int.cast_ofNat_Int @ab.eq_1))))))))))))) ?_;(repeat(refine Pn.mk ?_;intro N hN))))
    rw[<-mQ]
    exact fq (.inl rfl) (vs:=[.own ⟨223006003,s.next⟩ 0 (qe ps p).length]) (sd (tw @b0 @mQ)) ⟨⟨223006003,s.next⟩,rfl,sd @dW,by(try dsimp only);omega,by(try dsimp only);omega,.inl (by(try dsimp only);omega),fun x hx A5=>by
     have h1:=dB (i:=x) (n:=s.next) (by omega)
     have h2:=e7 x hx A5
     simp only[go_sem, ↓reduceIte,Nat.reduceEqDiff,Nat.reduceAdd,Nat.reduceSub,Nat.reduceLeDiff,reduceCtorEq,h1,h2]⟩
  ·intro N hN
   by_cases Jj:(a:Int)<(ps.length:Int)
   ·have hg:=ug (ps:=ps) (i:=a) (by omega)
    by_cases hx:(jG ps a).eR=p.eR
    ·have tY:decide ((jG ps a).eR=p.eR)=true:=decide_eq_true hx
     have TL:decide ((jG ps a).eM=p.eM)=false:=decide_eq_false fun h=>hex ⟨by omega,wP hx h⟩
     (try((repeat(revert hN;revert N;apply Pn.out));refine wk (tw @f5 (tw @f0 (tw @f3 (tw @fg0 (tw @fg1 (tw @Jj (tw @hg (tw @tY (tw @TL (tw @yE @ab.eq_1)))))))))) ?_;(repeat(refine Pn.mk ?_;intro N hN))))
     exact⟨sd @f5,sd @f0,sd @f3,sd (tw @fg0 @ab.eq_1),sd @fg1,by(try dsimp only);omega,fun x hx=>sd (ffr x hx)⟩
    ·have tY:decide ((jG ps a).eR=p.eR)=false:=decide_eq_false hx
     (try((repeat(revert hN;revert N;apply Pn.out));refine wk (tw @f5 (tw @f0 (tw @f3 (tw @fg0 (tw @fg1 (tw @Jj (tw @hg (tw @tY (tw @Bool.false_and (tw @yE @ab.eq_1)))))))))) ?_;(repeat(refine Pn.mk ?_;intro N hN))))
     exact⟨sd @f5,sd @f0,sd @f3,sd (tw @fg0 @ab.eq_1),sd @fg1,by(try dsimp only);omega,fun x hx=>sd (ffr x hx)⟩
   ·(try((repeat(revert hN;revert N;apply Pn.out));refine wk (tw @f5 (tw @f0 (tw @f3 (tw @fg0 (tw @fg1 (tw @Jj (tw @yE @ab.eq_1))))))) ?_;(repeat(refine Pn.mk ?_;intro N hN))))
    exact⟨sd @f5,sd @f0,sd @f3,sd (tw @fg0 @ab.eq_1),sd @fg1,by(try dsimp only);omega,fun x hx=>sd (ffr x hx)⟩
 intro N hN
 refine aM (fun m env st=>∃a:Nat,m=a/\jS ps p<=a/\a<=ps.length/\env 5=.int .i64 (a:Int)/\st.get ⟨223000000,σ.next⟩=some ⟨true,2,[ab p]⟩/\st.get o=some ⟨true,2,ps.map ab⟩/\σ.next<st.next/\∀x:Id,x.bj<σ.next->st.get x=σ.get x) ps.length ⟨ps.length,rfl,Tx,Nat.le_refl _,sd @Nat.zero_add,sd @ab.eq_1,sd (tw @qS @ho),by(try dsimp only);omega,fun x hx=>by have:=dB hx;simp only[go_sem, ↓reduceIte,Nat.reduceEqDiff,Nat.reduceAdd,Nat.reduceSub,Nat.reduceLeDiff,reduceCtorEq,this]⟩ ?_
 rintro m env_a st_a ⟨a,hma,al,ale,a5,ag0,ag1,an,di⟩ akp
 have a0:=akp 0 (by kernel_rfl)
 have a3:=akp 3 (by kernel_rfl)
 simp only[go_sem, ↓reduceIte,Nat.reduceEqDiff,Nat.reduceAdd,Nat.reduceSub,Nat.reduceLeDiff,reduceCtorEq,ab]at a0 a3
 clear akp
 by_cases h0:(0:Int)<(a:Int)
 ·obtain⟨b,rfl⟩:∃b,a=b+1:=⟨a-1,by omega⟩
  have oe:b<ps.length:=by omega
  have fD:(b:Int)<(ps.length:Int):=by omega
  have hg:=ug oe
  have hw:IntKind.i64.wrap (((b+1:Nat):Int)-1)=(b:Int):=by rw[br (by omega)];omega
  have hq:=oz (jG ps b) p
  cases hc:kO (jG ps b) p
  ·rw[hc]at hq
   (repeat(first|((repeat(revert hN;revert N;apply Pn.out));refine wk (tw @a0 (tw @a3 (tw @a5 (tw @ag0 (tw @ag1 (tw @h0 (tw @fD (tw @hg (tw @hw (tw @yE @ab.eq_1)))))))))) ?_;(repeat(refine Pn.mk ?_;intro N hN)))|((try apply Or.inl);refine⟨_,ar.x (hq) (sd (tw @a0 (tw @a3 (tw @a5 (tw @ag0 (tw @ag1 (tw @h0 (tw @fD (tw @hg (tw @hw (tw @yE @ab.eq_1))))))))))),?_⟩;refine hN _ _ ?_;clear hN N)))
   refine⟨b,by omega,b,rfl,?_,by omega,sd @hw,sd (tw @ag0 @ab.eq_1),sd @ag1,by(try dsimp only);omega,fun x hx=>sd (di x hx)⟩
   rcases Nat.lt_or_ge b (jS ps p)with h|h
   ·rw[FZ h]at hc;cases hc
   ·exact h
  ·rw[hc]at hq
   have ke:jS ps p=b+1:=by
    rcases Nat.lt_or_ge b (jS ps p)with h|h
    ·omega
    ·have:=z7 (p:=p) hR h oe
     rw[hc]at this;cases this
   (repeat(first|((repeat(revert hN;revert N;apply Pn.out));refine wk (tw @a0 (tw @a3 (tw @a5 (tw @ag0 (tw @ag1 (tw @h0 (tw @fD (tw @hg (tw @hw (tw @yE @ab.eq_1)))))))))) ?_;(repeat(refine Pn.mk ?_;intro N hN)))|((try apply Or.inl);refine⟨_,ar.x (hq) (sd (tw @a0 (tw @a3 (tw @a5 (tw @ag0 (tw @ag1 (tw @h0 (tw @fD (tw @hg (tw @hw (tw @yE @ab.eq_1))))))))))),?_⟩;refine hN _ _ ?_;clear hN N)))
   exact⟨sd (tw @a5 @ke),sd @a0,sd @a3,sd (tw @ag0 @ab.eq_1),sd @ag1,by(try dsimp only);omega,fun x hx=>sd (di x hx)⟩
 ·have ke:jS ps p=a:=by omega
  (try((repeat(revert hN;revert N;apply Pn.out));refine wk (tw @a0 (tw @a3 (tw @a5 (tw @ag0 (tw @ag1 (tw @h0 (tw @yE @ab.eq_1))))))) ?_;(repeat(refine Pn.mk ?_;intro N hN))))
  exact⟨sd (tw @a5 @ke),sd @a0,sd @a3,sd (tw @ag0 @ab.eq_1),sd @ag1,by(try dsimp only);omega,fun x hx=>sd (di x hx)⟩
def jw (l:List ae) (ps:List ah) (q:ah):List ah:=if Ao q=true/\eO l q<0 then qe ps q else ps
def e8 (l:List ae) (ps:List ah) (p:ah):Nat->List ah
 |0=>ps
 |d+1=>jw l (e8 l ps p d) (bd p d)
def eL (l:List ae):Nat->List ah
 |0=>[]
 |i+1=>e8 l (eL l i) (aV l i).bH 4
def jv (l:List ae):List ah:=eL l l.length
theorem Ah {l:List ae} {ps:List ah} (h:mU ps) (q:ah):mU (jw l ps q):=by
 unfold jw;split
 ·exact Kj h q
 ·exact h
theorem q9 {l:List ae} {ps:List ah} (h:mU ps) (p:ah):∀d,mU (e8 l ps p d)
 |0=>h
 |d+1=>Ah (q9 h p d) _
theorem re (l:List ae):∀i,mU (eL l i)
 |0=>List.Pairwise.nil
 |i+1=>q9 (re l i) _ 4
theorem Af (l:List ae) (ps:List ah) (q:ah):(jw l ps q).length<=ps.length+1:=by
 unfold jw;split
 ·exact Ki ps q
 ·omega
theorem qZ (l:List ae) (ps:List ah) (p:ah):∀d,(e8 l ps p d).length<=ps.length+d
 |0=>Nat.le_refl _
 |d+1=>by
  have:=qZ l ps p d
  have:=Af l (e8 l ps p d) (bd p d)
  simp only[e8];omega
theorem lf (l:List ae):∀i,(eL l i).length<=i*4
 |0=>Nat.le_refl _
 |i+1=>by
  have:=lf l i
  have:=qZ l (eL l i) (aV l i).bH 4
  simp only[eL];omega
theorem wD (l:List ae) (ps:List ah) (p:ah) (x:ah):∀d,x∈e8 l ps p d↔x∈ps∨∃k,k<d/\x=bd p (k:Nat)/\Ao x=true/\eO l x<0
 |0=>⟨.inl,fun h=>h.elim id fun⟨_,h,_⟩=>absurd h (Nat.not_lt_zero _)⟩
 |d+1=>by
  simp only[e8,jw]
  have ih:=wD l ps p x d
  split
  ·rename_i h
   rw[JY,ih]
   constructor
   ·rintro(rfl|h1|⟨k,h1,h2⟩)
    ·exact .inr ⟨d,Nat.lt_succ_self _,rfl,h⟩
    ·exact .inl h1
    ·exact .inr ⟨k,by omega,h2⟩
   ·rintro(h1|⟨k,h1,h2⟩)
    ·exact .inr (.inl h1)
    ·by_cases hk:k=d
     ·subst hk;exact .inl h2.1
     ·exact .inr (.inr ⟨k,by omega,h2⟩)
  ·rename_i h
   rw[ih]
   constructor
   ·rintro(h1|⟨k,h1,h2⟩)
    ·exact .inl h1
    ·exact .inr ⟨k,by omega,h2⟩
   ·rintro(h1|⟨k,h1,h2⟩)
    ·exact .inl h1
    ·by_cases hk:k=d
     ·subst hk;rw[h2.1]at h2;exact absurd h2.2 h
     ·exact .inr ⟨k,by omega,h2⟩
def A8 (l:List ae) (x:ah):Prop:=Ao x=true/\eO l x<0/\∃i d:Nat,i<l.length/\d<4/\x=bd (aV l i).bH d
theorem wE (l:List ae) (x:ah):∀i,x∈eL l i↔∃j d:Nat,j<i/\d<4/\x=bd (aV l j).bH d/\Ao x=true/\eO l x<0
 |0=>⟨fun h=>(by cases h),fun⟨_,_,h,_⟩=>absurd h (Nat.not_lt_zero _)⟩
 |i+1=>by
  simp only[eL]
  rw[wD,wE l x i]
  constructor
  ·rintro(⟨j,d,h1,h2⟩|⟨d,h1,h2⟩)
   ·exact⟨j,d,by omega,h2⟩
   ·exact⟨i,d,Nat.lt_succ_self _,h1,h2⟩
  ·rintro⟨j,d,h1,h2,h3⟩
   by_cases hj:j=i
   ·subst hj;exact .inr ⟨d,h2,h3⟩
   ·exact .inl ⟨j,d,by omega,h2,h3⟩
theorem yS (l:List ae) (x:ah):x∈jv l↔A8 l x:=by
 unfold jv A8
 rw[wE]
 exact⟨fun⟨j,d,h1,h2,h3,h4,h5⟩=>⟨h4,h5,j,d,h1,h2,h3⟩,fun⟨h4,h5,j,d,h1,h2,h3⟩=>⟨j,d,h1,h2,h3,h4,h5⟩⟩
theorem Hj (l:List ae) (hF:kD l) (σ:ax):Call Tryz.prog 147 [.dn [.sl (l.map ai)]] σ (QX σ (fun _=>True) (jv l)):=by
 refine eZ eG rfl fun lG=>?_
 clear lG
 have hR:=hF.NS
 have GZ:=hF.BC
 (try((repeat(revert hN;revert N;apply Pn.out));refine wk @Nat.zero_add ?_;(repeat(refine Pn.mk ?_;intro N hN))))
 refine aM (fun n env st=>∃i:Nat,n=(l.length)-i/\i<=(l.length)/\env 4=.int .i64 (i:Int)/\(∃o:Id,env 3=.own o 0 (eL l i).length/\st.get o=some ⟨true,2,(eL l i).map ab⟩/\o.bj<st.next/\σ.next<=o.bj/\∀x:Id,x.bj<σ.next->st.get x=σ.get x)) (l.length) ⟨0,by omega,by omega,sl @Nat.zero_add,⟨⟨147001000,σ.next+1⟩,by simp only[go_sem, ↓reduceIte,Nat.reduceEqDiff,Nat.reduceAdd,Nat.reduceSub,Nat.reduceLeDiff,reduceCtorEq];rfl,by simp only[go_sem, ↓reduceIte,Nat.reduceEqDiff,Nat.reduceAdd,Nat.reduceSub,Nat.reduceLeDiff,reduceCtorEq];rfl,by(try dsimp only);omega,by(try dsimp only);omega,fun x hx=>by
  have:=dB (i:=x) (n:=σ.next+1) (by omega)
  simp only[go_sem, ↓reduceIte,Nat.reduceEqDiff,Nat.reduceAdd,Nat.reduceSub,Nat.reduceLeDiff,reduceCtorEq,this]⟩⟩ ?_
 rintro n_a env_a st_a ⟨i,rfl,ale,a4,j8⟩ di
 have a0:=di 0 (by kernel_rfl)
 simp only[go_sem, ↓reduceIte,Nat.reduceEqDiff,Nat.reduceAdd,Nat.reduceSub,Nat.reduceLeDiff,reduceCtorEq]at a0
 clear di
 obtain⟨o,a3,ag,Q3,SZ,di⟩:=j8
 by_cases hi:(i:Int)<(l.length:Int)
 ·have cm:∀{e:Env} {gg:Rows} {nx:Nat},(e 4=.int .i64 (IntKind.i64.wrap ((i:Int)+1)))->(∃o:Id,e 3=.own o 0 (eL l (i+1)).length/\gg o=some ⟨true,2,(eL l (i+1)).map ab⟩/\o.bj<nx/\σ.next<=o.bj/\∀x:Id,x.bj<σ.next->gg x=σ.get x)->∃m0,m0<(l.length)-i/\∃i:Nat,m0=(l.length)-i/\i<=(l.length)/\e 4=.int .i64 (i:Int)/\(∃o:Id,e 3=.own o 0 (eL l i).length/\gg o=some ⟨true,2,(eL l i).map ab⟩/\o.bj<nx/\σ.next<=o.bj/\∀x:Id,x.bj<σ.next->gg x=σ.get x):=fun x1 x2=>⟨_,by omega,i+1,rfl,by omega,(by rw[x1,ay (by omega)]),x2⟩
  have fB:i<l.length:=by omega
  (try((repeat(revert hN;revert N;apply Pn.out));refine wk (tw @a4 (tw @a0 (tw @a3 @hi))) ?_;(repeat(refine Pn.mk ?_;intro N hN))))
  refine aM (fun n env st=>∃d:Nat,n=(4)-d/\d<=(4)/\env 5=.int .i64 (d:Int)/\(∃o:Id,env 3=.own o 0 (e8 l (eL l i) (aV l i).bH d).length/\st.get o=some ⟨true,2,(e8 l (eL l i) (aV l i).bH d).map ab⟩/\o.bj<st.next/\σ.next<=o.bj/\∀x:Id,x.bj<σ.next->st.get x=σ.get x)) (4) ⟨0,by omega,by omega,sl (tw @a4 @a0),⟨o,by simp only[go_sem, ↓reduceIte,Nat.reduceEqDiff,Nat.reduceAdd,Nat.reduceSub,Nat.reduceLeDiff,reduceCtorEq,a3,e8],by simp only[go_sem, ↓reduceIte,Nat.reduceEqDiff,Nat.reduceAdd,Nat.reduceSub,Nat.reduceLeDiff,reduceCtorEq,ag,e8],by(try dsimp only);omega,SZ,fun x hx=>sd (di x hx)⟩⟩ ?_
  rintro n_b env_b st_b ⟨d,rfl,ble,b5,bI0⟩ e7
  have b0:=e7 0 (by kernel_rfl);have b4:=e7 4 (by kernel_rfl)
  simp only[go_sem, ↓reduceIte,Nat.reduceEqDiff,Nat.reduceAdd,Nat.reduceSub,Nat.reduceLeDiff,reduceCtorEq,a4,a0]at b0 b4
  clear e7
  obtain⟨ob,b3,bg,bov,Nr,e7⟩:=bI0
  by_cases hd:(d:Int)<4
  ·have ft:∀{e:Env} {gg:Rows} {nx:Nat},(e 5=.int .i64 (IntKind.i64.wrap ((d:Int)+1)))->(∃o:Id,e 3=.own o 0 (e8 l (eL l i) (aV l i).bH (d+1)).length/\gg o=some ⟨true,2,(e8 l (eL l i) (aV l i).bH (d+1)).map ab⟩/\o.bj<nx/\σ.next<=o.bj/\∀x:Id,x.bj<σ.next->gg x=σ.get x)->∃m0,m0<(4)-d/\∃d:Nat,m0=(4)-d/\d<=(4)/\e 5=.int .i64 (d:Int)/\(∃o:Id,e 3=.own o 0 (e8 l (eL l i) (aV l i).bH d).length/\gg o=some ⟨true,2,(e8 l (eL l i) (aV l i).bH d).map ab⟩/\o.bj<nx/\σ.next<=o.bj/\∀x:Id,x.bj<σ.next->gg x=σ.get x):=fun x1 x2=>⟨_,by omega,d+1,rfl,by omega,(by rw[x1,ay (by omega)]),x2⟩
   have kJ:=fC fB
   have NG:=tu (hF.pt fB)
   have dQ:=tp (aV l i).bH d (jr (by omega)) NG.1 NG.2
   have R0:=wj (bd (aV l i).bH d)
   have kS:=dB bov
   have yE:((e8 l (eL l i) (aV l i).bH d).map ab).length=(e8 l (eL l i) (aV l i).bH d).length:=by simp
   cases hp:Ao (bd (aV l i).bH d)
   ·rw[hp]at R0
    have pD:e8 l (eL l i) (aV l i).bH (d+1)=e8 l (eL l i) (aV l i).bH d:=by
     simp only[e8,jw];rw[if_neg fun h=>by rw[hp]at h;cases h.1]
    (repeat(first|((repeat(revert hN;revert N;apply Pn.out));refine wk (tw @b5 (tw @b0 (tw @b4 (tw @b3 (tw @bg (tw @hd (tw @kJ (tw @kS (tw @ai.eq_1 @ab.eq_1))))))))) ?_;(repeat(refine Pn.mk ?_;intro N hN)))|((try apply Or.inl);refine⟨_,ar.x (dQ) (sd (tw @b5 (tw @b0 (tw @b4 (tw @b3 (tw @bg (tw @hd (tw @kJ (tw @kS (tw @ai.eq_1 @ab.eq_1)))))))))),?_⟩;refine hN _ _ ?_;clear hN N)|((try apply Or.inl);refine⟨_,ar.x (R0) (sd (tw @b5 (tw @b0 (tw @b4 (tw @b3 (tw @bg (tw @hd (tw @kJ (tw @kS (tw @ai.eq_1 @ab.eq_1)))))))))),?_⟩;refine hN _ _ ?_;clear hN N)))
    exact ft (sd (tw @b5 (tw @b0 (tw @b4 @ab.eq_1)))) (by exact⟨ob,sd (tw @b3 @pD),sd (tw @bg (tw @kS @pD)),by(try dsimp only);omega,Nr,fun x hx=>by
     have h1:=dB (i:=x) (n:=st_b.next) (by omega)
     have h2:=dB (i:=x) (n:=st_b.next+1) (by omega)
     have h3:=e7 x hx
     simp only[go_sem, ↓reduceIte,Nat.reduceEqDiff,Nat.reduceAdd,Nat.reduceSub,Nat.reduceLeDiff,reduceCtorEq,h1,h2,h3]⟩)
   ·rw[hp]at R0
    have C7:=qV l (bd (aV l i).bH d) hR (by omega)
    by_cases hx:eO l (bd (aV l i).bH d)<0
    ·have pD:e8 l (eL l i) (aV l i).bH (d+1)=qe (e8 l (eL l i) (aV l i).bH d) (bd (aV l i).bH d):=by
      simp only[e8,jw];rw[if_pos ⟨hp,hx⟩]
     have hl1:=qZ l (eL l i) (aV l i).bH d
     have hl2:=lf l i
     (repeat(first|((repeat(revert hN;revert N;apply Pn.out));refine wk (tw @b5 (tw @b0 (tw @b4 (tw @b3 (tw @bg (tw @hd (tw @kJ (tw @kS (tw @hx (tw @ai.eq_1 @ab.eq_1)))))))))) ?_;(repeat(refine Pn.mk ?_;intro N hN)))|((try apply Or.inl);refine⟨_,ar.x (dQ) (sd (tw @b5 (tw @b0 (tw @b4 (tw @b3 (tw @bg (tw @hd (tw @kJ (tw @kS (tw @hx (tw @ai.eq_1 @ab.eq_1))))))))))),?_⟩;refine hN _ _ ?_;clear hN N)|((try apply Or.inl);refine⟨_,ar.x (R0) (sd (tw @b5 (tw @b0 (tw @b4 (tw @b3 (tw @bg (tw @hd (tw @kJ (tw @kS (tw @hx (tw @ai.eq_1 @ab.eq_1))))))))))),?_⟩;refine hN _ _ ?_;clear hN N)|((try apply Or.inl);refine⟨_,ar.x (C7) (sd (tw @b5 (tw @b0 (tw @b4 (tw @b3 (tw @bg (tw @hd (tw @kJ (tw @kS (tw @hx (tw @ai.eq_1 @ab.eq_1))))))))))),?_⟩;refine hN _ _ ?_;clear hN N)))
     refine .inr (aJ _ _ _ _ _ (fun r σ1 hq=>?_) (xT _ (q9 (re l i) _ d) (by omega) (bd (aV l i).bH d) ob _ (sd (tw @bg @kS)) (by(try dsimp only);omega)))
     obtain⟨g1,x1⟩:=σ1
     obtain⟨o1,rfl,q1,q2,q3,q4,q5⟩:=hq
     (try dsimp only at q1 q2 q3 q4 q5)
     refine hN _ _ ?_
     clear hN N
     (try((repeat(revert hN;revert N;apply Pn.out));refine wk (tw @b5 (tw @b0 @b4)) ?_;(repeat(refine Pn.mk ?_;intro N hN))))
     exact ft (sd (tw @b5 (tw @b0 (tw @b4 @ab.eq_1)))) (by exact⟨o1,sd @pD,sd (tw @q1 @pD),by(try dsimp only);omega,by
      rcases q4 with h|h
      ·omega
      ·have:o1=ob:=by simpa using h
       rw[this];exact Nr,fun x hx=>by
      have h1:=dB (i:=x) (n:=st_b.next) (by omega)
      have h2:=dB (i:=x) (n:=st_b.next+1) (by omega)
      have h3:=e7 x hx
      have h4:(x=ob)=False:=eq_false fun h=>by rw[h]at hx;omega
      have h5:=q5 x (by omega) h4
      simp only[go_sem, ↓reduceIte,Nat.reduceEqDiff,Nat.reduceAdd,Nat.reduceSub,Nat.reduceLeDiff,reduceCtorEq,h1,h2,h3,h5]⟩)
    ·have pD:e8 l (eL l i) (aV l i).bH (d+1)=e8 l (eL l i) (aV l i).bH d:=by
      simp only[e8,jw];rw[if_neg fun h=>hx h.2]
     (repeat(first|((repeat(revert hN;revert N;apply Pn.out));refine wk (tw @b5 (tw @b0 (tw @b4 (tw @b3 (tw @bg (tw @hd (tw @kJ (tw @kS (tw @hx (tw @ai.eq_1 @ab.eq_1)))))))))) ?_;(repeat(refine Pn.mk ?_;intro N hN)))|((try apply Or.inl);refine⟨_,ar.x (dQ) (sd (tw @b5 (tw @b0 (tw @b4 (tw @b3 (tw @bg (tw @hd (tw @kJ (tw @kS (tw @hx (tw @ai.eq_1 @ab.eq_1))))))))))),?_⟩;refine hN _ _ ?_;clear hN N)|((try apply Or.inl);refine⟨_,ar.x (R0) (sd (tw @b5 (tw @b0 (tw @b4 (tw @b3 (tw @bg (tw @hd (tw @kJ (tw @kS (tw @hx (tw @ai.eq_1 @ab.eq_1))))))))))),?_⟩;refine hN _ _ ?_;clear hN N)|((try apply Or.inl);refine⟨_,ar.x (C7) (sd (tw @b5 (tw @b0 (tw @b4 (tw @b3 (tw @bg (tw @hd (tw @kJ (tw @kS (tw @hx (tw @ai.eq_1 @ab.eq_1))))))))))),?_⟩;refine hN _ _ ?_;clear hN N)))
     exact ft (sd (tw @b5 (tw @b0 (tw @b4 @ab.eq_1)))) (by exact⟨ob,sd (tw @b3 @pD),sd (tw @bg (tw @kS @pD)),by(try dsimp only);omega,Nr,fun x hx=>by
      have h1:=dB (i:=x) (n:=st_b.next) (by omega)
      have h2:=dB (i:=x) (n:=st_b.next+1) (by omega)
      have h3:=e7 x hx
      simp only[go_sem, ↓reduceIte,Nat.reduceEqDiff,Nat.reduceAdd,Nat.reduceSub,Nat.reduceLeDiff,reduceCtorEq,h1,h2,h3]⟩)
  ·have RD:d=4:=by omega
   rw[RD]at b3 bg
   have hnu:e8 l (eL l i) (aV l i).bH 4=eL l (i+1):=rfl
   rw[hnu]at b3 bg
   (try((repeat(revert hN;revert N;apply Pn.out));refine wk (tw @b5 (tw @b0 (tw @b4 (tw @b3 (tw @bg @hd))))) ?_;(repeat(refine Pn.mk ?_;intro N hN))))
   exact cm (sd (tw @b5 (tw @b0 (tw @b4 @ab.eq_1)))) (by exact⟨ob,sd @b3,sd @bg,by(try dsimp only);omega,Nr,fun x hx=>sd (e7 x hx)⟩)
 ·have nR:i=l.length:=by omega
  (try((repeat(revert hN;revert N;apply Pn.out));refine wk (tw @a4 (tw @a0 (tw @a3 (tw @ag @hi)))) ?_;(repeat(refine Pn.mk ?_;intro N hN))))
  exact fq (.inl rfl) (vs:=[.own o 0 (eL l i).length]) (sd @a3) ⟨o,by rw[jv,<-nR];rfl,by rw[jv,<-nR];simp only[go_sem, ↓reduceIte,Nat.reduceEqDiff,Nat.reduceAdd,Nat.reduceSub,Nat.reduceLeDiff,reduceCtorEq,ag],by(try dsimp only);omega,by(try dsimp only);omega,.inl SZ,fun x hx _=>sd (di x hx)⟩
structure Ql (g:Rows) (n:Nat) (A S C c T O:Id) (s:aE) (l:List ae):Prop where
 a:∃b,g A=some ⟨b,1,[[.sl (l.map ai)]]⟩
 sy:∃b,g S=some ⟨b,4,[aD s]⟩
 p:∃b,g C=some ⟨b,1,[[.ptr c 0 0]]⟩
 KZ:zj g n c T O s l
 av:A.bj<n
 sv:S.bj<n
 pv:C.bj<n
theorem Ql.ro {g:Rows} {n:Nat} {A S C c T O:Id} {s:aE} {l:List ae} (h:Ql g n A S C c T O s l):Ql (V.ro g) n A S C c T O s l:=by
 obtain⟨b,h1⟩:=h.a
 obtain⟨b2,h2⟩:=h.sy
 obtain⟨b3,h3⟩:=h.p
 exact⟨⟨false,by simp[V.ro,h1]⟩,⟨false,by simp[V.ro,h2]⟩,⟨false,by simp[V.ro,h3]⟩,h.KZ.ro,h.av,h.sv,h.pv⟩
theorem Ql.frame {g g':Rows} {n n':Nat} {A S C c T O:Id} {s:aE} {l:List ae} (h:Ql g n A S C c T O s l) (hn:n<=n') (hf:∀x:Id,x.bj<n->g' x=g x):Ql g' n' A S C c T O s l:=
 ⟨by rw[hf _ h.av];exact h.a,by rw[hf _ h.sv];exact h.sy,by rw[hf _ h.pv];exact h.p,h.KZ.frame hn (hf _ h.KZ.cv) (hf _ h.KZ.tv),Nat.lt_of_lt_of_le h.av hn,Nat.lt_of_lt_of_le h.sv hn,Nat.lt_of_lt_of_le h.pv hn⟩
def IH (B:ah->Int->Bool) (p:ah):Nat->List ae
 |0=>[]
 |t+1=>if B p (t:Nat)=true then IH B p t++[⟨p,(t:Nat)⟩]else IH B p t
def sZ (B:ah->Int->Bool) (m:Nat) (ps:List ah):List ae:=ps.flatMap fun p=>IH B p m
theorem Fm (B:ah->Int->Bool) (p:ah):∀t,(IH B p t).length<=t
 |0=>by simp[IH]
 |t+1=>by
  have:=Fm B p t
  rw[IH]
  split
  ·rw[List.length_append,List.length_singleton];omega
  ·omega
theorem uK (B:ah->Int->Bool) (m:Nat):∀ps:List ah,(sZ B m ps).length<=ps.length*m
 |[]=>by simp[sZ]
 |p::ps=>by
  have h:=uK B m ps
  have h2:=Fm B p m
  unfold sZ at *
  rw[List.flatMap_cons,List.length_append,List.length_cons,Nat.add_mul,Nat.one_mul]
  omega
theorem Bi {B:ah->Int->Bool} {m:Nat} {ps:List ah} {k:Nat} (hk:k<ps.length):sZ B m (ps.take (k+1))=sZ B m (ps.take k)++IH B (jG ps k) m:=by
 unfold sZ
 rw[List.take_succ_eq_append_getElem hk,List.flatMap_append,jU hk]
 simp
end Go.Proofs.YtgoljkjaameagaaGreat.V

namespace Go.Proofs.YtgoljkjaameagaaGreat.V
open Go.RowKit
def Ap:List ae->ae->List ae
 |[],q=>[q]
 |x::r,q=>if kO q.bH x.bH=true then q::x::r else x::Ap r q
theorem wG {q x:ae}:∀{l:List ae},x∈Ap l q↔x=q∨x∈l
 |[]=>by simp[Ap]
 |y::r=>by
  have ih:=@wG q x r
  rw[Ap]
  split
  ·simp
  ·simp only[List.mem_cons,ih]
   constructor
   ·rintro(h|h|h)<;>simp[h]
   ·rintro(h|h|h)<;>simp[h]
theorem CD (q:ae):∀l:List ae,(Ap l q).length=l.length+1
 |[]=>rfl
 |y::r=>by
  have ih:=CD q r
  rw[Ap]
  split
  ·simp
  ·simp[ih]
theorem w8 {l:List ae}:sW l↔l.Pairwise fun a b=>kO a.bH b.bH=true:=by
 rw[List.pairwise_iff_getElem]
 constructor
 ·intro h i j hi hj D6
  have:=h i j D6 hj
  rwa [gQ hi,gQ hj]at this
 ·intro h i j D6 hj
  have:=h i j (by omega) hj D6
  rwa [gQ (by omega),gQ hj]
theorem Mg {l:List ae} {p:ah}:eO l p<0↔∀t∈l,t.bH≠p:=Cb
theorem Kh {q:ae}:∀{l:List ae},sW l->eO l q.bH<0->sW (Ap l q):=by
 intro l
 rw[w8,w8,Mg]
 induction l with
 |nil=>intro _ _;exact List.pairwise_singleton _ _
 |cons y r ih=>
  intro h hn
  obtain⟨h1,h2⟩:=List.pairwise_cons.1 h
  rw[Ap]
  split
  ·rename_i hl
   refine List.pairwise_cons.2 ⟨fun x hx=>?_,h⟩
   rcases List.mem_cons.1 hx with rfl|hx
   ·exact hl
   ·exact iz hl (h1 x hx)
  ·rename_i hl
   rw[Bool.not_eq_true]at hl
   refine List.pairwise_cons.2 ⟨fun x hx=>?_,ih h2 fun t ht=>hn t (by simp[ht])⟩
   rcases wG.1 hx with rfl|hx
   ·exact Aa hl fun e=>hn y (by simp) e.symm
   ·exact h1 x hx
theorem mH {α:Type} [DecidableEq α]:∀{xs ys:List α},xs.Nodup->(∀x∈xs,x∈ys)->xs.length<=ys.length
 |[],_,_,_=>Nat.zero_le _
 |x::xs,ys,hn,h=>by
  obtain⟨h1,h2⟩:=List.nodup_cons.1 hn
  have hx:=h x (by simp)
  have:=@mH α _ xs (ys.erase x) h2 fun y hy=>(List.mem_erase_of_ne fun e=>h1 (by rw[<-e];exact hy)).2 (h y (by simp[hy]))
  rw[List.length_erase_of_mem hx]at this
  have:=List.length_pos_of_mem hx
  rw[List.length_cons];omega
theorem HE {l:List ae} (h:sW l):l.Nodup:=by
 rw[w8]at h
 refine List.Pairwise.imp (fun {a b} od e=>?_) h
 rw[e,nq]at od;cases od
abbrev Is:=List ae×List ae
noncomputable def FR (s:aE) (st:Is) (x:ae):Is:=if eJ s st.2 x.bH x.bx=true then(st.1++[x],Ap st.2 x)else st
structure It (s:aE) (l:List ae) (st:Is):Prop where
 NS:sW st.2
 sub:∀x∈st.2,x∈l
 done:∀x∈st.1,x∈l
 len:st.2.length=s.cw.ad.length+st.1.length
theorem It.BC {s:aE} {l:List ae} {st:Is} (h:It s l st):st.2.length<=l.length:=by
 classical
 exact mH (HE h.NS) h.sub
theorem I8 {s:aE} {l:List ae} (hA:kn s.aB l) {now:List ae} (hs:∀x∈now,x∈l) {p:ah} {t:Int} (h:eJ s now p t=true):eO now p<0:=by
 rcases Int.lt_or_le (eO now p) 0 with h0|h0
 ·exact h0
 ·exfalso
  obtain⟨h1,_⟩:=kM h0
  have h2:=(dX (hA.2 _ (hs _ (gT h1)))).1
  simp[eJ,gR,h0]at h
  omega
theorem It.step {s:aE} {l:List ae} {st:Is} (h:It s l st) (hA:kn s.aB l) {x:ae} (hx:x∈l):It s l (FR s st x):=by
 unfold FR
 split
 ·rename_i hf
  have h0:=I8 hA h.sub hf
  exact⟨Kh h.NS h0,fun y hy=>by rcases wG.1 hy with rfl|hy;exact hx;exact h.sub y hy,fun y hy=>by
   rcases List.mem_append.1 hy with hy|hy
   ·exact h.done y hy
   ·rw[List.mem_singleton.1 hy];exact hx,by rw[CD,List.length_append,List.length_singleton,h.len];omega⟩
 ·exact h
structure TZ (s:aE):Prop where
 set:ik s.aB
 Kt:kn s.aB s.cw.ad
 some:1<=s.cw.ad.length
 HR:gJ s.az 1 16=true
theorem zl.w {s:aE} (h:zl s):TZ s:=⟨h.set,h.Kt,h.some,h.HR⟩
def ku (B:ah->Int->Bool) (p:ah):Nat->List Int
 |0=>[]
 |t+1=>if B p (t:Nat)=true then ku B p t++[(t:Int)]else ku B p t
theorem rT (B:ah->Int->Bool) (p:ah):∀t,(ku B p t).length<=t
 |0=>by simp[ku]
 |t+1=>by
  have:=rT B p t
  rw[ku]
  split
  ·rw[List.length_append,List.length_singleton];omega
  ·omega
theorem Jf (B:ah->Int->Bool) (p:ah):∀t,∀k∈ku B p t,0<=k/\k<(t:Int)
 |0,k,h=>by simp[ku]at h
 |t+1,k,h=>by
  have ih:=Jf B p t
  rw[ku]at h
  split at h
  ·rcases List.mem_append.1 h with h|h
   ·have:=ih k h;omega
   ·rw[List.mem_singleton.1 h];omega
  ·have:=ih k h;omega
theorem vE (B:ah->Int->Bool) (p:ah):∀t,IH B p t=(ku B p t).map fun k=>(⟨p,k⟩:ae)
 |0=>rfl
 |t+1=>by
  rw[IH,ku,vE B p t]
  split<;>simp
theorem FF {B:ah->Int->Bool} {p:ah} (h:∀t:Nat,B p t=false):∀t,ku B p t=[]
 |0=>rfl
 |t+1=>by rw[ku,if_neg (by rw[h t];simp),FF h t]
theorem BJ {B:ah->Int->Bool} {p:ah}:∀{t:Nat},ku B p t≠[]->∃k:Nat,k<t/\B p k=true
 |0,h=>absurd rfl h
 |t+1,h=>by
  rw[ku]at h
  split at h
  ·rename_i hb;exact⟨t,Nat.lt_succ_self t,hb⟩
  ·obtain⟨k,hk,hb⟩:=BJ h
   exact⟨k,Nat.lt_succ_of_lt hk,hb⟩
theorem yv {B C:ah->Int->Bool} {p:ah} (h:∀t:Nat,B p t=C p t):∀t,ku B p t=ku C p t
 |0=>rfl
 |t+1=>by rw[ku,ku,h t,yv h t]
abbrev En:=ah×AV
def pZ (e:En):List AV:=[.int .i64 e.1.eR,.int .i64 e.1.eM,e.2]
def nw:List En->ah->AV->List En
 |[],q,v=>[(q,v)]
 |e::es,q,v=>if e.1=q then(q,v)::es else e::nw es q v
def rQ:List En->ah->List En
 |[],_=>[]
 |e::es,q=>if e.1=q then es else e::rQ es q
theorem wH {q:ah} {v:AV} {x:En}:∀{es:List En},x.1≠q->(x∈nw es q v↔x∈es)
 |[],h=>by
  rw[nw,List.mem_singleton]
  exact⟨fun e=>absurd (by rw[e]) h,fun e=>by cases e⟩
 |e::es,h=>by
  have ih:=@wH q v x es h
  rw[nw]
  split
  ·rename_i he
   rw[List.mem_cons,List.mem_cons]
   exact⟨fun h1=>h1.elim (fun e=>absurd (by rw[e]) h) .inr,fun h1=>h1.elim (fun e'=>absurd (by rw[e'];exact he) h) .inr⟩
  ·rw[List.mem_cons,List.mem_cons,ih]
theorem y5 (q:ah) (v:AV):∀es:List En,(q,v)∈nw es q v
 |[]=>by simp[nw]
 |e::es=>by
  have ih:=y5 q v es
  rw[nw]
  split
  ·simp
  ·exact List.mem_cons_of_mem _ ih
theorem Cg {q:ah} {v:AV} {p:ah}:∀{es:List En},p∈(nw es q v).map (·.1)->p=q∨p∈es.map (·.1)
 |[],h=>by simp[nw]at h;exact .inl h
 |e::es,h=>by
  rw[nw]at h
  split at h
  ·simp only[List.map_cons,List.mem_cons]at h ⊢
   exact h.imp_right .inr
  ·simp only[List.map_cons,List.mem_cons]at h ⊢
   rcases h with h|h
   ·exact .inr (.inl h)
   ·exact(Cg h).imp_right .inr
theorem wR (q:ah) (v:AV):∀{es:List En},(es.map (·.1)).Nodup->((nw es q v).map (·.1)).Nodup
 |[],_=>by simp[nw]
 |e::es,h=>by
  obtain⟨h1,h2⟩:=List.nodup_cons.1 (show(e.1::es.map (·.1)).Nodup from h)
  rw[nw]
  split
  ·rename_i he
   refine List.nodup_cons.2 ⟨?_,h2⟩
   show q∉_
   rw[<-he];exact h1
  ·rename_i he
   refine List.nodup_cons.2 ⟨fun hc=>?_,wR q v h2⟩
   rcases Cg hc with h3|h3
   ·exact he h3
   ·exact h1 h3
theorem Cp {q:ah} {x:En}:∀{es:List En},x.1≠q->(x∈rQ es q↔x∈es)
 |[],_=>Iff.rfl
 |e::es,h=>by
  have ih:=@Cp q x es h
  rw[rQ]
  split
  ·rename_i he
   rw[List.mem_cons]
   exact⟨.inr,fun h1=>h1.elim (fun e'=>absurd (by rw[e'];exact he) h) id⟩
  ·rw[List.mem_cons,List.mem_cons,ih]
theorem vP {q:ah}:∀{es:List En},(rQ es q).Sublist es
 |[]=>List.Sublist.slnil
 |e::es=>by
  rw[rQ]
  split
  ·exact List.sublist_cons_self _ _
  ·exact(vP (es:=es)).cons_cons _
theorem Du (q:ah) {es:List En} (h:(es.map (·.1)).Nodup):((rQ es q).map (·.1)).Nodup:=((vP (q:=q) (es:=es)).map _).nodup h
theorem Ft {q:ah}:∀{es:List En},(es.map (·.1)).Nodup->∀e∈rQ es q,e.1≠q
 |[],_,e,h=>by cases h
 |x::es,hn,e,h=>by
  obtain⟨h1,h2⟩:=List.nodup_cons.1 (show(x.1::es.map (·.1)).Nodup from hn)
  rw[rQ]at h
  split at h
  ·rename_i hx
   intro he
   exact h1 (by rw[hx,<-he];exact List.mem_map_of_mem h)
  ·rename_i hx
   rcases List.mem_cons.1 h with rfl|h
   ·exact hx
   ·exact Ft h2 e h
theorem Mm {es:List En} (hn:(es.map (·.1)).Nodup) {q:ah} {u v:AV} (h1:(q,u)∈es) (h2:(q,v)∈es):u=v:=by
 induction es with
 |nil=>cases h1
 |cons e es ih=>
  obtain⟨n1,n2⟩:=List.nodup_cons.1 (show(e.1::es.map (·.1)).Nodup from hn)
  rcases List.mem_cons.1 h1 with a|a<;>rcases List.mem_cons.1 h2 with b|b
  ·rw[<-a]at b;injection b with _ b;exact b.symm
  ·exact absurd (by rw[<-a];exact List.mem_map_of_mem (f:=(·.1)) b) n1
  ·exact absurd (by rw[<-b];exact List.mem_map_of_mem (f:=(·.1)) a) n1
  ·exact ih n2 a b
structure vn (g:Rows) (n:Nat) (es:List En) (fs:ah->List Int) (A:ah->Prop):Prop where
 nodup:(es.map (·.1)).Nodup
 at_:∀q,A q->(fs q=[]/\∀e∈es,e.1≠q)∨(fs q≠[]/\∃o:Id,(q,AV.own o 0 (fs q).length)∈es/\o.bj<n/\g o=some ⟨true,1,(fs q).map aw⟩)
theorem vn.mono {g:Rows} {n:Nat} {es:List En} {fs:ah->List Int} {A A':ah->Prop} (h:vn g n es fs A) (hA:∀q,A' q->A q):vn g n es fs A':=⟨h.nodup,fun q hq=>h.at_ q (hA q hq)⟩
theorem vn.frame {g g':Rows} {n n':Nat} {es:List En} {fs:ah->List Int} {A:ah->Prop} (h:vn g n es fs A) (hn:n<=n') (hf:∀x:Id,x.bj<n->(∃k r,g x=some ⟨k,1,r⟩)->g' x=g x):vn g' n' es fs A:=⟨h.nodup,fun q hq=>by
 rcases h.at_ q hq with h1|⟨h1,o,h2,h3,h4⟩
 ·exact .inl h1
 ·exact .inr ⟨h1,o,h2,by omega,(hf o h3 ⟨_,_,h4⟩).trans h4⟩⟩
theorem vn.other {g:Rows} {n:Nat} {es:List En} {fs Rg:ah->List Int} {A A':ah->Prop} (h:vn g n es fs A) (hA:∀q,A' q->A q/\Rg q=fs q):vn g n es Rg A':=⟨h.nodup,fun q hq=>by
 obtain⟨h1,h2⟩:=hA q hq
 rw[h2];exact h.at_ q h1⟩
theorem vn.put {g:Rows} {n:Nat} {es:List En} {fs:ah->List Int} {A:ah->Prop} (h:vn g n es fs A) {q:ah} {o:Id} (h0:fs q≠[]) (ho:o.bj<n) (hg:g o=some ⟨true,1,(fs q).map aw⟩):vn g n (nw es q (.own o 0 (fs q).length)) fs (fun p=>A p∨p=q):=⟨wR _ _ h.nodup,fun p hp=>by
 by_cases e:p=q
 ·subst e
  exact .inr ⟨h0,o,y5 _ _ _,ho,hg⟩
 ·rcases hp with hp|hp
  ·rcases h.at_ p hp with⟨h1,h2⟩|⟨h1,o',h2,h3⟩
   ·refine .inl ⟨h1,fun x hx hxp=>?_⟩
    have hxq:x.1≠q:=fun e'=>e (hxp.symm.trans e')
    exact h2 x ((wH hxq).1 hx) hxp
   ·exact .inr ⟨h1,o',(wH e).2 h2,h3⟩
  ·exact absurd hp e⟩
theorem vn.cut {g:Rows} {n:Nat} {es:List En} {fs:ah->List Int} {A:ah->Prop} (h:vn g n es fs A) {q:ah} (h0:fs q=[]):vn g n (rQ es q) fs (fun p=>A p∨p=q):=⟨Du _ h.nodup,fun p hp=>by
 by_cases e:p=q
 ·subst e
  exact .inl ⟨h0,Ft h.nodup⟩
 ·rcases hp with hp|hp
  ·rcases h.at_ p hp with⟨h1,h2⟩|⟨h1,o',h2,h3⟩
   ·exact .inl ⟨h1,fun x hx=>h2 x (vP.subset hx)⟩
   ·exact .inr ⟨h1,o',(Cp e).2 h2,h3⟩
  ·exact absurd hp e⟩
theorem Cr (p:ah):∀(es:List En) (i:Nat),∃fi,gh ⟨true,[.tI,.tI]⟩ (ab p) (es.map pZ) i=some fi/\
  (∀v,(match fi with|some j=>(es.map pZ).set (j-i) [.int .i64 p.eR,.int .i64 p.eM,v]|none=>es.map pZ++[[.int .i64 p.eR,.int .i64 p.eM,v]])=(nw es p v).map pZ)/\
  ((match fi with|some j=>(es.map pZ).eraseIdx (j-i)|none=>es.map pZ)=(rQ es p).map pZ)/\
  (∀j,fi=some j->i<=j/\j-i<es.length/\∃v,es[j-i]? =some (p,v))/\(fi=none->∀e∈es,e.1≠p)
 |[],i=>⟨none,by simp[gh],fun v=>rfl,rfl,fun _ h=>(by cases h),fun _ _ he=>(by cases he)⟩
 |e::es,i=>by
  have hq:eY [TS.tI,TS.tI] (ab p) ((pZ e).take 2)=some (decide (p=e.1)):=by
   have h:(p=e.1)↔(p.eR=e.1.eR/\p.eM=e.1.eM):=⟨fun h=>by rw[h];exact⟨rfl,rfl⟩,fun h=>wP h.1 h.2⟩
   simp[ab,pZ,eY,fX,h]
  by_cases h:p=e.1
  ·refine⟨some i,?_,fun v=>?_,?_,fun j hj=>?_,fun hc=>by cases hc⟩
   ·rw[List.map_cons]
    unfold gh
    rw[show(⟨true,[.tI,.tI]⟩:MK).ts=[.tI,.tI]from rfl,show(⟨true,[.tI,.tI]⟩:MK).ks=2 from rfl,hq,decide_eq_true h]
   ·simp[nw,h,pZ]
   ·simp[rQ,h]
   ·cases hj
    exact⟨Nat.le_refl _,by simp,e.2,by simp[h]⟩
  ·obtain⟨fi,h1,h2,h3,h4,h5⟩:=Cr p es (i+1)
   have he:¬e.1=p:=fun hc=>h hc.symm
   refine⟨fi,?_,fun v=>?_,?_,fun j hj=>?_,fun hc x hx=>?_⟩
   ·rw[List.map_cons]
    unfold gh
    rw[show(⟨true,[.tI,.tI]⟩:MK).ts=[.tI,.tI]from rfl,show(⟨true,[.tI,.tI]⟩:MK).ks=2 from rfl,hq,decide_eq_false h]
    exact h1
   ·have S7:=h2 v
    rw[nw,if_neg he]
    cases fi with
    |none=>
     simp only[List.map_cons,List.cons_append]at S7 ⊢
     rw[S7]
    |some j=>
     obtain⟨h6,_⟩:=h4 j rfl
     obtain⟨k,hk⟩:∃k,j=i+1+k:=⟨j-(i+1),by omega⟩
     subst hk
     simp only[show i+1+k-i=k+1 by omega,show i+1+k-(i+1)=k by omega,List.map_cons,List.set_cons_succ]at S7 ⊢
     rw[S7]
   ·rw[rQ,if_neg he]
    cases fi with
    |none=>
     simp only[List.map_cons]at h3 ⊢
     rw[h3]
    |some j=>
     obtain⟨h6,_⟩:=h4 j rfl
     obtain⟨k,hk⟩:∃k,j=i+1+k:=⟨j-(i+1),by omega⟩
     subst hk
     simp only[show i+1+k-i=k+1 by omega,show i+1+k-(i+1)=k by omega,List.map_cons,List.eraseIdx_cons_succ]at h3 ⊢
     rw[h3]
   ·obtain⟨h6,h7,v,h8⟩:=h4 j hj
    refine⟨by omega,by simp only[List.length_cons];omega,v,?_⟩
    rw[show j-i=(j-(i+1))+1 by omega,List.getElem?_cons_succ];exact h8
   ·rcases List.mem_cons.1 hx with rfl|hx
    ·exact he
    ·exact h5 hc x hx
theorem yU (p:ah) (es:List En):∃fi,fS ⟨true,[.tI,.tI]⟩ (.agg [.int .i64 p.eR,.int .i64 p.eM]) (es.map pZ)=some fi/\(∀v,dI (es.map pZ) [.int .i64 p.eR,.int .i64 p.eM,v] fi=(nw es p v).map pZ)/\dP (es.map pZ) fi=(rQ es p).map pZ/\
  (∀j,fi=some j->∃v,es[j]? =some (p,v))/\(fi=none->∀e∈es,e.1≠p):=by
 obtain⟨fi,h1,h2,h3,h4,h5⟩:=Cr p es 0
 refine⟨fi,?_,fun v=>?_,?_,fun j hj=>?_,h5⟩
 ·unfold fS
  rw[if_pos ⟨rfl,rfl,rfl⟩]
  exact h1
 ·rw[<-h2 v];cases fi<;>rfl
 ·rw[<-h3];cases fi<;>rfl
 ·obtain⟨_,_,v,h6⟩:=h4 j hj
  exact⟨v,by simpa using h6⟩
theorem za (p:ah) (k:Nat) (hk:k<4):bd (bd p k) (kP k)=p:=by
 have:k=0∨k=1∨k=2∨k=3:=by omega
 rcases this with rfl|rfl|rfl|rfl<;>(cases p;simp[bd,kP,gJ];try omega)
theorem bind_some {s:au} {F:ah->Int} {p:ah} {t:Int}:∀d:Nat,0<du s F p t d->∃k:Nat,k<d/\0<=F (bd p k)
 |0,h=>by simp[du]at h
 |d+1,h=>by
  by_cases h0:0<=F (bd p d)
  ·exact⟨d,Nat.lt_succ_self d,h0⟩
  ·rw[du,if_neg h0,Int.add_zero]at h
   obtain⟨k,hk,h1⟩:=bind_some d h
   exact⟨k,Nat.lt_succ_of_lt hk,h1⟩
theorem I9 {s:aE} (hT:1<=s.az) {l:List ae} (hA:kn s.aB l) {p:ah} {t:Int} (h:eJ s l p t=true):A8 l p:=by
 simp[eJ]at h
 obtain⟨⟨h1,h2⟩,h3⟩:=h
 obtain⟨k,hk,h4⟩:=bind_some (s:=s.aB) (F:=gR l) (p:=p) (t:=t) 4 (by have:qj s.aB (gR l) p t=du s.aB (gR l) p t 4:=rfl;omega)
 have h5:0<=eO l (bd p k):=by
  unfold gR at h4
  split at h4
  ·assumption
  ·omega
 obtain⟨h6,h7⟩:=kM h5
 refine⟨h1,(IE hA p).1 h2,(eO l (bd p k)).toNat,(kP k).toNat,h6,?_,?_⟩
 ·have:k=0∨k=1∨k=2∨k=3:=by omega
  rcases this with rfl|rfl|rfl|rfl<;>decide
 ·rw[h7]
  have:((kP k).toNat:Int)=kP k:=by
   have:k=0∨k=1∨k=2∨k=3:=by omega
   rcases this with rfl|rfl|rfl|rfl<;>decide
  rw[this,za p k hk]
noncomputable def l5 (s:aE) (l:List ae):List ah:=(jv l).filter fun p=>decide (ku (eJ s l) p s.aB.ad.length≠[])
theorem wC {s:aE} (hT:1<=s.az) {l:List ae} (hA:kn s.aB l) (p:ah):p∈l5 s l↔ku (eJ s l) p s.aB.ad.length≠[]:=by
 unfold l5
 rw[List.mem_filter,yS,decide_eq_true_eq]
 refine⟨fun h=>h.2,fun h=>⟨?_,h⟩⟩
 obtain⟨k,_,hk⟩:=BJ h
 exact I9 hT hA hk
theorem DI (s:aE) (l:List ae):mU (l5 s l):=List.Pairwise.sublist List.filter_sublist (re l _)
theorem Dp (s:aE) (l:List ae):sZ (eJ s l) s.aB.ad.length (jv l)=sZ (eJ s l) s.aB.ad.length (l5 s l):=by
 unfold l5
 generalize jv l=ps
 induction ps with
 |nil=>rfl
 |cons p ps ih=>
  unfold sZ at *
  rw[List.flatMap_cons,List.filter_cons,ih]
  split
  ·rw[List.flatMap_cons]
  ·rename_i h
   simp only[decide_eq_true_eq,ne_eq,Classical.not_not]at h
   rw[vE,h];rfl
end Go.Proofs.YtgoljkjaameagaaGreat.V

namespace Go.Proofs.YtgoljkjaameagaaGreat.V
open Go.RowKit
attribute [local irreducible] eu wpOps gq Call
attribute [local go_sem] aI fJ eP fZ fY dc upd cz K.av cJ AV.cells AV.cell rowOf rowsOf part ld rowAt bR cq dC ea gV bJ cZ eo fX eY dr ef cX cW dM dO bP aX cN bL cQ cP ec eh ee cL bU cY eb bK aO cU cG gU bp cI bQ aW dx bf dD AV.undef bD bF dR dY dI dP cH ek ew cF ej ei cR cV List.getD_cons_zero List.getD_cons_succ List.getD_nil List.all_cons List.all_nil Bool.and_true Bool.true_and Bool.and_self Bool.not_true Bool.not_false Option.map_some Option.map_none Option.bind_some Option.bind_none List.length_cons List.length_nil List.take_succ_cons List.take_zero List.take_nil List.drop_succ_cons List.drop_zero List.drop_nil List.head?_cons List.map_cons List.map_nil List.getElem?_cons_zero List.getElem?_cons_succ List.cons_append List.nil_append List.append_nil List.length_map List.set_cons_zero List.set_cons_succ Nat.reduceMul eq_self Int.toNat_natCast Int.natCast_nonneg and_self true_and and_true decide_true decide_false Bool.false_eq_true Nat.zero_add Nat.add_zero List.contains_cons List.contains_nil Bool.or_false Bool.false_or beq_self_eq_true Nat.reduceBEq ne_eq not_true_eq_false not_false_eq_true Id.mk.injEq false_and and_false Nat.reduceLT Int.reduceLE Int.reduceLT Int.reduceToNat Int.reduceNeg Int.reduceAdd Nat.le_refl List.length_append beq_true beq_false Bool.not_eq_eq_eq_not or_false false_or dJ aj aq aH aZ bB ck aT bc aU aY cK bG
theorem Rh (g:Rows) (n:Nat) (x:ae):ez g (n+1) (ai x)=some (ai x):=by simp[ai,bz,cD,eC]
def TX (n:Nat) (L:List ae) (r:AV) (σ':ax):Prop:=∃o:Id,r=.agg [.own o 0 L.length]/\σ'.get o=some ⟨true,3,L.map ai⟩/\n<=o.bj/\o.bj<σ'.next
theorem TX.val {f:Nat} {args eF:List AV} {L:List ae} {σ:ax} (h:∀n,Call Tryz.prog f eF ⟨fun _=>none,n⟩ (TX n L)) (hv:dd (dJ σ.get) 6 args=some eF):Call Tryz.prog f args σ (fun r σ'=>TX σ.next L r σ'/\Kept σ σ'):=by
 refine A7 mixed hv (aJ _ _ _ _ _ (fun r σ' hq=>?_) (xY mixed (h σ.next)))
 obtain⟨⟨o,rfl,h2,h3,h4⟩,hn⟩:=hq
 refine⟨[o],rfl,fun i hi=>?_,⟨o,rfl,(sH (by simp)).trans h2,h3,h4⟩,hn,fun j hj=>pR fun hc=>?_⟩
 ·rw[List.mem_singleton.1 hi]
  exact⟨_,h2,rfl,fun cs dw a ha=>by
   obtain⟨x,_,rfl⟩:=List.mem_map.1 dw
   simp[ai]at ha
   rcases ha with rfl|rfl|rfl<;>rfl⟩
 ·rw[List.mem_singleton.1 hc]at hj;omega
end Go.Proofs.YtgoljkjaameagaaGreat.V
