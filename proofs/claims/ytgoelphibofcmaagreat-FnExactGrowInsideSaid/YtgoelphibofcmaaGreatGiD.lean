/- Groups, by the reference. -/
import Derived.Test.YtgoelphibofcmaaGreatGiC
import Derived.Test.YtgoelphibofcmaaGreatGiB
set_option linter.unusedVariables false
set_option linter.unusedSimpArgs false
set_option maxRecDepth 100000
set_option maxHeartbeats 16000000
namespace Go.Proofs.YtgoelphibofcmaaGreat.V
open Go.RowKit
attribute [local irreducible] dG wpOps gy Call
attribute [local go_sem] aM fF eP ga fW cQ upd cz K.av cR AV.cells AV.cell rowOf rowsOf part ld rowAt bq cu dD ee ik bJ dh ev fU eX dr ej dd dc dQ dR bQ bf cW bP cY cX eh ek ei cV cj de ef bK aO da cG ij bw cK bU aY dn aZ dE AV.undef bD bG dV ec dM dK cH eu ew cF ep eo cZ db List.getD_cons_zero List.getD_cons_succ List.getD_nil List.all_cons List.all_nil Bool.and_true Bool.true_and Bool.and_self Bool.not_true Bool.not_false Option.map_some Option.map_none Option.bind_some Option.bind_none List.length_cons List.length_nil List.take_succ_cons List.take_zero List.take_nil List.drop_succ_cons List.drop_zero List.drop_nil List.head?_cons List.map_cons List.map_nil List.getElem?_cons_zero List.getElem?_cons_succ List.cons_append List.nil_append List.append_nil List.length_map List.set_cons_zero List.set_cons_succ Nat.reduceMul eq_self Int.toNat_natCast Int.natCast_nonneg and_self true_and and_true decide_true decide_false Bool.false_eq_true Nat.zero_add Nat.add_zero List.contains_cons List.contains_nil Bool.or_false Bool.false_or beq_self_eq_true Nat.reduceBEq ne_eq not_true_eq_false not_false_eq_true Id.mk.injEq false_and and_false Nat.reduceLT Int.reduceLE Int.reduceLT Int.reduceToNat Int.reduceNeg Int.reduceAdd Nat.le_refl List.length_append beq_true beq_false Bool.not_eq_eq_eq_not or_false false_or dL ai aj aH bl bB cw aX bd aU bh cU bH
theorem BW (a b:Nat):aq Tryz.prog 215 [.int .i64 a,.int .i64 b] (.int .i64 (min a b:Nat)):=by
 refine aq.body eC rfl fun hl n0=>?_
 clear hl
 by_cases h:(a:Int)<(b:Int)
 ·(try((repeat(revert hN;revert N;apply Pn.out));refine wk @h ?_;(repeat(refine Pn.mk ?_;intro N hN))))
  exact b4 (b:=(a:Int)) (.inl rfl) (sd @Nat.zero_add) (by omega)
 ·(try((repeat(revert hN;revert N;apply Pn.out));refine wk @h ?_;(repeat(refine Pn.mk ?_;intro N hN))))
  exact b4 (b:=(b:Int)) (.inl rfl) (sd @Nat.zero_add) (by omega)
theorem BV (a b:Nat):aq Tryz.prog 216 [.int .i64 a,.int .i64 b] (.int .i64 (max a b:Nat)):=by
 refine aq.body eC rfl fun hl n0=>?_
 clear hl
 by_cases h:(b:Int)<(a:Int)
 ·(try((repeat(revert hN;revert N;apply Pn.out));refine wk @h ?_;(repeat(refine Pn.mk ?_;intro N hN))))
  exact b4 (b:=(a:Int)) (.inl rfl) (sd @Nat.zero_add) (by omega)
 ·(try((repeat(revert hN;revert N;apply Pn.out));refine wk @h ?_;(repeat(refine Pn.mk ?_;intro N hN))))
  exact b4 (b:=(b:Int)) (.inl rfl) (sd @Nat.zero_add) (by omega)
def dC (f:Nat->Nat) (n:Nat):List (List AV):=(List.range n).map fun i=>eN (f i)
theorem gm (f:Nat->Nat) (n:Nat):(dC f n).length=n:=by simp[dC]
theorem fo {f:Nat->Nat} {n i:Nat} (h:i<n):(dC f n)[i]? =some (eN (f i)):=by simp[dC,h]
theorem gY {f g:Nat->Nat} {n:Nat} (h:∀i,i<n->f i=g i):dC f n=dC g n:=List.map_congr_left fun i hi=>by rw[h i (List.mem_range.1 hi)]
theorem pO {f g:Nat->Nat} {n k v:Nat} (hk:k<n) (hv:g k=v) (h:∀i,i<n->i≠k->g i=f i):(dC f n).set k (eN v)=dC g n:=by
 refine List.ext_getElem? fun i=>?_
 rw[List.getElem?_set]
 by_cases hi:k=i
 ·subst hi
  rw[if_pos rfl,gm,if_pos hk,fo hk,hv]
 ·rw[if_neg hi]
  by_cases fh:i<n
  ·rw[fo fh,fo fh,h i fh (fun h=>hi h.symm)]
  ·rw[List.getElem?_eq_none (by rw[gm];omega),List.getElem?_eq_none (by rw[gm];omega)]
theorem BY (cnt:Nat) (hn:cnt<=1048576) (bs:List PB) (hb:∀b∈bs,b.a<cnt/\b.b<cnt) (qc:bs.length<=1048576):aq Tryz.prog 214 [.int .i64 cnt,.sl (bs.map ay)] (.sl ((fy cnt (eB bs)).map AM)):=by
 refine aq.body eC rfl fun hl n0=>?_
 clear hl
 (try((repeat(revert hN;revert N;apply Pn.out));refine wk @Nat.zero_add ?_;(repeat(refine Pn.mk ?_;intro N hN))))
 refine aW (fun n env st=>∃k:Nat,n=(cnt)-k/\k<=(cnt)/\env 6=.int .i64 (k:Int)/\(∃o:Id,env 5=.own o 0 k/\st.get o=some ⟨true,1,dC id k⟩/\o.ck<st.next)) (cnt) ⟨0,by omega,by omega,sl @Nat.zero_add,⟨⟨214001000,n0+1⟩,sd @Nat.zero_add,by simp only[go_sem, ↓reduceIte,Nat.reduceEqDiff,Nat.reduceAdd,Nat.reduceSub,Nat.reduceLeDiff,reduceCtorEq];rfl,by(try dsimp only);omega⟩⟩ ?_
 rintro n_a env_a st_a ⟨k,rfl,ale,a6,mb⟩ dH
 have a0:=dH 0 (by kernel_rfl);have a1:=dH 1 (by kernel_rfl)
 simp only[go_sem, ↓reduceIte,Nat.reduceEqDiff,Nat.reduceAdd,Nat.reduceSub,Nat.reduceLeDiff,reduceCtorEq]at a0 a1
 clear dH
 obtain⟨o,a5,ag,uR⟩:=mb
 have tl:=gm id k
 have sH:=dp uR
 by_cases hk:(k:Int)<(cnt:Int)
 ·have cE:∀{e:Env} {gg:Rows} {nx:Nat},(e 6=.int .i64 (IntKind.i64.wrap ((k:Int)+1)))->(∃o:Id,e 5=.own o 0 (k+1)/\gg o=some ⟨true,1,dC id (k+1)⟩/\o.ck<nx)->∃m0,m0<(cnt)-k/\∃k:Nat,m0=(cnt)-k/\k<=(cnt)/\e 6=.int .i64 (k:Int)/\(∃o:Id,e 5=.own o 0 k/\gg o=some ⟨true,1,dC id k⟩/\o.ck<nx):=fun x1 x2=>⟨_,by omega,k+1,rfl,by omega,(by rw[x1,az (by omega)]),x2⟩
  have fA:k<cnt:=by omega
  have e1:k+1<=16777216:=by omega
  have s6:dC id k++[[.int .i64 (k:Int)]]=dC id (k+1):=by simp[dC,List.range_succ,eN]
  (try((repeat(revert hN;revert N;apply Pn.out));refine wk (tw @a6 (tw @a0 (tw @a1 (tw @a5 (tw @ag (tw @sH (tw @hk (tw @tl (tw @e1 @s6))))))))) ?_;(repeat(refine Pn.mk ?_;intro N hN))))
  exact cE (sd (tw @a6 (tw @a0 @a1))) (⟨⟨214005003,st_a.next+1⟩,sd @Nat.zero_add,sd @s6,by(try dsimp only);omega⟩)
 have l7:k=cnt:=by omega
 subst l7
 have UH:st_a.get o=some ⟨true,1,dC (eB (bs.take 0)) k⟩:=ag
 clear ag
 (try((repeat(revert hN;revert N;apply Pn.out));refine wk (tw @a6 (tw @a0 (tw @a1 @hk))) ?_;(repeat(refine Pn.mk ?_;intro N hN))))
 refine aW (fun n env st=>∃j:Nat,n=(bs.length)-j/\j<=(bs.length)/\env 7=.int .i64 (j:Int)/\st.get o=some ⟨true,1,dC (eB (bs.take j)) k⟩/\(o.ck<st.next)) (bs.length) ⟨0,by omega,by omega,sl (tw @a6 (tw @a0 (tw @a1 (tw @a5 @UH)))),sl (tw @a6 (tw @a0 (tw @a1 (tw @a5 @UH)))),(by(try dsimp only);omega)⟩ ?_
 rintro n_b env_b st_b ⟨j,rfl,ble,b7,bg0,bI0⟩ fY
 have b0:=fY 0 (by kernel_rfl);have b1:=fY 1 (by kernel_rfl);have b5:=fY 5 (by kernel_rfl)
 simp only[go_sem, ↓reduceIte,Nat.reduceEqDiff,Nat.reduceAdd,Nat.reduceSub,Nat.reduceLeDiff,reduceCtorEq,a6,a0,a1,a5,UH]at b0 b1 b5
 clear fY
 by_cases hj:(j:Int)<(bs.length:Int)
 ·have gj:∀{e:Env} {gg:Rows} {nx:Nat},(e 7=.int .i64 (IntKind.i64.wrap ((j:Int)+1)))->(gg o=some ⟨true,1,dC (eB (bs.take (j+1))) k⟩)->(o.ck<nx)->∃m0,m0<(bs.length)-j/\∃j:Nat,m0=(bs.length)-j/\j<=(bs.length)/\e 7=.int .i64 (j:Int)/\gg o=some ⟨true,1,dC (eB (bs.take j)) k⟩/\(o.ck<nx):=fun x1 x2 x3=>⟨_,by omega,j+1,rfl,by omega,(by rw[x1,az (by omega)]),x2,x3⟩
  have jB:j<bs.length:=by omega
  have Hv:(bs.map ay)[j]? =some (ay bs[j]):=by simp[jB]
  have MO:=hb _ (List.getElem_mem jB)
  have nV:bs.take (j+1)=bs.take j++[bs[j]]:=List.take_succ_eq_append_getElem jB
  have lH:eB (bs.take (j+1))=eO (eB (bs.take j)) bs[j]:=by rw[nV,wG]
  generalize eB (bs.take j)=L at *
  generalize bs[j]=b at *
  have hA:=fo (f:=L) MO.1
  have hB:=fo (f:=L) MO.2
  have Sm:=BW (L b.a) (L b.b)
  have Sn:=BV (L b.a) (L b.b)
  have tl:=gm L k
  have gK:(b.a:Int)<(k:Int):=by omega
  have fP:(b.b:Int)<(k:Int):=by omega
  (try((repeat(revert hN;revert N;apply Pn.out));refine wk (tw @b7 (tw @bg0 (tw @b0 (tw @b1 (tw @b5 (tw @hj (tw @Hv (tw @ay.eq_1 (tw @hA (tw @hB (tw @gK (tw @fP (tw @tl @eN.eq_1))))))))))))) ?_;(repeat(refine Pn.mk ?_;intro N hN))))
  refine aW (fun n env st=>∃i:Nat,n=(k)-i/\i<=(k)/\env 10=.int .i64 (i:Int)/\st.get o=some ⟨true,1,dC (fun x=>if x<i then eO L b x else L x) k⟩/\(o.ck<st.next)) (k) ⟨0,by omega,by omega,sl (tw @b7 (tw @bg0 (tw @b0 (tw @b1 (tw @b5 @Nat.not_lt_zero))))),sl (tw @b7 (tw @bg0 (tw @b0 (tw @b1 (tw @b5 @Nat.not_lt_zero))))),(by(try dsimp only);omega)⟩ ?_
  rintro n_c env_c st_c ⟨i,rfl,cle,jz,cg0,cI0⟩ cfr
  have c0:=cfr 0 (by kernel_rfl);have c1:=cfr 1 (by kernel_rfl);have c5:=cfr 5 (by kernel_rfl);have c7:=cfr 7 (by kernel_rfl);have c8:=cfr 8 (by kernel_rfl);have c9:=cfr 9 (by kernel_rfl)
  simp only[go_sem, ↓reduceIte,Nat.reduceEqDiff,Nat.reduceAdd,Nat.reduceSub,Nat.reduceLeDiff,reduceCtorEq,b7,bg0,b0,b1,b5,Nat.not_lt_zero]at c0 c1 c5 c7 c8 c9
  clear cfr
  have hC:=fo (f:=fun x=>if x<i then eO L b x else L x) (n:=k) (i:=i)
  have tc:=gm (fun x=>if x<i then eO L b x else L x) k
  by_cases hi:(i:Int)<(k:Int)
  ·have ig:∀{e:Env} {gg:Rows} {nx:Nat},(e 10=.int .i64 (IntKind.i64.wrap ((i:Int)+1)))->(gg o=some ⟨true,1,dC (fun x=>if x<(i+1)then eO L b x else L x) k⟩)->(o.ck<nx)->∃m0,m0<(k)-i/\∃i:Nat,m0=(k)-i/\i<=(k)/\e 10=.int .i64 (i:Int)/\gg o=some ⟨true,1,dC (fun x=>if x<i then eO L b x else L x) k⟩/\(o.ck<nx):=fun x1 x2 x3=>⟨_,by omega,i+1,rfl,by omega,(by rw[x1,az (by omega)]),x2,x3⟩
   have fh:i<k:=by omega
   replace hC:=hC fh
   rw[if_neg (Nat.lt_irrefl i)]at hC
   by_cases he:L i=max (L b.a) (L b.b)
   ·have uP:decide ((L i:Int)=((max (L b.a) (L b.b):Nat):Int))=true:=decide_eq_true (by rw[he])
    have eJ:(dC (fun x=>if x<i then eO L b x else L x) k).set i (eN (min (L b.a) (L b.b)))=dC (fun x=>if x<i+1 then eO L b x else L x) k:=pO fh (by rw[if_pos (by omega),eO,if_pos he]) fun x hx CQ=>by
     by_cases h:x<i
     ·rw[if_pos h,if_pos (by omega)]
     ·rw[if_neg h,if_neg (by omega)]
    rw[eN]at eJ hC
    (repeat(first|((repeat(revert hN;revert N;apply Pn.out));refine wk (tw @jz (tw @cg0 (tw @c0 (tw @c1 (tw @c5 (tw @c7 (tw @c8 (tw @c9 (tw @hi (tw @hC (tw @tc (tw @uP @eJ)))))))))))) ?_;(repeat(refine Pn.mk ?_;intro N hN)))|((try apply Or.inl);refine⟨_,aq.x (Sm) (sd (tw @jz (tw @cg0 (tw @c0 (tw @c1 (tw @c5 (tw @c7 (tw @c8 (tw @c9 (tw @hi (tw @hC (tw @tc (tw @uP @eJ))))))))))))),?_⟩;refine hN _ _ ?_;clear hN N)|((try apply Or.inl);refine⟨_,aq.x (Sn) (sd (tw @jz (tw @cg0 (tw @c0 (tw @c1 (tw @c5 (tw @c7 (tw @c8 (tw @c9 (tw @hi (tw @hC (tw @tc (tw @uP @eJ))))))))))))),?_⟩;refine hN _ _ ?_;clear hN N)))
    refine ig ?_ ?_ (by(try dsimp only);omega)
    all_goals simp only[go_sem, ↓reduceIte,Nat.reduceEqDiff,Nat.reduceAdd,Nat.reduceSub,Nat.reduceLeDiff,reduceCtorEq,jz,cg0,c0,c1,c5,c7,c8,c9]
   ·have uP:decide ((L i:Int)=((max (L b.a) (L b.b):Nat):Int))=false:=decide_eq_false fun h=>he (by omega)
    have mo:dC (fun x=>if x<i then eO L b x else L x) k=dC (fun x=>if x<i+1 then eO L b x else L x) k:=gY fun x hx=>by
     by_cases h:x<i
     ·rw[if_pos h,if_pos (by omega)]
     ·by_cases CQ:x=i
      ·subst CQ;rw[if_neg h,if_pos (by omega),eO,if_neg he]
      ·rw[if_neg h,if_neg (by omega)]
    rw[eN]at hC
    (repeat(first|((repeat(revert hN;revert N;apply Pn.out));refine wk (tw @jz (tw @cg0 (tw @c0 (tw @c1 (tw @c5 (tw @c7 (tw @c8 (tw @c9 (tw @hi (tw @hC (tw @tc @uP))))))))))) ?_;(repeat(refine Pn.mk ?_;intro N hN)))|((try apply Or.inl);refine⟨_,aq.x (Sm) (sd (tw @jz (tw @cg0 (tw @c0 (tw @c1 (tw @c5 (tw @c7 (tw @c8 (tw @c9 (tw @hi (tw @hC (tw @tc @uP)))))))))))),?_⟩;refine hN _ _ ?_;clear hN N)|((try apply Or.inl);refine⟨_,aq.x (Sn) (sd (tw @jz (tw @cg0 (tw @c0 (tw @c1 (tw @c5 (tw @c7 (tw @c8 (tw @c9 (tw @hi (tw @hC (tw @tc @uP)))))))))))),?_⟩;refine hN _ _ ?_;clear hN N)))
    rw[mo]at cg0
    refine ig ?_ ?_ (by(try dsimp only);omega)
    all_goals simp only[go_sem, ↓reduceIte,Nat.reduceEqDiff,Nat.reduceAdd,Nat.reduceSub,Nat.reduceLeDiff,reduceCtorEq,jz,cg0,c0,c1,c5,c7,c8,c9]
  ·have yz:i=k:=by omega
   subst yz
   have dI:dC (fun x=>if x<i then eO L b x else L x) i=dC (eO L b) i:=gY fun x hx=>if_pos hx
   rw[dI]at cg0
   rw[<-lH]at cg0
   (try((repeat(revert hN;revert N;apply Pn.out));refine wk (tw @jz (tw @cg0 (tw @c0 (tw @c1 (tw @c5 (tw @c7 (tw @c8 (tw @c9 (tw @hi @tc))))))))) ?_;(repeat(refine Pn.mk ?_;intro N hN))))
   refine gj ?_ ?_ (by(try dsimp only);omega)
   all_goals simp only[go_sem, ↓reduceIte,Nat.reduceEqDiff,Nat.reduceAdd,Nat.reduceSub,Nat.reduceLeDiff,reduceCtorEq,b7,bg0,b0,b1,b5,jz,cg0,c0,c1,c5,c7,c8,c9]
 have gZ:j=bs.length:=by omega
 subst gZ
 rw[List.take_length]at bg0
 have hL:=tW bs
 generalize eB bs=L at *
 have tl:=gm L k
 (try((repeat(revert hN;revert N;apply Pn.out));refine wk (tw @b7 (tw @bg0 (tw @b0 (tw @b1 (tw @b5 @hj))))) ?_;(repeat(refine Pn.mk ?_;intro N hN))))
 have UI:o.ck<st_b.next:=bI0
 refine aW (fun n env st=>∃i:Nat,n=(k)-i/\i<=(k)/\env 12=.int .i64 (i:Int)/\st.get o=some ⟨true,1,dC L k⟩/\(∃oo rows ids,env 11=.own oo 0 rows.length/\st.get oo=some ⟨true,1,rows⟩/\eG PF st.get rows ((leads i L).map (members k L)) ids/\(∀x∈oo::ids,st_b.next<=x.ck/\x.ck<st.next)/\st_b.next<=st.next/\oo∉ids)) (k) ⟨0,by omega,by omega,sl (tw @b7 (tw @bg0 (tw @b0 (tw @b1 (tw @b5 (dp UI)))))),sl (tw @b7 (tw @bg0 (tw @b0 (tw @b1 (tw @b5 (dp UI)))))),⟨⟨214016000,st_b.next+1⟩,[],[],by(simp only[go_sem, ↓reduceIte,Nat.reduceEqDiff,Nat.reduceAdd,Nat.reduceSub,Nat.reduceLeDiff,reduceCtorEq])<;>rfl,sd @Nat.zero_add,.nil,fun x hx=>by rw[List.mem_singleton.1 hx];(try dsimp only);omega,by(try dsimp only);omega,by simp⟩⟩ ?_
 rintro n_d env_d st_d ⟨i,rfl,dle,d12,dg0,dI0⟩ dfr
 have d0:=dfr 0 (by kernel_rfl);have d5:=dfr 5 (by kernel_rfl)
 simp only[go_sem, ↓reduceIte,Nat.reduceEqDiff,Nat.reduceAdd,Nat.reduceSub,Nat.reduceLeDiff,reduceCtorEq,b7,bg0,b0,b1,b5,dp UI]at d0 d5
 clear dfr
 obtain⟨oo,rows,ids,d11,dg,hR,n9,hle,rM⟩:=dI0
 have s6:=gQ i L
 have sG:=hR.len
 by_cases hi:(i:Int)<(k:Int)
 ·have tZ:∀{e:Env} {gg:Rows} {nx:Nat},(e 12=.int .i64 (IntKind.i64.wrap ((i:Int)+1)))->(gg o=some ⟨true,1,dC L k⟩)->(∃oo rows ids,e 11=.own oo 0 rows.length/\gg oo=some ⟨true,1,rows⟩/\eG PF gg rows ((leads (i+1) L).map (members k L)) ids/\(∀x∈oo::ids,st_b.next<=x.ck/\x.ck<nx)/\st_b.next<=nx/\oo∉ids)->∃m0,m0<(k)-i/\∃i:Nat,m0=(k)-i/\i<=(k)/\e 12=.int .i64 (i:Int)/\gg o=some ⟨true,1,dC L k⟩/\(∃oo rows ids,e 11=.own oo 0 rows.length/\gg oo=some ⟨true,1,rows⟩/\eG PF gg rows ((leads i L).map (members k L)) ids/\(∀x∈oo::ids,st_b.next<=x.ck/\x.ck<nx)/\st_b.next<=nx/\oo∉ids):=fun x1 x2 x3=>⟨_,by omega,i+1,rfl,by omega,(by rw[x1,az (by omega)]),x2,x3⟩
  have fh:i<k:=by omega
  have hC:=fo (f:=L) fh
  have p4:=dp (i:=o) (n:=st_d.next) (by omega)
  have Rj:=dp (i:=oo) (n:=st_d.next) (n9 oo (by simp)).2
  by_cases he:L i=i
  ·rw[if_pos he]at s6
   have uP:decide ((L i:Int)=(i:Int))=true:=decide_eq_true (by rw[he])
   rw[eN]at hC
   (try((repeat(revert hN;revert N;apply Pn.out));refine wk (tw @d12 (tw @dg0 (tw @d0 (tw @d5 (tw @d11 (tw @dg (tw @hi (tw @hC (tw @tl (tw @uP (tw @p4 @Rj))))))))))) ?_;(repeat(refine Pn.mk ?_;intro N hN))))
   refine aW (fun n env st=>∃m:Nat,n=((k-i))-m/\m<=((k-i))/\env 14=(.int .i64 ((i+m:Nat):Int))/\(∃pp:Id,env 13=.own pp 0 (members (i+m) L i).length/\st.get pp=some ⟨true,1,(members (i+m) L i).map eN⟩/\st_d.next<=pp.ck/\pp.ck<st.next/\(∀x:Id,x.ck<st_d.next->st.get x=st_d.get x)/\st_d.next<=st.next)) ((k-i)) ⟨0,by omega,by omega,sl (tw @d12 (tw @dg0 (tw @d0 (tw @d5 @d11)))),⟨⟨214021000,st_d.next+1+1⟩,by rw[show members (i+0) L i=[]from ni hL (Nat.le_refl i)];(simp only[go_sem, ↓reduceIte,Nat.reduceEqDiff,Nat.reduceAdd,Nat.reduceSub,Nat.reduceLeDiff,reduceCtorEq])<;>rfl,by rw[show members (i+0) L i=[]from ni hL (Nat.le_refl i)];(simp only[go_sem, ↓reduceIte,Nat.reduceEqDiff,Nat.reduceAdd,Nat.reduceSub,Nat.reduceLeDiff,reduceCtorEq])<;>rfl,by(try dsimp only);omega,by(try dsimp only);omega,fun x hx=>sd (dp hx),by(try dsimp only);omega⟩⟩ ?_
   rintro n_f env_f st_f ⟨m,rfl,fle,f14,fI0⟩ ffr
   have f0:=ffr 0 (by kernel_rfl);have f5:=ffr 5 (by kernel_rfl);have f11:=ffr 11 (by kernel_rfl);have f12:=ffr 12 (by kernel_rfl)
   simp only[go_sem, ↓reduceIte,Nat.reduceEqDiff,Nat.reduceAdd,Nat.reduceSub,Nat.reduceLeDiff,reduceCtorEq,d12,dg0,d0,d5,d11]at f0 f5 f11 f12
   clear ffr
   obtain⟨pp,f13,fg,Oq,IT,jA,qF⟩:=fI0
   have rK:st_f.get o=some ⟨true,1,dC L k⟩:=(jA o (by omega)).trans dg0
   have Um:st_f.get oo=some ⟨true,1,rows⟩:=(jA oo (n9 oo (by simp)).2).trans dg
   have AQ:=dp IT
   have BM:=dp (i:=o) (n:=st_f.next) (by omega)
   have Rk:=dp (i:=oo) (n:=st_f.next) (by have:=(n9 oo (by simp)).2;omega)
   have Om:members (i+(m+1)) L i=members (i+m) L i++if L (i+m)=i then[i+m]else[]:=jv (i+m) L i
   have Uz:(members (i+m) L i).length<=i+m:=by
    have:=List.length_filter_le (fun k=>L k==i) (List.range (i+m))
    simpa[members]using this
   have x1:=cr (a:=o) (b:=pp) (by omega)
   have x2:=cr (a:=oo) (b:=pp) (by have:=(n9 oo (by simp)).2;omega)
   have x3:=cr (a:=o) (b:=oo) (by have:=(n9 oo (by simp)).1;omega)
   by_cases hm:m<k-i
   ·have rZ:∀{e:Env} {gg:Rows} {nx:Nat},(e 14=(.int .i64 ((i+(m+1):Nat):Int)))->(∃pp:Id,e 13=.own pp 0 (members (i+(m+1)) L i).length/\gg pp=some ⟨true,1,(members (i+(m+1)) L i).map eN⟩/\st_d.next<=pp.ck/\pp.ck<nx/\(∀x:Id,x.ck<st_d.next->gg x=st_d.get x)/\st_d.next<=nx)->∃m0,m0<((k-i))-m/\∃m:Nat,m0=((k-i))-m/\m<=((k-i))/\e 14=(.int .i64 ((i+m:Nat):Int))/\(∃pp:Id,e 13=.own pp 0 (members (i+m) L i).length/\gg pp=some ⟨true,1,(members (i+m) L i).map eN⟩/\st_d.next<=pp.ck/\pp.ck<nx/\(∀x:Id,x.ck<st_d.next->gg x=st_d.get x)/\st_d.next<=nx):=fun x1 x2=>⟨_,by omega,m+1,rfl,by omega,x1,x2⟩
    have Q3:((i+m:Nat):Int)<(k:Int):=by omega
    have TC:=fo (f:=L) (show i+m<k by omega)
    have hw:IntKind.i64.wrap (((i+m:Nat):Int)+1)=((i+(m+1):Nat):Int):=by rw[bF (by omega)];omega
    rw[eN]at TC
    by_cases hq:L (i+m)=i
    ·have nT:decide ((L (i+m):Int)=(i:Int))=true:=decide_eq_true (by rw[hq])
     rw[if_pos hq]at Om
     have e1:(members (i+m) L i).length+1<=16777216:=by omega
     have lF:((members (i+m) L i).map eN).length=(members (i+m) L i).length:=by simp
     (try((repeat(revert hN;revert N;apply Pn.out));refine wk (tw @f14 (tw @f0 (tw @f5 (tw @f11 (tw @f12 (tw @f13 (tw @fg (tw @rK (tw @Q3 (tw @TC (tw @tl (tw @nT (tw @AQ (tw @BM (tw @x1 (tw @e1 @lF)))))))))))))))) ?_;(repeat(refine Pn.mk ?_;intro N hN))))
     exact rZ (sd (tw @f14 (tw @f0 (tw @f5 (tw @f11 (tw @f12 (tw @rK (tw @hw (tw @BM @x1))))))))) (⟨⟨214026003,st_f.next+1+1⟩,by rw[Om,List.length_append];simp only[go_sem, ↓reduceIte,Nat.reduceEqDiff,Nat.reduceAdd,Nat.reduceSub,Nat.reduceLeDiff,reduceCtorEq,List.length_cons,List.length_nil],by rw[Om,List.map_append,List.map_cons,List.map_nil];simp only[go_sem, ↓reduceIte,Nat.reduceEqDiff,Nat.reduceAdd,Nat.reduceSub,Nat.reduceLeDiff,reduceCtorEq,eN],by(try dsimp only);omega,by(try dsimp only);omega,fun x hx=>by
      have y1:=jA x hx
      have y2:=cr (a:=x) (b:=pp) (by omega)
      simp only[go_sem, ↓reduceIte,Nat.reduceEqDiff,Nat.reduceAdd,Nat.reduceSub,Nat.reduceLeDiff,reduceCtorEq,dp (show x.ck<st_f.next by omega),y1,y2],by(try dsimp only);omega⟩)
    ·have nT:decide ((L (i+m):Int)=(i:Int))=false:=decide_eq_false fun h=>hq (by omega)
     rw[if_neg hq,List.append_nil]at Om
     (try((repeat(revert hN;revert N;apply Pn.out));refine wk (tw @f14 (tw @f0 (tw @f5 (tw @f11 (tw @f12 (tw @f13 (tw @fg (tw @rK (tw @Q3 (tw @TC (tw @tl (tw @nT (tw @AQ (tw @BM @x1)))))))))))))) ?_;(repeat(refine Pn.mk ?_;intro N hN))))
     exact rZ (sd (tw @f14 (tw @f0 (tw @f5 (tw @f11 (tw @f12 (tw @rK @hw))))))) (⟨pp,by rw[Om];simp only[go_sem, ↓reduceIte,Nat.reduceEqDiff,Nat.reduceAdd,Nat.reduceSub,Nat.reduceLeDiff,reduceCtorEq,f13],by rw[Om];simp only[go_sem, ↓reduceIte,Nat.reduceEqDiff,Nat.reduceAdd,Nat.reduceSub,Nat.reduceLeDiff,reduceCtorEq,fg],Oq,by(try dsimp only);omega,jA,by(try dsimp only);omega⟩)
   ·have hmk:i+m=k:=by omega
    have Q3:¬((i+m:Nat):Int)<(k:Int):=by omega
    rw[hmk]at f13 fg Uz
    have e1:rows.length+1<=16777216:=by
     have:=jP i L
     rw[sG,List.length_map];omega
    (try((repeat(revert hN;revert N;apply Pn.out));refine wk (tw @f14 (tw @f0 (tw @f5 (tw @f11 (tw @f12 (tw @f13 (tw @fg (tw @rK (tw @Um (tw @Q3 (tw @AQ (tw @BM (tw @Rk (tw @x1 (tw @x2 @e1))))))))))))))) ?_;(repeat(refine Pn.mk ?_;intro N hN))))
    refine tZ ?_ ?_ (⟨⟨214027003,st_f.next+1⟩,rows++[[.own pp 0 (members k L i).length]],ids++[pp],by rw[List.length_append];simp only[go_sem, ↓reduceIte,Nat.reduceEqDiff,Nat.reduceAdd,Nat.reduceSub,Nat.reduceLeDiff,reduceCtorEq,List.length_cons,List.length_nil],sd @Nat.zero_add,by
      rw[s6,List.map_append]
      refine(hR.frame LU fun x hx=>?_).app (.one ⟨pp,rfl,?_,rfl⟩)
      ·have h1:=n9 x (by simp[hx])
       have y1:=jA x h1.2
       have y2:=cr (a:=x) (b:=pp) (by omega)
       have y3:(x=oo)=False:=by
        simp only[eq_iff_iff,iff_false]
        rintro rfl
        exact rM hx
       simp only[go_sem, ↓reduceIte,Nat.reduceEqDiff,Nat.reduceAdd,Nat.reduceSub,Nat.reduceLeDiff,reduceCtorEq,dp (show x.ck<st_f.next by omega),y1,y2,y3]
      ·simp only[go_sem, ↓reduceIte,Nat.reduceEqDiff,Nat.reduceAdd,Nat.reduceSub,Nat.reduceLeDiff,reduceCtorEq,AQ,x2,fg],fun x hx=>by
      rcases List.mem_cons.1 hx with rfl|hx
      ·(try dsimp only);omega
      ·rcases List.mem_append.1 hx with hx|hx
       ·have:=n9 x (by simp[hx]);(try dsimp only);omega
       ·rw[List.mem_singleton.1 hx];(try dsimp only);omega,by(try dsimp only);omega,fun hc=>by
      rcases List.mem_append.1 hc with hc|hc
      ·have:=(n9 _ (List.mem_cons_of_mem _ hc)).2;(try dsimp only at this);omega
      ·have:=List.mem_singleton.1 hc;rw[<-this]at IT;(try dsimp only at IT);omega⟩)
    all_goals simp only[go_sem, ↓reduceIte,Nat.reduceEqDiff,Nat.reduceAdd,Nat.reduceSub,Nat.reduceLeDiff,reduceCtorEq,f14,f0,f5,f11,f12,rK,BM,x3]
  ·rw[if_neg he,List.append_nil]at s6
   have uP:decide ((L i:Int)=(i:Int))=false:=decide_eq_false fun h=>he (by omega)
   rw[eN]at hC
   (try((repeat(revert hN;revert N;apply Pn.out));refine wk (tw @d12 (tw @dg0 (tw @d0 (tw @d5 (tw @d11 (tw @dg (tw @hi (tw @hC (tw @tl (tw @uP (tw @p4 @Rj))))))))))) ?_;(repeat(refine Pn.mk ?_;intro N hN))))
   refine tZ ?_ ?_ (⟨oo,rows,ids,sd @d11,sd @dg,by rw[s6];exact hR,fun x hx=>by have:=n9 x hx;(try dsimp only);omega,by(try dsimp only);omega,rM⟩)
   all_goals simp only[go_sem, ↓reduceIte,Nat.reduceEqDiff,Nat.reduceAdd,Nat.reduceSub,Nat.reduceLeDiff,reduceCtorEq,d12,dg0,d0,d5]
 ·have yz:i=k:=by omega
  (try((repeat(revert hN;revert N;apply Pn.out));refine wk (tw @d12 (tw @dg0 (tw @d0 (tw @d5 (tw @d11 (tw @dg @hi)))))) ?_;(repeat(refine Pn.mk ?_;intro N hN))))
  refine w7 (.inl rfl) (by simp only[go_sem, ↓reduceIte,Nat.reduceEqDiff,Nat.reduceAdd,Nat.reduceSub,Nat.reduceLeDiff,reduceCtorEq];rfl) ?_
  rw[uK dg (by simp) (rows':=(fy k L).map AM) (by rw[List.drop_zero,List.take_of_length_le (Nat.le_refl _)];rw[yz]at hR;exact Jm 3 hR)]
end Go.Proofs.YtgoelphibofcmaaGreat.V

namespace Go.Proofs.YtgoelphibofcmaaGreat.V
open Go.RowKit
attribute [local irreducible] dG wpOps gy Call
attribute [local go_sem] aM fF eP ga fW cQ upd cz K.av cR AV.cells AV.cell rowOf rowsOf part ld rowAt bq cu dD ee ik bJ dh ev fU eX dr ej dd dc dQ dR bQ bf cW bP cY cX eh ek ei cV cj de ef bK aO da cG ij bw cK bU aY dn aZ dE AV.undef bD bG dV ec dM dK cH eu ew cF ep eo cZ db List.getD_cons_zero List.getD_cons_succ List.getD_nil List.all_cons List.all_nil Bool.and_true Bool.true_and Bool.and_self Bool.not_true Bool.not_false Option.map_some Option.map_none Option.bind_some Option.bind_none List.length_cons List.length_nil List.take_succ_cons List.take_zero List.take_nil List.drop_succ_cons List.drop_zero List.drop_nil List.head?_cons List.map_cons List.map_nil List.getElem?_cons_zero List.getElem?_cons_succ List.cons_append List.nil_append List.append_nil List.length_map List.set_cons_zero List.set_cons_succ Nat.reduceMul eq_self Int.toNat_natCast Int.natCast_nonneg and_self true_and and_true decide_true decide_false Bool.false_eq_true Nat.zero_add Nat.add_zero List.contains_cons List.contains_nil Bool.or_false Bool.false_or beq_self_eq_true Nat.reduceBEq ne_eq not_true_eq_false not_false_eq_true Id.mk.injEq false_and and_false Nat.reduceLT Int.reduceLE Int.reduceLT Int.reduceToNat Int.reduceNeg Int.reduceAdd Nat.le_refl List.length_append beq_true beq_false Bool.not_eq_eq_eq_not or_false false_or dL ai aj aH bl bB cw aX bd aU bh cU bH
theorem xn (n:Nat):List.replicate n [AV.int .i64 0]=dC (fun _=>0) n:=by
 refine List.ext_getElem? fun i=>?_
 by_cases h:i<n
 ·rw[fo h,List.getElem?_replicate,if_pos h];rfl
 ·rw[List.getElem?_eq_none (by simp;omega),List.getElem?_eq_none (by rw[gm];omega)]
def cP (cnt:Nat) (L:Nat->Nat) (i m:Nat):Nat->Nat:=fun x=>if bV L x<i then bV L x else if x∈(members cnt L ((leads cnt L).getD i 0)).take m then i else 0
theorem oW (cnt:Nat) (L:Nat->Nat):cP cnt L 0 0=fun _=>0:=by funext x;simp[cP]
theorem uf (t:Int) (bs:List PB) (k:Nat) (h:k<bs.length):aL t (bs.take (k+1))=aL t (bs.take k)++if t<=(bs[k]).s then[bs[k]]else[]:=by
 unfold aL
 rw[List.take_succ_eq_append_getElem h,List.filter_append]
 congr 1
 by_cases h:t<=bs[k].s<;>simp[h]
theorem xh {t:Int} {bs:List PB} {b:PB} (h:b∈aL t bs):b∈bs:=(List.mem_filter.1 h).1
theorem ns (t:Int) (bs:List PB):(aL t bs).length<=bs.length:=List.length_filter_le _ _
theorem B3 (cnt:Nat) (hn:cnt<=1048576) (bs:List PB) (hb:∀b∈bs,b.a<cnt/\b.b<cnt) (qc:bs.length<=1048576) (t:Int):aq Tryz.prog 192 [.int .i64 cnt,.sl (bs.map ay),.int .i64 t] (.gJ [.int .i64 (leads cnt (eB (aL t bs))).length,.sl ((eY (eB (aL t bs)) bs).map ay)]):=by
 refine aq.body eC rfl fun hl n0=>?_
 clear hl
 (try((repeat(revert hN;revert N;apply Pn.out));refine wk @Nat.zero_add ?_;(repeat(refine Pn.mk ?_;intro N hN))))
 refine aW (fun n env st=>∃k:Nat,n=(bs.length)-k/\k<=(bs.length)/\env 9=.int .i64 (k:Int)/\(∃o:Id,env 8=.own o 0 (aL t (bs.take k)).length/\st.get o=some ⟨true,3,(aL t (bs.take k)).map ay⟩/\o.ck<st.next)) (bs.length) ⟨0,by omega,by omega,sl @Nat.zero_add,⟨⟨192001000,n0+1⟩,by(simp only[go_sem, ↓reduceIte,Nat.reduceEqDiff,Nat.reduceAdd,Nat.reduceSub,Nat.reduceLeDiff,reduceCtorEq])<;>rfl,by(simp only[go_sem, ↓reduceIte,Nat.reduceEqDiff,Nat.reduceAdd,Nat.reduceSub,Nat.reduceLeDiff,reduceCtorEq])<;>rfl,by(try dsimp only);omega⟩⟩ ?_
 rintro n_a env_a st_a ⟨k,rfl,ale,a9,mb⟩ dH
 have a0:=dH 0 (by kernel_rfl);have a1:=dH 1 (by kernel_rfl);have a2:=dH 2 (by kernel_rfl)
 simp only[go_sem, ↓reduceIte,Nat.reduceEqDiff,Nat.reduceAdd,Nat.reduceSub,Nat.reduceLeDiff,reduceCtorEq]at a0 a1 a2
 clear dH
 obtain⟨o,a8,ag,uR⟩:=mb
 have sH:=dp uR
 by_cases hk:(k:Int)<(bs.length:Int)
 ·have cE:∀{e:Env} {gg:Rows} {nx:Nat},(e 9=.int .i64 (IntKind.i64.wrap ((k:Int)+1)))->(∃o:Id,e 8=.own o 0 (aL t (bs.take (k+1))).length/\gg o=some ⟨true,3,(aL t (bs.take (k+1))).map ay⟩/\o.ck<nx)->∃m0,m0<(bs.length)-k/\∃k:Nat,m0=(bs.length)-k/\k<=(bs.length)/\e 9=.int .i64 (k:Int)/\(∃o:Id,e 8=.own o 0 (aL t (bs.take k)).length/\gg o=some ⟨true,3,(aL t (bs.take k)).map ay⟩/\o.ck<nx):=fun x1 x2=>⟨_,by omega,k+1,rfl,by omega,(by rw[x1,az (by omega)]),x2⟩
  have fA:k<bs.length:=by omega
  have eQ:(bs.map ay)[k]? =some (ay bs[k]):=by simp[fA]
  have hs:=uf t bs k fA
  have CO:=ns t (bs.take k)
  rw[List.length_take]at CO
  by_cases hc:t<=(bs[k]).s
  ·rw[if_pos hc]at hs
   have e1:(aL t (bs.take k)).length+1<=16777216:=by omega
   have lF:((aL t (bs.take k)).map ay).length=(aL t (bs.take k)).length:=by simp
   generalize bs[k]=b at *
   (try((repeat(revert hN;revert N;apply Pn.out));refine wk (tw @a9 (tw @a0 (tw @a1 (tw @a2 (tw @a8 (tw @ag (tw @sH (tw @hk (tw @eQ (tw @hc (tw @e1 (tw @lF @ay.eq_1)))))))))))) ?_;(repeat(refine Pn.mk ?_;intro N hN))))
   exact cE (sd (tw @a9 (tw @a0 (tw @a1 @a2)))) (⟨⟨192006006,st_a.next+1+1⟩,by rw[hs,List.length_append];simp only[go_sem, ↓reduceIte,Nat.reduceEqDiff,Nat.reduceAdd,Nat.reduceSub,Nat.reduceLeDiff,reduceCtorEq,List.length_cons,List.length_nil],by rw[hs,List.map_append,List.map_cons,List.map_nil];simp only[go_sem, ↓reduceIte,Nat.reduceEqDiff,Nat.reduceAdd,Nat.reduceSub,Nat.reduceLeDiff,reduceCtorEq,ay],by(try dsimp only);omega⟩)
  ·rw[if_neg hc,List.append_nil]at hs
   generalize bs[k]=b at *
   (try((repeat(revert hN;revert N;apply Pn.out));refine wk (tw @a9 (tw @a0 (tw @a1 (tw @a2 (tw @a8 (tw @ag (tw @sH (tw @hk (tw @eQ (tw @hc @ay.eq_1)))))))))) ?_;(repeat(refine Pn.mk ?_;intro N hN))))
   exact cE (sd (tw @a9 (tw @a0 (tw @a1 @a2)))) (⟨o,by rw[hs];simp only[go_sem, ↓reduceIte,Nat.reduceEqDiff,Nat.reduceAdd,Nat.reduceSub,Nat.reduceLeDiff,reduceCtorEq,a8],by rw[hs];simp only[go_sem, ↓reduceIte,Nat.reduceEqDiff,Nat.reduceAdd,Nat.reduceSub,Nat.reduceLeDiff,reduceCtorEq,ag],by(try dsimp only);omega⟩)
 have l7:k=bs.length:=by omega
 subst l7
 rw[List.take_length]at a8 ag
 have CK:=BY cnt hn (aL t bs) (fun b h=>hb b (xh h)) (by have:=ns t bs;omega)
 have hL:=tW (aL t bs)
 have CJ:fz (dL st_a.get) 6 (.own o 0 (aL t bs).length)=some (.sl ((aL t bs).map ay)):=gr (sz:=3) (by simp[dL,ag]) rfl fun b=>zF _ 4 b
 have Ul:∀x,cN (dL st_a.get) 6 [.int .i64 x,.own o 0 (aL t bs).length]=some [.int .i64 x,.sl ((aL t bs).map ay)]:=fun x=>by simp only[ai,aj,aH,CJ,Option.map_some]
 (try((repeat(revert hN;revert N;apply Pn.out));refine wk (tw @a9 (tw @a0 (tw @a1 (tw @a2 (tw @a8 @hk))))) ?_;(repeat(refine Pn.mk ?_;intro N hN))))
 refine .inl ⟨_,aq.x CK (Ul _),?_⟩
 refine hN _ _ ?_
 clear hN N
 generalize eB (aL t bs)=L at *
 have s4:((fy cnt L).map AM).length=(leads cnt L).length:=by simp[fy]
 have SJ:=jP cnt L
 have jI:(0:Int)<=(cnt:Int):=by omega
 have qd:(cnt:Int)<=((16777216:Nat):Int):=by omega
 have gL:List.replicate cnt [AV.int .i64 0]=dC (cP cnt L 0 0) cnt:=by rw[xn,oW]
 (try((repeat(revert hN;revert N;apply Pn.out));refine wk (tw @a9 (tw @a0 (tw @a1 (tw @a2 (tw @jI (tw @qd @Int.le_refl)))))) ?_;(repeat(refine Pn.mk ?_;intro N hN))))
 refine aW (fun n env st=>∃i:Nat,n=((leads cnt L).length)-i/\i<=((leads cnt L).length)/\env 12=.int .i64 (i:Int)/\st.get ⟨192008001,st_a.next+1+1⟩=some ⟨true,1,dC (cP cnt L i 0) cnt⟩/\(st_a.next+1+1<st.next)) ((leads cnt L).length) ⟨0,by omega,by omega,sl (tw @a9 (tw @a0 (tw @a1 (tw @a2 @gL)))),sl (tw @a9 (tw @a0 (tw @a1 (tw @a2 @gL)))),(by(try dsimp only);omega)⟩ ?_
 rintro n_c env_c st_c ⟨i,rfl,cle,zx,cg0,cI0⟩ cfr
 have c1:=cfr 1 (by kernel_rfl);have jz:=cfr 10 (by kernel_rfl);have nQ:=cfr 11 (by kernel_rfl)
 simp only[go_sem, ↓reduceIte,Nat.reduceEqDiff,Nat.reduceAdd,Nat.reduceSub,Nat.reduceLeDiff,reduceCtorEq,a9,a0,a1,a2,gL]at c1 jz nQ
 clear cfr
 by_cases hi:(i:Int)<((leads cnt L).length:Int)
 ·have ig:∀{e:Env} {gg:Rows} {nx:Nat},(e 12=.int .i64 (IntKind.i64.wrap ((i:Int)+1)))->(gg ⟨192008001,st_a.next+1+1⟩=some ⟨true,1,dC (cP cnt L (i+1) 0) cnt⟩)->(st_a.next+1+1<nx)->∃m0,m0<((leads cnt L).length)-i/\∃i:Nat,m0=((leads cnt L).length)-i/\i<=((leads cnt L).length)/\e 12=.int .i64 (i:Int)/\gg ⟨192008001,st_a.next+1+1⟩=some ⟨true,1,dC (cP cnt L i 0) cnt⟩/\(st_a.next+1+1<nx):=fun x1 x2 x3=>⟨_,by omega,i+1,rfl,by omega,(by rw[x1,az (by omega)]),x2,x3⟩
  have fh:i<(leads cnt L).length:=by omega
  have j7:((fy cnt L).map AM)[i]? =some (AM (members cnt L (leads cnt L)[i])):=by simp[fy,fh]
  have uQ:(leads cnt L).getD i 0=(leads cnt L)[i]:=by simp[List.getD_eq_getElem?_getD,fh]
  have lh:∀m,cP cnt L i m=fun x=>if bV L x<i then bV L x else if x∈(members cnt L (leads cnt L)[i]).take m then i else 0:=fun m=>by unfold cP;rw[uQ]
  have rL:=fun x (hx:x<cnt)=>te hL (n:=cnt) (k:=x) (i:=i) hx fh
  have mm:(members cnt L (leads cnt L)[i]).Nodup:=List.nodup_range.filter _
  have Ol:∀x∈members cnt L (leads cnt L)[i],x<cnt:=fun x hx=>(lN.1 hx).1
  have hMc:(members cnt L (leads cnt L)[i]).length<=cnt:=by
   have:=List.length_filter_le (fun k=>L k==(leads cnt L)[i]) (List.range cnt)
   simpa[members]using this
  generalize members cnt L (leads cnt L)[i]=M at *
  have CI:(M.map eN).length=M.length:=by simp
  (try((repeat(revert hN;revert N;apply Pn.out));refine wk (tw @zx (tw @cg0 (tw @c1 (tw @jz (tw @nQ (tw @hi @s4)))))) ?_;(repeat(refine Pn.mk ?_;intro N hN))))
  refine aW (fun n env st=>∃m:Nat,n=(M.length)-m/\m<=(M.length)/\env 13=.int .i64 (m:Int)/\st.get ⟨192008001,st_a.next+1+1⟩=some ⟨true,1,dC (cP cnt L i m) cnt⟩/\(st_a.next+1+1<st.next)) (M.length) ⟨0,by omega,by omega,sl (tw @zx (tw @cg0 (tw @c1 (tw @jz @nQ)))),sl (tw @zx (tw @cg0 (tw @c1 (tw @jz @nQ)))),(by(try dsimp only);omega)⟩ ?_
  rintro n_d env_d st_d ⟨m,rfl,dle,d13,dg0,dI0⟩ dfr
  have d1:=dfr 1 (by kernel_rfl);have d10:=dfr 10 (by kernel_rfl);have d11:=dfr 11 (by kernel_rfl);have d12:=dfr 12 (by kernel_rfl)
  simp only[go_sem, ↓reduceIte,Nat.reduceEqDiff,Nat.reduceAdd,Nat.reduceSub,Nat.reduceLeDiff,reduceCtorEq,zx,cg0,c1,jz,nQ]at d1 d10 d11 d12
  clear dfr
  have tl:=gm (cP cnt L i m) cnt
  by_cases hm:(m:Int)<(M.length:Int)
  ·have tZ:∀{e:Env} {gg:Rows} {nx:Nat},(e 13=.int .i64 (IntKind.i64.wrap ((m:Int)+1)))->(gg ⟨192008001,st_a.next+1+1⟩=some ⟨true,1,dC (cP cnt L i (m+1)) cnt⟩)->(st_a.next+1+1<nx)->∃m0,m0<(M.length)-m/\∃m:Nat,m0=(M.length)-m/\m<=(M.length)/\e 13=.int .i64 (m:Int)/\gg ⟨192008001,st_a.next+1+1⟩=some ⟨true,1,dC (cP cnt L i m) cnt⟩/\(st_a.next+1+1<nx):=fun x1 x2 x3=>⟨_,by omega,m+1,rfl,by omega,(by rw[x1,az (by omega)]),x2,x3⟩
   have zQ:m<M.length:=by omega
   have wh:(M.map eN)[m]? =some (eN M[m]):=by simp[zQ]
   have wu:=Ol _ (List.getElem_mem zQ)
   have CQ:(M[m]:Int)<(cnt:Int):=by omega
   have CP:=fo (f:=cP cnt L i m) wu
   have eJ:(dC (cP cnt L i m) cnt).set M[m] (eN i)=dC (cP cnt L i (m+1)) cnt:=pO wu (by
    have h1:=(rL _ wu).1 (List.getElem_mem zQ)
    rw[lh]
    simp only[]
    rw[if_neg (by omega),if_pos (by rw[List.take_succ_eq_append_getElem zQ];exact List.mem_append_right _ (List.mem_singleton.2 rfl))]) fun x hx gW=>by
    rw[lh,lh]
    simp only[]
    rw[List.take_succ_eq_append_getElem zQ]
    simp only[List.mem_append,List.mem_singleton,gW,or_false]
   rw[eN]at eJ CP
   generalize M[m]=xm at *
   (try((repeat(revert hN;revert N;apply Pn.out));refine wk (tw @d13 (tw @dg0 (tw @d1 (tw @d10 (tw @d11 (tw @d12 (tw @hm (tw @hi (tw @j7 (tw @s4 (tw @wh (tw @CI (tw @CQ (tw @CP (tw @tl (tw @eJ (tw @AM.eq_1 @eN.eq_1))))))))))))))))) ?_;(repeat(refine Pn.mk ?_;intro N hN))))
   refine tZ ?_ ?_ (by(try dsimp only);omega)
   all_goals simp only[go_sem, ↓reduceIte,Nat.reduceEqDiff,Nat.reduceAdd,Nat.reduceSub,Nat.reduceLeDiff,reduceCtorEq,d13,dg0,d1,d10,d11,d12,eJ]
  ·have lF:m=M.length:=by omega
   subst lF
   have qF:dC (cP cnt L i M.length) cnt=dC (cP cnt L (i+1) 0) cnt:=gY fun x hx=>by
    rw[lh,List.take_length]
    simp only[cP,List.take_zero,List.not_mem_nil,if_false]
    have h1:=rL x hx
    by_cases h2:bV L x<i
    ·rw[if_pos h2,if_pos (by omega)]
    ·rw[if_neg h2]
     by_cases h3:x∈M
     ·rw[if_pos h3,if_pos (by have:=h1.1 h3;omega),h1.1 h3]
     ·rw[if_neg h3,if_neg fun h4=>h3 (h1.2 (by omega))]
   (try((repeat(revert hN;revert N;apply Pn.out));refine wk (tw @d13 (tw @dg0 (tw @d1 (tw @d10 (tw @d11 (tw @d12 (tw @hm (tw @hi (tw @j7 (tw @s4 (tw @CI @AM.eq_1))))))))))) ?_;(repeat(refine Pn.mk ?_;intro N hN))))
   refine ig ?_ ?_ (by(try dsimp only);omega)
   all_goals simp only[go_sem, ↓reduceIte,Nat.reduceEqDiff,Nat.reduceAdd,Nat.reduceSub,Nat.reduceLeDiff,reduceCtorEq,zx,cg0,c1,jz,nQ,d13,dg0,d1,d10,d11,d12,qF]
 have lE:i=(leads cnt L).length:=by omega
 subst lE
 have rM:dC (cP cnt L (leads cnt L).length 0) cnt=dC (bV L) cnt:=gY fun x hx=>by rw[cP,if_pos (kc hL hx)]
 rw[rM]at cg0
 have tl:=gm (bV L) cnt
 (try((repeat(revert hN;revert N;apply Pn.out));refine wk (tw @zx (tw @cg0 (tw @c1 (tw @jz (tw @nQ (tw @hi @s4)))))) ?_;(repeat(refine Pn.mk ?_;intro N hN))))
 have Sy:st_a.next+1+1<st_c.next:=cI0
 refine aW (fun n env st=>∃j:Nat,n=(bs.length)-j/\j<=(bs.length)/\env 15=.int .i64 (j:Int)/\st.get ⟨192008001,st_a.next+1+1⟩=some ⟨true,1,dC (bV L) cnt⟩/\(∃p:Id,env 14=.own p 0 (eY L (bs.take j)).length/\st.get p=some ⟨true,3,(eY L (bs.take j)).map ay⟩/\st_c.next<=p.ck/\p.ck<st.next)) (bs.length) ⟨0,by omega,by omega,sl (tw @zx (tw @cg0 (tw @c1 (tw @jz @nQ)))),sl (tw @zx (tw @cg0 (tw @c1 (tw @jz @nQ)))),⟨⟨192016000,st_c.next+1⟩,by(simp only[go_sem, ↓reduceIte,Nat.reduceEqDiff,Nat.reduceAdd,Nat.reduceSub,Nat.reduceLeDiff,reduceCtorEq])<;>rfl,by(simp only[go_sem, ↓reduceIte,Nat.reduceEqDiff,Nat.reduceAdd,Nat.reduceSub,Nat.reduceLeDiff,reduceCtorEq])<;>rfl,by(try dsimp only);omega,by(try dsimp only);omega⟩⟩ ?_
 rintro n_f env_f st_f ⟨j,rfl,fle,f15,fg0,fI0⟩ ffr
 have f1:=ffr 1 (by kernel_rfl);have f10:=ffr 10 (by kernel_rfl);have f11:=ffr 11 (by kernel_rfl)
 simp only[go_sem, ↓reduceIte,Nat.reduceEqDiff,Nat.reduceAdd,Nat.reduceSub,Nat.reduceLeDiff,reduceCtorEq,zx,cg0,c1,jz,nQ]at f1 f10 f11
 clear ffr
 obtain⟨p,f14,fg,Oq,IT⟩:=fI0
 have x1:=cr (a:=⟨192008001,st_a.next+1+1⟩) (b:=p) (by(try dsimp only);omega)
 have AQ:=dp IT
 have hvn:st_a.next+1+1<st_f.next:=by omega
 have I5:=dp (i:=⟨192008001,st_a.next+1+1⟩) (n:=st_f.next) hvn
 have CO:=(nr L (bs.take j)).2
 rw[List.length_take]at CO
 by_cases hj:(j:Int)<(bs.length:Int)
 ·have rZ:∀{e:Env} {gg:Rows} {nx:Nat},(e 15=.int .i64 (IntKind.i64.wrap ((j:Int)+1)))->(gg ⟨192008001,st_a.next+1+1⟩=some ⟨true,1,dC (bV L) cnt⟩)->(∃p:Id,e 14=.own p 0 (eY L (bs.take (j+1))).length/\gg p=some ⟨true,3,(eY L (bs.take (j+1))).map ay⟩/\st_c.next<=p.ck/\p.ck<nx)->∃m0,m0<(bs.length)-j/\∃j:Nat,m0=(bs.length)-j/\j<=(bs.length)/\e 15=.int .i64 (j:Int)/\gg ⟨192008001,st_a.next+1+1⟩=some ⟨true,1,dC (bV L) cnt⟩/\(∃p:Id,e 14=.own p 0 (eY L (bs.take j)).length/\gg p=some ⟨true,3,(eY L (bs.take j)).map ay⟩/\st_c.next<=p.ck/\p.ck<nx):=fun x1 x2 x3=>⟨_,by omega,j+1,rfl,by omega,(by rw[x1,az (by omega)]),x2,x3⟩
  have jB:j<bs.length:=by omega
  have Hv:(bs.map ay)[j]? =some (ay bs[j]):=by simp[jB]
  have MO:=hb _ (List.getElem_mem jB)
  have hs:=An L (bs.take j) bs[j]
  rw[<-List.take_succ_eq_append_getElem jB]at hs
  generalize bs[j]=b at *
  have hA:=fo (f:=bV L) MO.1
  have hB:=fo (f:=bV L) MO.2
  have gK:(b.a:Int)<(cnt:Int):=by omega
  have fP:(b.b:Int)<(cnt:Int):=by omega
  have Sm:=BW (bV L b.a) (bV L b.b)
  have Sn:=BV (bV L b.a) (bV L b.b)
  rw[eN]at hA hB
  by_cases he:bV L b.a=bV L b.b
  ·rw[if_pos he,List.append_nil]at hs
   have uP:decide ((bV L b.a:Int)=(bV L b.b:Int))=true:=decide_eq_true (by rw[he])
   (try((repeat(revert hN;revert N;apply Pn.out));refine wk (tw @f15 (tw @fg0 (tw @f1 (tw @f10 (tw @f11 (tw @f14 (tw @fg (tw @hj (tw @Hv (tw @hA (tw @hB (tw @gK (tw @fP (tw @tl (tw @uP (tw @x1 (tw @AQ @ay.eq_1))))))))))))))))) ?_;(repeat(refine Pn.mk ?_;intro N hN))))
   refine rZ ?_ ?_ (⟨p,by rw[hs];simp only[go_sem, ↓reduceIte,Nat.reduceEqDiff,Nat.reduceAdd,Nat.reduceSub,Nat.reduceLeDiff,reduceCtorEq,f14],by rw[hs];simp only[go_sem, ↓reduceIte,Nat.reduceEqDiff,Nat.reduceAdd,Nat.reduceSub,Nat.reduceLeDiff,reduceCtorEq,fg],Oq,by(try dsimp only);omega⟩)
   all_goals simp only[go_sem, ↓reduceIte,Nat.reduceEqDiff,Nat.reduceAdd,Nat.reduceSub,Nat.reduceLeDiff,reduceCtorEq,f15,fg0,f1,f10,f11]
  ·rw[if_neg he]at hs
   have uP:decide ((bV L b.a:Int)=(bV L b.b:Int))=false:=decide_eq_false fun h=>he (by omega)
   have e1:(eY L (bs.take j)).length+1<=16777216:=by omega
   have lF:((eY L (bs.take j)).map ay).length=(eY L (bs.take j)).length:=by simp
   (repeat(first|((repeat(revert hN;revert N;apply Pn.out));refine wk (tw @f15 (tw @fg0 (tw @f1 (tw @f10 (tw @f11 (tw @f14 (tw @fg (tw @hj (tw @Hv (tw @hA (tw @hB (tw @gK (tw @fP (tw @tl (tw @uP (tw @x1 (tw @AQ (tw @I5 (tw @e1 (tw @lF @ay.eq_1)))))))))))))))))))) ?_;(repeat(refine Pn.mk ?_;intro N hN)))|((try apply Or.inl);refine⟨_,aq.x (Sm) (sd (tw @f15 (tw @fg0 (tw @f1 (tw @f10 (tw @f11 (tw @f14 (tw @fg (tw @hj (tw @Hv (tw @hA (tw @hB (tw @gK (tw @fP (tw @tl (tw @uP (tw @x1 (tw @AQ (tw @I5 (tw @e1 (tw @lF @ay.eq_1))))))))))))))))))))),?_⟩;refine hN _ _ ?_;clear hN N)|((try apply Or.inl);refine⟨_,aq.x (Sn) (sd (tw @f15 (tw @fg0 (tw @f1 (tw @f10 (tw @f11 (tw @f14 (tw @fg (tw @hj (tw @Hv (tw @hA (tw @hB (tw @gK (tw @fP (tw @tl (tw @uP (tw @x1 (tw @AQ (tw @I5 (tw @e1 (tw @lF @ay.eq_1))))))))))))))))))))),?_⟩;refine hN _ _ ?_;clear hN N)))
   refine rZ ?_ ?_ (⟨⟨192023014,st_f.next+1+1+1+1⟩,by rw[hs,List.length_append];simp only[go_sem, ↓reduceIte,Nat.reduceEqDiff,Nat.reduceAdd,Nat.reduceSub,Nat.reduceLeDiff,reduceCtorEq,List.length_cons,List.length_nil],by rw[hs,List.map_append,List.map_cons,List.map_nil];simp only[go_sem, ↓reduceIte,Nat.reduceEqDiff,Nat.reduceAdd,Nat.reduceSub,Nat.reduceLeDiff,reduceCtorEq,ay],by(try dsimp only);omega,by(try dsimp only);omega⟩)
   all_goals simp only[go_sem, ↓reduceIte,Nat.reduceEqDiff,Nat.reduceAdd,Nat.reduceSub,Nat.reduceLeDiff,reduceCtorEq,f15,fg0,f1,f10,f11,x1,I5]
 ·have gZ:j=bs.length:=by omega
  subst gZ
  rw[List.take_length]at f14 fg
  (try((repeat(revert hN;revert N;apply Pn.out));refine wk (tw @f15 (tw @fg0 (tw @f1 (tw @f10 (tw @f11 (tw @f14 (tw @hj @s4))))))) ?_;(repeat(refine Pn.mk ?_;intro N hN))))
  refine jw (.inl rfl) (r1:=.int .i64 ((leads cnt L).length:Int)) (sd @Nat.zero_add) (by simp only[go_sem, ↓reduceIte,Nat.reduceEqDiff,Nat.reduceAdd,Nat.reduceSub,Nat.reduceLeDiff,reduceCtorEq];rfl) ?_
  have h1:gx st_f.get 5 (.own p 0 (eY L bs).length)=some (.sl ((eY L bs).map ay)):=fc (sz:=3) fg rfl fun b=>uI _ 3 b
  simp only[eR,bz,cD,eK,h1,Option.map_some]
end Go.Proofs.YtgoelphibofcmaaGreat.V

namespace Go.Proofs.YtgoelphibofcmaaGreat.V
def EG (bs:List PB) (e v:Nat):Prop:=(cC bs e).a=v∨(cC bs e).b=v
def iV (bs:List PB) (m v:Nat):List Nat:=(List.range m).filter fun i=>(cC bs i).a==v||(cC bs i).b==v
theorem rQ {bs:List PB} {m v e:Nat}:e∈iV bs m v↔e<m/\EG bs e v:=by simp[iV,EG]
theorem Gx (bs:List PB) (m v:Nat):iV bs (m+1) v=iV bs m v++if (cC bs m).a=v∨(cC bs m).b=v then[m]else[]:=by
 unfold iV
 rw[List.range_succ,List.filter_append]
 congr 1
 by_cases h:(cC bs m).a=v<;>by_cases h2:(cC bs m).b=v<;>simp[h,h2]
theorem rP (bs:List PB) (m v:Nat):(iV bs m v).length<=m:=by
 have:=List.length_filter_le (fun i=>(cC bs i).a==v||(cC bs i).b==v) (List.range m)
 simpa[iV]using this
def nz (cnt:Nat) (bs:List PB):Prop:=∀e,e<bs.length->(cC bs e).a<cnt/\(cC bs e).b<cnt/\(cC bs e).a≠(cC bs e).b
theorem oZ {cnt:Nat} {bs:List PB} (h:nz cnt bs) {e v:Nat} (he:e<bs.length):bW bs e v<cnt:=by
 have:=h e he;unfold bW;split;exact this.2.1;exact this.1
theorem JC {cnt:Nat} {bs:List PB} (h:nz cnt bs) {e v:Nat} (he:e<bs.length) (hi:EG bs e v):bW bs e v≠v:=by
 have h1:=(h e he).2.2
 unfold bW
 split
 ·rename_i ha;rw[<-ha];exact fun h=>h1 h.symm
 ·rename_i ha;rcases hi with hi|hi
  ·exact absurd hi ha
  ·rw[<-hi];exact h1
theorem y4 {bs:List PB} {e v:Nat}:EG bs e (bW bs e v):=by
 unfold bW EG;split
 ·exact .inr rfl
 ·exact .inl rfl
theorem o8 {cnt:Nat} {bs:List PB} (h:nz cnt bs) {e v:Nat} (he:e<bs.length) (hi:EG bs e v):bW bs e (bW bs e v)=v:=by
 have h1:=(h e he).2.2
 unfold bW
 by_cases ha:(cC bs e).a=v
 ·rw[if_pos ha,if_neg h1];exact ha
 ·rw[if_neg ha,if_pos rfl]
  rcases hi with hi|hi
  ·exact absurd hi ha
  ·exact hi
structure zo (cnt:Nat) (bs:List PB) (f:Nat->Int) (y:Nat) (out:Nat->Int):Prop where
 lo:∀v,v<cnt->-1<=out v/\out v<=cnt
 first:out y=0
 zero:∀v,v<cnt->out v=0->v=y
 down:∀v,v<cnt->0<out v->∃e,e<bs.length/\EG bs e v/\0<fE bs f e v/\out (bW bs e v)=out v-1
 shut:∀e v,e<bs.length->EG bs e v->0<=out (bW bs e v)->0<fE bs f e v->0<=out v
structure AI (cnt:Nat) (bs:List PB) (f:Nat->Int) (y:Nat) (out:Nat->Int) (Q:List Nat) (i:Nat):Prop where
 nd:Q.Nodup
 lt:∀x∈Q,x<cnt
 iff:∀v,v<cnt->(0<=out v↔v∈Q)
 lo:∀v,v<cnt->-1<=out v
 first:out y=0
 up:∀j (h:j<Q.length),out Q[j]<=j
 zero:∀v,v<cnt->out v=0->v=y
 down:∀v,v<cnt->0<out v->∃e,e<bs.length/\EG bs e v/\0<fE bs f e v/\out (bW bs e v)=out v-1
 shut:∀j (h:j<Q.length),j<i->∀e,e<bs.length->EG bs e Q[j]->0<fE bs f e (bW bs e Q[j])->0<=out (bW bs e Q[j])
section
variable {cnt:Nat} {bs:List PB} {f:Nat->Int} {y:Nat} {out:Nat->Int} {Q:List Nat} {i:Nat}
theorem AI.start (hy:y<cnt):AI cnt bs f y (fun v=>if v=y then 0 else -1) [y] 0 where
 nd:=by simp
 lt:=fun x hx=>by rw[List.mem_singleton.1 hx];exact hy
 iff:=fun v _=>by
  by_cases h:v=y<;>simp[h]
 lo:=fun v _=>by split<;>omega
 first:=if_pos rfl
 up:=fun j h=>by
  have:j=0:=by simp at h;omega
  subst this;simp
 zero:=fun v _ h=>by
  by_cases hv:v=y
  ·exact hv
  ·rw[if_neg hv]at h;omega
 down:=fun v _ h=>by
  by_cases hv:v=y
  ·rw[if_pos hv]at h;omega
  ·rw[if_neg hv]at h;omega
 shut:=fun j h hj=>by omega
theorem AI.len (h:AI cnt bs f y out Q i):Q.length<=cnt:=oX cnt Q h.nd h.lt
theorem AI.visit (h:AI cnt bs f y out Q i) (ok:nz cnt bs) (hi:i<Q.length) {e:Nat} (he:e<bs.length) (pZ:EG bs e Q[i]) (j8:out (bW bs e Q[i])<0) (fS:0<fE bs f e (bW bs e Q[i])):
  AI cnt bs f y (fun v=>if v=bW bs e Q[i]then out Q[i]+1 else out v) (Q++[bW bs e Q[i]]) i:=by
 have M0:0<=out Q[i]:=(h.iff _ (h.lt _ (List.getElem_mem hi))).2 (List.getElem_mem hi)
 have hq:=oZ ok (v:=Q[i]) he
 have gW:=JC ok he pZ
 have SN:=o8 ok he pZ
 have UD:bW bs e Q[i]∉Q:=fun hm=>by have:=(h.iff _ hq).2 hm;omega
 have lh:=h.up i hi
 generalize hw:bW bs e Q[i]=w at *
 have qL:∀v,0<=out v->(if v=w then out Q[i]+1 else out v)=out v:=fun v hv=>by
  rw[if_neg];rintro rfl;omega
 have mono:∀v,0<=out v->0<=(if v=w then out Q[i]+1 else out v):=fun v hv=>by rw[qL v hv];exact hv
 refine⟨?_,?_,?_,?_,?_,?_,?_,?_,?_⟩
 ·rw[List.nodup_append]
  exact⟨h.nd,by simp,fun a ha b hb=>by rw[List.mem_singleton.1 hb];rintro rfl;exact UD ha⟩
 ·intro x hx
  rcases List.mem_append.1 hx with hx|hx
  ·exact h.lt x hx
  ·rw[List.mem_singleton.1 hx];exact hq
 ·intro v hv
  by_cases HA:v=w
  ·subst HA;simp;omega
  ·rw[if_neg HA,h.iff v hv];simp[HA]
 ·intro v hv
  by_cases HA:v=w
  ·rw[if_pos HA];omega
  ·rw[if_neg HA];exact h.lo v hv
 ·rw[qL y (by rw[h.first];exact Int.le_refl _)];exact h.first
 ·intro j hj
  by_cases gZ:j<Q.length
  ·rw[List.getElem_append_left gZ,qL _ ((h.iff _ (h.lt _ (List.getElem_mem gZ))).2 (List.getElem_mem gZ))]
   exact h.up j gZ
  ·have Ls:j=Q.length:=by simp at hj;omega
   subst Ls
   simp
   omega
 ·intro v hv h0
  by_cases HA:v=w
  ·rw[if_pos HA]at h0;omega
  ·rw[if_neg HA]at h0;exact h.zero v hv h0
 ·intro v hv h0
  by_cases HA:v=w
  ·subst HA
   rw[if_pos rfl]
   refine⟨e,he,by rw[<-hw];exact y4,fS,?_⟩
   rw[SN,qL _ M0];omega
  ·rw[if_neg HA]at h0 ⊢
   obtain⟨e',h1,h2,h3,h4⟩:=h.down v hv h0
   exact⟨e',h1,h2,h3,by rw[qL _ (by omega)];exact h4⟩
 ·intro j hj mN e' Lm MT hr
  have gZ:j<Q.length:=by omega
  rw[List.getElem_append_left gZ]at MT hr ⊢
  exact mono _ (h.shut j gZ mN e' Lm MT hr)
theorem AI.next (h:AI cnt bs f y out Q i) (hi:i<Q.length) (hs:∀e∈iV bs bs.length Q[i],0<fE bs f e (bW bs e Q[i])->0<=out (bW bs e Q[i])):AI cnt bs f y out Q (i+1):=
 ⟨h.nd,h.lt,h.iff,h.lo,h.first,h.up,h.zero,h.down,fun j hj mN e he pZ hr=>by
  by_cases Ls:j=i
  ·subst Ls;exact hs e (rQ.2 ⟨he,pZ⟩) hr
  ·exact h.shut j hj (by omega) e he pZ hr⟩
theorem AI.done (h:AI cnt bs f y out Q i) (ok:nz cnt bs) (hi:Q.length<=i):zo cnt bs f y out where
 lo:=fun v hv=>⟨h.lo v hv,by
  by_cases h0:0<=out v
  ·obtain⟨j,hj,rfl⟩:=List.getElem_of_mem ((h.iff v hv).1 h0)
   have:=h.up j hj
   have:=h.len
   omega
  ·omega⟩
 first:=h.first
 zero:=h.zero
 down:=h.down
 shut:=fun e v he pZ h0 hr=>by
  obtain⟨j,hj,PS⟩:=List.getElem_of_mem ((h.iff _ (oZ ok he)).1 h0)
  have h2:=h.shut j hj (by omega) e he (by rw[PS];exact y4)
  rw[PS,o8 ok he pZ]at h2
  exact h2 hr
end
end Go.Proofs.YtgoelphibofcmaaGreat.V

namespace Go.Proofs.YtgoelphibofcmaaGreat.V
open Go.RowKit
attribute [local irreducible] dG wpOps gy Call
attribute [local go_sem] aM fF eP ga fW cQ upd cz K.av cR AV.cells AV.cell rowOf rowsOf part ld rowAt bq cu dD ee ik bJ dh ev fU eX dr ej dd dc dQ dR bQ bf cW bP cY cX eh ek ei cV cj de ef bK aO da cG ij bw cK bU aY dn aZ dE AV.undef bD bG dV ec dM dK cH eu ew cF ep eo cZ db List.getD_cons_zero List.getD_cons_succ List.getD_nil List.all_cons List.all_nil Bool.and_true Bool.true_and Bool.and_self Bool.not_true Bool.not_false Option.map_some Option.map_none Option.bind_some Option.bind_none List.length_cons List.length_nil List.take_succ_cons List.take_zero List.take_nil List.drop_succ_cons List.drop_zero List.drop_nil List.head?_cons List.map_cons List.map_nil List.getElem?_cons_zero List.getElem?_cons_succ List.cons_append List.nil_append List.append_nil List.length_map List.set_cons_zero List.set_cons_succ Nat.reduceMul eq_self Int.toNat_natCast Int.natCast_nonneg and_self true_and and_true decide_true decide_false Bool.false_eq_true Nat.zero_add Nat.add_zero List.contains_cons List.contains_nil Bool.or_false Bool.false_or beq_self_eq_true Nat.reduceBEq ne_eq not_true_eq_false not_false_eq_true Id.mk.injEq false_and and_false Nat.reduceLT Int.reduceLE Int.reduceLT Int.reduceToNat Int.reduceNeg Int.reduceAdd Nat.le_refl List.length_append beq_true beq_false Bool.not_eq_eq_eq_not or_false false_or dL ai aj aH bl bB cw aX bd aU bh cU bH
def l9 (P:Program) (f:Nat) (args:List AV) (R:AV->Prop):Prop:=∀n:Nat,Call P f args ⟨fun _=>none,n⟩ fun r0 σ'=>∃r',gx σ'.get 6 r0=some r'/\R r'
theorem aq.r {P:Program} {f:Nat} {args:List AV} {r:AV} (h:aq P f args r):l9 P f args (fun r'=>r'=r):=h
theorem Gc {P:Program} {f:Nat} {args eE:List AV} {g:Rows} {n:Nat} {R:AV->Prop} (hv:cN (dL g) 6 args=some eE) (h:Sound P f eE ⟨fun _=>none,n⟩ fun r0 σ'=>∃r',gx σ'.get 6 r0=some r'/\R r'):Sound P f args ⟨g,n⟩ fun r σ'=>R r/\σ'=⟨g,n⟩:=by
 intro hs D ι w vs S U A
 refine(x9 (g0:=g) (K:=R) ⟨eE,hv,h⟩ (fun _ _ h=>h) S U A).mono ?_
 rintro e w' ⟨r,D',u,rfl,hR,T,S',hr⟩
 exact⟨r,g,n,D',ι,u,rfl,⟨hR,rfl⟩,T,S',U,Nat.le_refl _,hr⟩
theorem l9.x {P:Program} (hm:P.follows .mixedOrders=true) {f:Nat} {args eE:List AV} {R:AV->Prop} (h:l9 P f eE R) {σ:ar} (hv:cN (dL σ.get) 6 args=some eE):Call P f args σ fun r σ'=>R r/\σ'=σ:=
 gN (Gc hv (gq hm (h σ.next)))
theorem l9.body {P:Program} {f:Nat} {args:List AV} {R:AV->Prop} {nt na:Nat} {body:VC} {res:List nK} (hf:mi P f=some ⟨nt,na,body,res⟩) (ha:na=args.length) (h:(∀a∈args,eF a)->∀n:Nat,dG (Call P) body (kC res fun r0 σ'=>∃r',gx σ'.get 6 r0=some r'/\R r') (cz args) ⟨fun _=>none,n⟩):l9 P f args R:=fun n=>ma hf ha fun hl=>h hl n
def dW (f:Nat->Int) (n:Nat):List (List AV):=(List.range n).map fun i=>br (f i)
theorem dB (f:Nat->Int) (n:Nat):(dW f n).length=n:=by simp[dW]
theorem dO {f:Nat->Int} {n i:Nat} (h:i<n):(dW f n)[i]? =some (br (f i)):=by simp[dW,h]
theorem k8 {f g:Nat->Int} {n k:Nat} {v:Int} (hk:k<n) (hv:g k=v) (h:∀i,i<n->i≠k->g i=f i):(dW f n).set k (br v)=dW g n:=by
 refine List.ext_getElem? fun i=>?_
 rw[List.getElem?_set]
 by_cases hi:k=i
 ·subst hi
  rw[if_pos rfl,dB,if_pos hk,dO hk,hv]
 ·rw[if_neg hi]
  by_cases fh:i<n
  ·rw[dO fh,dO fh,h i fh (fun h=>hi h.symm)]
  ·rw[List.getElem?_eq_none (by rw[dB];omega),List.getElem?_eq_none (by rw[dB];omega)]
theorem Hh (f:Nat->Int) (n:Nat):dW f (n+1)=dW f n++[br (f n)]:=by simp[dW,List.range_succ]
theorem fzI (g:Rows) (n:Nat) (a:Int):cN g (n+1) (br a)=some (br a):=by simp[br,ai,aj,aH]
theorem Ty (g:Rows) (n:Nat) (a:Int):er g (n+1) (br a)=some (br a):=by simp[br,bz,cD,eK]
theorem J9 {g:Rows} {f:Nat->Int} {n m:Nat}:ib g (m+1) (dW f n)=some (dW f n):=by
 have:dW f n=((List.range n).map f).map br:=by simp[dW]
 rw[this];exact tP fun x=>Ty g m x
theorem Aw {g:Rows} {f:Nat->Int} {n m:Nat}:ea g (m+1) (dW f n)=some (dW f n):=by
 have:dW f n=((List.range n).map f).map br:=by simp[dW]
 rw[this];exact qx fun x=>fzI g m x
def O6 (l:List Nat):AV:=if l=[]then .cm else .sl (l.map eN)
def qi (cnt:Nat) (bs:List PB) (m:Nat):List (List AV):=(List.range cnt).map fun v=>[O6 (iV bs m v)]
theorem C2 {cnt:Nat} {bs:List PB} {m v:Nat} (h:v<cnt):(qi cnt bs m)[v]? =some [O6 (iV bs m v)]:=by simp[qi,h]
def fN (cnt:Nat) (bs:List PB) (f:Nat->Int):List AV:=[.int .i64 cnt,.sl (bs.map ay),.sl (qi cnt bs bs.length),.sl (dW f bs.length)]
theorem uD {bs:List PB} {e:Nat} (h:e<bs.length):(bs.map ay)[e]? =some (ay (cC bs e)):=getD_map ay h
def Small (bs:List PB) (f:Nat->Int):Prop:=∀e,e<bs.length->(0<=(cC bs e).s/\(cC bs e).s<=4)/\-4<=f e/\f e<=4
theorem JV (cnt:Nat) (bs:List PB) (f:Nat->Int) (hs:Small bs f) (e v:Nat) (he:e<bs.length):aq Tryz.prog 260 [.di (fN cnt bs f),.int .i64 v,.int .i64 e] (.gJ [.int .i64 (fE bs f e v),.int .i64 (bW bs e v)]):=by
 refine aq.body eC rfl fun hl n0=>?_
 clear hl
 have hb:=uD he
 have hf:=dO (f:=f) he
 obtain⟨⟨s0,s1⟩,s2,s3⟩:=hs e he
 have w1:IntKind.i64.wrap ((cC bs e).s-f e)=(cC bs e).s-f e:=bF (by omega)
 have w2:IntKind.i64.wrap ((cC bs e).s+f e)=(cC bs e).s+f e:=bF (by omega)
 unfold fE bW
 generalize cC bs e=b at *
 by_cases h:b.a=v
 ·have hd:decide ((b.a:Int)=(v:Int))=true:=decide_eq_true (by rw[h])
  (try((repeat(revert hN;revert N;apply Pn.out));refine wk (tw @fN.eq_1 (tw @hb (tw @hf (tw @ay.eq_1 (tw @br.eq_1 (tw @hd (tw @w1 @w2))))))) ?_;(repeat(refine Pn.mk ?_;intro N hN))))
  refine jw (.inl rfl) (by simp only[go_sem, ↓reduceIte,Nat.reduceEqDiff,Nat.reduceAdd,Nat.reduceSub,Nat.reduceLeDiff,reduceCtorEq];rfl) (by simp only[go_sem, ↓reduceIte,Nat.reduceEqDiff,Nat.reduceAdd,Nat.reduceSub,Nat.reduceLeDiff,reduceCtorEq];rfl) ?_
  simp only[eR,bz,cD,eK,Option.map_some,if_pos h]
 ·have hd:decide ((b.a:Int)=(v:Int))=false:=decide_eq_false fun hc=>h (by omega)
  (try((repeat(revert hN;revert N;apply Pn.out));refine wk (tw @fN.eq_1 (tw @hb (tw @hf (tw @ay.eq_1 (tw @br.eq_1 (tw @hd (tw @w1 @w2))))))) ?_;(repeat(refine Pn.mk ?_;intro N hN))))
  refine jw (.inl rfl) (by simp only[go_sem, ↓reduceIte,Nat.reduceEqDiff,Nat.reduceAdd,Nat.reduceSub,Nat.reduceLeDiff,reduceCtorEq];rfl) (by simp only[go_sem, ↓reduceIte,Nat.reduceEqDiff,Nat.reduceAdd,Nat.reduceSub,Nat.reduceLeDiff,reduceCtorEq];rfl) ?_
  simp only[eR,bz,cD,eK,Option.map_some,if_neg h]
theorem FD (cnt:Nat) (hn:cnt<=1048576) (bs:List PB) (ok:nz cnt bs) (qc:bs.length<=1048576) (f:Nat->Int) (hs:Small bs f) (y:Nat) (hy:y<cnt):
  l9 Tryz.prog 239 [.di (fN cnt bs f),.int .i64 y] fun r=>∃out,r=.sl (dW out cnt)/\zo cnt bs f y out:=by
 refine l9.body eC rfl fun hl n0=>?_
 clear hl
 (try((repeat(revert hN;revert N;apply Pn.out));refine wk @fN.eq_1 ?_;(repeat(refine Pn.mk ?_;intro N hN))))
 refine aW (fun n env st=>∃k:Nat,n=(cnt)-k/\k<=(cnt)/\env 6=.int .i64 (k:Int)/\(∃o:Id,env 5=.own o 0 k/\st.get o=some ⟨true,1,dW (fun _=>-1) k⟩/\o.ck<st.next)) (cnt) ⟨0,by omega,by omega,sl @fN.eq_1,⟨⟨239001000,n0+1⟩,by(simp only[go_sem, ↓reduceIte,Nat.reduceEqDiff,Nat.reduceAdd,Nat.reduceSub,Nat.reduceLeDiff,reduceCtorEq])<;>rfl,by(simp only[go_sem, ↓reduceIte,Nat.reduceEqDiff,Nat.reduceAdd,Nat.reduceSub,Nat.reduceLeDiff,reduceCtorEq])<;>rfl,by(try dsimp only);omega⟩⟩ ?_
 rintro n_a env_a st_a ⟨k,rfl,ale,a6,mb⟩ dH
 have a0:=dH 0 (by kernel_rfl);have a1:=dH 1 (by kernel_rfl)
 simp only[go_sem, ↓reduceIte,Nat.reduceEqDiff,Nat.reduceAdd,Nat.reduceSub,Nat.reduceLeDiff,reduceCtorEq,fN]at a0 a1
 clear dH
 obtain⟨o,a5,ag,uR⟩:=mb
 have tl:=dB (fun _=>-1) k
 have sH:=dp uR
 by_cases hk:(k:Int)<(cnt:Int)
 ·have cE:∀{e:Env} {gg:Rows} {nx:Nat},(e 6=.int .i64 (IntKind.i64.wrap ((k:Int)+1)))->(∃o:Id,e 5=.own o 0 (k+1)/\gg o=some ⟨true,1,dW (fun _=>-1) (k+1)⟩/\o.ck<nx)->∃m0,m0<(cnt)-k/\∃k:Nat,m0=(cnt)-k/\k<=(cnt)/\e 6=.int .i64 (k:Int)/\(∃o:Id,e 5=.own o 0 k/\gg o=some ⟨true,1,dW (fun _=>-1) k⟩/\o.ck<nx):=fun x1 x2=>⟨_,by omega,k+1,rfl,by omega,(by rw[x1,az (by omega)]),x2⟩
  have e1:k+1<=16777216:=by omega
  have s6:dW (fun _=>-1) k++[[.int .i64 (-1)]]=dW (fun _=>-1) (k+1):=(Hh _ _).symm
  (try((repeat(revert hN;revert N;apply Pn.out));refine wk (tw @a6 (tw @a0 (tw @a1 (tw @a5 (tw @ag (tw @sH (tw @hk (tw @tl (tw @e1 (tw @s6 @fN.eq_1)))))))))) ?_;(repeat(refine Pn.mk ?_;intro N hN))))
  exact cE (sd (tw @a6 (tw @a0 (tw @a1 @fN.eq_1)))) (⟨⟨239005002,st_a.next+1⟩,sd @Nat.zero_add,sd @s6,by(try dsimp only);omega⟩)
 have l7:k=cnt:=by omega
 subst l7
 have S3:(y:Int)<(k:Int):=by omega
 have hym:=dO (f:=fun _=>-1) hy
 have BJ:(dW (fun _=>-1) k).set y (br 0)=dW (fun v=>if v=y then 0 else -1) k:=k8 hy (if_pos rfl) fun i _ hi=>if_neg hi
 rw[br]at BJ hym
 (try((repeat(revert hN;revert N;apply Pn.out));refine wk (tw @a6 (tw @a0 (tw @a1 (tw @a5 (tw @ag (tw @sH (tw @hk (tw @tl (tw @S3 (tw @hym (tw @BJ @fN.eq_1))))))))))) ?_;(repeat(refine Pn.mk ?_;intro N hN))))
 refine aW (fun m env st=>∃(i:Nat) (out:Nat->Int) (Q:List Nat) (p:Id),m=k-i/\env 8=.int .i64 (i:Int)/\env 7=.own p 0 Q.length/\st.get p=some ⟨true,1,Q.map eN⟩/\st.get o=some ⟨true,1,dW out k⟩/\o.ck<p.ck/\p.ck<st.next/\AI k bs f y out Q i/\i<=Q.length) k ⟨0,_,[y],⟨239007001,st_a.next+1+1⟩,by omega,by(simp only[go_sem, ↓reduceIte,Nat.reduceEqDiff,Nat.reduceAdd,Nat.reduceSub,Nat.reduceLeDiff,reduceCtorEq])<;>rfl,by(simp only[go_sem, ↓reduceIte,Nat.reduceEqDiff,Nat.reduceAdd,Nat.reduceSub,Nat.reduceLeDiff,reduceCtorEq])<;>rfl,by(simp only[go_sem, ↓reduceIte,Nat.reduceEqDiff,Nat.reduceAdd,Nat.reduceSub,Nat.reduceLeDiff,reduceCtorEq])<;>rfl,sd @sH,by(try dsimp only);omega,by(try dsimp only);omega,AI.start hy,by simp⟩ ?_
 rintro n env_b st_b ⟨i,out,Q,p,rfl,b8,b7,bgp,bgo,eb,hpn,hB,hiq⟩ fY
 have b0:=fY 0 (by kernel_rfl)
 have b5:=fY 5 (by kernel_rfl)
 simp only[go_sem, ↓reduceIte,Nat.reduceEqDiff,Nat.reduceAdd,Nat.reduceSub,Nat.reduceLeDiff,reduceCtorEq,a6,a0,a1,a5,fN]at b0 b5
 clear fY
 have hql:=hB.len
 have S9:=dB out k
 have hqm:(Q.map eN).length=Q.length:=by simp
 have AQ:=dp hpn
 have p4:=dp (i:=o) (n:=st_b.next) (by omega)
 by_cases hi:(i:Int)<(Q.length:Int)
 ·have fh:i<Q.length:=by omega
  have j7:(Q.map eN)[i]? =some (eN Q[i]):=by simp[fh]
  have M0:=hB.lt _ (List.getElem_mem fh)
  obtain⟨vt,OF⟩:∃vt,vt=Q[i]:=⟨_,rfl⟩
  rw[<-OF]at j7 M0
  have hA:=C2 (cnt:=k) (bs:=bs) (m:=bs.length) M0
  have LG:(vt:Int)<(k:Int):=by omega
  have lE:=rP bs bs.length vt
  have hme:∀x,x<(iV bs bs.length vt).length->(iV bs bs.length vt).getD x 0<bs.length/\EG bs ((iV bs bs.length vt).getD x 0) vt:=fun x hx=>by
   rw[List.getD_eq_getElem?_getD,List.getElem?_eq_getElem hx]
   exact rQ.1 (List.getElem_mem hx)
  have Q4:∀e∈iV bs bs.length vt,∃x,x<(iV bs bs.length vt).length/\(iV bs bs.length vt).getD x 0=e:=fun e he=>by
   obtain⟨x,hx,rfl⟩:=List.getElem_of_mem he
   exact⟨x,hx,by rw[List.getD_eq_getElem?_getD,List.getElem?_eq_getElem hx];rfl⟩
  generalize hIn:iV bs bs.length vt=I at *
  unfold O6 at hA
  by_cases Lj:I=[]
  ·rw[if_pos Lj]at hA
   have hI1:I.length=0:=by rw[Lj];rfl
   (try((repeat(revert hN;revert N;apply Pn.out));refine wk (tw @b0 (tw @b5 (tw @b7 (tw @b8 (tw @bgp (tw @hi (tw @j7 (tw @hqm (tw @eN.eq_1 @fN.eq_1))))))))) ?_;(repeat(refine Pn.mk ?_;intro N hN))))
   refine aW (fun n env st=>∃x:Nat,n=(I.length)-x/\x<=(I.length)/\env 10=.int .i64 (x:Int)/\(∃(iO:Nat->Int) (Q':List Nat) (p':Id),env 7=.own p' 0 Q'.length/\st.get p'=some ⟨true,1,Q'.map eN⟩/\st.get o=some ⟨true,1,dW iO k⟩/\o.ck<p'.ck/\p'.ck<st.next/\AI k bs f y iO Q' i/\(∃h:i<Q'.length,Q'[i]=vt)/\(∀z,z<x->0<fE bs f (I.getD z 0) (bW bs (I.getD z 0) vt)->0<=iO (bW bs (I.getD z 0) vt)))) (I.length) ⟨0,by omega,by omega,sl (tw @b0 (tw @b5 (tw @b8 @fN.eq_1))),⟨out,Q,p,sd @b7,sd @bgp,sd @bgo,eb,by(try dsimp only);omega,hB,⟨fh,OF.symm⟩,fun z hz=>by omega⟩⟩ ?_
   rintro n_c env_c st_c ⟨x,rfl,cle,jz,cI0⟩ cfr
   have c0:=cfr 0 (by kernel_rfl);have c5:=cfr 5 (by kernel_rfl);have c8:=cfr 8 (by kernel_rfl);have c9:=cfr 9 (by kernel_rfl)
   simp only[go_sem, ↓reduceIte,Nat.reduceEqDiff,Nat.reduceAdd,Nat.reduceSub,Nat.reduceLeDiff,reduceCtorEq,b0,b5,b8,fN]at c0 c5 c8 c9
   clear cfr
   obtain⟨iO,Q',p',c7,H8,yk,Dy,Ot,dz,⟨xP,qI⟩,KM⟩:=cI0
   have UP:=dz.len
   have Pc:=dB iO k
   have Ou:(Q'.map eN).length=Q'.length:=by simp
   have zS:=dp Ot
   have mu:=dp (i:=o) (n:=st_c.next) (by omega)
   have x1:=cr Dy
   have hx:¬(x:Int)<((0:Nat):Int):=by omega
   have hxe:x=I.length:=by omega
   have hw:IntKind.i64.wrap ((i:Int)+1)=((i+1:Nat):Int):=az (by omega)
   (try((repeat(revert hN;revert N;apply Pn.out));refine wk (tw @jz (tw @c0 (tw @c5 (tw @c8 (tw @c9 (tw @c7 (tw @hx (tw @hA (tw @LG @fN.eq_1))))))))) ?_;(repeat(refine Pn.mk ?_;intro N hN))))
   refine⟨_,?_,i+1,iO,Q',p',rfl,sd (tw @jz (tw @c0 (tw @c5 (tw @c8 (tw @c9 @hw))))),sd @c7,sd @H8,sd @yk,Dy,by(try dsimp only);omega,dz.next xP fun e he hr=>?_,by omega⟩
   ·omega
   ·rw[qI,hIn]at he
    rw[qI]at hr ⊢
    obtain⟨z,hz,rfl⟩:=Q4 e he
    exact KM z (by omega) hr
  ·rw[if_neg Lj]at hA
   have qC:(I.map eN).length=I.length:=by simp
   (try((repeat(revert hN;revert N;apply Pn.out));refine wk (tw @b0 (tw @b5 (tw @b7 (tw @b8 (tw @bgp (tw @hi (tw @j7 (tw @hqm (tw @eN.eq_1 @fN.eq_1))))))))) ?_;(repeat(refine Pn.mk ?_;intro N hN))))
   refine aW (fun n env st=>∃x:Nat,n=(I.length)-x/\x<=(I.length)/\env 10=.int .i64 (x:Int)/\(∃(iO:Nat->Int) (Q':List Nat) (p':Id),env 7=.own p' 0 Q'.length/\st.get p'=some ⟨true,1,Q'.map eN⟩/\st.get o=some ⟨true,1,dW iO k⟩/\o.ck<p'.ck/\p'.ck<st.next/\AI k bs f y iO Q' i/\(∃h:i<Q'.length,Q'[i]=vt)/\(∀z,z<x->0<fE bs f (I.getD z 0) (bW bs (I.getD z 0) vt)->0<=iO (bW bs (I.getD z 0) vt)))) (I.length) ⟨0,by omega,by omega,sl (tw @b0 (tw @b5 (tw @b8 @fN.eq_1))),⟨out,Q,p,sd @b7,sd @bgp,sd @bgo,eb,by(try dsimp only);omega,hB,⟨fh,OF.symm⟩,fun z hz=>by omega⟩⟩ ?_
   rintro n_c env_c st_c ⟨x,rfl,cle,jz,cI0⟩ cfr
   have c0:=cfr 0 (by kernel_rfl);have c5:=cfr 5 (by kernel_rfl);have c8:=cfr 8 (by kernel_rfl);have c9:=cfr 9 (by kernel_rfl)
   simp only[go_sem, ↓reduceIte,Nat.reduceEqDiff,Nat.reduceAdd,Nat.reduceSub,Nat.reduceLeDiff,reduceCtorEq,b0,b5,b8,fN]at c0 c5 c8 c9
   clear cfr
   obtain⟨iO,Q',p',c7,H8,yk,Dy,Ot,dz,⟨xP,qI⟩,KM⟩:=cI0
   have UP:=dz.len
   have Pc:=dB iO k
   have Ou:(Q'.map eN).length=Q'.length:=by simp
   have zS:=dp Ot
   have mu:=dp (i:=o) (n:=st_c.next) (by omega)
   have x1:=cr Dy
   by_cases hx:(x:Int)<(I.length:Int)
   ·have ig:∀{e:Env} {gg:Rows} {nx:Nat},(e 10=.int .i64 (IntKind.i64.wrap ((x:Int)+1)))->(∃(iO:Nat->Int) (Q':List Nat) (p':Id),e 7=.own p' 0 Q'.length/\gg p'=some ⟨true,1,Q'.map eN⟩/\gg o=some ⟨true,1,dW iO k⟩/\o.ck<p'.ck/\p'.ck<nx/\AI k bs f y iO Q' i/\(∃h:i<Q'.length,Q'[i]=vt)/\(∀z,z<(x+1)->0<fE bs f (I.getD z 0) (bW bs (I.getD z 0) vt)->0<=iO (bW bs (I.getD z 0) vt)))->∃m0,m0<(I.length)-x/\∃x:Nat,m0=(I.length)-x/\x<=(I.length)/\e 10=.int .i64 (x:Int)/\(∃(iO:Nat->Int) (Q':List Nat) (p':Id),e 7=.own p' 0 Q'.length/\gg p'=some ⟨true,1,Q'.map eN⟩/\gg o=some ⟨true,1,dW iO k⟩/\o.ck<p'.ck/\p'.ck<nx/\AI k bs f y iO Q' i/\(∃h:i<Q'.length,Q'[i]=vt)/\(∀z,z<x->0<fE bs f (I.getD z 0) (bW bs (I.getD z 0) vt)->0<=iO (bW bs (I.getD z 0) vt))):=fun x1 x2=>⟨_,by omega,x+1,rfl,by omega,(by rw[x1,az (by omega)]),x2⟩
    have P8:x<I.length:=by omega
    have NU:(I.map eN)[x]? =some (eN (I.getD x 0)):=getD_map eN P8
    obtain⟨he,pZ⟩:=hme x P8
    obtain⟨e,SC⟩:∃e,e=I.getD x 0:=⟨_,rfl⟩
    rw[<-SC]at NU he pZ
    have iL:=uD he
    have hq:=oZ ok (v:=vt) he
    have SN:=o8 ok he pZ
    have Oy:=JV k bs f hs e (bW bs e vt) he
    have QR:=ok e he
    have od:IntKind.i64.wrap (((cC bs e).a:Int)+((cC bs e).b:Int))=((cC bs e).a:Int)+((cC bs e).b:Int):=bF (by omega)
    have pr:IntKind.i64.wrap (((cC bs e).a:Int)+((cC bs e).b:Int)-(vt:Int))=(bW bs e vt:Int):=by
     rw[bF (by omega)]
     unfold bW
     rcases pZ with h1|h1
     ·rw[if_pos h1];omega
     ·rw[if_neg fun h2=>QR.2.2 (h2.trans h1.symm)];omega
    have PZ:(bW bs e vt:Int)<(k:Int):=by omega
    have Od:=dO (f:=iO) hq
    have Lp:=dO (f:=iO) M0
    rw[fN]at Oy
    have lh:=dz.up i xP
    rw[qI]at lh
    have ki:=dz.lo vt M0
    have M4:IntKind.i64.wrap (iO vt+1)=iO vt+1:=bF (by omega)
    rw[br]at Od Lp
    generalize xx:cC bs e=b at *
    by_cases j8:iO (bW bs e vt)<0
    ·by_cases fS:0<fE bs f e (bW bs e vt)
     ·have hV:=dz.visit ok xP (e:=e) he (by rw[qI];exact pZ) (by rw[qI];exact j8) (by rw[qI];exact fS)
      rw[qI]at hV
      have eJ:(dW iO k).set (bW bs e vt) (br (iO vt+1))=dW (fun v=>if v=bW bs e vt then iO vt+1 else iO v) k:=k8 hq (if_pos rfl) fun v _ hv=>if_neg hv
      rw[br]at eJ
      have e1:Q'.length+1<=16777216:=by omega
      (repeat(first|((repeat(revert hN;revert N;apply Pn.out));refine wk (tw @jz (tw @c0 (tw @c5 (tw @c8 (tw @c9 (tw @c7 (tw @H8 (tw @yk (tw @hx (tw @hA (tw @qC (tw @NU (tw @LG (tw @iL (tw @od (tw @pr (tw @PZ (tw @Od (tw @Lp (tw @j8 (tw @fS (tw @M4 (tw @eJ (tw @Ou (tw @Pc (tw @zS (tw @mu (tw @x1 (tw @e1 (tw @eN.eq_1 (tw @ay.eq_1 @fN.eq_1))))))))))))))))))))))))))))))) ?_;(repeat(refine Pn.mk ?_;intro N hN)))|((try apply Or.inl);refine⟨_,aq.x (Oy) (sd (tw @jz (tw @c0 (tw @c5 (tw @c8 (tw @c9 (tw @c7 (tw @H8 (tw @yk (tw @hx (tw @hA (tw @qC (tw @NU (tw @LG (tw @iL (tw @od (tw @pr (tw @PZ (tw @Od (tw @Lp (tw @j8 (tw @fS (tw @M4 (tw @eJ (tw @Ou (tw @Pc (tw @zS (tw @mu (tw @x1 (tw @e1 (tw @eN.eq_1 (tw @ay.eq_1 @fN.eq_1)))))))))))))))))))))))))))))))),?_⟩;refine hN _ _ ?_;clear hN N)))
      exact ig (sd (tw @jz (tw @c0 (tw @c5 (tw @c8 @c9))))) (⟨_,Q'++[bW bs e vt],⟨239020003,st_c.next+1+1+1+1+1+1⟩,by rw[List.length_append];simp only[go_sem, ↓reduceIte,Nat.reduceEqDiff,Nat.reduceAdd,Nat.reduceSub,Nat.reduceLeDiff,reduceCtorEq,List.length_cons,List.length_nil],by rw[List.map_append,List.map_cons,List.map_nil];simp only[go_sem, ↓reduceIte,Nat.reduceEqDiff,Nat.reduceAdd,Nat.reduceSub,Nat.reduceLeDiff,reduceCtorEq,eN],sd (tw @mu @x1),by(try dsimp only);omega,by(try dsimp only);omega,hV,⟨by simp;omega,by rw[List.getElem_append_left xP];exact qI⟩,fun z hz hr=>by
       by_cases Rt:z=x
       ·subst Rt
        rw[<-SC,if_pos rfl]
        have:=(dz.iff vt M0).2 (by rw[<-qI];exact List.getElem_mem xP)
        omega
       ·have:=KM z (by omega) hr
        split
        ·have:=(dz.iff vt M0).2 (by rw[<-qI];exact List.getElem_mem xP)
         omega
        ·exact this⟩)
     ·(repeat(first|((repeat(revert hN;revert N;apply Pn.out));refine wk (tw @jz (tw @c0 (tw @c5 (tw @c8 (tw @c9 (tw @c7 (tw @H8 (tw @yk (tw @hx (tw @hA (tw @qC (tw @NU (tw @LG (tw @iL (tw @od (tw @pr (tw @PZ (tw @Od (tw @j8 (tw @fS (tw @Pc (tw @zS (tw @mu (tw @x1 (tw @eN.eq_1 (tw @ay.eq_1 @fN.eq_1)))))))))))))))))))))))))) ?_;(repeat(refine Pn.mk ?_;intro N hN)))|((try apply Or.inl);refine⟨_,aq.x (Oy) (sd (tw @jz (tw @c0 (tw @c5 (tw @c8 (tw @c9 (tw @c7 (tw @H8 (tw @yk (tw @hx (tw @hA (tw @qC (tw @NU (tw @LG (tw @iL (tw @od (tw @pr (tw @PZ (tw @Od (tw @j8 (tw @fS (tw @Pc (tw @zS (tw @mu (tw @x1 (tw @eN.eq_1 (tw @ay.eq_1 @fN.eq_1))))))))))))))))))))))))))),?_⟩;refine hN _ _ ?_;clear hN N)))
      exact ig (sd (tw @jz (tw @c0 (tw @c5 (tw @c8 @c9))))) (⟨iO,Q',p',sd @c7,sd (tw @H8 @zS),sd (tw @yk @mu),Dy,by(try dsimp only);omega,dz,⟨xP,qI⟩,fun z hz hr=>by
       by_cases Rt:z=x
       ·subst Rt;rw[<-SC]at hr;exact absurd hr fS
       ·exact KM z (by omega) hr⟩)
    ·(repeat(first|((repeat(revert hN;revert N;apply Pn.out));refine wk (tw @jz (tw @c0 (tw @c5 (tw @c8 (tw @c9 (tw @c7 (tw @H8 (tw @yk (tw @hx (tw @hA (tw @qC (tw @NU (tw @LG (tw @iL (tw @od (tw @pr (tw @PZ (tw @Od (tw @j8 (tw @Pc (tw @zS (tw @mu (tw @x1 (tw @eN.eq_1 (tw @ay.eq_1 @fN.eq_1))))))))))))))))))))))))) ?_;(repeat(refine Pn.mk ?_;intro N hN)))|((try apply Or.inl);refine⟨_,aq.x (Oy) (sd (tw @jz (tw @c0 (tw @c5 (tw @c8 (tw @c9 (tw @c7 (tw @H8 (tw @yk (tw @hx (tw @hA (tw @qC (tw @NU (tw @LG (tw @iL (tw @od (tw @pr (tw @PZ (tw @Od (tw @j8 (tw @Pc (tw @zS (tw @mu (tw @x1 (tw @eN.eq_1 (tw @ay.eq_1 @fN.eq_1)))))))))))))))))))))))))),?_⟩;refine hN _ _ ?_;clear hN N)))
     exact ig (sd (tw @jz (tw @c0 (tw @c5 (tw @c8 @c9))))) (⟨iO,Q',p',sd @c7,sd (tw @H8 @zS),sd (tw @yk @mu),Dy,by(try dsimp only);omega,dz,⟨xP,qI⟩,fun z hz hr=>by
      by_cases Rt:z=x
      ·subst Rt;rw[<-SC];omega
      ·exact KM z (by omega) hr⟩)
   ·have hxe:x=I.length:=by omega
    have hw:IntKind.i64.wrap ((i:Int)+1)=((i+1:Nat):Int):=az (by omega)
    (try((repeat(revert hN;revert N;apply Pn.out));refine wk (tw @jz (tw @c0 (tw @c5 (tw @c8 (tw @c9 (tw @c7 (tw @hx (tw @hA (tw @qC (tw @LG @fN.eq_1)))))))))) ?_;(repeat(refine Pn.mk ?_;intro N hN))))
    refine⟨_,?_,i+1,iO,Q',p',rfl,sd (tw @jz (tw @c0 (tw @c5 (tw @c8 (tw @c9 @hw))))),sd @c7,sd @H8,sd @yk,Dy,by(try dsimp only);omega,dz.next xP fun e he hr=>?_,by omega⟩
    ·omega
    ·rw[qI,hIn]at he
     rw[qI]at hr ⊢
     obtain⟨z,hz,rfl⟩:=Q4 e he
     exact KM z (by omega) hr
 ·(try((repeat(revert hN;revert N;apply Pn.out));refine wk (tw @b0 (tw @b5 (tw @b7 (tw @b8 (tw @hi @fN.eq_1))))) ?_;(repeat(refine Pn.mk ?_;intro N hN))))
  have sY:gx st_b.get 6 (.own o 0 k)=some (.sl (dW out k)):=uK bgo (by rw[S9];omega) (by rw[List.drop_zero,List.take_of_length_le (by rw[S9];omega)];exact J9)
  exact⟨_,rfl,_,by simp only[go_sem, ↓reduceIte,Nat.reduceEqDiff,Nat.reduceAdd,Nat.reduceSub,Nat.reduceLeDiff,reduceCtorEq,fq];exact sY,out,rfl,hB.done ok (by omega)⟩
end Go.Proofs.YtgoelphibofcmaaGreat.V

namespace Go.Proofs.YtgoelphibofcmaaGreat.V
open Go.RowKit
attribute [local irreducible] dG wpOps gy Call
attribute [local go_sem] aM fF eP ga fW cQ upd cz K.av cR AV.cells AV.cell rowOf rowsOf part ld rowAt bq cu dD ee ik bJ dh ev fU eX dr ej dd dc dQ dR bQ bf cW bP cY cX eh ek ei cV cj de ef bK aO da cG ij bw cK bU aY dn aZ dE AV.undef bD bG dV ec dM dK cH eu ew cF ep eo cZ db List.getD_cons_zero List.getD_cons_succ List.getD_nil List.all_cons List.all_nil Bool.and_true Bool.true_and Bool.and_self Bool.not_true Bool.not_false Option.map_some Option.map_none Option.bind_some Option.bind_none List.length_cons List.length_nil List.take_succ_cons List.take_zero List.take_nil List.drop_succ_cons List.drop_zero List.drop_nil List.head?_cons List.map_cons List.map_nil List.getElem?_cons_zero List.getElem?_cons_succ List.cons_append List.nil_append List.append_nil List.length_map List.set_cons_zero List.set_cons_succ eq_self Int.toNat_natCast Int.natCast_nonneg and_self true_and and_true decide_true decide_false Bool.false_eq_true Nat.zero_add Nat.add_zero List.contains_cons List.contains_nil Bool.or_false Bool.false_or beq_self_eq_true ne_eq not_true_eq_false not_false_eq_true Id.mk.injEq false_and and_false Nat.le_refl List.length_append beq_true beq_false Bool.not_eq_eq_eq_not or_false false_or dL ai aj aH bl bB cw aX bd aU bh cU bH
def PE:CG (List Nat):=fun g cs x ids=>(x=[]/\cs=[.cm]/\ids=[])∨∃id,cs=[.own id 0 x.length]/\0<x.length/\g id=some ⟨true,1,x.map eN⟩/\ids=[id]
theorem M9:xE PE 1 where
 frame:=fun h hf=>by
  rcases h with h|⟨id,h1,h0,h2,h3⟩
  ·exact .inl h
  ·subst h3;exact .inr ⟨id,h1,h0,(hf id (by simp)).trans h2,rfl⟩
 len:=fun h=>by rcases h with⟨_,h,_⟩|⟨id,h,_⟩<;>subst h<;>rfl
 cell:=fun h=>by rcases h with⟨_,h,_⟩|⟨id,h,_⟩<;>subst h<;>rfl
 live:=fun h i hi=>by
  rcases h with⟨_,_,h⟩|⟨id,h1,h0,h2,h3⟩
  ·subst h;cases hi
  ·subst h3
   have:i=id:=by simpa using hi
   subst this
   exact⟨_,h2,rfl,by simp[rX]⟩
 small:=by simp[rX]
theorem OM {g:Rows} {rows:List (List AV)} {xs:List (List Nat)} {ids:List Id} (n:Nat) (h:eG PE g rows xs ids):ea (dL g) (n+2) rows=some (xs.map fun l=>[O6 l]):=
 h.fz (fun {cs x ids} h=>by
  rcases h with⟨h0,h1,_⟩|⟨id,h1,h0,h2,_⟩
  ·subst h0 h1;rw[ai,aj,aX];rfl
  ·have gW:x≠[]:=by rintro rfl;simp at h0
   subst h1
   rw[ai,aj,gr (e:=eN) (sz:=1) (by simp[dL,h2]) rfl fun a=>fzN _ n a]
   simp[O6,gW])
theorem eG.RJ {α:Type} {R:CG α} {sz:Nat} {g:Rows} {rows:List (List AV)} {xs:List α} {ids:List Id} (ok:xE R sz) (h:eG R g rows xs ids) (mm:ids.Nodup) (k:Nat) (hk:k<xs.length):
  ∃cs ic,rows[k]? =some cs/\R g cs xs[k] ic/\(∀i∈ic,i∈ids)/\∀(g':Rows) qb x' Qa,R g' qb x' Qa->(∀i∈ids,i∉ic->g' i=g i)->Qa.Nodup->(∀i∈Qa,i∉ids)->∃DI,eG R g' (rows.set k qb) (xs.set k x') DI/\DI.Nodup/\∀i∈DI,i∈Qa∨i∈ids:=by
 obtain⟨r1,cs,r2,i1,ic,i2,rfl,rfl,rfl,h3,h4,h5⟩:=h.split k hk
 obtain⟨n1,n2,n3⟩:=List.nodup_append.1 mm
 obtain⟨nc,n5,n4⟩:=List.nodup_append.1 n2
 refine⟨cs,ic,by simp,h4,fun i hi=>by simp[hi],fun g' qb x' Qa hR hf hn' kj=>⟨i1++(Qa++i2),?_,?_,fun i hi=>?_⟩⟩
 ·have e:xs.set r1.length x'=xs.take r1.length++x'::xs.drop (r1.length+1):=by rw[List.set_eq_take_append_cons_drop,if_pos hk]
  have e2:(r1++cs::r2).set r1.length qb=r1++qb::r2:=by simp
  rw[e,e2]
  refine(h3.frame ok fun i hi=>hf i (by simp[hi]) fun hc=>n3 i hi i (by simp[hc]) rfl).app (.cons hR (h5.frame ok fun i hi=>hf i (by simp[hi]) fun hc=>n4 i hc i hi rfl))
 ·rw[List.nodup_append,List.nodup_append]
  refine⟨n1,⟨hn',n5,fun x hx y hy he=>?_⟩,fun x hx y hy he=>?_⟩
  ·subst he;exact kj x hx (by simp[hy])
  ·subst he
   rcases List.mem_append.1 hy with hy|hy
   ·exact kj x hy (by simp[hx])
   ·exact n3 x hx x (by simp[hy]) rfl
 ·rcases List.mem_append.1 hi with hi|hi
  ·exact .inr (by simp[hi])
  ·rcases List.mem_append.1 hi with hi|hi
   ·exact .inl hi
   ·exact .inr (by simp[hi])
def qZ (A:Id) (lo:Nat) (L:List (List Nat)) (g:Rows) (nx:Nat):Prop:=∃rows ids,g A=some ⟨true,1,rows⟩/\eG PE g rows L ids/\ids.Nodup/\∀i∈ids,lo<i.ck/\i.ck<nx
def bx (cnt:Nat) (bs:List PB) (A F:Id):List AV:=[.int .i64 cnt,.sl (bs.map ay),.own A 0 cnt,.own F 0 bs.length]
def ll (cnt:Nat) (bs:List PB) (m:Nat):List (List Nat):=(List.range cnt).map fun v=>iV bs m v
theorem jt (cnt:Nat) (bs:List PB) (m:Nat):(ll cnt bs m).length=cnt:=by simp[ll]
structure oq (cnt:Nat) (bs:List PB) (f:Nat->Int) (X A F:Id) (g:Rows) (nx:Nat):Prop where
 x:g X=some ⟨true,4,[bx cnt bs A F]⟩
 a:qZ A F.ck (ll cnt bs bs.length) g nx
 f:g F=some ⟨true,1,dW f bs.length⟩
 xa:X.ck<A.ck
 af:A.ck<F.ck
 fn:F.ck<nx
theorem qZ.fz {A:Id} {lo cnt:Nat} {bs:List PB} {m nx n:Nat} {g:Rows} (h:qZ A lo (ll cnt bs m) g nx):V.fz (dL g) (n+3) (.own A 0 cnt)=some (.sl (qi cnt bs m)):=by
 obtain⟨rows,ids,h1,h2,_,_⟩:=h
 have hl:=h2.len
 rw[jt]at hl
 rw[iw]
 simp only[dL,h1,Option.map_some,if_true]
 rw[if_pos (by omega),List.drop_zero,List.take_of_length_le (by omega)]
 have:=OM n h2
 rw[this]
 simp[ll,qi]
theorem oq.fz {cnt:Nat} {bs:List PB} {f:Nat->Int} {X A F:Id} {g:Rows} {nx:Nat} (h:oq cnt bs f X A F g nx):V.fz (dL g) 6 (.ptr X 0 0)=some (.di (fN cnt bs f)):=by
 have hF:dL g F=some ⟨true,1,dW f bs.length⟩:=by simp[dL,h.f]
 have hX:dL g X=some ⟨true,4,[bx cnt bs A F]⟩:=by simp[dL,h.x]
 have hf:V.fz (dL g) 5 (.own F 0 bs.length)=some (.sl (dW f bs.length)):=by
  rw[iw]
  simp only[hF,if_true]
  rw[if_pos (by rw[dB];omega),List.drop_zero,List.take_of_length_le (by rw[dB];omega),Aw];rfl
 have ha:=h.a.fz (n:=2)
 rw[bh]
 simp only[hX,if_true,List.getElem?_cons_zero,List.drop_zero,bx,ai,aj,aH,cw,ha,hf,Option.map_some,fN]
theorem Gw (cnt:Nat) (bs:List PB):ll cnt bs 0=List.replicate cnt []:=by
 refine List.ext_getElem? fun i=>?_
 simp only[ll,List.getElem?_map,List.getElem?_replicate]
 by_cases h:i<cnt
 ·rw[List.getElem?_range h,if_pos h];rfl
 ·rw[List.getElem?_eq_none (by simpa using h),if_neg h];rfl
theorem zd (g:Rows):∀n:Nat,eG PE g (List.replicate n [.cm]) (List.replicate n []) []
 |0=>.nil
 |n+1=>.cons (i1:=[]) (.inl ⟨rfl,rfl,rfl⟩) (zd g n)
def xT (cnt:Nat) (bs:List PB) (m:Nat):List (List Nat):=(ll cnt bs m).set (cC bs m).a (iV bs m (cC bs m).a++[m])
theorem BQ {cnt:Nat} {bs:List PB} {m v:Nat} (hv:v<cnt) (gW:(cC bs m).a≠v):(xT cnt bs m)[v]? =some (iV bs m v):=by
 unfold xT
 rw[List.getElem?_set_ne gW]
 simp[ll,hv]
theorem Gv {cnt:Nat} {bs:List PB} {m:Nat} (ha:(cC bs m).a<cnt) (hb:(cC bs m).b<cnt) (gW:(cC bs m).a≠(cC bs m).b):(xT cnt bs m).set (cC bs m).b (iV bs m (cC bs m).b++[m])=ll cnt bs (m+1):=by
 refine List.ext_getElem? fun i=>?_
 by_cases hi:i<cnt
 ·have hr:(ll cnt bs (m+1))[i]? =some (iV bs (m+1) i):=by simp[ll,hi]
  rw[hr,Gx]
  by_cases h1:(cC bs m).b=i
  ·rw[List.getElem?_set,if_pos h1,if_pos (by simp[xT,jt];omega),if_pos (.inr h1),h1]
  ·rw[List.getElem?_set_ne h1]
   by_cases h2:(cC bs m).a=i
   ·unfold xT
    rw[List.getElem?_set,if_pos h2,if_pos (by rw[jt];omega),if_pos (.inl h2),h2]
   ·rw[BQ hi h2,if_neg (fun h=>h.elim h2 h1),List.append_nil]
 ·rw[List.getElem?_eq_none (by simp[xT,jt];omega),List.getElem?_eq_none (by rw[jt];omega)]
theorem kK {α:Type} {l:List α} {k:Nat} {x:α} (h:l[k]? =some x) (hk:k<l.length):l[k]=x:=by
 rw[List.getElem?_eq_getElem hk]at h;exact Option.some.inj h
theorem Fv {A K:Id} {lo RE nx k j:Nat} {L:List (List Nat)} {La:List Nat} {g:Rows} {rows:List (List AV)} {ids:List Id} (hR:eG PE g rows L ids) (mm:ids.Nodup) (n9:∀i∈ids,lo<i.ck/\i.ck<RE) (hA:A.ck<=lo) (hL:L[k]? =some La) (hK1:RE<=K.ck) (N5:K.ck<nx) (ki:lo<RE):
  ∃cs,rows[k]? =some cs/\((La=[]/\cs=[.cm])∨∃id:Id,cs=[.own id 0 La.length]/\0<La.length/\g id=some ⟨true,1,La.map eN⟩/\id.ck<RE/\lo<id.ck)/\
   ∀g':Rows,g' A=some ⟨true,1,rows.set k [.own K 0 (La.length+1)]⟩->g' K=some ⟨true,1,La.map eN++[[.int .i64 j]]⟩->(∀i:Id,i.ck<RE->(i=A)=False->(∀id,cs=[.own id 0 La.length]->(i=id)=False)->g' i=g i)->qZ A lo (L.set k (La++[j])) g' nx:=by
 have hk:k<L.length:=(List.getElem?_eq_some_iff.1 hL).1
 have TP:=kK hL hk
 obtain⟨cs,ic,du,PO,QY,wo⟩:=hR.RJ M9 mm k hk
 rw[TP]at PO
 refine⟨cs,du,?_,fun g' h1 h2 h3=>?_⟩
 ·rcases PO with⟨h1,h2,_⟩|⟨id,h1,h2,h3,h4⟩
  ·exact .inl ⟨h1,h2⟩
  ·subst h4
   have:=n9 id (QY id (by simp))
   exact .inr ⟨id,h1,h2,h3,this.2,this.1⟩
 ·obtain⟨DI,q1,q2,q3⟩:=wo g' [.own K 0 (La.length+1)] (La++[j]) [K] (.inr ⟨K,by simp,by simp,by rw[h2];simp[eN],rfl⟩) (fun i hi SM=>by
   refine h3 i (n9 i hi).2 ?_ fun id hid=>?_
   ·simp only[eq_iff_iff,iff_false];rintro rfl;have:=n9 _ hi;omega
   ·simp only[eq_iff_iff,iff_false]
    rintro rfl
    rcases PO with⟨_,h4,_⟩|⟨jW,h4,_,_,h5⟩
    ·rw[hid]at h4;cases h4
    ·rw[hid]at h4
     simp only[List.cons.injEq,AV.own.injEq,and_true]at h4
     rw[h5,h4]at SM
     exact SM (by simp)) (by simp) fun i hi hc=>by
   rw[List.mem_singleton.1 hi]at hc;have:=n9 _ hc;omega
  refine⟨_,DI,h1,q1,q2,fun i hi=>?_⟩
  rcases q3 i hi with h|h
  ·rw[List.mem_singleton.1 h];omega
  ·have:=n9 i h;omega
theorem Mu {P:Program} {Q:Ex->Env->ar->Prop} {c:VC} {env:Env} {σ:ar} (I:Env->ar->Prop) (h2:∀e s,I e s->Q .normal e s) (h1:∀N':Env->ar->Prop,(∀e s,I e s->N' e s)->dG (Call P) c (dn N' Q) env σ):dG (Call P) c Q env σ:=by
 refine jy (fun _ _ _ _ h=>h) aI c _ _ env σ (fun x e s h=>?_) (h1 I fun _ _ h=>h)
 cases x with
 |normal=>exact h2 e s h
 |exit id=>exact h
 |ret=>exact h
end Go.Proofs.YtgoelphibofcmaaGreat.V

namespace Go.Proofs.YtgoelphibofcmaaGreat.V
open Go.RowKit
attribute [local irreducible] dG wpOps gy Call
attribute [local go_sem] aM fF eP ga fW cQ upd cz K.av cR AV.cells AV.cell rowOf rowsOf part ld rowAt bq cu dD ee ik bJ dh ev fU eX dr ej dd dc dQ dR bQ bf cW bP cY cX eh ek ei cV cj de ef bK aO da cG ij bw cK bU aY dn aZ dE AV.undef bD bG dV ec dM dK cH eu ew cF ep eo cZ db List.getD_cons_zero List.getD_cons_succ List.getD_nil List.all_cons List.all_nil Bool.and_true Bool.true_and Bool.and_self Bool.not_true Bool.not_false Option.map_some Option.map_none Option.bind_some Option.bind_none List.length_cons List.length_nil List.take_succ_cons List.take_zero List.take_nil List.drop_succ_cons List.drop_zero List.drop_nil List.head?_cons List.map_cons List.map_nil List.getElem?_cons_zero List.getElem?_cons_succ List.cons_append List.nil_append List.append_nil List.length_map List.set_cons_zero List.set_cons_succ Nat.reduceMul eq_self Int.toNat_natCast Int.natCast_nonneg and_self true_and and_true decide_true decide_false Bool.false_eq_true Nat.zero_add Nat.add_zero List.contains_cons List.contains_nil Bool.or_false Bool.false_or beq_self_eq_true Nat.reduceBEq ne_eq not_true_eq_false not_false_eq_true Id.mk.injEq false_and and_false Nat.reduceLT Int.reduceLE Int.reduceLT Int.reduceToNat Int.reduceNeg Int.reduceAdd Nat.le_refl List.length_append beq_true beq_false Bool.not_eq_eq_eq_not or_false false_or dL ai aj aH bl bB cw aX bd aU bh cU bH
theorem Je (cnt:Nat) (hn:cnt<=1048576) (bs:List PB) (ok:nz cnt bs) (qc:bs.length<=1048576) (σ:ar):
  Call Tryz.prog 237 [.int .i64 cnt,.sl (bs.map ay)] σ fun r σ'=>∃X A F,r=.ptr X 0 0/\σ.next<=X.ck/\oq cnt bs (fun _=>0) X A F σ'.get σ'.next:=by
 refine HG ND rfl fun hl=>?_
 try simp only[q]
 clear hl
 have jI:(0:Int)<=(cnt:Int):=by omega
 have qd:(cnt:Int)<=((16777216:Nat):Int):=by omega
 have QF:(0:Int)<=(bs.length:Int):=by omega
 have KC:(bs.length:Int)<=((16777216:Nat):Int):=by omega
 have hz:List.replicate bs.length [AV.int .i64 0]=dW (fun _=>0) bs.length:=by
  refine List.ext_getElem? fun i=>?_
  by_cases h:i<bs.length
  ·rw[dO h,List.getElem?_replicate,if_pos h];rfl
  ·rw[List.getElem?_eq_none (by simp;omega),List.getElem?_eq_none (by rw[dB];omega)]
 (try((repeat(revert hN;revert N;apply Pn.out));refine wk (tw @jI (tw @qd (tw @QF (tw @KC (tw @Int.le_refl @hz))))) ?_;(repeat(refine Pn.mk ?_;intro N hN))))
 obtain⟨X,hX⟩:∃X:Id,X=⟨237001003,σ.next+1⟩:=⟨_,rfl⟩
 obtain⟨A,hA⟩:∃X:Id,X=⟨237002002,σ.next+1+1⟩:=⟨_,rfl⟩
 obtain⟨F,hF⟩:∃X:Id,X=⟨237003003,σ.next+1+1+1⟩:=⟨_,rfl⟩
 have hXA:X.ck<A.ck:=by rw[hX,hA];(try dsimp only);omega
 have hAF:A.ck<F.ck:=by rw[hA,hF];(try dsimp only);omega
 have hXs:σ.next<=X.ck:=by rw[hX];(try dsimp only);omega
 refine aW (fun n env st=>∃j:Nat,n=(bs.length)-j/\j<=(bs.length)/\env 6=.int .i64 (j:Int)/\env 5=(.ptr X 0 0)/\st.get X=some ⟨true,4,[bx cnt bs A F]⟩/\st.get F=some ⟨true,1,dW (fun _=>0) bs.length⟩/\(qZ A F.ck (ll cnt bs j) st.get st.next/\F.ck<st.next)) (bs.length) ⟨0,by omega,by omega,by(try simp only[go_sem, ↓reduceIte,Nat.reduceEqDiff,Nat.reduceAdd,Nat.reduceSub,Nat.reduceLeDiff,reduceCtorEq,hX,hF,hA,bx,hz]);try rfl,by(try simp only[go_sem, ↓reduceIte,Nat.reduceEqDiff,Nat.reduceAdd,Nat.reduceSub,Nat.reduceLeDiff,reduceCtorEq,hX,hF,hA,bx,hz]);try rfl,by(try simp only[go_sem, ↓reduceIte,Nat.reduceEqDiff,Nat.reduceAdd,Nat.reduceSub,Nat.reduceLeDiff,reduceCtorEq,hX,hF,hA,bx,hz]);try rfl,by(try simp only[go_sem, ↓reduceIte,Nat.reduceEqDiff,Nat.reduceAdd,Nat.reduceSub,Nat.reduceLeDiff,reduceCtorEq,hX,hF,hA,bx,hz]);try rfl,⟨⟨List.replicate cnt [.cm],[],by rw[hA];(simp only[go_sem, ↓reduceIte,Nat.reduceEqDiff,Nat.reduceAdd,Nat.reduceSub,Nat.reduceLeDiff,reduceCtorEq])<;>rfl,by rw[Gw];exact zd _ _,List.nodup_nil,fun i hi=>by cases hi⟩,by rw[hF];(try dsimp only);omega⟩⟩ ?_
 rintro n_a env_a st_a ⟨j,rfl,ale,a6,a5,ag0,ag1,mb⟩ dH
 have a0:=dH 0 (by kernel_rfl);have a1:=dH 1 (by kernel_rfl)
 simp only[go_sem, ↓reduceIte,Nat.reduceEqDiff,Nat.reduceAdd,Nat.reduceSub,Nat.reduceLeDiff,reduceCtorEq,hX,hF,hA,bx,hz]at a0 a1
 clear dH
 obtain⟨⟨rows,ids,ag,hR,mm,n9⟩,hFn⟩:=mb
 have x1:=cr hXA
 have x2:=cr hAF
 have x3:=cr (a:=X) (b:=F) (by omega)
 have vX:=dp (i:=X) (n:=st_a.next) (by omega)
 have vA:=dp (i:=A) (n:=st_a.next) (by omega)
 have vF:=dp (i:=F) (n:=st_a.next) (by omega)
 by_cases hj:(j:Int)<(bs.length:Int)
 ·have cE:∀{e:Env} {gg:Rows} {nx:Nat},(e 6=.int .i64 (IntKind.i64.wrap ((j:Int)+1)))->(e 5=(.ptr X 0 0))->(gg X=some ⟨true,4,[bx cnt bs A F]⟩)->(gg F=some ⟨true,1,dW (fun _=>0) bs.length⟩)->(qZ A F.ck (ll cnt bs (j+1)) gg nx/\F.ck<nx)->∃m0,m0<(bs.length)-j/\∃j:Nat,m0=(bs.length)-j/\j<=(bs.length)/\e 6=.int .i64 (j:Int)/\e 5=(.ptr X 0 0)/\gg X=some ⟨true,4,[bx cnt bs A F]⟩/\gg F=some ⟨true,1,dW (fun _=>0) bs.length⟩/\(qZ A F.ck (ll cnt bs j) gg nx/\F.ck<nx):=fun x1 x2 x3 x4 x5=>⟨_,by omega,j+1,rfl,by omega,(by rw[x1,az (by omega)]),x2,x3,x4,x5⟩
  have jB:j<bs.length:=by omega
  have iL:=uD jB
  obtain⟨ha1,QG,gW⟩:=ok j jB
  have gK:((cC bs j).a:Int)<(cnt:Int):=by omega
  have fP:((cC bs j).b:Int)<(cnt:Int):=by omega
  have qF:=Gv (m:=j) ha1 QG gW
  have e1:=rP bs j (cC bs j).a
  have e2:=rP bs j (cC bs j).b
  have QW:(xT cnt bs j)[(cC bs j).b]? =some (iV bs j (cC bs j).b):=BQ QG gW
  have QV:(ll cnt bs j)[(cC bs j).a]? =some (iV bs j (cC bs j).a):=by simp[ll,ha1]
  have TA:xT cnt bs j=(ll cnt bs j).set (cC bs j).a (iV bs j (cC bs j).a++[j]):=rfl
  have Su:(xT cnt bs j).length=cnt:=by rw[TA,List.length_set,jt]
  have jh:=hR.len
  rw[jt]at jh
  obtain⟨cs7,jr,IC,IU⟩:=Fv (A:=A) (K:=⟨237007022,st_a.next+1⟩) (nx:=st_a.next+1+1) (j:=j) hR mm n9 (by omega) QV (by(try dsimp only);omega) (by(try dsimp only);omega) hFn
  rw[<-TA]at IU
  obtain⟨c7,rfl⟩:∃c,cs7=[c]:=by
   rcases IC with⟨_,h⟩|⟨id,h,_⟩<;>exact⟨_,h⟩
  generalize iV bs j (cC bs j).a=La at *
  generalize iV bs j (cC bs j).b=Lb at *
  generalize cC bs j=b at *
  generalize xT cnt bs j=LA at *
  clear TA
  (try((repeat(revert hN;revert N;apply Pn.out));refine wk (tw @a6 (tw @a5 (tw @ag0 (tw @ag1 (tw @a0 (tw @a1 (tw @hj (tw @iL (tw @ay.eq_1 (tw @ag (tw @jr (tw @gK (tw @fP (tw @jh (tw @x1 (tw @x2 (tw @x3 (tw @vX (tw @vA (tw @vF @bx.eq_1)))))))))))))))))))) ?_;(repeat(refine Pn.mk ?_;intro N hN))))
  refine Kr (fun e s=>e 0=.int .i64 cnt/\e 1=.sl (bs.map ay)/\e 5=.ptr X 0 0/\e 6=.int .i64 j/\s.get X=some ⟨true,4,[bx cnt bs A F]⟩/\s.get F=some ⟨true,1,dW (fun _=>0) bs.length⟩/\qZ A F.ck LA s.get s.next/\F.ck<s.next) ?_ ?_
  ·rintro e1 s1 ⟨m0,m1,m5,m6,mX,mF,⟨rows1,ids1,mg,mR,mnd,mver⟩,mn⟩
   refine hN _ _ ?_
   clear hN N
   have ji:=mR.len
   rw[Su]at ji
   have wX:=dp (i:=X) (n:=s1.next) (by omega)
   have wA:=dp (i:=A) (n:=s1.next) (by omega)
   have wF:=dp (i:=F) (n:=s1.next) (by omega)
   obtain⟨cs8,js,ID,IV⟩:=Fv (A:=A) (K:=⟨237008022,s1.next⟩) (nx:=s1.next+1) (j:=j) mR mnd mver (by omega) QW (by(try dsimp only);omega) (by(try dsimp only);omega) mn
   rw[qF]at IV
   obtain⟨c8,rfl⟩:∃c,cs8=[c]:=by
    rcases ID with⟨_,h⟩|⟨id,h,_⟩<;>exact⟨_,h⟩
   (try((repeat(revert hN;revert N;apply Pn.out));refine wk (tw @m0 (tw @m1 (tw @m5 (tw @m6 (tw @mX (tw @mF (tw @hj (tw @iL (tw @ay.eq_1 (tw @mg (tw @js (tw @gK (tw @fP (tw @ji (tw @x1 (tw @x2 (tw @x3 (tw @wX (tw @wA (tw @wF @bx.eq_1)))))))))))))))))))) ?_;(repeat(refine Pn.mk ?_;intro N hN))))
   refine Mu (fun e s=>e 0=.int .i64 cnt/\e 1=.sl (bs.map ay)/\e 5=.ptr X 0 0/\e 6=.int .i64 j/\s.get X=some ⟨true,4,[bx cnt bs A F]⟩/\s.get F=some ⟨true,1,dW (fun _=>0) bs.length⟩/\qZ A F.ck (ll cnt bs (j+1)) s.get s.next/\F.ck<s.next) ?_ ?_
   ·rintro e2 s2 ⟨p0,p1,p5,p6,pX,pF,pL,pn⟩
    simp only[dn,aZ]
    refine hN _ _ ?_
    clear hN N
    (try((repeat(revert hN;revert N;apply Pn.out));refine wk (tw @p0 (tw @p1 (tw @p5 @p6))) ?_;(repeat(refine Pn.mk ?_;intro N hN))))
    refine cE ?_ ?_ ?_ ?_ (⟨by obtain⟨r,i,q1,q2,q3,q4⟩:=pL;exact⟨r,i,sd @q1,q2,q3,fun x hx=>by have:=q4 x hx;(try dsimp only);omega⟩,by(try dsimp only);omega⟩)
    all_goals simp only[go_sem, ↓reduceIte,Nat.reduceEqDiff,Nat.reduceAdd,Nat.reduceSub,Nat.reduceLeDiff,reduceCtorEq,p0,p1,p5,p6,pX,pF]
   ·intro N hN
    rcases ID with⟨TN,zN⟩|⟨id,zN,hLp,hid,Lq,yy⟩
    ·simp only[List.cons.injEq,and_true]at zN
     subst zN
     subst TN
     refine fa ?_ ?_<;>(try((repeat(revert hN;revert N;apply Pn.out));refine wk (tw @m0 (tw @m1 (tw @m5 (tw @m6 (tw @mX (tw @mF (tw @hj (tw @iL (tw @ay.eq_1 (tw @mg (tw @js (tw @gK (tw @fP (tw @ji (tw @x1 (tw @x2 (tw @x3 (tw @wX (tw @wA (tw @wF @bx.eq_1)))))))))))))))))))) ?_;(repeat(refine Pn.mk ?_;intro N hN))))<;>(try refine fa ?_ ?_)<;>(try((repeat(revert hN;revert N;apply Pn.out));refine wk (tw @m0 (tw @m1 (tw @m5 (tw @m6 (tw @mX (tw @mF (tw @hj (tw @iL (tw @ay.eq_1 (tw @mg (tw @js (tw @gK (tw @fP (tw @ji (tw @x1 (tw @x2 (tw @x3 (tw @wX (tw @wA (tw @wF @bx.eq_1)))))))))))))))))))) ?_;(repeat(refine Pn.mk ?_;intro N hN))))<;>(try refine fa ?_ ?_)<;>(try((repeat(revert hN;revert N;apply Pn.out));refine wk (tw @m0 (tw @m1 (tw @m5 (tw @m6 (tw @mX (tw @mF (tw @hj (tw @iL (tw @ay.eq_1 (tw @mg (tw @js (tw @gK (tw @fP (tw @ji (tw @x1 (tw @x2 (tw @x3 (tw @wX (tw @wA (tw @wF @bx.eq_1)))))))))))))))))))) ?_;(repeat(refine Pn.mk ?_;intro N hN))))<;>(try refine fa ?_ ?_)<;>(try((repeat(revert hN;revert N;apply Pn.out));refine wk (tw @m0 (tw @m1 (tw @m5 (tw @m6 (tw @mX (tw @mF (tw @hj (tw @iL (tw @ay.eq_1 (tw @mg (tw @js (tw @gK (tw @fP (tw @ji (tw @x1 (tw @x2 (tw @x3 (tw @wX (tw @wA (tw @wF @bx.eq_1)))))))))))))))))))) ?_;(repeat(refine Pn.mk ?_;intro N hN))))<;>(try refine fa ?_ ?_)<;>(try((repeat(revert hN;revert N;apply Pn.out));refine wk (tw @m0 (tw @m1 (tw @m5 (tw @m6 (tw @mX (tw @mF (tw @hj (tw @iL (tw @ay.eq_1 (tw @mg (tw @js (tw @gK (tw @fP (tw @ji (tw @x1 (tw @x2 (tw @x3 (tw @wX (tw @wA (tw @wF @bx.eq_1)))))))))))))))))))) ?_;(repeat(refine Pn.mk ?_;intro N hN))))<;>(try refine fa ?_ ?_)<;>(try((repeat(revert hN;revert N;apply Pn.out));refine wk (tw @m0 (tw @m1 (tw @m5 (tw @m6 (tw @mX (tw @mF (tw @hj (tw @iL (tw @ay.eq_1 (tw @mg (tw @js (tw @gK (tw @fP (tw @ji (tw @x1 (tw @x2 (tw @x3 (tw @wX (tw @wA (tw @wF @bx.eq_1)))))))))))))))))))) ?_;(repeat(refine Pn.mk ?_;intro N hN))))
     all_goals
      refine⟨by simp only[go_sem, ↓reduceIte,Nat.reduceEqDiff,Nat.reduceAdd,Nat.reduceSub,Nat.reduceLeDiff,reduceCtorEq,m0,m1,m5,m6,mX,mF,hj,iL,ay,mg,js,gK,fP,ji,x1,x2,x3,wX,wA,wF,bx],by simp only[go_sem, ↓reduceIte,Nat.reduceEqDiff,Nat.reduceAdd,Nat.reduceSub,Nat.reduceLeDiff,reduceCtorEq,m0,m1,m5,m6,mX,mF,hj,iL,ay,mg,js,gK,fP,ji,x1,x2,x3,wX,wA,wF,bx],by simp only[go_sem, ↓reduceIte,Nat.reduceEqDiff,Nat.reduceAdd,Nat.reduceSub,Nat.reduceLeDiff,reduceCtorEq,m0,m1,m5,m6,mX,mF,hj,iL,ay,mg,js,gK,fP,ji,x1,x2,x3,wX,wA,wF,bx],by simp only[go_sem, ↓reduceIte,Nat.reduceEqDiff,Nat.reduceAdd,Nat.reduceSub,Nat.reduceLeDiff,reduceCtorEq,m0,m1,m5,m6,mX,mF,hj,iL,ay,mg,js,gK,fP,ji,x1,x2,x3,wX,wA,wF,bx],by simp only[go_sem, ↓reduceIte,Nat.reduceEqDiff,Nat.reduceAdd,Nat.reduceSub,Nat.reduceLeDiff,reduceCtorEq,m0,m1,m5,m6,mX,mF,hj,iL,ay,mg,js,gK,fP,ji,x1,x2,x3,wX,wA,wF,bx],by simp only[go_sem, ↓reduceIte,Nat.reduceEqDiff,Nat.reduceAdd,Nat.reduceSub,Nat.reduceLeDiff,reduceCtorEq,m0,m1,m5,m6,mX,mF,hj,iL,ay,mg,js,gK,fP,ji,x1,x2,x3,wX,wA,wF,bx],IV _ (by simp only[go_sem, ↓reduceIte,Nat.reduceEqDiff,Nat.reduceAdd,Nat.reduceSub,Nat.reduceLeDiff,reduceCtorEq,m0,m1,m5,m6,mX,mF,hj,iL,ay,mg,js,gK,fP,ji,x1,x2,x3,wX,wA,wF,bx,List.length_nil]) (by simp only[go_sem, ↓reduceIte,Nat.reduceEqDiff,Nat.reduceAdd,Nat.reduceSub,Nat.reduceLeDiff,reduceCtorEq,m0,m1,m5,m6,mX,mF,hj,iL,ay,mg,js,gK,fP,ji,x1,x2,x3,wX,wA,wF,bx,List.map_nil,List.nil_append]) (fun i hi Of fh=>?_),by(try dsimp only);omega⟩
      clear fh
      simp only[go_sem, ↓reduceIte,Nat.reduceEqDiff,Nat.reduceAdd,Nat.reduceSub,Nat.reduceLeDiff,reduceCtorEq,wX,wA,wF,dp hi,Of]
    ·simp only[List.cons.injEq,and_true]at zN
     subst zN
     have sq:=dp Lq
     have y1:=cr (a:=A) (b:=id) (by omega)
     have y2:=cr (a:=F) (b:=id) yy
     have y3:=cr (a:=X) (b:=id) (by omega)
     have e3:Lb.length+1<=16777216:=by omega
     have z1:(Lb.map eN).length=Lb.length:=by simp
     refine fa ?_ ?_<;>(try((repeat(revert hN;revert N;apply Pn.out));refine wk (tw @m0 (tw @m1 (tw @m5 (tw @m6 (tw @mX (tw @mF (tw @hj (tw @iL (tw @ay.eq_1 (tw @mg (tw @js (tw @gK (tw @fP (tw @ji (tw @x1 (tw @x2 (tw @x3 (tw @wX (tw @wA (tw @wF (tw @bx.eq_1 (tw @hid (tw @sq (tw @y1 (tw @y2 (tw @y3 (tw @e3 @z1))))))))))))))))))))))))))) ?_;(repeat(refine Pn.mk ?_;intro N hN))))<;>(try refine fa ?_ ?_)<;>(try((repeat(revert hN;revert N;apply Pn.out));refine wk (tw @m0 (tw @m1 (tw @m5 (tw @m6 (tw @mX (tw @mF (tw @hj (tw @iL (tw @ay.eq_1 (tw @mg (tw @js (tw @gK (tw @fP (tw @ji (tw @x1 (tw @x2 (tw @x3 (tw @wX (tw @wA (tw @wF (tw @bx.eq_1 (tw @hid (tw @sq (tw @y1 (tw @y2 (tw @y3 (tw @e3 @z1))))))))))))))))))))))))))) ?_;(repeat(refine Pn.mk ?_;intro N hN))))<;>(try refine fa ?_ ?_)<;>(try((repeat(revert hN;revert N;apply Pn.out));refine wk (tw @m0 (tw @m1 (tw @m5 (tw @m6 (tw @mX (tw @mF (tw @hj (tw @iL (tw @ay.eq_1 (tw @mg (tw @js (tw @gK (tw @fP (tw @ji (tw @x1 (tw @x2 (tw @x3 (tw @wX (tw @wA (tw @wF (tw @bx.eq_1 (tw @hid (tw @sq (tw @y1 (tw @y2 (tw @y3 (tw @e3 @z1))))))))))))))))))))))))))) ?_;(repeat(refine Pn.mk ?_;intro N hN))))<;>(try refine fa ?_ ?_)<;>(try((repeat(revert hN;revert N;apply Pn.out));refine wk (tw @m0 (tw @m1 (tw @m5 (tw @m6 (tw @mX (tw @mF (tw @hj (tw @iL (tw @ay.eq_1 (tw @mg (tw @js (tw @gK (tw @fP (tw @ji (tw @x1 (tw @x2 (tw @x3 (tw @wX (tw @wA (tw @wF (tw @bx.eq_1 (tw @hid (tw @sq (tw @y1 (tw @y2 (tw @y3 (tw @e3 @z1))))))))))))))))))))))))))) ?_;(repeat(refine Pn.mk ?_;intro N hN))))<;>(try refine fa ?_ ?_)<;>(try((repeat(revert hN;revert N;apply Pn.out));refine wk (tw @m0 (tw @m1 (tw @m5 (tw @m6 (tw @mX (tw @mF (tw @hj (tw @iL (tw @ay.eq_1 (tw @mg (tw @js (tw @gK (tw @fP (tw @ji (tw @x1 (tw @x2 (tw @x3 (tw @wX (tw @wA (tw @wF (tw @bx.eq_1 (tw @hid (tw @sq (tw @y1 (tw @y2 (tw @y3 (tw @e3 @z1))))))))))))))))))))))))))) ?_;(repeat(refine Pn.mk ?_;intro N hN))))<;>(try refine fa ?_ ?_)<;>(try((repeat(revert hN;revert N;apply Pn.out));refine wk (tw @m0 (tw @m1 (tw @m5 (tw @m6 (tw @mX (tw @mF (tw @hj (tw @iL (tw @ay.eq_1 (tw @mg (tw @js (tw @gK (tw @fP (tw @ji (tw @x1 (tw @x2 (tw @x3 (tw @wX (tw @wA (tw @wF (tw @bx.eq_1 (tw @hid (tw @sq (tw @y1 (tw @y2 (tw @y3 (tw @e3 @z1))))))))))))))))))))))))))) ?_;(repeat(refine Pn.mk ?_;intro N hN))))
     all_goals
      refine⟨by simp only[go_sem, ↓reduceIte,Nat.reduceEqDiff,Nat.reduceAdd,Nat.reduceSub,Nat.reduceLeDiff,reduceCtorEq,m0,m1,m5,m6,mX,mF,hj,iL,ay,mg,js,gK,fP,ji,x1,x2,x3,wX,wA,wF,bx,hid,sq,y1,y2,y3,e3,z1],by simp only[go_sem, ↓reduceIte,Nat.reduceEqDiff,Nat.reduceAdd,Nat.reduceSub,Nat.reduceLeDiff,reduceCtorEq,m0,m1,m5,m6,mX,mF,hj,iL,ay,mg,js,gK,fP,ji,x1,x2,x3,wX,wA,wF,bx,hid,sq,y1,y2,y3,e3,z1],by simp only[go_sem, ↓reduceIte,Nat.reduceEqDiff,Nat.reduceAdd,Nat.reduceSub,Nat.reduceLeDiff,reduceCtorEq,m0,m1,m5,m6,mX,mF,hj,iL,ay,mg,js,gK,fP,ji,x1,x2,x3,wX,wA,wF,bx,hid,sq,y1,y2,y3,e3,z1],by simp only[go_sem, ↓reduceIte,Nat.reduceEqDiff,Nat.reduceAdd,Nat.reduceSub,Nat.reduceLeDiff,reduceCtorEq,m0,m1,m5,m6,mX,mF,hj,iL,ay,mg,js,gK,fP,ji,x1,x2,x3,wX,wA,wF,bx,hid,sq,y1,y2,y3,e3,z1],by simp only[go_sem, ↓reduceIte,Nat.reduceEqDiff,Nat.reduceAdd,Nat.reduceSub,Nat.reduceLeDiff,reduceCtorEq,m0,m1,m5,m6,mX,mF,hj,iL,ay,mg,js,gK,fP,ji,x1,x2,x3,wX,wA,wF,bx,hid,sq,y1,y2,y3,e3,z1],by simp only[go_sem, ↓reduceIte,Nat.reduceEqDiff,Nat.reduceAdd,Nat.reduceSub,Nat.reduceLeDiff,reduceCtorEq,m0,m1,m5,m6,mX,mF,hj,iL,ay,mg,js,gK,fP,ji,x1,x2,x3,wX,wA,wF,bx,hid,sq,y1,y2,y3,e3,z1],IV _ (by simp only[go_sem, ↓reduceIte,Nat.reduceEqDiff,Nat.reduceAdd,Nat.reduceSub,Nat.reduceLeDiff,reduceCtorEq,m0,m1,m5,m6,mX,mF,hj,iL,ay,mg,js,gK,fP,ji,x1,x2,x3,wX,wA,wF,bx,hid,sq,y1,y2,y3,e3,z1,List.length_nil]) (by simp only[go_sem, ↓reduceIte,Nat.reduceEqDiff,Nat.reduceAdd,Nat.reduceSub,Nat.reduceLeDiff,reduceCtorEq,m0,m1,m5,m6,mX,mF,hj,iL,ay,mg,js,gK,fP,ji,x1,x2,x3,wX,wA,wF,bx,hid,sq,y1,y2,y3,e3,z1,List.map_nil,List.nil_append]) (fun i hi Of fh=>?_),by(try dsimp only);omega⟩
      have gW:=fh id rfl
      simp only[go_sem, ↓reduceIte,Nat.reduceEqDiff,Nat.reduceAdd,Nat.reduceSub,Nat.reduceLeDiff,reduceCtorEq,wX,wA,wF,dp hi,Of,gW]
  ·intro N hN
   rcases IC with⟨TN,zN⟩|⟨id,zN,hLp,hid,Lq,yy⟩
   ·simp only[List.cons.injEq,and_true]at zN
    subst zN
    subst TN
    refine fa ?_ ?_<;>(try((repeat(revert hN;revert N;apply Pn.out));refine wk (tw @a6 (tw @a5 (tw @ag0 (tw @ag1 (tw @a0 (tw @a1 (tw @hj (tw @iL (tw @ay.eq_1 (tw @ag (tw @jr (tw @gK (tw @fP (tw @jh (tw @x1 (tw @x2 (tw @x3 (tw @vX (tw @vA (tw @vF @bx.eq_1)))))))))))))))))))) ?_;(repeat(refine Pn.mk ?_;intro N hN))))<;>(try refine fa ?_ ?_)<;>(try((repeat(revert hN;revert N;apply Pn.out));refine wk (tw @a6 (tw @a5 (tw @ag0 (tw @ag1 (tw @a0 (tw @a1 (tw @hj (tw @iL (tw @ay.eq_1 (tw @ag (tw @jr (tw @gK (tw @fP (tw @jh (tw @x1 (tw @x2 (tw @x3 (tw @vX (tw @vA (tw @vF @bx.eq_1)))))))))))))))))))) ?_;(repeat(refine Pn.mk ?_;intro N hN))))<;>(try refine fa ?_ ?_)<;>(try((repeat(revert hN;revert N;apply Pn.out));refine wk (tw @a6 (tw @a5 (tw @ag0 (tw @ag1 (tw @a0 (tw @a1 (tw @hj (tw @iL (tw @ay.eq_1 (tw @ag (tw @jr (tw @gK (tw @fP (tw @jh (tw @x1 (tw @x2 (tw @x3 (tw @vX (tw @vA (tw @vF @bx.eq_1)))))))))))))))))))) ?_;(repeat(refine Pn.mk ?_;intro N hN))))<;>(try refine fa ?_ ?_)<;>(try((repeat(revert hN;revert N;apply Pn.out));refine wk (tw @a6 (tw @a5 (tw @ag0 (tw @ag1 (tw @a0 (tw @a1 (tw @hj (tw @iL (tw @ay.eq_1 (tw @ag (tw @jr (tw @gK (tw @fP (tw @jh (tw @x1 (tw @x2 (tw @x3 (tw @vX (tw @vA (tw @vF @bx.eq_1)))))))))))))))))))) ?_;(repeat(refine Pn.mk ?_;intro N hN))))<;>(try refine fa ?_ ?_)<;>(try((repeat(revert hN;revert N;apply Pn.out));refine wk (tw @a6 (tw @a5 (tw @ag0 (tw @ag1 (tw @a0 (tw @a1 (tw @hj (tw @iL (tw @ay.eq_1 (tw @ag (tw @jr (tw @gK (tw @fP (tw @jh (tw @x1 (tw @x2 (tw @x3 (tw @vX (tw @vA (tw @vF @bx.eq_1)))))))))))))))))))) ?_;(repeat(refine Pn.mk ?_;intro N hN))))<;>(try refine fa ?_ ?_)<;>(try((repeat(revert hN;revert N;apply Pn.out));refine wk (tw @a6 (tw @a5 (tw @ag0 (tw @ag1 (tw @a0 (tw @a1 (tw @hj (tw @iL (tw @ay.eq_1 (tw @ag (tw @jr (tw @gK (tw @fP (tw @jh (tw @x1 (tw @x2 (tw @x3 (tw @vX (tw @vA (tw @vF @bx.eq_1)))))))))))))))))))) ?_;(repeat(refine Pn.mk ?_;intro N hN))))
    all_goals
     refine⟨by simp only[go_sem, ↓reduceIte,Nat.reduceEqDiff,Nat.reduceAdd,Nat.reduceSub,Nat.reduceLeDiff,reduceCtorEq,a6,a5,ag0,ag1,a0,a1,hj,iL,ay,ag,jr,gK,fP,jh,x1,x2,x3,vX,vA,vF,bx],by simp only[go_sem, ↓reduceIte,Nat.reduceEqDiff,Nat.reduceAdd,Nat.reduceSub,Nat.reduceLeDiff,reduceCtorEq,a6,a5,ag0,ag1,a0,a1,hj,iL,ay,ag,jr,gK,fP,jh,x1,x2,x3,vX,vA,vF,bx],by simp only[go_sem, ↓reduceIte,Nat.reduceEqDiff,Nat.reduceAdd,Nat.reduceSub,Nat.reduceLeDiff,reduceCtorEq,a6,a5,ag0,ag1,a0,a1,hj,iL,ay,ag,jr,gK,fP,jh,x1,x2,x3,vX,vA,vF,bx],by simp only[go_sem, ↓reduceIte,Nat.reduceEqDiff,Nat.reduceAdd,Nat.reduceSub,Nat.reduceLeDiff,reduceCtorEq,a6,a5,ag0,ag1,a0,a1,hj,iL,ay,ag,jr,gK,fP,jh,x1,x2,x3,vX,vA,vF,bx],by simp only[go_sem, ↓reduceIte,Nat.reduceEqDiff,Nat.reduceAdd,Nat.reduceSub,Nat.reduceLeDiff,reduceCtorEq,a6,a5,ag0,ag1,a0,a1,hj,iL,ay,ag,jr,gK,fP,jh,x1,x2,x3,vX,vA,vF,bx],by simp only[go_sem, ↓reduceIte,Nat.reduceEqDiff,Nat.reduceAdd,Nat.reduceSub,Nat.reduceLeDiff,reduceCtorEq,a6,a5,ag0,ag1,a0,a1,hj,iL,ay,ag,jr,gK,fP,jh,x1,x2,x3,vX,vA,vF,bx],IU _ (by simp only[go_sem, ↓reduceIte,Nat.reduceEqDiff,Nat.reduceAdd,Nat.reduceSub,Nat.reduceLeDiff,reduceCtorEq,a6,a5,ag0,ag1,a0,a1,hj,iL,ay,ag,jr,gK,fP,jh,x1,x2,x3,vX,vA,vF,bx,List.length_nil]) (by simp only[go_sem, ↓reduceIte,Nat.reduceEqDiff,Nat.reduceAdd,Nat.reduceSub,Nat.reduceLeDiff,reduceCtorEq,a6,a5,ag0,ag1,a0,a1,hj,iL,ay,ag,jr,gK,fP,jh,x1,x2,x3,vX,vA,vF,bx,List.map_nil,List.nil_append]) (fun i hi Of fh=>?_),by(try dsimp only);omega⟩
     clear fh
     simp only[go_sem, ↓reduceIte,Nat.reduceEqDiff,Nat.reduceAdd,Nat.reduceSub,Nat.reduceLeDiff,reduceCtorEq,vX,vA,vF,dp hi,Of]
   ·simp only[List.cons.injEq,and_true]at zN
    subst zN
    have sq:=dp Lq
    have y1:=cr (a:=A) (b:=id) (by omega)
    have y2:=cr (a:=F) (b:=id) yy
    have y3:=cr (a:=X) (b:=id) (by omega)
    have e3:La.length+1<=16777216:=by omega
    have z1:(La.map eN).length=La.length:=by simp
    refine fa ?_ ?_<;>(try((repeat(revert hN;revert N;apply Pn.out));refine wk (tw @a6 (tw @a5 (tw @ag0 (tw @ag1 (tw @a0 (tw @a1 (tw @hj (tw @iL (tw @ay.eq_1 (tw @ag (tw @jr (tw @gK (tw @fP (tw @jh (tw @x1 (tw @x2 (tw @x3 (tw @vX (tw @vA (tw @vF (tw @bx.eq_1 (tw @hid (tw @sq (tw @y1 (tw @y2 (tw @y3 (tw @e3 @z1))))))))))))))))))))))))))) ?_;(repeat(refine Pn.mk ?_;intro N hN))))<;>(try refine fa ?_ ?_)<;>(try((repeat(revert hN;revert N;apply Pn.out));refine wk (tw @a6 (tw @a5 (tw @ag0 (tw @ag1 (tw @a0 (tw @a1 (tw @hj (tw @iL (tw @ay.eq_1 (tw @ag (tw @jr (tw @gK (tw @fP (tw @jh (tw @x1 (tw @x2 (tw @x3 (tw @vX (tw @vA (tw @vF (tw @bx.eq_1 (tw @hid (tw @sq (tw @y1 (tw @y2 (tw @y3 (tw @e3 @z1))))))))))))))))))))))))))) ?_;(repeat(refine Pn.mk ?_;intro N hN))))<;>(try refine fa ?_ ?_)<;>(try((repeat(revert hN;revert N;apply Pn.out));refine wk (tw @a6 (tw @a5 (tw @ag0 (tw @ag1 (tw @a0 (tw @a1 (tw @hj (tw @iL (tw @ay.eq_1 (tw @ag (tw @jr (tw @gK (tw @fP (tw @jh (tw @x1 (tw @x2 (tw @x3 (tw @vX (tw @vA (tw @vF (tw @bx.eq_1 (tw @hid (tw @sq (tw @y1 (tw @y2 (tw @y3 (tw @e3 @z1))))))))))))))))))))))))))) ?_;(repeat(refine Pn.mk ?_;intro N hN))))<;>(try refine fa ?_ ?_)<;>(try((repeat(revert hN;revert N;apply Pn.out));refine wk (tw @a6 (tw @a5 (tw @ag0 (tw @ag1 (tw @a0 (tw @a1 (tw @hj (tw @iL (tw @ay.eq_1 (tw @ag (tw @jr (tw @gK (tw @fP (tw @jh (tw @x1 (tw @x2 (tw @x3 (tw @vX (tw @vA (tw @vF (tw @bx.eq_1 (tw @hid (tw @sq (tw @y1 (tw @y2 (tw @y3 (tw @e3 @z1))))))))))))))))))))))))))) ?_;(repeat(refine Pn.mk ?_;intro N hN))))<;>(try refine fa ?_ ?_)<;>(try((repeat(revert hN;revert N;apply Pn.out));refine wk (tw @a6 (tw @a5 (tw @ag0 (tw @ag1 (tw @a0 (tw @a1 (tw @hj (tw @iL (tw @ay.eq_1 (tw @ag (tw @jr (tw @gK (tw @fP (tw @jh (tw @x1 (tw @x2 (tw @x3 (tw @vX (tw @vA (tw @vF (tw @bx.eq_1 (tw @hid (tw @sq (tw @y1 (tw @y2 (tw @y3 (tw @e3 @z1))))))))))))))))))))))))))) ?_;(repeat(refine Pn.mk ?_;intro N hN))))<;>(try refine fa ?_ ?_)<;>(try((repeat(revert hN;revert N;apply Pn.out));refine wk (tw @a6 (tw @a5 (tw @ag0 (tw @ag1 (tw @a0 (tw @a1 (tw @hj (tw @iL (tw @ay.eq_1 (tw @ag (tw @jr (tw @gK (tw @fP (tw @jh (tw @x1 (tw @x2 (tw @x3 (tw @vX (tw @vA (tw @vF (tw @bx.eq_1 (tw @hid (tw @sq (tw @y1 (tw @y2 (tw @y3 (tw @e3 @z1))))))))))))))))))))))))))) ?_;(repeat(refine Pn.mk ?_;intro N hN))))
    all_goals
     refine⟨by simp only[go_sem, ↓reduceIte,Nat.reduceEqDiff,Nat.reduceAdd,Nat.reduceSub,Nat.reduceLeDiff,reduceCtorEq,a6,a5,ag0,ag1,a0,a1,hj,iL,ay,ag,jr,gK,fP,jh,x1,x2,x3,vX,vA,vF,bx,hid,sq,y1,y2,y3,e3,z1],by simp only[go_sem, ↓reduceIte,Nat.reduceEqDiff,Nat.reduceAdd,Nat.reduceSub,Nat.reduceLeDiff,reduceCtorEq,a6,a5,ag0,ag1,a0,a1,hj,iL,ay,ag,jr,gK,fP,jh,x1,x2,x3,vX,vA,vF,bx,hid,sq,y1,y2,y3,e3,z1],by simp only[go_sem, ↓reduceIte,Nat.reduceEqDiff,Nat.reduceAdd,Nat.reduceSub,Nat.reduceLeDiff,reduceCtorEq,a6,a5,ag0,ag1,a0,a1,hj,iL,ay,ag,jr,gK,fP,jh,x1,x2,x3,vX,vA,vF,bx,hid,sq,y1,y2,y3,e3,z1],by simp only[go_sem, ↓reduceIte,Nat.reduceEqDiff,Nat.reduceAdd,Nat.reduceSub,Nat.reduceLeDiff,reduceCtorEq,a6,a5,ag0,ag1,a0,a1,hj,iL,ay,ag,jr,gK,fP,jh,x1,x2,x3,vX,vA,vF,bx,hid,sq,y1,y2,y3,e3,z1],by simp only[go_sem, ↓reduceIte,Nat.reduceEqDiff,Nat.reduceAdd,Nat.reduceSub,Nat.reduceLeDiff,reduceCtorEq,a6,a5,ag0,ag1,a0,a1,hj,iL,ay,ag,jr,gK,fP,jh,x1,x2,x3,vX,vA,vF,bx,hid,sq,y1,y2,y3,e3,z1],by simp only[go_sem, ↓reduceIte,Nat.reduceEqDiff,Nat.reduceAdd,Nat.reduceSub,Nat.reduceLeDiff,reduceCtorEq,a6,a5,ag0,ag1,a0,a1,hj,iL,ay,ag,jr,gK,fP,jh,x1,x2,x3,vX,vA,vF,bx,hid,sq,y1,y2,y3,e3,z1],IU _ (by simp only[go_sem, ↓reduceIte,Nat.reduceEqDiff,Nat.reduceAdd,Nat.reduceSub,Nat.reduceLeDiff,reduceCtorEq,a6,a5,ag0,ag1,a0,a1,hj,iL,ay,ag,jr,gK,fP,jh,x1,x2,x3,vX,vA,vF,bx,hid,sq,y1,y2,y3,e3,z1,List.length_nil]) (by simp only[go_sem, ↓reduceIte,Nat.reduceEqDiff,Nat.reduceAdd,Nat.reduceSub,Nat.reduceLeDiff,reduceCtorEq,a6,a5,ag0,ag1,a0,a1,hj,iL,ay,ag,jr,gK,fP,jh,x1,x2,x3,vX,vA,vF,bx,hid,sq,y1,y2,y3,e3,z1,List.map_nil,List.nil_append]) (fun i hi Of fh=>?_),by(try dsimp only);omega⟩
     have gW:=fh id rfl
     simp only[go_sem, ↓reduceIte,Nat.reduceEqDiff,Nat.reduceAdd,Nat.reduceSub,Nat.reduceLeDiff,reduceCtorEq,vX,vA,vF,dp hi,Of,gW]
 ·have gZ:j=bs.length:=by omega
  subst gZ
  (try((repeat(revert hN;revert N;apply Pn.out));refine wk (tw @a6 (tw @a5 (tw @ag0 (tw @ag1 (tw @a0 (tw @a1 @hj)))))) ?_;(repeat(refine Pn.mk ?_;intro N hN))))
  exact fx (.inl rfl) (by simp only[ft,iq,go_sem, ↓reduceIte,Nat.reduceEqDiff,Nat.reduceAdd,Nat.reduceSub,Nat.reduceLeDiff,reduceCtorEq];rfl) ⟨X,A,F,rfl,hXs,⟨ag0,⟨rows,ids,ag,hR,mm,fun x hx=>by have:=n9 x hx;(try dsimp only);omega⟩,ag1,hXA,hAF,by(try dsimp only);omega⟩⟩
end Go.Proofs.YtgoelphibofcmaaGreat.V

namespace Go.Proofs.YtgoelphibofcmaaGreat.V
open Go.RowKit
attribute [local irreducible] dG wpOps gy Call
attribute [local go_sem] aM fF eP ga fW cQ upd cz K.av cR AV.cells AV.cell rowOf rowsOf part ld rowAt bq cu dD ee ik bJ dh ev fU eX dr ej dd dc dQ dR bQ bf cW bP cY cX eh ek ei cV cj de ef bK aO da cG ij bw cK bU aY dn aZ dE AV.undef bD bG dV ec dM dK cH eu ew cF ep eo cZ db List.getD_cons_zero List.getD_cons_succ List.getD_nil List.all_cons List.all_nil Bool.and_true Bool.true_and Bool.and_self Bool.not_true Bool.not_false Option.map_some Option.map_none Option.bind_some Option.bind_none List.length_cons List.length_nil List.take_succ_cons List.take_zero List.take_nil List.drop_succ_cons List.drop_zero List.drop_nil List.head?_cons List.map_cons List.map_nil List.getElem?_cons_zero List.getElem?_cons_succ List.cons_append List.nil_append List.append_nil List.length_map List.set_cons_zero List.set_cons_succ Nat.reduceMul eq_self Int.toNat_natCast Int.natCast_nonneg and_self true_and and_true decide_true decide_false Bool.false_eq_true Nat.zero_add Nat.add_zero List.contains_cons List.contains_nil Bool.or_false Bool.false_or beq_self_eq_true Nat.reduceBEq ne_eq not_true_eq_false not_false_eq_true Id.mk.injEq false_and and_false Nat.reduceLT Int.reduceLE Int.reduceLT Int.reduceToNat Int.reduceNeg Int.reduceAdd Nat.le_refl List.length_append beq_true beq_false Bool.not_eq_eq_eq_not or_false false_or dL ai aj aH bl bB cw aX bd aU bh cU bH
theorem qZ.frame {A:Id} {lo nx uW:Nat} {L:List (List Nat)} {g g':Rows} (h:qZ A lo L g nx) (hA:A.ck<nx) (hf:∀i:Id,i.ck<nx->lo<i.ck∨i=A->g' i=g i) (hn:nx<=uW):qZ A lo L g' uW:=by
 obtain⟨rows,ids,h1,h2,h3,h4⟩:=h
 refine⟨rows,ids,(hf A hA (.inr rfl)).trans h1,h2.frame M9 fun i hi=>hf i (h4 i hi).2 (.inl (h4 i hi).1),h3,fun i hi=>?_⟩
 have:=h4 i hi;omega
theorem oq.frame {cnt:Nat} {bs:List PB} {f:Nat->Int} {X A F:Id} {g g':Rows} {nx uW:Nat} (h:oq cnt bs f X A F g nx) (hf:∀i:Id,i.ck<nx->g' i=g i) (hn:nx<=uW):oq cnt bs f X A F g' uW:=by
 have h1:=h.xa;have h2:=h.af;have h3:=h.fn
 exact⟨(hf X (by omega)).trans h.x,h.a.frame (by omega) (fun i hi _=>hf i hi) hn,(hf F h3).trans h.f,h1,h2,by omega⟩
theorem oq.Qx {cnt:Nat} {bs:List PB} {f f':Nat->Int} {X A F:Id} {g g':Rows} {nx uW:Nat} (h:oq cnt bs f X A F g nx) (hF:g' F=some ⟨true,1,dW f' bs.length⟩) (hf:∀i:Id,i.ck<nx->(i=F)=False->g' i=g i) (hn:nx<=uW):oq cnt bs f' X A F g' uW:=by
 have h1:=h.xa;have h2:=h.af;have h3:=h.fn
 refine⟨(hf X (by omega) (cr (by omega)).1).trans h.x,h.a.frame (by omega) (fun i hi ki=>hf i hi ?_) hn,hF,h1,h2,by omega⟩
 rcases ki with ki|rfl
 ·exact(cr ki).2
 ·exact(cr h2).1
theorem OV (cnt:Nat) (bs:List PB) (f:Nat->Int) (hs:Small bs f) (e v:Nat) (he:e<bs.length) (X A F:Id) (σ:ar) (nx:Nat) (hS:oq cnt bs f X A F σ.get nx) (hn:nx<=σ.next):
  Call Tryz.prog 261 [.ptr X 0 0,.int .i64 v,.int .i64 e] σ fun r σ'=>oq cnt bs (ub bs f e v) X A F σ'.get nx/\σ.next<=σ'.next/\∀i:Id,(i=F)=False->σ'.get i=σ.get i:=by
 refine eU eC rfl fun hl=>?_
 clear hl
 have hX:=hS.x
 have hF:=hS.f
 have hb:=uD he
 have Uj:=dO (f:=f) he
 have tl:=dB f bs.length
 obtain⟨⟨s0,s1⟩,s2,s3⟩:=hs e he
 have hei:(e:Int)<(bs.length:Int):=by omega
 have w1:IntKind.i64.wrap (f e+1)=f e+1:=bF (by omega)
 have w2:IntKind.i64.wrap (f e-1)=f e+-1:=by rw[bF (by omega)];omega
 rw[br]at Uj
 unfold ub
 by_cases h:(cC bs e).a=v
 ·have eJ:(dW f bs.length).set e (br (f e+1))=dW (fun j=>f j+if j=e then(if (cC bs e).a=v then 1 else -1)else 0) bs.length:=k8 he (by rw[if_pos rfl,if_pos h]) fun i _ hi=>by rw[if_neg hi,Int.add_zero]
  rw[br]at eJ
  generalize Sx:cC bs e=b at *
  have hd:decide ((b.a:Int)=(v:Int))=true:=decide_eq_true (by rw[h])
  (try((repeat(revert hN;revert N;apply Pn.out));refine wk (tw @hX (tw @hF (tw @hb (tw @Uj (tw @tl (tw @hei (tw @w1 (tw @eJ (tw @hd (tw @ay.eq_1 @bx.eq_1)))))))))) ?_;(repeat(refine Pn.mk ?_;intro N hN))))
  exact fx (.inr rfl) (vs:=[]) rfl ⟨hS.Qx (sd @Nat.zero_add) (fun i hi gW=>sd @gW) (Nat.le_refl _),by(try dsimp only);omega,fun i gW=>sd @gW⟩
 ·have eJ:(dW f bs.length).set e (br (f e+-1))=dW (fun j=>f j+if j=e then(if (cC bs e).a=v then 1 else -1)else 0) bs.length:=k8 he (by rw[if_pos rfl,if_neg h]) fun i _ hi=>by rw[if_neg hi,Int.add_zero]
  rw[br]at eJ
  generalize Sx:cC bs e=b at *
  have hd:decide ((b.a:Int)=(v:Int))=false:=decide_eq_false fun hc=>h (by omega)
  (try((repeat(revert hN;revert N;apply Pn.out));refine wk (tw @hX (tw @hF (tw @hb (tw @Uj (tw @tl (tw @hei (tw @w2 (tw @eJ (tw @hd (tw @ay.eq_1 @bx.eq_1)))))))))) ?_;(repeat(refine Pn.mk ?_;intro N hN))))
  exact fx (.inr rfl) (vs:=[]) rfl ⟨hS.Qx (sd @Nat.zero_add) (fun i hi gW=>sd @gW) (Nat.le_refl _),by(try dsimp only);omega,fun i gW=>sd @gW⟩
structure ot (bs:List PB) (out:Nat->Int) (f f':Nat->Int) (x v:Nat):Prop where
 le:∀i,i<bs.length->f' i<=(cC bs i).s/\-(cC bs i).s<=f' i
 cut:∀S:Nat->Bool,F0 S bs f'=F0 S bs f+bi (S x)-bi (S v)
 yY:∀e,e<bs.length->out (cC bs e).a<=out v->out (cC bs e).b<=out v->f' e=f e
section
variable {cnt:Nat} {bs:List PB} {out:Nat->Int} {f f':Nat->Int} {x v y:Nat}
theorem ot.start (h:∀i,i<bs.length->f i<=(cC bs i).s/\-(cC bs i).s<=f i):ot bs out f f x x:=⟨h,fun S=>by omega,fun _ _ _ _=>rfl⟩
theorem ot.step (h:ot bs out f f' x v) {e:Nat} (he:e<bs.length) (hi:EG bs e v) (hr:0<fE bs f' e v) (hd:out (bW bs e v)=out v-1):ot bs out f (ub bs f' e v) x (bW bs e v):=by
 refine⟨fun i lE=>?_,fun S=>?_,fun i lE ha hb=>?_⟩
 ·have h1:=h.le i lE
  unfold ub
  by_cases Hw:i=e
  ·subst Hw
   rw[if_pos rfl]
   unfold fE at hr
   split at hr<;>rename_i hc
   ·rw[if_pos hc];omega
   ·rw[if_neg hc];omega
  ·rw[if_neg Hw];omega
 ·rw[F1 he hi,h.cut S];omega
 ·have Hw:i≠e:=by
   rintro rfl
   rcases hi with hi|hi
   ·rw[hi]at ha;omega
   ·rw[hi]at hb;omega
  unfold ub
  rw[if_neg Hw,Int.add_zero]
  exact h.yY i lE (by omega) (by omega)
theorem ot.goes (h:ot bs out f f' x v) (hs:zo cnt bs f y out) (hv:v<cnt) (h0:0<out v):∃e∈iV bs bs.length v,0<fE bs f' e v/\out (bW bs e v)=out v-1:=by
 obtain⟨e,h1,h2,h3,h4⟩:=hs.down v hv h0
 refine⟨e,rQ.2 ⟨h1,h2⟩,?_,h4⟩
 have hf:f' e=f e:=by
  refine h.yY e h1 ?_ ?_
  ·unfold bW at h4
   split at h4
   ·rename_i ha;rw[ha];exact Int.le_refl _
   ·omega
  ·unfold bW at h4
   rcases h2 with h2|h2
   ·rw[if_pos h2]at h4;omega
   ·rw[h2];exact Int.le_refl _
 unfold fE at h3 ⊢
 rw[hf];exact h3
theorem ot.done {val:Int} (h:ot bs out f f' x y) (hf:jZ bs f x y val):jZ bs f' x y (val+1):=
 ⟨h.le,fun S hx hy=>by rw[h.cut S,hf.cut S hx hy,hx,hy];simp[bi]⟩
theorem En {val:Int} (hs:zo cnt bs f y out) (ok:nz cnt bs) (hf:jZ bs f x y val) (hx:out x<0):∃S:Nat->Bool,S x=true/\S y=false/\val=jf S bs:=by
 refine⟨fun v=>decide (out v<0),decide_eq_true hx,decide_eq_false (by rw[hs.first];omega),hf.full (decide_eq_true hx) (decide_eq_false (by rw[hs.first];omega)) fun i hi qD=>⟨fun h1 h2 hr=>?_,fun h1 h2 hr=>?_⟩⟩
 ·have NT:=of_decide_eq_true h1
  have CH:=of_decide_eq_false h2
  have:=hs.shut i (cC bs i).a hi (.inl rfl) (by unfold bW;rw[if_pos rfl];omega) hr
  omega
 ·have NT:=of_decide_eq_true h1
  have CH:=of_decide_eq_false h2
  have:=hs.shut i (cC bs i).b hi (.inr rfl) (by unfold bW;rw[if_neg qD];omega) hr
  omega
end
end Go.Proofs.YtgoelphibofcmaaGreat.V

namespace Go.Proofs.YtgoelphibofcmaaGreat.V
open Go.RowKit
attribute [local irreducible] dG wpOps gy Call
attribute [local go_sem] aM fF eP ga fW cQ upd cz K.av cR AV.cells AV.cell rowOf rowsOf part ld rowAt bq cu dD ee ik bJ dh ev fU eX dr ej dd dc dQ dR bQ bf cW bP cY cX eh ek ei cV cj de ef bK aO da cG ij bw cK bU aY dn aZ dE AV.undef bD bG dV ec dM dK cH eu ew cF ep eo cZ db List.getD_cons_zero List.getD_cons_succ List.getD_nil List.all_cons List.all_nil Bool.and_true Bool.true_and Bool.and_self Bool.not_true Bool.not_false Option.map_some Option.map_none Option.bind_some Option.bind_none List.length_cons List.length_nil List.take_succ_cons List.take_zero List.take_nil List.drop_succ_cons List.drop_zero List.drop_nil List.head?_cons List.map_cons List.map_nil List.getElem?_cons_zero List.getElem?_cons_succ List.cons_append List.nil_append List.append_nil List.length_map List.set_cons_zero List.set_cons_succ Nat.reduceMul eq_self Int.toNat_natCast Int.natCast_nonneg and_self true_and and_true decide_true decide_false Bool.false_eq_true Nat.zero_add Nat.add_zero List.contains_cons List.contains_nil Bool.or_false Bool.false_or beq_self_eq_true Nat.reduceBEq ne_eq not_true_eq_false not_false_eq_true Id.mk.injEq false_and and_false Nat.reduceLT Int.reduceLE Int.reduceLT Int.reduceToNat Int.reduceNeg Int.reduceAdd Nat.le_refl List.length_append beq_true beq_false Bool.not_eq_eq_eq_not or_false false_or dL ai aj aH bl bB cw aX bd aU bh cU bH
theorem xg {bs:List PB} {f:Nat->Int} (dF:∀e,e<bs.length->0<=(cC bs e).s/\(cC bs e).s<=4) (h:∀i,i<bs.length->f i<=(cC bs i).s/\-(cC bs i).s<=f i):Small bs f:=fun e he=>by
 have:=dF e he;have:=h e he;omega
theorem qZ.at_ {A:Id} {lo nx v:Nat} {L:List (List Nat)} {l:List Nat} {g:Rows} (h:qZ A lo L g nx) (hv:L[v]? =some l) (hl:0<l.length):∃(rows:List (List AV)) (id:Id),g A=some ⟨true,1,rows⟩/\rows.length=L.length/\rows[v]? =some [.own id 0 l.length]/\g id=some ⟨true,1,l.map eN⟩/\lo<id.ck/\id.ck<nx:=by
 obtain⟨rows,ids,h1,h2,h3,h4⟩:=h
 have hk:v<L.length:=(List.getElem?_eq_some_iff.1 hv).1
 obtain⟨cs,ic,du,hR,QY⟩:=h2.at_ v hk
 rw[kK hv hk]at hR
 rcases hR with⟨h5,_⟩|⟨id,rfl,_,h6,rfl⟩
 ·subst h5;simp at hl
 ·have:=h4 id (QY id (by simp))
  exact⟨rows,id,h1,h2.len,du,h6,this.1,this.2⟩
theorem NS (cnt:Nat) (hn:cnt<=1048576) (bs:List PB) (ok:nz cnt bs) (qc:bs.length<=1048576) (dF:∀e,e<bs.length->0<=(cC bs e).s/\(cC bs e).s<=4) (f:Nat->Int) (x y:Nat) (hx:x<cnt) (hy:y<cnt) (Ro:x≠y) (val:Int) (hf:jZ bs f x y val)
  (X A F:Id) (σ:ar) (nb:Nat) (hS:oq cnt bs f X A F σ.get nb) (qF:nb<=σ.next):
  Call Tryz.prog 238 [.ptr X 0 0,.int .i64 x,.int .i64 y] σ fun r σ'=>∃b f',r=.bool b/\oq cnt bs f' X A F σ'.get nb/\σ.next<=σ'.next/\(∀i:Id,i.ck<nb->(i=F)=False->σ'.get i=σ.get i)/\
   (b=false->f'=f/\∃S:Nat->Bool,S x=true/\S y=false/\val=jf S bs)/\(b=true->jZ bs f' x y (val+1)):=by
 refine eU eC rfl fun hl=>?_
 clear hl
 have CQ:(x:Int)<(cnt:Int):=by omega
 have hz:∀(g:Rows),(∀i:Id,i.ck<nb->g i=σ.get i)->cN (dL g) 6 [.ptr X 0 0,.int .i64 (y:Int)]=some [.di (fN cnt bs f),.int .i64 y]:=fun g hg=>by
  have:=(hS.frame hg (Nat.le_refl _)).fz
  simp only[ai,aj,this,aH,Option.map_some]
 (try((repeat(revert hN;revert N;apply Pn.out));refine wk @Nat.zero_add ?_;(repeat(refine Pn.mk ?_;intro N hN))))
 refine .inr (aI _ _ _ _ _ (fun r σ1 hq=>?_) ((FD cnt hn bs ok qc f (xg dF hf.le) y hy).x mixed (hz _ (fun i hi=>rfl))))
 obtain⟨⟨out,rfl,OA⟩,rfl⟩:=hq
 refine hN _ _ ?_
 clear hN N
 have hox:=dO (f:=out) hx
 have tl:=dB out cnt
 by_cases j8:out x<0
 ·(try((repeat(revert hN;revert N;apply Pn.out));refine wk (tw @hox (tw @j8 (tw @CQ (tw @tl @br.eq_1)))) ?_;(repeat(refine Pn.mk ?_;intro N hN))))
  exact fx (.inl rfl) (vs:=[.bool false]) (sd @Nat.zero_add) ⟨false,f,rfl,hS.frame (fun i hi=>rfl) (Nat.le_refl _),by(try dsimp only);omega,fun i _ _=>rfl,fun _=>⟨rfl,En OA ok hf j8⟩,fun h=>by cases h⟩
 (try((repeat(revert hN;revert N;apply Pn.out));refine wk (tw @hox (tw @j8 (tw @CQ (tw @tl @br.eq_1)))) ?_;(repeat(refine Pn.mk ?_;intro N hN))))
 refine aW (fun m env st=>∃(v:Nat) (f':Nat->Int),m=(out v).toNat/\v<cnt/\0<=out v/\env 8=.int .i64 (v:Int)/\ot bs out f f' x v/\oq cnt bs f' X A F st.get nb/\(∀i:Id,i.ck<nb->(i=F)=False->st.get i=σ.get i)/\σ.next<=st.next) (out x).toNat ⟨x,f,rfl,hx,by omega,by(simp only[go_sem, ↓reduceIte,Nat.reduceEqDiff,Nat.reduceAdd,Nat.reduceSub,Nat.reduceLeDiff,reduceCtorEq]),ot.start hf.le,hS.frame (fun i hi=>rfl) (Nat.le_refl _),fun i _ _=>rfl,by(try dsimp only);omega⟩ ?_
 rintro m env_b st_b ⟨v,f',rfl,hv,sH,b8,hW,hN1,jA,hle⟩ fY
 have b0:=fY 0 (by kernel_rfl)
 have b2:=fY 2 (by kernel_rfl)
 have b7:=fY 7 (by kernel_rfl)
 simp only[go_sem, ↓reduceIte,Nat.reduceEqDiff,Nat.reduceAdd,Nat.reduceSub,Nat.reduceLeDiff,reduceCtorEq]at b0 b2 b7
 clear fY
 by_cases SX:v=y
 ·have hd:decide ((v:Int)=(y:Int))=true:=decide_eq_true (by rw[SX])
  subst SX
  (try((repeat(revert hN;revert N;apply Pn.out));refine wk (tw @b0 (tw @b2 (tw @b7 (tw @b8 @hd)))) ?_;(repeat(refine Pn.mk ?_;intro N hN))))
  exact fx (.inl rfl) (vs:=[.bool true]) (sd @Nat.zero_add) ⟨true,f',rfl,hN1,by(try dsimp only);omega,jA,fun h=>(by cases h),fun _=>hW.done hf⟩
 have hd:decide ((v:Int)=(y:Int))=false:=decide_eq_false fun h=>SX (by omega)
 have AQ:0<out v:=by
  have:=OA.zero v hv
  rcases Int.lt_or_eq_of_le sH with h|h
  ·exact h
  ·exact absurd (this h.symm) SX
 have MR:=hW.goes OA hv AQ
 have hIm:∀ed∈iV bs bs.length v,ed<bs.length/\EG bs ed v:=fun ed h=>rQ.1 h
 have hIL:(ll cnt bs bs.length)[v]? =some (iV bs bs.length v):=by simp[ll,hv]
 have hIl:=rP bs bs.length v
 generalize iV bs bs.length v=I at *
 have hIp:0<I.length:=by
  obtain⟨ed,h,_⟩:=MR
  exact List.length_pos_of_mem h
 obtain⟨rows,id,hgA,sG,lG,hid,hid1,hid2⟩:=hN1.a.at_ hIL hIp
 rw[jt]at sG
 have hgX:=hN1.x
 have DF:(v:Int)<(cnt:Int):=by omega
 have uR:=dO (f:=out) hv
 have od:IntKind.i64.wrap (out v-1)=out v-1:=bF (by have:=OA.lo v hv;omega)
 have qC:(I.map eN).length=I.length:=by simp
 have LF:=xg dF hW.le
 have lI:∀(g:Rows),(∀i:Id,i.ck<nb->g i=st_b.get i)->∀ed:Nat,cN (dL g) 6 [.ptr X 0 0,.int .i64 (v:Int),.int .i64 (ed:Int)]=some [.di (fN cnt bs f'),.int .i64 v,.int .i64 ed]:=fun g hg ed=>by
  have:=(hN1.frame hg (Nat.le_refl _)).fz
  simp only[ai,aj,this,aH,Option.map_some]
 rw[br]at uR
 (try((repeat(revert hN;revert N;apply Pn.out));refine wk (tw @b0 (tw @b2 (tw @b7 (tw @b8 @hd)))) ?_;(repeat(refine Pn.mk ?_;intro N hN))))
 refine aW (fun n env st=>∃k:Nat,n=(I.length)-k/\k<=(I.length)/\env 11=.int .i64 (k:Int)/\(∃(ua EN:Int),env 9=.int .i64 ua/\env 10=.int .i64 EN/\((ua<0/\∀z,z<k->¬(0<fE bs f' (I.getD z 0) v/\out (bW bs (I.getD z 0) v)=out v-1))∨∃ed:Nat,ed∈I/\EN=(ed:Int)/\ua=(bW bs ed v:Int)/\0<fE bs f' ed v/\out (bW bs ed v)=out v-1))/\((∀i:Id,st.get i=st_b.get i)/\st_b.next<=st.next)) (I.length) ⟨0,by omega,by omega,sl (tw @b0 (tw @b2 (tw @b7 @b8))),⟨-1,0,by(simp only[go_sem, ↓reduceIte,Nat.reduceEqDiff,Nat.reduceAdd,Nat.reduceSub,Nat.reduceLeDiff,reduceCtorEq]),by(simp only[go_sem, ↓reduceIte,Nat.reduceEqDiff,Nat.reduceAdd,Nat.reduceSub,Nat.reduceLeDiff,reduceCtorEq]),.inl ⟨by omega,fun z hz=>by omega⟩⟩,⟨fun i=>rfl,by(try dsimp only);omega⟩⟩ ?_
 rintro n_c env_c st_c ⟨k,rfl,cle,nQ,cI0,cI1⟩ cfr
 have c0:=cfr 0 (by kernel_rfl);have c2:=cfr 2 (by kernel_rfl);have c7:=cfr 7 (by kernel_rfl);have c8:=cfr 8 (by kernel_rfl)
 simp only[go_sem, ↓reduceIte,Nat.reduceEqDiff,Nat.reduceAdd,Nat.reduceSub,Nat.reduceLeDiff,reduceCtorEq,b0,b2,b7,b8]at c0 c2 c7 c8
 clear cfr
 obtain⟨ua,EN,c9,jz,IB⟩:=cI0
 obtain⟨mo,Sy⟩:=cI1
 have Du:=(mo X).trans hgX
 have Dt:=(mo A).trans hgA
 have zO:=(mo id).trans hid
 by_cases hk:(k:Int)<(I.length:Int)
 ·have ig:∀{e:Env} {gg:Rows} {nx:Nat},(e 11=.int .i64 (IntKind.i64.wrap ((k:Int)+1)))->(∃(ua EN:Int),e 9=.int .i64 ua/\e 10=.int .i64 EN/\((ua<0/\∀z,z<(k+1)->¬(0<fE bs f' (I.getD z 0) v/\out (bW bs (I.getD z 0) v)=out v-1))∨∃ed:Nat,ed∈I/\EN=(ed:Int)/\ua=(bW bs ed v:Int)/\0<fE bs f' ed v/\out (bW bs ed v)=out v-1))->((∀i:Id,gg i=st_b.get i)/\st_b.next<=nx)->∃m0,m0<(I.length)-k/\∃k:Nat,m0=(I.length)-k/\k<=(I.length)/\e 11=.int .i64 (k:Int)/\(∃(ua EN:Int),e 9=.int .i64 ua/\e 10=.int .i64 EN/\((ua<0/\∀z,z<k->¬(0<fE bs f' (I.getD z 0) v/\out (bW bs (I.getD z 0) v)=out v-1))∨∃ed:Nat,ed∈I/\EN=(ed:Int)/\ua=(bW bs ed v:Int)/\0<fE bs f' ed v/\out (bW bs ed v)=out v-1))/\((∀i:Id,gg i=st_b.get i)/\st_b.next<=nx):=fun x1 x2 x3=>⟨_,by omega,k+1,rfl,by omega,(by rw[x1,az (by omega)]),x2,x3⟩
  have fA:k<I.length:=by omega
  have eQ:(I.map eN)[k]? =some (eN (I.getD k 0)):=getD_map eN fA
  have s5:I.getD k 0∈I:=by rw[List.getD_eq_getElem?_getD,List.getElem?_eq_getElem fA];exact List.getElem_mem fA
  obtain⟨he,pZ⟩:=hIm _ s5
  have Oy:=JV cnt bs f' LF (I.getD k 0) v he
  have tT:=lI st_c.get (fun i _=>mo i) (I.getD k 0)
  have hq:=oZ ok (v:=v) he
  have PX:=dO (f:=out) hq
  obtain⟨ed,hed⟩:∃ed,ed=I.getD k 0:=⟨_,rfl⟩
  rw[<-hed]at eQ he pZ Oy tT hq PX s5
  rw[br]at PX
  rw[eN]at eQ
  (try((repeat(revert hN;revert N;apply Pn.out));refine wk (tw @nQ (tw @c0 (tw @c2 (tw @c7 (tw @c8 (tw @c9 (tw @jz (tw @hk (tw @Du (tw @Dt (tw @zO (tw @lG (tw @sG (tw @DF (tw @eQ (tw @qC @bx.eq_1)))))))))))))))) ?_;(repeat(refine Pn.mk ?_;intro N hN))))
  refine .inl ⟨_,aq.x Oy tT,?_⟩
  refine hN _ _ ?_
  clear hN N
  have stay:∀k',k'=k+1->(¬(0<fE bs f' ed v/\out (bW bs ed v)=out v-1))->((ua<0/\∀z,z<k'->¬(0<fE bs f' (I.getD z 0) v/\out (bW bs (I.getD z 0) v)=out v-1))∨∃ed:Nat,ed∈I/\EN=(ed:Int)/\ua=(bW bs ed v:Int)/\0<fE bs f' ed v/\out (bW bs ed v)=out v-1):=fun k' Gn lk=>by
   rcases IB with⟨h1,h2⟩|h
   ·refine .inl ⟨h1,fun z hz=>?_⟩
    by_cases DH:z=k
    ·subst DH;rw[<-hed];exact lk
    ·exact h2 z (by omega)
   ·exact .inr h
  by_cases hr:0<fE bs f' ed v
  ·by_cases KF:out (bW bs ed v)=out v-1
   ·have nT:decide (out (bW bs ed v)=out v-1)=true:=decide_eq_true KF
    have found:∃Qt:Nat,Qt∈I/\(ed:Int)=(Qt:Int)/\(bW bs ed v:Int)=(bW bs Qt v:Int)/\0<fE bs f' Qt v/\out (bW bs Qt v)=out v-1:=⟨ed,s5,rfl,rfl,hr,KF⟩
    by_cases Hy:ua<0
    ·(try((repeat(revert hN;revert N;apply Pn.out));refine wk (tw @nQ (tw @c0 (tw @c2 (tw @c7 (tw @c8 (tw @c9 (tw @jz (tw @hk (tw @Du (tw @Dt (tw @zO (tw @lG (tw @sG (tw @DF (tw @eQ (tw @qC (tw @hr (tw @PX (tw @uR (tw @od (tw @nT (tw @Hy @bx.eq_1)))))))))))))))))))))) ?_;(repeat(refine Pn.mk ?_;intro N hN))))
     exact ig (sd (tw @nQ (tw @c0 (tw @c2 (tw @c7 @c8))))) (⟨_,_,sd @Nat.zero_add,sd @Nat.zero_add,.inr found⟩) (⟨mo,by(try dsimp only);omega⟩)
    ·by_cases dS:(bW bs ed v:Int)<ua
     ·(try((repeat(revert hN;revert N;apply Pn.out));refine wk (tw @nQ (tw @c0 (tw @c2 (tw @c7 (tw @c8 (tw @c9 (tw @jz (tw @hk (tw @Du (tw @Dt (tw @zO (tw @lG (tw @sG (tw @DF (tw @eQ (tw @qC (tw @hr (tw @PX (tw @uR (tw @od (tw @nT (tw @Hy (tw @dS @bx.eq_1))))))))))))))))))))))) ?_;(repeat(refine Pn.mk ?_;intro N hN))))
      exact ig (sd (tw @nQ (tw @c0 (tw @c2 (tw @c7 @c8))))) (⟨_,_,sd @Nat.zero_add,sd @Nat.zero_add,.inr found⟩) (⟨mo,by(try dsimp only);omega⟩)
     ·(try((repeat(revert hN;revert N;apply Pn.out));refine wk (tw @nQ (tw @c0 (tw @c2 (tw @c7 (tw @c8 (tw @c9 (tw @jz (tw @hk (tw @Du (tw @Dt (tw @zO (tw @lG (tw @sG (tw @DF (tw @eQ (tw @qC (tw @hr (tw @PX (tw @uR (tw @od (tw @nT (tw @Hy (tw @dS @bx.eq_1))))))))))))))))))))))) ?_;(repeat(refine Pn.mk ?_;intro N hN))))
      exact ig (sd (tw @nQ (tw @c0 (tw @c2 (tw @c7 @c8))))) (⟨ua,EN,sd @c9,sd @jz,by
       rcases IB with⟨h1,_⟩|h
       ·exact absurd h1 Hy
       ·exact .inr h⟩) (⟨mo,by(try dsimp only);omega⟩)
   ·have nT:decide (out (bW bs ed v)=out v-1)=false:=decide_eq_false KF
    (try((repeat(revert hN;revert N;apply Pn.out));refine wk (tw @nQ (tw @c0 (tw @c2 (tw @c7 (tw @c8 (tw @c9 (tw @jz (tw @hk (tw @Du (tw @Dt (tw @zO (tw @lG (tw @sG (tw @DF (tw @eQ (tw @qC (tw @hr (tw @PX (tw @uR (tw @od (tw @nT @bx.eq_1))))))))))))))))))))) ?_;(repeat(refine Pn.mk ?_;intro N hN))))
    exact ig (sd (tw @nQ (tw @c0 (tw @c2 (tw @c7 @c8))))) (⟨ua,EN,sd @c9,sd @jz,stay _ rfl fun h=>KF h.2⟩) (⟨mo,by(try dsimp only);omega⟩)
  ·(try((repeat(revert hN;revert N;apply Pn.out));refine wk (tw @nQ (tw @c0 (tw @c2 (tw @c7 (tw @c8 (tw @c9 (tw @jz (tw @hk (tw @Du (tw @Dt (tw @zO (tw @lG (tw @sG (tw @DF (tw @eQ (tw @qC (tw @hr @bx.eq_1))))))))))))))))) ?_;(repeat(refine Pn.mk ?_;intro N hN))))
   exact ig (sd (tw @nQ (tw @c0 (tw @c2 (tw @c7 @c8))))) (⟨ua,EN,sd @c9,sd @jz,stay _ rfl fun h=>hr h.1⟩) (⟨mo,by(try dsimp only);omega⟩)
 ·have l7:k=I.length:=by omega
  have Uk:∃ed:Nat,ed∈I/\EN=(ed:Int)/\ua=(bW bs ed v:Int)/\0<fE bs f' ed v/\out (bW bs ed v)=out v-1:=by
   rcases IB with⟨h1,h2⟩|h
   ·exfalso
    obtain⟨ed,he,hq⟩:=MR
    obtain⟨z,hz,rfl⟩:=List.getElem_of_mem he
    refine h2 z (by omega) ?_
    rw[List.getD_eq_getElem?_getD,List.getElem?_eq_getElem hz];exact hq
   ·exact h
  obtain⟨ed,s5,rfl,rfl,hr,KF⟩:=Uk
  obtain⟨he,pZ⟩:=hIm _ s5
  (try((repeat(revert hN;revert N;apply Pn.out));refine wk (tw @nQ (tw @c0 (tw @c2 (tw @c7 (tw @c8 (tw @c9 (tw @jz (tw @hk (tw @Du (tw @Dt (tw @zO (tw @lG (tw @sG (tw @DF (tw @qC @bx.eq_1))))))))))))))) ?_;(repeat(refine Pn.mk ?_;intro N hN))))
  refine .inr (aI _ _ _ _ _ (fun r σ1 hq=>?_) (OV cnt bs f' LF ed v he X A F ⟨st_c.get,_⟩ nb (hN1.frame (fun i _=>mo i) (Nat.le_refl _)) (by(try dsimp only);omega)))
  obtain⟨Sp,nf,IJ⟩:=hq
  (try dsimp only at nf IJ)
  refine hN _ _ ?_
  clear hN N
  (try((repeat(revert hN;revert N;apply Pn.out));refine wk (tw @nQ (tw @c0 (tw @c2 (tw @c7 (tw @c8 @c9))))) ?_;(repeat(refine Pn.mk ?_;intro N hN))))
  refine⟨_,?_,bW bs ed v,ub bs f' ed v,rfl,oZ ok he,by omega,sd @Nat.zero_add,hW.step he pZ hr KF,Sp,fun i hi hF=>by rw[IJ i hF,mo i,jA i hi hF],by(try dsimp only);omega⟩
  omega
end Go.Proofs.YtgoelphibofcmaaGreat.V

namespace Go.Proofs.YtgoelphibofcmaaGreat.V
open Go.RowKit
attribute [local irreducible] dG wpOps gy Call
attribute [local go_sem] aM fF eP ga fW cQ upd cz K.av cR AV.cells AV.cell rowOf rowsOf part ld rowAt bq cu dD ee ik bJ dh ev fU eX dr ej dd dc dQ dR bQ bf cW bP cY cX eh ek ei cV cj de ef bK aO da cG ij bw cK bU aY dn aZ dE AV.undef bD bG dV ec dM dK cH eu ew cF ep eo cZ db List.getD_cons_zero List.getD_cons_succ List.getD_nil List.all_cons List.all_nil Bool.and_true Bool.true_and Bool.and_self Bool.not_true Bool.not_false Option.map_some Option.map_none Option.bind_some Option.bind_none List.length_cons List.length_nil List.take_succ_cons List.take_zero List.take_nil List.drop_succ_cons List.drop_zero List.drop_nil List.head?_cons List.map_cons List.map_nil List.getElem?_cons_zero List.getElem?_cons_succ List.cons_append List.nil_append List.append_nil List.length_map List.set_cons_zero List.set_cons_succ Nat.reduceMul eq_self Int.toNat_natCast Int.natCast_nonneg and_self true_and and_true decide_true decide_false Bool.false_eq_true Nat.zero_add Nat.add_zero List.contains_cons List.contains_nil Bool.or_false Bool.false_or beq_self_eq_true Nat.reduceBEq ne_eq not_true_eq_false not_false_eq_true Id.mk.injEq false_and and_false Nat.reduceLT Int.reduceLE Int.reduceLT Int.reduceToNat Int.reduceNeg Int.reduceAdd Nat.le_refl List.length_append beq_true beq_false Bool.not_eq_eq_eq_not or_false false_or dL ai aj aH bl bB cw aX bd aU bh cU bH
def tD (P:Program) (f:Nat) (args:List AV) (R:AV->Prop):Prop:=∀σ:ar,Call P f args ⟨V.ro σ.get,σ.next⟩ fun r0 σ'=>∃r',V.fz σ'.get 6 r0=some r'/\R r'
theorem Dj {P:Program} {f:Nat} {args:List AV} {g:Rows} {n:Nat} {R:AV->Prop} (h:Sound P f args ⟨V.ro g,n⟩ fun r0 σ'=>∃r',V.fz σ'.get 6 r0=some r'/\R r'):Sound P f args ⟨g,n⟩ fun r σ'=>R r/\σ'=⟨g,n⟩:=by
 intro hs D ι w vs S U A
 refine(AX (g0:=g) (K:=R) h (fun _ _ h=>h) S U A).mono ?_
 rintro e w' ⟨r,D',u,rfl,hR,T,S',hr⟩
 exact⟨r,g,n,D',ι,u,rfl,⟨hR,rfl⟩,T,S',U,Nat.le_refl _,hr⟩
theorem tD.x {P:Program} (hm:P.follows .mixedOrders=true) {f:Nat} {args:List AV} {R:AV->Prop} (h:tD P f args R) {σ:ar}:Call P f args σ fun r σ'=>R r/\σ'=σ:=
 gN (Dj (gq hm (h σ)))
theorem tD.body {P:Program} {f:Nat} {args:List AV} {R:AV->Prop} {nt na:Nat} {body:VC} {res:List nK} (hf:mi P f=some ⟨nt,na,body,res⟩) (ha:na=args.length) (h:(∀a∈args,eF a)->∀σ:ar,dG (Call P) body (kC res fun r0 σ'=>∃r',V.fz σ'.get 6 r0=some r'/\R r') (cz args) ⟨V.ro σ.get,σ.next⟩):tD P f args R:=fun σ=>ma hf ha fun hl=>h hl σ
theorem LV {g:Rows} {rows:List (List AV)} {xs:List (List Nat)} {ids:List Id} (n:Nat) (h:eG PE g rows xs ids):ea g (n+2) rows=some (xs.map fun l=>[O6 l]):=by
 induction h with
 |nil=>rw[ea];rfl
 |cons h1 _ ih=>
  rename_i x _ _ _ _ _
  rcases h1 with⟨h0,h1,_⟩|⟨id,h1,h0,h2,_⟩
  ·subst h0 h1;rw[ea,ih,ai,aj,aX];rfl
  ·have gW:x≠[]:=by rintro rfl;simp at h0
   subst h1
   rw[ea,ih,ai,aj,gr (e:=eN) (sz:=1) h2 rfl fun a=>fzN _ n a]
   simp[O6,gW]
theorem oq.fz0 {cnt:Nat} {bs:List PB} {f:Nat->Int} {X A F:Id} {g:Rows} {nx:Nat} (h:oq cnt bs f X A F g nx):V.fz g 5 (.ptr X 0 0)=some (.di (fN cnt bs f)):=by
 have hf:V.fz g 4 (.own F 0 bs.length)=some (.sl (dW f bs.length)):=by
  rw[iw]
  simp only[h.f,if_true]
  rw[if_pos (by rw[dB];omega),List.drop_zero,List.take_of_length_le (by rw[dB];omega),Aw];rfl
 have ha:V.fz g 4 (.own A 0 cnt)=some (.sl (qi cnt bs bs.length)):=by
  obtain⟨rows,ids,h1,h2,_,_⟩:=h.a
  have hl:=h2.len
  rw[jt]at hl
  rw[iw]
  simp only[h1,if_true]
  rw[if_pos (by omega),List.drop_zero,List.take_of_length_le (by omega),LV 1 h2]
  simp[ll,qi]
 rw[bh]
 simp only[h.x,if_true,List.getElem?_cons_zero,List.drop_zero,bx,ai,aj,aH,cw,ha,hf,Option.map_some,fN]
theorem EO {S:Nat->Bool}:∀bs:List PB,(∀b∈bs,b.s<=4)->jf S bs<=4*bs.length
 |[],_=>by simp[jf]
 |b::bs,h=>by
  rw[sP]
  have:=EO (S:=S) bs fun x hx=>h x (List.mem_cons_of_mem _ hx)
  have:=h b (by simp)
  simp only[List.length_cons]
  split<;>omega
theorem jZ.zero {bs:List PB} {x y:Nat} (h:∀e,e<bs.length->0<=(cC bs e).s/\(cC bs e).s<=4):jZ bs (fun _=>0) x y 0:=
 ⟨fun i hi=>by have:=h i hi;omega,fun S _ _=>jU fun i _=>by simp⟩
theorem KX {bs:List PB} {b:PB} (h:b∈bs):∃e,e<bs.length/\cC bs e=b:=by
 obtain⟨e,he,rfl⟩:=List.getElem_of_mem h
 exact⟨e,he,by simp[cC,List.getD_eq_getElem?_getD,he]⟩
theorem GF (cnt:Nat) (hn:cnt<=1048576) (bs:List PB) (ok:nz cnt bs) (qc:bs.length<=1048576) (dF:∀e,e<bs.length->0<=(cC bs e).s/\(cC bs e).s<=4) (x y:Nat) (hx:x<cnt) (hy:y<cnt) (Ro:x≠y):
  tD Tryz.prog 218 [.int .i64 cnt,.sl (bs.map ay),.int .i64 x,.int .i64 y] fun r=>∃f val,r=.gJ [.di (fN cnt bs f),.int .i64 val]/\jZ bs f x y val/\∃S:Nat->Bool,S x=true/\S y=false/\val=jf S bs:=by
 refine tD.body eC rfl fun hl σ=>?_
 clear hl
 (try((repeat(revert hN;revert N;apply Pn.out));refine wk @Nat.zero_add ?_;(repeat(refine Pn.mk ?_;intro N hN))))
 refine .inr (aI _ _ _ _ _ (fun r σ1 hq=>?_) (Je cnt hn bs ok qc _))
 obtain⟨X,A,F,rfl,hX,hS⟩:=hq
 refine hN _ _ ?_
 clear hN N
 have hS0:∀f val,jZ bs f x y val->val<=jf (fun v=>decide (v=x)) bs:=fun f val hf=>hf.bound (decide_eq_true rfl) (decide_eq_false fun h=>Ro h.symm)
 have htot:=EO (S:=fun v=>decide (v=x)) bs fun b hb=>by
  obtain⟨e,he,rfl⟩:=KX hb
  exact(dF e he).2
 generalize jf (fun v=>decide (v=x)) bs=T at *
 (try((repeat(revert hN;revert N;apply Pn.out));refine wk @Nat.zero_add ?_;(repeat(refine Pn.mk ?_;intro N hN))))
 refine aW (fun m env st=>∃(f:Nat->Int) (val:Int),m=(T-val).toNat/\0<=val/\env 10=.ptr X 0 0/\env 11=.int .i64 val/\jZ bs f x y val/\oq cnt bs f X A F st.get σ1.next/\σ1.next<=st.next) T.toNat ⟨_,0,by simp,by omega,by(simp only[go_sem, ↓reduceIte,Nat.reduceEqDiff,Nat.reduceAdd,Nat.reduceSub,Nat.reduceLeDiff,reduceCtorEq]),by(simp only[go_sem, ↓reduceIte,Nat.reduceEqDiff,Nat.reduceAdd,Nat.reduceSub,Nat.reduceLeDiff,reduceCtorEq]),jZ.zero dF,hS.frame (fun i hi=>rfl) (Nat.le_refl _),by(try dsimp only);omega⟩ ?_
 rintro m env_b st_b ⟨f,val,rfl,sH,b10,b11,hf,hN1,hle⟩ fY
 have b2:=fY 2 (by kernel_rfl)
 have b3:=fY 3 (by kernel_rfl)
 simp only[go_sem, ↓reduceIte,Nat.reduceEqDiff,Nat.reduceAdd,Nat.reduceSub,Nat.reduceLeDiff,reduceCtorEq]at b2 b3
 clear fY
 (try((repeat(revert hN;revert N;apply Pn.out));refine wk (tw @b2 (tw @b3 @b10)) ?_;(repeat(refine Pn.mk ?_;intro N hN))))
 refine .inr (aI _ _ _ _ _ (fun r σ2 hq=>?_) (NS cnt hn bs ok qc dF f x y hx hy Ro val hf X A F ⟨st_b.get,_⟩ σ1.next hN1 (by(try dsimp only);omega)))
 obtain⟨b,f',rfl,Sp,nf,_,lk,U4⟩:=hq
 (try dsimp only at nf)
 refine hN _ _ ?_
 clear hN N
 cases b with
 |true=>
  have kz:=U4 rfl
  have KC:=hS0 _ _ hf
  have Gh:=hS0 _ _ kz
  have hw:IntKind.i64.wrap (val+1)=val+1:=bF (by omega)
  (try((repeat(revert hN;revert N;apply Pn.out));refine wk (tw @b10 (tw @b11 @hw)) ?_;(repeat(refine Pn.mk ?_;intro N hN))))
  exact⟨_,by omega,f',val+1,rfl,by omega,sd @b10,sd (tw @b11 @hw),kz,Sp,by(try dsimp only);omega⟩
 |false=>
  obtain⟨rfl,S,h1,h2,h3⟩:=lk rfl
  (try((repeat(revert hN;revert N;apply Pn.out));refine wk (tw @b10 @b11) ?_;(repeat(refine Pn.mk ?_;intro N hN))))
  have hz:=Sp.fz0
  exact⟨[.ptr X 0 0,.int .i64 val],sd @Nat.zero_add,.gJ [.di (fN cnt bs f'),.int .i64 val],by simp only[fq,bH,ai,aj,hz,aH,Option.map_some],f',val,rfl,hf,S,h1,h2,h3⟩
theorem GG (cnt:Nat) (hn:cnt<=1048576) (bs:List PB) (ok:nz cnt bs) (qc:bs.length<=1048576) (f:Nat->Int) (hs:Small bs f) (y:Nat) (hy:y<cnt):
  l9 Tryz.prog 219 [.di (fN cnt bs f),.int .i64 y] fun r=>∃l:List Nat,r=.sl (l.map eN)/\l.length<=cnt:=by
 refine l9.body eC rfl fun hl n0=>?_
 clear hl
 have hz:∀g:Rows,cN (dL g) 6 [.di (fN cnt bs f),.int .i64 (y:Int)]=some [.di (fN cnt bs f),.int .i64 y]:=fun g=>by simp only[ai,aj,aU,aH,Option.map_some]
 (try((repeat(revert hN;revert N;apply Pn.out));refine wk @Nat.zero_add ?_;(repeat(refine Pn.mk ?_;intro N hN))))
 refine .inr (aI _ _ _ _ _ (fun r σ1 hq=>?_) ((FD cnt hn bs ok qc f hs y hy).x mixed (hz _)))
 obtain⟨⟨out,rfl,OA⟩,rfl⟩:=hq
 refine hN _ _ ?_
 clear hN N
 (try((repeat(revert hN;revert N;apply Pn.out));refine wk @fN.eq_1 ?_;(repeat(refine Pn.mk ?_;intro N hN))))
 refine aW (fun n env st=>∃k:Nat,n=(cnt)-k/\k<=(cnt)/\env 7=.int .i64 (k:Int)/\(∃(o:Id) (l:List Nat),env 6=.own o 0 l.length/\st.get o=some ⟨true,1,l.map eN⟩/\o.ck<st.next/\l.length<=k)) (cnt) ⟨0,by omega,by omega,sl @fN.eq_1,⟨⟨219002000,n0+1+1+1⟩,[],by(simp only[go_sem, ↓reduceIte,Nat.reduceEqDiff,Nat.reduceAdd,Nat.reduceSub,Nat.reduceLeDiff,reduceCtorEq])<;>rfl,by(simp only[go_sem, ↓reduceIte,Nat.reduceEqDiff,Nat.reduceAdd,Nat.reduceSub,Nat.reduceLeDiff,reduceCtorEq])<;>rfl,by(try dsimp only);omega,by simp⟩⟩ ?_
 rintro n_a env_a st_a ⟨k,rfl,ale,a7,mb⟩ dH
 have a0:=dH 0 (by kernel_rfl);have a5:=dH 5 (by kernel_rfl)
 simp only[go_sem, ↓reduceIte,Nat.reduceEqDiff,Nat.reduceAdd,Nat.reduceSub,Nat.reduceLeDiff,reduceCtorEq,fN]at a0 a5
 clear dH
 obtain⟨o,l,a6,ag,uR,Fc⟩:=mb
 have sH:=dp uR
 have lF:(l.map eN).length=l.length:=by simp
 by_cases hk:(k:Int)<(cnt:Int)
 ·have cE:∀{e:Env} {gg:Rows} {nx:Nat},(e 7=.int .i64 (IntKind.i64.wrap ((k:Int)+1)))->(∃(o:Id) (l:List Nat),e 6=.own o 0 l.length/\gg o=some ⟨true,1,l.map eN⟩/\o.ck<nx/\l.length<=(k+1))->∃m0,m0<(cnt)-k/\∃k:Nat,m0=(cnt)-k/\k<=(cnt)/\e 7=.int .i64 (k:Int)/\(∃(o:Id) (l:List Nat),e 6=.own o 0 l.length/\gg o=some ⟨true,1,l.map eN⟩/\o.ck<nx/\l.length<=k):=fun x1 x2=>⟨_,by omega,k+1,rfl,by omega,(by rw[x1,az (by omega)]),x2⟩
  have wm:=dO (f:=out) (show k<cnt by omega)
  rw[br]at wm
  have e1:l.length+1<=16777216:=by omega
  by_cases h0:0<=out k
  ·(try((repeat(revert hN;revert N;apply Pn.out));refine wk (tw @a7 (tw @a0 (tw @a5 (tw @a6 (tw @ag (tw @sH (tw @hk (tw @wm (tw @h0 (tw @e1 (tw @lF @fN.eq_1))))))))))) ?_;(repeat(refine Pn.mk ?_;intro N hN))))
   exact cE (sd (tw @a7 (tw @a0 (tw @a5 @fN.eq_1)))) (⟨⟨219007003,st_a.next+1+1⟩,l++[k],by rw[List.length_append];simp only[go_sem, ↓reduceIte,Nat.reduceEqDiff,Nat.reduceAdd,Nat.reduceSub,Nat.reduceLeDiff,reduceCtorEq,List.length_cons,List.length_nil],by rw[List.map_append,List.map_cons,List.map_nil];simp only[go_sem, ↓reduceIte,Nat.reduceEqDiff,Nat.reduceAdd,Nat.reduceSub,Nat.reduceLeDiff,reduceCtorEq,eN],by(try dsimp only);omega,by simp;omega⟩)
  ·(try((repeat(revert hN;revert N;apply Pn.out));refine wk (tw @a7 (tw @a0 (tw @a5 (tw @a6 (tw @ag (tw @sH (tw @hk (tw @wm (tw @h0 (tw @lF @fN.eq_1)))))))))) ?_;(repeat(refine Pn.mk ?_;intro N hN))))
   exact cE (sd (tw @a7 (tw @a0 (tw @a5 @fN.eq_1)))) (⟨o,l,sd @a6,sd @ag,by(try dsimp only);omega,by omega⟩)
 ·(try((repeat(revert hN;revert N;apply Pn.out));refine wk (tw @a7 (tw @a0 (tw @a5 (tw @a6 (tw @hk @fN.eq_1))))) ?_;(repeat(refine Pn.mk ?_;intro N hN))))
  have sY:gx st_a.get 6 (.own o 0 l.length)=some (.sl (l.map eN)):=fc ag rfl fun b=>NP _ 4 b
  exact⟨_,rfl,_,by simp only[go_sem, ↓reduceIte,Nat.reduceEqDiff,Nat.reduceAdd,Nat.reduceSub,Nat.reduceLeDiff,reduceCtorEq,fq];exact sY,l,rfl,by omega⟩
end Go.Proofs.YtgoelphibofcmaaGreat.V

namespace Go.Proofs.YtgoelphibofcmaaGreat.V
open Go.RowKit
attribute [local irreducible] dG wpOps gy Call
attribute [local go_sem] aM fF eP ga fW cQ upd cz K.av cR AV.cells AV.cell rowOf rowsOf part ld rowAt bq cu dD ee ik bJ dh ev fU eX dr ej dd dc dQ dR bQ bf cW bP cY cX eh ek ei cV cj de ef bK aO da cG ij bw cK bU aY dn aZ dE AV.undef bD bG dV ec dM dK cH eu ew cF ep eo cZ db List.getD_cons_zero List.getD_cons_succ List.getD_nil List.all_cons List.all_nil Bool.and_true Bool.true_and Bool.and_self Bool.not_true Bool.not_false Option.map_some Option.map_none Option.bind_some Option.bind_none List.length_cons List.length_nil List.take_succ_cons List.take_zero List.take_nil List.drop_succ_cons List.drop_zero List.drop_nil List.head?_cons List.map_cons List.map_nil List.getElem?_cons_zero List.getElem?_cons_succ List.cons_append List.nil_append List.append_nil List.length_map List.set_cons_zero List.set_cons_succ Nat.reduceMul eq_self Int.toNat_natCast Int.natCast_nonneg and_self true_and and_true decide_true decide_false Bool.false_eq_true Nat.zero_add Nat.add_zero List.contains_cons List.contains_nil Bool.or_false Bool.false_or beq_self_eq_true Nat.reduceBEq ne_eq not_true_eq_false not_false_eq_true Id.mk.injEq false_and and_false Nat.reduceLT Int.reduceLE Int.reduceLT Int.reduceToNat Int.reduceNeg Int.reduceAdd Nat.le_refl List.length_append beq_true beq_false Bool.not_eq_eq_eq_not or_false false_or dL ai aj aH bl bB cw aX bd aU bh cU bH
theorem BZ (v1 v2:Int) (l1 l2:List Nat) (h1:l1.length<=1048576) (h2:l2.length<=1048576):
  l9 Tryz.prog 220 [.int .i64 v1,.sl (l1.map eN),.int .i64 v2,.sl (l2.map eN)] fun r=>∃b,r=.bool b/\(v1<v2->b=true)/\(v2<v1->b=false):=by
 refine l9.body eC rfl fun hl n0=>?_
 clear hl
 have ret:∀{t:Nat} {env:Env} {σ:ar} {b:Bool} {x:Ex},(x=.ret∨x=.normal)->env t=.bool b->((v1<v2->b=true)/\(v2<v1->b=false))->kC [.tmp t] (fun r0 σ'=>∃r',gx σ'.get 6 r0=some r'/\∃b,r'=.bool b/\(v1<v2->b=true)/\(v2<v1->b=false)) x env σ:=by
  intro t env σ b x hx he hb
  have:∃vs,ft env σ.get [.tmp t]=some vs/\∃r',gx σ.get 6 (fq vs)=some r'/\∃b,r'=.bool b/\(v1<v2->b=true)/\(v2<v1->b=false):=⟨[env t],rfl,.bool b,by rw[he];exact fJ _ _ _,b,rfl,hb⟩
  rcases hx with rfl|rfl
  ·exact this
  ·exact this
 have m1:(l1.map eN).length=l1.length:=by simp
 have m2:(l2.map eN).length=l2.length:=by simp
 by_cases hv:v1=v2
 ·have hd:decide (v1=v2)=true:=decide_eq_true hv
  by_cases Fc:(l1.length:Int)=(l2.length:Int)
  ·have nT:decide ((l1.length:Int)=(l2.length:Int))=true:=decide_eq_true Fc
   have QN:decide (l1.length=l2.length)=true:=decide_eq_true (by omega)
   (try((repeat(revert hN;revert N;apply Pn.out));refine wk (tw @hd (tw @nT (tw @QN (tw @m1 @m2)))) ?_;(repeat(refine Pn.mk ?_;intro N hN))))
   refine aW (fun n env st=>∃k:Nat,n=(l1.length)-k/\k<=(l1.length)/\env 9=.int .i64 (k:Int)) (l1.length) ⟨0,by omega,by omega,sl @Nat.zero_add⟩ ?_
   rintro n_a env_a st_a ⟨k,rfl,ale,a9⟩ dH
   have a1:=dH 1 (by kernel_rfl);have a3:=dH 3 (by kernel_rfl)
   simp only[go_sem, ↓reduceIte,Nat.reduceEqDiff,Nat.reduceAdd,Nat.reduceSub,Nat.reduceLeDiff,reduceCtorEq]at a1 a3
   clear dH
   by_cases hk:(k:Int)<(l1.length:Int)
   ·have cE:∀{e:Env},(e 9=.int .i64 (IntKind.i64.wrap ((k:Int)+1)))->∃m0,m0<(l1.length)-k/\∃k:Nat,m0=(l1.length)-k/\k<=(l1.length)/\e 9=.int .i64 (k:Int):=fun x1=>⟨_,by omega,k+1,rfl,by omega,(by rw[x1,az (by omega)])⟩
    have g1:(l1.map eN)[k]? =some (eN (l1.getD k 0)):=getD_map eN (by omega)
    have g2:(l2.map eN)[k]? =some (eN (l2.getD k 0)):=getD_map eN (by omega)
    rw[eN]at g1 g2
    by_cases he:((l1.getD k 0:Nat):Int)=((l2.getD k 0:Nat):Int)
    ·have QO:decide (((l1.getD k 0:Nat):Int)=((l2.getD k 0:Nat):Int))=true:=decide_eq_true he
     have Ud:decide (l1.getD k 0=l2.getD k 0)=true:=decide_eq_true (by omega)
     (try((repeat(revert hN;revert N;apply Pn.out));refine wk (tw @a9 (tw @a1 (tw @a3 (tw @hk (tw @m1 (tw @g1 (tw @g2 (tw @QO @Ud)))))))) ?_;(repeat(refine Pn.mk ?_;intro N hN))))
     exact cE (sd (tw @a9 (tw @a1 @a3)))
    ·have QO:decide (((l1.getD k 0:Nat):Int)=((l2.getD k 0:Nat):Int))=false:=decide_eq_false he
     have Ud:decide (l1.getD k 0=l2.getD k 0)=false:=decide_eq_false (by omega)
     (try((repeat(revert hN;revert N;apply Pn.out));refine wk (tw @a9 (tw @a1 (tw @a3 (tw @hk (tw @m1 (tw @g1 (tw @g2 (tw @QO @Ud)))))))) ?_;(repeat(refine Pn.mk ?_;intro N hN))))
     exact ret (.inl rfl) (by simp only[go_sem, ↓reduceIte,Nat.reduceEqDiff,Nat.reduceAdd,Nat.reduceSub,Nat.reduceLeDiff,reduceCtorEq];rfl) ⟨fun h=>by omega,fun h=>by omega⟩
   ·(try((repeat(revert hN;revert N;apply Pn.out));refine wk (tw @a9 (tw @a1 (tw @a3 (tw @hk @m1)))) ?_;(repeat(refine Pn.mk ?_;intro N hN))))
    exact ret (b:=false) (.inl rfl) (sd @Nat.zero_add) ⟨fun h=>by omega,fun h=>by omega⟩
  ·have nT:decide ((l1.length:Int)=(l2.length:Int))=false:=decide_eq_false Fc
   have QN:decide (l1.length=l2.length)=false:=decide_eq_false (by omega)
   (try((repeat(revert hN;revert N;apply Pn.out));refine wk (tw @hd (tw @nT (tw @QN (tw @m1 @m2)))) ?_;(repeat(refine Pn.mk ?_;intro N hN))))
   exact ret (.inl rfl) (by simp only[go_sem, ↓reduceIte,Nat.reduceEqDiff,Nat.reduceAdd,Nat.reduceSub,Nat.reduceLeDiff,reduceCtorEq];rfl) ⟨fun h=>by omega,fun h=>by omega⟩
 ·have hd:decide (v1=v2)=false:=decide_eq_false hv
  (try((repeat(revert hN;revert N;apply Pn.out));refine wk @hd ?_;(repeat(refine Pn.mk ?_;intro N hN))))
  exact ret (b:=decide (v1<v2)) (.inl rfl) (sd @Nat.zero_add) ⟨fun h=>decide_eq_true h,fun h=>decide_eq_false (by omega)⟩
def vd (bs:List PB) (cnt:Nat) (jn:Int) (k:Nat):Prop:=(k=1/\jn= -1)∨(0<=jn/\(∀z,1<=z->z<k->∀S:Nat->Bool,S 0=true->S z=false->jn<=jf S bs)/\∃S:Nat->Bool,S 0=true/\(∃z,z<cnt/\S z=false)/\jn=jf S bs)
theorem jZ.nn {bs:List PB} {val:Int} {S:Nat->Bool} (dF:∀e,e<bs.length->0<=(cC bs e).s/\(cC bs e).s<=4) (h:val=jf S bs):0<=val:=by
 rw[h,vK]
 have:=sf (f:=fun _=>0) (g:=fun i=>if S (cC bs i).a=S (cC bs i).b then 0 else(cC bs i).s) (n:=bs.length) fun i hi=>by
  have:=dF i hi
  split<;>omega
 rw[jU fun _ _=>rfl]at this
 exact this
theorem vd.done {bs:List PB} {cnt:Nat} {jn:Int} (hc:2<=cnt) (h:vd bs cnt jn cnt) (t:Int):t<=jn↔kG cnt bs t:=by
 rcases h with⟨h,_⟩|⟨_,h1,S,h2,⟨z,hz,lI⟩,h3⟩
 ·omega
 ·constructor
  ·intro ht S h0 ⟨y,hy,hy2⟩
   have:y≠0:=by rintro rfl;rw[h0]at hy2;cases hy2
   have:=h1 y (by omega) hy S h0 hy2
   omega
  ·intro hH
   rw[h3];exact hH S h2 ⟨z,hz,lI⟩
theorem zW (cnt:Nat) (h2:2<=cnt) (hn:cnt<=1048576) (bs:List PB) (ok:nz cnt bs) (qc:bs.length<=1048576) (dF:∀e,e<bs.length->0<=(cC bs e).s/\(cC bs e).s<=4):
  tD Tryz.prog 194 [.int .i64 cnt,.sl (bs.map ay)] fun r=>∃jn p,r=.gJ [.int .i64 jn,p]/\∀t:Int,t<=jn↔kG cnt bs t:=by
 refine tD.body eC rfl fun hl σ=>?_
 clear hl
 (try((repeat(revert hN;revert N;apply Pn.out));refine wk @Nat.zero_add ?_;(repeat(refine Pn.mk ?_;intro N hN))))
 have z0:∀(g:Rows) (id:Id),g id=some ⟨true,1,[]⟩->V.fz (dL g) 6 (.own id 0 0)=some (.sl (([]:List Nat).map eN))/\V.fz g 5 (.own id 0 0)=some (.sl (([]:List Nat).map eN)):=fun g id h=>by
  have h':dL g id=some ⟨true,1,[]⟩:=by simp[dL,h]
  constructor
  ·rw[iw];simp only[h',if_true];rw[if_pos (by simp)];simp[oO]
  ·rw[iw];simp only[h,if_true];rw[if_pos (by simp)];simp[oO]
 refine aW (fun m env st=>∃(k:Nat) (jn:Int) (l:List Nat) (p:AV),m=cnt-k/\1<=k/\k<=cnt/\env 8=.int .i64 (k:Int)/\env 6=.int .i64 jn/\env 7=p/\V.fz (dL st.get) 6 p=some (.sl (l.map eN))/\V.fz st.get 5 p=some (.sl (l.map eN))/\l.length<=cnt/\vd bs cnt jn k) (cnt-1) ⟨1,-1,[],.own ⟨194002000,σ.next+1+1⟩ 0 0,rfl,by omega,by omega,by(simp only[go_sem, ↓reduceIte,Nat.reduceEqDiff,Nat.reduceAdd,Nat.reduceSub,Nat.reduceLeDiff,reduceCtorEq])<;>rfl,by(simp only[go_sem, ↓reduceIte,Nat.reduceEqDiff,Nat.reduceAdd,Nat.reduceSub,Nat.reduceLeDiff,reduceCtorEq])<;>rfl,by(simp only[go_sem, ↓reduceIte,Nat.reduceEqDiff,Nat.reduceAdd,Nat.reduceSub,Nat.reduceLeDiff,reduceCtorEq])<;>rfl,(z0 _ _ (sd @Nat.zero_add)).1,(z0 _ _ (sd @Nat.zero_add)).2,by simp,.inl ⟨rfl,rfl⟩⟩ ?_
 rintro m env_b st_b ⟨k,jn,l,p,rfl,xC,wi,b8,b6,b7,AR,lI,hl,hB⟩ fY
 have b0:=fY 0 (by kernel_rfl)
 have b1:=fY 1 (by kernel_rfl)
 simp only[go_sem, ↓reduceIte,Nat.reduceEqDiff,Nat.reduceAdd,Nat.reduceSub,Nat.reduceLeDiff,reduceCtorEq]at b0 b1
 clear fY z0
 by_cases hk:(k:Int)<(cnt:Int)
 ·have fA:k<cnt:=by omega
  have hFl:=GF cnt hn bs ok qc dF 0 k (by omega) fA (by omega)
  rw[show(((0:Nat):Int))=0 from rfl]at hFl
  (try((repeat(revert hN;revert N;apply Pn.out));refine wk (tw @b0 (tw @b1 (tw @b6 (tw @b7 (tw @b8 @hk))))) ?_;(repeat(refine Pn.mk ?_;intro N hN))))
  refine .inr (aI _ _ _ _ _ (fun r σ1 hq=>?_) (hFl.x mixed))
  obtain⟨⟨f,val,rfl,hf,S,N6,N7,Sq⟩,rfl⟩:=hq
  refine hN _ _ ?_
  clear hN N
  have LF:=xg dF hf.le
  have s7:=jZ.nn (val:=val) dF Sq
  (try((repeat(revert hN;revert N;apply Pn.out));refine wk (tw @b0 (tw @b1 (tw @b6 (tw @b7 @b8)))) ?_;(repeat(refine Pn.mk ?_;intro N hN))))
  refine .inr (aI _ _ _ _ _ (fun r σ1 hq=>?_) ((GG cnt hn bs ok qc f LF k fA).x mixed (by simp only[ai,aj,aU,aH,Option.map_some])))
  obtain⟨⟨l',rfl,KK⟩,rfl⟩:=hq
  refine hN _ _ ?_
  clear hN N
  have hw:IntKind.i64.wrap ((k:Int)+1)=((k+1:Nat):Int):=az (by omega)
  have RQ:(∀z,1<=z->z<k->∀S:Nat->Bool,S 0=true->S z=false->val<=jf S bs)->vd bs cnt val (k+1):=fun h=>.inr ⟨s7,fun z AR lI S' h0 h1=>by
   by_cases tT:z=k
   ·subst tT;exact hf.bound h0 h1
   ·exact h z AR (by omega) S' h0 h1,S,N6,⟨k,fA,N7⟩,Sq⟩
  by_cases j8:jn<0
  ·have Bz:k=1:=by
    rcases hB with⟨h,_⟩|⟨h,_⟩
    ·exact h
    ·omega
   (try((repeat(revert hN;revert N;apply Pn.out));refine wk (tw @b0 (tw @b1 (tw @b6 (tw @b7 (tw @b8 (tw @j8 @hw)))))) ?_;(repeat(refine Pn.mk ?_;intro N hN))))
   refine⟨_,?_,k+1,val,l',.sl (l'.map eN),rfl,by omega,by omega,sd (tw @b8 @hw),sd @Nat.zero_add,sd @Nat.zero_add,cw _ _ _,cw _ _ _,KK,RQ fun z h1 h2=>by omega⟩
   omega
  ·have Bz:(∀z,1<=z->z<k->∀S:Nat->Bool,S 0=true->S z=false->jn<=jf S bs)/\∃S:Nat->Bool,S 0=true/\(∃z,z<cnt/\S z=false)/\jn=jf S bs:=by
    rcases hB with⟨_,h⟩|⟨_,h⟩
    ·omega
    ·exact h
   (try((repeat(revert hN;revert N;apply Pn.out));refine wk (tw @b0 (tw @b1 (tw @b6 (tw @b7 (tw @b8 (tw @j8 @hw)))))) ?_;(repeat(refine Pn.mk ?_;intro N hN))))
   refine .inr (aI _ _ _ _ _ (fun r σ1 hq=>?_) ((BZ val jn l' l (by omega) (by omega)).x mixed (by simp only[ai,aj,cw,aH,AR,Option.map_some])))
   obtain⟨⟨b,rfl,KC,Gh⟩,rfl⟩:=hq
   refine hN _ _ ?_
   clear hN N
   cases b with
   |true=>
    have UY:val<=jn:=by
     rcases Int.lt_or_le jn val with h|h
     ·exact absurd (Gh h) (by simp)
     ·exact h
    (try((repeat(revert hN;revert N;apply Pn.out));refine wk (tw @b0 (tw @b1 (tw @b6 (tw @b7 (tw @b8 @hw))))) ?_;(repeat(refine Pn.mk ?_;intro N hN))))
    refine⟨_,?_,k+1,val,l',.sl (l'.map eN),rfl,by omega,by omega,sd (tw @b8 @hw),sd @Nat.zero_add,sd @Nat.zero_add,cw _ _ _,cw _ _ _,KK,RQ fun z h1 h2 S' h3 h4=>by have:=Bz.1 z h1 h2 S' h3 h4;omega⟩
    omega
   |false=>
    have UY:jn<=val:=by
     rcases Int.lt_or_le val jn with h|h
     ·exact absurd (KC h) (by simp)
     ·exact h
    (try((repeat(revert hN;revert N;apply Pn.out));refine wk (tw @b0 (tw @b1 (tw @b6 (tw @b7 (tw @b8 @hw))))) ?_;(repeat(refine Pn.mk ?_;intro N hN))))
    refine⟨_,?_,k+1,jn,l,p,rfl,by omega,by omega,sd (tw @b8 @hw),sd @b6,sd @b7,AR,lI,hl,.inr ⟨by omega,fun z h1 h2 S' h3 h4=>?_,Bz.2⟩⟩
    ·omega
    ·by_cases tT:z=k
     ·subst tT;have:=hf.bound h3 h4;omega
     ·exact Bz.1 z h1 (by omega) S' h3 h4
 ·have l7:k=cnt:=by omega
  (try((repeat(revert hN;revert N;apply Pn.out));refine wk (tw @b0 (tw @b1 (tw @b6 (tw @b7 (tw @b8 @hk))))) ?_;(repeat(refine Pn.mk ?_;intro N hN))))
  exact⟨[.int .i64 jn,p],sd @Nat.zero_add,.gJ [.int .i64 jn,.sl (l.map eN)],by simp only[fq,bH,ai,aj,lI,aH,Option.map_some],jn,_,rfl,vd.done h2 (l7▸hB)⟩
end Go.Proofs.YtgoelphibofcmaaGreat.V

namespace Go.Proofs.YtgoelphibofcmaaGreat.V
open Go.RowKit
attribute [local irreducible] dG wpOps gy Call
attribute [local go_sem] aM fF eP ga fW cQ upd cz K.av cR AV.cells AV.cell rowOf rowsOf part ld rowAt bq cu dD ee ik bJ dh ev fU eX dr ej dd dc dQ dR bQ bf cW bP cY cX eh ek ei cV cj de ef bK aO da cG ij bw cK bU aY dn aZ dE AV.undef bD bG dV ec dM dK cH eu ew cF ep eo cZ db List.getD_cons_zero List.getD_cons_succ List.getD_nil List.all_cons List.all_nil Bool.and_true Bool.true_and Bool.and_self Bool.not_true Bool.not_false Option.map_some Option.map_none Option.bind_some Option.bind_none List.length_cons List.length_nil List.take_succ_cons List.take_zero List.take_nil List.drop_succ_cons List.drop_zero List.drop_nil List.head?_cons List.map_cons List.map_nil List.getElem?_cons_zero List.getElem?_cons_succ List.cons_append List.nil_append List.append_nil List.length_map List.set_cons_zero List.set_cons_succ Nat.reduceMul eq_self Int.toNat_natCast Int.natCast_nonneg and_self true_and and_true decide_true decide_false Bool.false_eq_true Nat.zero_add Nat.add_zero List.contains_cons List.contains_nil Bool.or_false Bool.false_or beq_self_eq_true Nat.reduceBEq ne_eq not_true_eq_false not_false_eq_true Id.mk.injEq false_and and_false Nat.reduceLT Int.reduceLE Int.reduceLT Int.reduceToNat Int.reduceNeg Int.reduceAdd Nat.le_refl List.length_append beq_true beq_false Bool.not_eq_eq_eq_not or_false false_or dL ai aj aH bl bB cw aX bd aU bh cU bH
theorem Mo {s:au} (hS:iF s) (a d:Int):tt s (dv (dw s a) d)<=4:=by
 have hF:=hS.form
 have fh:dv (dw s a) d=0∨(0<=dv (dw s a) d/\dv (dw s a) d<=s.ax.length):=by
  unfold dv dw
  rw[List.getD_eq_getElem?_getD,List.getD_eq_getElem?_getD]
  rcases ht:s.ah[a.toNat]? with _|t
  ·exact .inl (by simp[Ac])
  ·have Rg:=List.mem_of_getElem? ht
   simp only[Option.getD_some]
   rcases hg:t.bt[d.toNat]? with _|g
   ·exact .inl rfl
   ·exact .inr (hF.wb t Rg g (List.mem_of_getElem? hg))
 unfold tt
 by_cases h0:dv (dw s a) d=0
 ·rw[if_pos h0];omega
 ·rw[if_neg h0]
  have hk:(dv (dw s a) d-1).toNat<s.ax.length:=by omega
  have:=eA (hS.Sf _ hk).2.1
  unfold pU at this
  unfold qy
  omega
theorem Bb {s:au} (hS:iF s) (a d b:Int):gT s a d b<=4:=by
 unfold gT
 split
 ·exact Mo hS a d
 ·omega
theorem FW {s:au} {l:List ad} (hS:iF s) {i:Nat} (hi:i<l.length) {d:Int}:∀b∈mV s l i d,b.a<l.length/\b.b<l.length/\0<=b.s/\b.s<=4:=by
 intro b hb
 unfold mV at hb
 split at hb
 ·rename_i h
  simp only[List.mem_singleton]at hb
  subst hb
  exact⟨hi,(lJ h.1).1,by simp only;omega,Bb hS ..⟩
 ·cases hb
theorem yg {s:au} {l:List ad} (hS:iF s):∀b∈cJ s l,b.a<l.length/\b.b<l.length/\0<=b.s/\b.s<=4:=by
 intro b hb
 simp only[cJ,gO,fZ,List.mem_flatMap,List.mem_range]at hb
 obtain⟨i,hi,j,_,hb⟩:=hb
 exact FW hS hi b hb
theorem qj {s:au} {l:List ad} (hF:jE l):(cJ s l).length<=1000:=by
 have:=tJ s l l.length
 have:=hF.sD
 rw[cJ];omega
theorem HV {bs:List PB} {e:Nat} (h:e<bs.length):cC bs e∈bs:=by
 rw[cC,List.getD_eq_getElem?_getD,List.getElem?_eq_getElem h];exact List.getElem_mem h
theorem Gr {n:Nat} {bs:List PB} {t:Int} (h:n<2):kG n bs t:=fun S h0 ⟨y,hy,hf⟩=>by
 have:y=0:=by omega
 subst this;rw[h0]at hf;cases hf
def iu (s:au) (l:List ad) (t:Int):Nat:=(leads l.length (eB (aL t (cJ s l)))).length
noncomputable def nH (s:au) (l:List ad) (t:Int):Bool:=@decide (pk l.length (cJ s l) t) (Classical.propDecidable _)
def sQ (s:au) (l:List ad) (t:Int):Int:=if 64<iu s l t then 4 else 0
theorem mH {s:au} {l:List ad} {t:Int} {p:Prop} [Decidable p] (h:p↔pk l.length (cJ s l) t):decide p=nH s l t:=by
 letI:=Classical.propDecidable (pk l.length (cJ s l) t)
 unfold nH
 by_cases hp:p
 ·rw[decide_eq_true hp];exact(decide_eq_true (h.1 hp)).symm
 ·rw[decide_eq_false hp];exact(decide_eq_false fun k=>hp (h.2 k)).symm
theorem B4 (s:au) (l:List ad) (t:Int) (hS:iF s) (hA:jk s l):aq Tryz.prog 158 [.di (ab s),.di [.sl (l.map aa)],.int .i64 t] (.gJ [.bool (nH s l t),.int .i64 (sQ s l t)]):=by
 refine aq.body eC rfl fun hl n0=>?_
 clear hl
 have hb:=yg (l:=l) hS
 have qc:=qj (s:=s) hA.1
 have IH:=hA.1.sD
 have xx:=DM s l hS.form hA
 have KM:=B3 l.length (by omega) (cJ s l) (fun b h=>⟨(hb b h).1,(hb b h).2.1⟩) (by omega) t
 have hL:=tW (aL t (cJ s l))
 have fh:=Eh hL (fun b h=>⟨(hb b h).1,(hb b h).2.1⟩)
 have hlen:=(nr (eB (aL t (cJ s l))) (cJ s l)).2
 have nS:=jP l.length (eB (aL t (cJ s l)))
 have fQ:(l.map aa).length=l.length:=by simp
 by_cases ur:(64:Int)<(iu s l t:Int)
 ·have uu:64<iu s l t:=by omega
  have hd:nH s l t=false:=(mH (p:=False) ⟨False.elim,fun h=>by have:=h.1;unfold iu at uu;omega⟩).symm.trans (by simp)
  rw[iu]at ur
  (repeat(first|((repeat(revert hN;revert N;apply Pn.out));refine wk (tw @ab.eq_1 (tw @ur @fQ)) ?_;(repeat(refine Pn.mk ?_;intro N hN)))|((try apply Or.inl);refine⟨_,aq.x (xx) (sd (tw @ab.eq_1 (tw @ur @fQ))),?_⟩;refine hN _ _ ?_;clear hN N)|((try apply Or.inl);refine⟨_,aq.x (KM) (sd (tw @ab.eq_1 (tw @ur @fQ))),?_⟩;refine hN _ _ ?_;clear hN N)))
  exact jw (.inl rfl) (r1:=.bool false) (r2:=.int .i64 4) (sd @Nat.zero_add) (sd @Nat.zero_add) (by rw[hd,sQ,if_pos uu];simp only[eR,bz,cD,fJ,eK,Option.map_some])
 have uu:¬64<iu s l t:=by omega
 have hf:sQ s l t=0:=by rw[sQ,if_neg uu]
 by_cases h2:(iu s l t:Int)<2
 ·have hd:nH s l t=true:=(mH (p:=True) ⟨fun _=>⟨by unfold iu at uu;omega,Gr (by unfold iu at h2;omega)⟩,fun _=>trivial⟩).symm.trans (by simp)
  rw[iu]at ur h2
  (repeat(first|((repeat(revert hN;revert N;apply Pn.out));refine wk (tw @ab.eq_1 (tw @ur (tw @h2 @fQ))) ?_;(repeat(refine Pn.mk ?_;intro N hN)))|((try apply Or.inl);refine⟨_,aq.x (xx) (sd (tw @ab.eq_1 (tw @ur (tw @h2 @fQ)))),?_⟩;refine hN _ _ ?_;clear hN N)|((try apply Or.inl);refine⟨_,aq.x (KM) (sd (tw @ab.eq_1 (tw @ur (tw @h2 @fQ)))),?_⟩;refine hN _ _ ?_;clear hN N)))
  exact jw (.inl rfl) (r1:=.bool true) (r2:=.int .i64 0) (sd @Nat.zero_add) (sd @Nat.zero_add) (by rw[hd,hf];simp only[eR,bz,cD,fJ,eK,Option.map_some])
 have OG:=zW (iu s l t) (by omega) (by unfold iu;omega) (eY (eB (aL t (cJ s l))) (cJ s l)) (fun e he=>by have:=fh _ (HV he);exact⟨this.1,this.2.1,this.2.2.1⟩) (by omega) (fun e he=>by
  obtain⟨_,_,_,c,hc,du⟩:=fh _ (HV he)
  rw[du];have:=hb c hc;omega)
 rw[iu]at ur h2 OG
 (repeat(first|((repeat(revert hN;revert N;apply Pn.out));refine wk (tw @ab.eq_1 (tw @ur (tw @h2 @fQ))) ?_;(repeat(refine Pn.mk ?_;intro N hN)))|((try apply Or.inl);refine⟨_,aq.x (xx) (sd (tw @ab.eq_1 (tw @ur (tw @h2 @fQ)))),?_⟩;refine hN _ _ ?_;clear hN N)|((try apply Or.inl);refine⟨_,aq.x (KM) (sd (tw @ab.eq_1 (tw @ur (tw @h2 @fQ)))),?_⟩;refine hN _ _ ?_;clear hN N)))
 refine .inr (aI _ _ _ _ _ (fun r σ1 hq=>?_) (OG.x mixed))
 obtain⟨⟨jn,p,rfl,QH⟩,rfl⟩:=hq
 refine hN _ _ ?_
 clear hN N
 (try((repeat(revert hN;revert N;apply Pn.out));refine wk @Nat.zero_add ?_;(repeat(refine Pn.mk ?_;intro N hN))))
 exact jw (.inl rfl) (r1:=.bool (decide (t<=jn))) (r2:=.int .i64 0) (sd @Nat.zero_add) (sd @Nat.zero_add) (by
  rw[hf,mH (s:=s) (l:=l) (t:=t) (p:=t<=jn) ((QH t).trans (Dx.trans ⟨fun h=>⟨by unfold iu at uu;omega,h⟩,fun h=>h.2⟩))]
  simp only[eR,bz,cD,fJ,eK,Option.map_some])
theorem td (t:Int):aq Tryz.prog 157 [.int .i64 t] (.bool (jb t 1 16)):=by
 refine aq.body eC rfl fun hl n0=>?_
 clear hl
 have h:=lL t 1 16
 (repeat(first|((repeat(revert hN;revert N;apply Pn.out));refine wk @Nat.zero_add ?_;(repeat(refine Pn.mk ?_;intro N hN)))|((try apply Or.inl);refine⟨_,aq.x (h) (sd @Nat.zero_add),?_⟩;refine hN _ _ ?_;clear hN N)))
 exact aT (b:=jb t 1 16) (.inl rfl) (sd @Nat.zero_add) rfl
structure vn (s:aA):Prop where
 set:iF s.aE
 Al:jk s.aE s.bc.ah
 some:1<=s.bc.ah.length
 Pb:jb s.aB 1 16=true
 holds:pk s.bc.ah.length (cJ s.aE s.bc.ah) s.aB
noncomputable def nu (s:aA):Bool:=@decide (vn s) (Classical.propDecidable _)
theorem xj {s:aA}:nu s=true↔vn s:=by simp[nu]
theorem jY {s:aA} (h:¬vn s):false=nu s:=by simp[nu,h]
theorem Cu {s:aA} (h:vn s):true=nu s:=by simp[nu,h]
theorem pM {s:au} {l:List ad} {t:Int}:nH s l t=true↔pk l.length (cJ s l) t:=by simp[nH]
theorem LQ (s:aA) (hn:fX s.aE) (hg:s.aE.ax.length<=1048576) (ht:s.aE.ah.length<=1048576):aq Tryz.prog 96 [.di (aw s)] (.bool (nu s)):=by
 refine aq.body eC rfl fun hl n0=>?_
 clear hl
 have h1:=(LP s.aE hn hg ht).cut mixed (.ptr _ [.sl (s.bc.ah.map aa),.int .i64 s.aB] .nil)
 by_cases hS:iF s.aE
 ·rw[mE.2 hS]at h1
  have h2:=(Ft s.aE s.bc.ah).cut mixed (.ptr _ [.sl (s.bc.ah.map aa),.int .i64 s.aB] (.ptr _ [.int .i64 s.aB] .nil))
  by_cases hA:jk s.aE s.bc.ah
  ·rw[mc.2 hA]at h2
   by_cases h0:(s.bc.ah.length:Int)=0
   ·have hd:decide ((s.bc.ah.length:Int)=0)=true:=decide_eq_true h0
    have lk:false=nu s:=jY fun h=>by have:=h.some;omega
    generalize fQ:(s.bc.ah.map aa).length=len at *
    (repeat(first|((repeat(revert hN;revert N;apply Pn.out));refine wk (tw @aw.eq_1 (tw @ab.eq_1 @hd)) ?_;(repeat(refine Pn.mk ?_;intro N hN)))|((try apply Or.inl);refine⟨_,aq.x (h1) (sd (tw @aw.eq_1 (tw @ab.eq_1 @hd))),?_⟩;refine hN _ _ ?_;clear hN N)|((try apply Or.inl);refine⟨_,aq.x (h2) (sd (tw @aw.eq_1 (tw @ab.eq_1 @hd))),?_⟩;refine hN _ _ ?_;clear hN N)))
    exact aT (b:=false) (.inl rfl) (sd @Nat.zero_add) lk
   ·have hd:decide ((s.bc.ah.length:Int)=0)=false:=decide_eq_false h0
    have h3:=td s.aB
    cases hT:jb s.aB 1 16
    ·rw[hT]at h3
     (repeat(first|((repeat(revert hN;revert N;apply Pn.out));refine wk (tw @aw.eq_1 (tw @ab.eq_1 @hd)) ?_;(repeat(refine Pn.mk ?_;intro N hN)))|((try apply Or.inl);refine⟨_,aq.x (h1) (sd (tw @aw.eq_1 (tw @ab.eq_1 @hd))),?_⟩;refine hN _ _ ?_;clear hN N)|((try apply Or.inl);refine⟨_,aq.x (h2) (sd (tw @aw.eq_1 (tw @ab.eq_1 @hd))),?_⟩;refine hN _ _ ?_;clear hN N)|((try apply Or.inl);refine⟨_,aq.x (h3) (sd (tw @aw.eq_1 (tw @ab.eq_1 @hd))),?_⟩;refine hN _ _ ?_;clear hN N)))
     exact aT (b:=false) (.inl rfl) (sd @Nat.zero_add) (jY fun h=>by have:=h.Pb;rw[hT]at this;cases this)
    ·rw[hT]at h3
     have h4:=(B4 s.aE s.bc.ah s.aB hS hA).cut mixed (.ptr _ [.sl (s.bc.ah.map aa),.int .i64 s.aB] (.ptr _ [.int .i64 s.aB] (.same _ .nil)))
     cases hB:nH s.aE s.bc.ah s.aB
     ·rw[hB]at h4
      (repeat(first|((repeat(revert hN;revert N;apply Pn.out));refine wk (tw @aw.eq_1 (tw @ab.eq_1 @hd)) ?_;(repeat(refine Pn.mk ?_;intro N hN)))|((try apply Or.inl);refine⟨_,aq.x (h1) (sd (tw @aw.eq_1 (tw @ab.eq_1 @hd))),?_⟩;refine hN _ _ ?_;clear hN N)|((try apply Or.inl);refine⟨_,aq.x (h2) (sd (tw @aw.eq_1 (tw @ab.eq_1 @hd))),?_⟩;refine hN _ _ ?_;clear hN N)|((try apply Or.inl);refine⟨_,aq.x (h3) (sd (tw @aw.eq_1 (tw @ab.eq_1 @hd))),?_⟩;refine hN _ _ ?_;clear hN N)|((try apply Or.inl);refine⟨_,aq.x (h4) (sd (tw @aw.eq_1 (tw @ab.eq_1 @hd))),?_⟩;refine hN _ _ ?_;clear hN N)))
      exact aT (b:=false) (.inl rfl) (sd @Nat.zero_add) (jY fun h=>by have:=pM.2 h.holds;rw[hB]at this;cases this)
     ·have hP:=pM.1 hB
      have hf:sQ s.aE s.bc.ah s.aB=0:=by
       have:=hP.1
       rw[sQ,if_neg (by unfold iu;omega)]
      rw[hB,hf]at h4
      (repeat(first|((repeat(revert hN;revert N;apply Pn.out));refine wk (tw @aw.eq_1 (tw @ab.eq_1 @hd)) ?_;(repeat(refine Pn.mk ?_;intro N hN)))|((try apply Or.inl);refine⟨_,aq.x (h1) (sd (tw @aw.eq_1 (tw @ab.eq_1 @hd))),?_⟩;refine hN _ _ ?_;clear hN N)|((try apply Or.inl);refine⟨_,aq.x (h2) (sd (tw @aw.eq_1 (tw @ab.eq_1 @hd))),?_⟩;refine hN _ _ ?_;clear hN N)|((try apply Or.inl);refine⟨_,aq.x (h3) (sd (tw @aw.eq_1 (tw @ab.eq_1 @hd))),?_⟩;refine hN _ _ ?_;clear hN N)|((try apply Or.inl);refine⟨_,aq.x (h4) (sd (tw @aw.eq_1 (tw @ab.eq_1 @hd))),?_⟩;refine hN _ _ ?_;clear hN N)))
      exact aT (b:=true) (.inl rfl) (sd @Nat.zero_add) (Cu ⟨hS,hA,by omega,hT,hP⟩)
  ·have hb:pT s.aE s.bc.ah=false:=Bool.eq_false_iff.2 fun h=>hA (mc.1 h)
   rw[hb]at h2
   (repeat(first|((repeat(revert hN;revert N;apply Pn.out));refine wk (tw @aw.eq_1 @ab.eq_1) ?_;(repeat(refine Pn.mk ?_;intro N hN)))|((try apply Or.inl);refine⟨_,aq.x (h1) (sd (tw @aw.eq_1 @ab.eq_1)),?_⟩;refine hN _ _ ?_;clear hN N)|((try apply Or.inl);refine⟨_,aq.x (h2) (sd (tw @aw.eq_1 @ab.eq_1)),?_⟩;refine hN _ _ ?_;clear hN N)))
   exact aT (b:=false) (.inl rfl) (sd @Nat.zero_add) (jY fun h=>hA h.Al)
 ·have hb:qT s.aE=false:=Bool.eq_false_iff.2 fun h=>hS (mE.1 h)
  rw[hb]at h1
  (repeat(first|((repeat(revert hN;revert N;apply Pn.out));refine wk (tw @aw.eq_1 @ab.eq_1) ?_;(repeat(refine Pn.mk ?_;intro N hN)))|((try apply Or.inl);refine⟨_,aq.x (h1) (sd (tw @aw.eq_1 @ab.eq_1)),?_⟩;refine hN _ _ ?_;clear hN N)))
  exact aT (b:=false) (.inl rfl) (sd @Nat.zero_add) (jY fun h=>hS h.set)
end Go.Proofs.YtgoelphibofcmaaGreat.V

namespace Go.Proofs.YtgoelphibofcmaaGreat.V
open Go.RowKit
attribute [local irreducible] dG wpOps gy Call
attribute [local go_sem] aM fF eP ga fW cQ upd cz K.av cR AV.cells AV.cell rowOf rowsOf part ld rowAt bq cu dD ee ik bJ dh ev fU eX dr ej dd dc dQ dR bQ bf cW bP cY cX eh ek ei cV cj de ef bK aO da cG ij bw cK bU aY dn aZ dE AV.undef bD bG dV ec dM dK cH eu ew cF ep eo cZ db List.getD_cons_zero List.getD_cons_succ List.getD_nil List.all_cons List.all_nil Bool.and_true Bool.true_and Bool.and_self Bool.not_true Bool.not_false Option.map_some Option.map_none Option.bind_some Option.bind_none List.length_cons List.length_nil List.take_succ_cons List.take_zero List.take_nil List.drop_succ_cons List.drop_zero List.drop_nil List.head?_cons List.map_cons List.map_nil List.getElem?_cons_zero List.getElem?_cons_succ List.cons_append List.nil_append List.append_nil List.length_map List.set_cons_zero List.set_cons_succ Nat.reduceMul eq_self Int.toNat_natCast Int.natCast_nonneg and_self true_and and_true decide_true decide_false Bool.false_eq_true Nat.zero_add Nat.add_zero List.contains_cons List.contains_nil Bool.or_false Bool.false_or beq_self_eq_true Nat.reduceBEq ne_eq not_true_eq_false not_false_eq_true Id.mk.injEq false_and and_false Nat.reduceLT Int.reduceLE Int.reduceLT Int.reduceToNat Int.reduceNeg Int.reduceAdd Nat.le_refl List.length_append beq_true beq_false Bool.not_eq_eq_eq_not or_false false_or dL ai aj aH bl bB cw aX bd aU bh cU bH
theorem Mn {s:au} (hS:iF s) (a d:Int):0<=tt s (dv (dw s a) d):=by
 have hF:=hS.form
 have fh:dv (dw s a) d=0∨(0<=dv (dw s a) d/\dv (dw s a) d<=s.ax.length):=by
  unfold dv dw
  rw[List.getD_eq_getElem?_getD,List.getD_eq_getElem?_getD]
  rcases ht:s.ah[a.toNat]? with _|t
  ·exact .inl (by simp[Ac])
  ·have Rg:=List.mem_of_getElem? ht
   simp only[Option.getD_some]
   rcases hg:t.bt[d.toNat]? with _|g
   ·exact .inl rfl
   ·exact .inr (hF.wb t Rg g (List.mem_of_getElem? hg))
 unfold tt
 by_cases h0:dv (dw s a) d=0
 ·rw[if_pos h0];omega
 ·rw[if_neg h0]
  have hk:(dv (dw s a) d-1).toNat<s.ax.length:=by omega
  have:=eA (hS.Sf _ hk).2.1
  unfold pU at this
  unfold qy
  omega
theorem vD {s:au} (hS:iF s) (a d b:Int):0<=gT s a d b/\gT s a d b<=4:=by
 refine⟨?_,Bb hS a d b⟩
 unfold gT
 split
 ·exact Mn hS a d
 ·omega
def dU (s:au) (f:aD->Int) (p:aD) (t:Int):Nat->Int
 |0=>0
 |d+1=>dU s f p t d+if 0<=f (dx p d)then gT s t d (f (dx p d))else 0
def tH (s:au) (f:aD->Int) (p:aD) (t:Int):Int:=dU s f p t 4
theorem ly {s:au} (hS:iF s) (f:aD->Int) (p:aD) (t:Int):∀d,0<=dU s f p t d/\dU s f p t d<=4*(d:Int)
 |0=>⟨Int.le_refl _,Int.le_refl _⟩
 |d+1=>by
  have:=ly hS f p t d
  have hb:=vD hS t d (f (dx p d))
  simp only[dU]
  split<;>omega
theorem A6 {s:au} {l:List ad} (hA:jk s l) {p:aD} (h:0<=gC l p):eL s (gC l p)=true:=by
 unfold gC at h ⊢
 split at h
 ·rename_i h0
  rw[if_pos h0]
  exact hA.2 _ (gH (lJ h0).1)
 ·omega
theorem zV (s:au) (hS:iF s) (l:List ad) (hA:jk s l) (p:aD) (hx:iB p.eZ) (hy:iB p.eT) (t:Int) (ht:eL s t=true):aq Tryz.prog 138 [.di (ab s),.di [.sl (l.map aa)],.agg (ae p),.int .i64 t] (.int .i64 (tH s (gC l) p t)):=by
 refine aq.body eC rfl fun hl n0=>?_
 clear hl
 have hR:=hA.1.G3
 have Gg:l.length<=1048576:=by have:=hA.1.sD;omega
 (try((repeat(revert hN;revert N;apply Pn.out));refine wk @ae.eq_1 ?_;(repeat(refine Pn.mk ?_;intro N hN))))
 refine aW (fun n env st=>∃k:Nat,n=(4)-k/\k<=(4)/\env 10=.int .i64 (k:Int)/\env 9=.int .i64 (dU s (gC l) p t k)/\st.get ⟨138000000,n0⟩=some ⟨true,2,[ae p]⟩) (4) ⟨0,by omega,by omega,sl @ae.eq_1,sl @ae.eq_1,sl @ae.eq_1⟩ ?_
 rintro n_a env_a st_a ⟨k,rfl,ale,ya,a9,ag0⟩ dH
 have a0:=dH 0 (by kernel_rfl);have a1:=dH 1 (by kernel_rfl);have a3:=dH 3 (by kernel_rfl);have a6:=dH 6 (by kernel_rfl)
 simp only[go_sem, ↓reduceIte,Nat.reduceEqDiff,Nat.reduceAdd,Nat.reduceSub,Nat.reduceLeDiff,reduceCtorEq,ae]at a0 a1 a3 a6
 clear dH
 by_cases hk:(k:Int)<4
 ·have cE:∀{e:Env} {gg:Rows},(e 10=.int .i64 (IntKind.i64.wrap ((k:Int)+1)))->(e 9=.int .i64 (dU s (gC l) p t (k+1)))->(gg ⟨138000000,n0⟩=some ⟨true,2,[ae p]⟩)->∃m0,m0<(4)-k/\∃k:Nat,m0=(4)-k/\k<=(4)/\e 10=.int .i64 (k:Int)/\e 9=.int .i64 (dU s (gC l) p t k)/\gg ⟨138000000,n0⟩=some ⟨true,2,[ae p]⟩:=fun x1 x2 x3=>⟨_,by omega,k+1,rfl,by omega,(by rw[x1,az (by omega)]),x2,x3⟩
  have dF:=yN p k (kP (by omega)) hx hy
  have E6:=Fs l (dx p k) hR Gg
  have fh:=ly hS (gC l) p t k
  by_cases h0:0<=gC l (dx p k)
  ·have xx:=yO s hS.form t k (gC l (dx p k)) ht (A6 hA h0) (kP (by omega))
   have fP:=vD hS t k (gC l (dx p k))
   have hw:IntKind.i64.wrap (dU s (gC l) p t k+gT s t k (gC l (dx p k)))=dU s (gC l) p t (k+1):=by
    rw[bF (by omega),dU,if_pos h0]
   (repeat(first|((repeat(revert hN;revert N;apply Pn.out));refine wk (tw @ya (tw @a9 (tw @ag0 (tw @a0 (tw @a1 (tw @a3 (tw @a6 (tw @hk (tw @h0 @ae.eq_1))))))))) ?_;(repeat(refine Pn.mk ?_;intro N hN)))|((try apply Or.inl);refine⟨_,aq.x (dF) (sd (tw @ya (tw @a9 (tw @ag0 (tw @a0 (tw @a1 (tw @a3 (tw @a6 (tw @hk (tw @h0 @ae.eq_1)))))))))),?_⟩;refine hN _ _ ?_;clear hN N)|((try apply Or.inl);refine⟨_,aq.x (E6) (sd (tw @ya (tw @a9 (tw @ag0 (tw @a0 (tw @a1 (tw @a3 (tw @a6 (tw @hk (tw @h0 @ae.eq_1)))))))))),?_⟩;refine hN _ _ ?_;clear hN N)|((try apply Or.inl);refine⟨_,aq.x (xx) (sd (tw @ya (tw @a9 (tw @ag0 (tw @a0 (tw @a1 (tw @a3 (tw @a6 (tw @hk (tw @h0 @ae.eq_1)))))))))),?_⟩;refine hN _ _ ?_;clear hN N)))
   refine cE ?_ ?_ ?_
   all_goals simp only[go_sem, ↓reduceIte,Nat.reduceEqDiff,Nat.reduceAdd,Nat.reduceSub,Nat.reduceLeDiff,reduceCtorEq,ya,a9,ag0,a0,a1,a3,a6,hw,ae]
  ·have hw:dU s (gC l) p t (k+1)=dU s (gC l) p t k:=by rw[dU,if_neg h0,Int.add_zero]
   (repeat(first|((repeat(revert hN;revert N;apply Pn.out));refine wk (tw @ya (tw @a9 (tw @ag0 (tw @a0 (tw @a1 (tw @a3 (tw @a6 (tw @hk (tw @h0 @ae.eq_1))))))))) ?_;(repeat(refine Pn.mk ?_;intro N hN)))|((try apply Or.inl);refine⟨_,aq.x (dF) (sd (tw @ya (tw @a9 (tw @ag0 (tw @a0 (tw @a1 (tw @a3 (tw @a6 (tw @hk (tw @h0 @ae.eq_1)))))))))),?_⟩;refine hN _ _ ?_;clear hN N)|((try apply Or.inl);refine⟨_,aq.x (E6) (sd (tw @ya (tw @a9 (tw @ag0 (tw @a0 (tw @a1 (tw @a3 (tw @a6 (tw @hk (tw @h0 @ae.eq_1)))))))))),?_⟩;refine hN _ _ ?_;clear hN N)))
   refine cE ?_ ?_ ?_
   all_goals simp only[go_sem, ↓reduceIte,Nat.reduceEqDiff,Nat.reduceAdd,Nat.reduceSub,Nat.reduceLeDiff,reduceCtorEq,ya,a9,ag0,a0,a1,a3,a6,hw,ae]
 ·(try((repeat(revert hN;revert N;apply Pn.out));refine wk (tw @ya (tw @a9 (tw @ag0 (tw @a0 (tw @a1 (tw @a3 (tw @a6 @hk))))))) ?_;(repeat(refine Pn.mk ?_;intro N hN))))
  exact b4 (b:=dU s (gC l) p t k) (.inl rfl) (sd (tw @ya (tw @a9 (tw @ag0 (tw @a0 (tw @a1 (tw @a3 @a6))))))) (by rw[show k=4 by omega];rfl)
def iR (la lb:List ad):Bool:=la.all fun t=>decide (gC lb t.aQ=t.aV)
theorem BX (la lb:List ad) (hR:nJ lb) (Gg:lb.length<=1048576) (h81:la.length<=1048576):aq Tryz.prog 59 [.di [.sl (la.map aa)],.di [.sl (lb.map aa)]] (.bool (iR la lb)):=by
 refine aq.body eC rfl fun hl n0=>?_
 clear hl
 (try((repeat(revert hN;revert N;apply Pn.out));refine wk @Nat.zero_add ?_;(repeat(refine Pn.mk ?_;intro N hN))))
 refine aW (fun n env st=>∃k:Nat,n=(la.length)-k/\k<=(la.length)/\env 5=.int .i64 (k:Int)/\(∀j:Nat,j<k->gC lb (aJ la j).aQ=(aJ la j).aV)) (la.length) ⟨0,by omega,by omega,sl @Nat.zero_add,fun _ h=>absurd h (Nat.not_lt_zero _)⟩ ?_
 rintro n_a env_a st_a ⟨k,rfl,ale,a5,l6⟩ dH
 have a0:=dH 0 (by kernel_rfl);have a1:=dH 1 (by kernel_rfl)
 simp only[go_sem, ↓reduceIte,Nat.reduceEqDiff,Nat.reduceAdd,Nat.reduceSub,Nat.reduceLeDiff,reduceCtorEq]at a0 a1
 clear dH
 by_cases hk:(k:Int)<(la.length:Int)
 ·have cE:∀{e:Env},(e 5=.int .i64 (IntKind.i64.wrap ((k:Int)+1)))->(gC lb (aJ la k).aQ=(aJ la k).aV)->∃m0,m0<(la.length)-k/\∃k:Nat,m0=(la.length)-k/\k<=(la.length)/\e 5=.int .i64 (k:Int)/\(∀j:Nat,j<k->gC lb (aJ la j).aQ=(aJ la j).aV):=fun x1 x2=>⟨_,by omega,k+1,rfl,by omega,(by rw[x1,az (by omega)]),(all_succ l6 x2)⟩
  have fA:k<la.length:=by omega
  have eQ:=fw fA
  have E6:=Fs lb (aJ la k).aQ hR Gg
  by_cases h0:gC lb (aJ la k).aQ=(aJ la k).aV
  ·have hd:decide (gC lb (aJ la k).aQ=(aJ la k).aV)=true:=decide_eq_true h0
   (repeat(first|((repeat(revert hN;revert N;apply Pn.out));refine wk (tw @a5 (tw @a0 (tw @a1 (tw @hk (tw @eQ (tw @hd (tw @aa.eq_1 @ae.eq_1))))))) ?_;(repeat(refine Pn.mk ?_;intro N hN)))|((try apply Or.inl);refine⟨_,aq.x (E6) (sd (tw @a5 (tw @a0 (tw @a1 (tw @hk (tw @eQ (tw @hd (tw @aa.eq_1 @ae.eq_1)))))))),?_⟩;refine hN _ _ ?_;clear hN N)))
   exact cE (sd (tw @a5 (tw @a0 @a1))) (h0)
  ·have hd:decide (gC lb (aJ la k).aQ=(aJ la k).aV)=false:=decide_eq_false h0
   (repeat(first|((repeat(revert hN;revert N;apply Pn.out));refine wk (tw @a5 (tw @a0 (tw @a1 (tw @hk (tw @eQ (tw @hd (tw @aa.eq_1 @ae.eq_1))))))) ?_;(repeat(refine Pn.mk ?_;intro N hN)))|((try apply Or.inl);refine⟨_,aq.x (E6) (sd (tw @a5 (tw @a0 (tw @a1 (tw @hk (tw @eQ (tw @hd (tw @aa.eq_1 @ae.eq_1)))))))),?_⟩;refine hN _ _ ?_;clear hN N)))
   exact aT (b:=false) (.inl rfl) (sd @Nat.zero_add) (List.all_eq_false.2 ⟨_,gH fA,by rw[hd];simp⟩).symm
 ·(try((repeat(revert hN;revert N;apply Pn.out));refine wk (tw @a5 (tw @a0 (tw @a1 @hk))) ?_;(repeat(refine Pn.mk ?_;intro N hN))))
  exact aT (b:=true) (.inl rfl) (sd @Nat.zero_add) (List.all_eq_true.2 fun t ht=>by
   obtain⟨j,hj,rfl⟩:=List.getElem_of_mem ht
   have:=l6 j (by omega)
   rw[fb hj]at this
   exact decide_eq_true this).symm
noncomputable def rl (s:aA) (l:List ad):Bool:=nu s&&pT s.aE l
theorem DN (s:aA) (l:List ad) (hn:fX s.aE) (hg:s.aE.ax.length<=1048576) (ht:s.aE.ah.length<=1048576):aq Tryz.prog 58 [.di (aw s),.di [.sl (l.map aa)]] (.int .i64 (if rl s l then 0 else 1)):=by
 refine aq.body eC rfl fun hl n0=>?_
 clear hl
 have h1:=LQ s hn hg ht
 have h2:=(Ft s.aE l).cut mixed (.ptr _ [.sl (s.bc.ah.map aa),.int .i64 s.aB] (.same _ .nil))
 cases b1:nu s
 ·rw[b1]at h1
  (repeat(first|((repeat(revert hN;revert N;apply Pn.out));refine wk @Nat.zero_add ?_;(repeat(refine Pn.mk ?_;intro N hN)))|((try apply Or.inl);refine⟨_,aq.x (h1) (sd @Nat.zero_add),?_⟩;refine hN _ _ ?_;clear hN N)))
  exact b4 (b:=1) (.inl rfl) (sd @Nat.zero_add) (by rw[rl,b1];rfl)
 rw[b1]at h1
 rw[aw]at h1 ⊢
 cases b2:pT s.aE l
 ·rw[b2]at h2
  (repeat(first|((repeat(revert hN;revert N;apply Pn.out));refine wk @ab.eq_1 ?_;(repeat(refine Pn.mk ?_;intro N hN)))|((try apply Or.inl);refine⟨_,aq.x (h1) (sd @ab.eq_1),?_⟩;refine hN _ _ ?_;clear hN N)|((try apply Or.inl);refine⟨_,aq.x (h2) (sd @ab.eq_1),?_⟩;refine hN _ _ ?_;clear hN N)))
  exact b4 (b:=1) (.inl rfl) (sd @Nat.zero_add) (by rw[rl,b1,b2];rfl)
 ·rw[b2]at h2
  (repeat(first|((repeat(revert hN;revert N;apply Pn.out));refine wk @ab.eq_1 ?_;(repeat(refine Pn.mk ?_;intro N hN)))|((try apply Or.inl);refine⟨_,aq.x (h1) (sd @ab.eq_1),?_⟩;refine hN _ _ ?_;clear hN N)|((try apply Or.inl);refine⟨_,aq.x (h2) (sd @ab.eq_1),?_⟩;refine hN _ _ ?_;clear hN N)))
  exact b4 (b:=0) (.inl rfl) (sd @Nat.zero_add) (by rw[rl,b1,b2];rfl)
theorem rm {s:aA} {l:List ad}:rl s l=true↔vn s/\jk s.aE l:=by simp[rl,xj,mc]
noncomputable def jd (s:aA) (l:List ad):Int:=if rl s l then(if iR s.bc.ah l then 0 else 2)else 1
theorem GH (s:aA) (l:List ad) (hn:fX s.aE) (hg:s.aE.ax.length<=1048576) (ht:s.aE.ah.length<=1048576):aq Tryz.prog 67 [.di (aw s),.di [.sl (l.map aa)]] (.int .i64 (jd s l)):=by
 refine aq.body eC rfl fun hl n0=>?_
 clear hl
 have h1:=DN s l hn hg ht
 cases b1:rl s l
 ·rw[b1]at h1
  (repeat(first|((repeat(revert hN;revert N;apply Pn.out));refine wk @Nat.zero_add ?_;(repeat(refine Pn.mk ?_;intro N hN)))|((try apply Or.inl);refine⟨_,aq.x (h1) (sd @Nat.zero_add),?_⟩;refine hN _ _ ?_;clear hN N)))
  exact b4 (b:=1) (.inl rfl) (sd @Nat.zero_add) (by rw[jd,b1];rfl)
 obtain⟨hP,hA⟩:=rm.1 b1
 have h2:=(BX s.bc.ah l hA.1.G3 (by have:=hA.1.sD;omega) (by have:=hP.Al.1.sD;omega)).cut mixed (.ptr _ [.int .i64 s.aB] (.same _ .nil))
 rw[b1]at h1
 rw[aw]at h1 ⊢
 cases b2:iR s.bc.ah l
 ·rw[b2]at h2
  (repeat(first|((repeat(revert hN;revert N;apply Pn.out));refine wk @Nat.zero_add ?_;(repeat(refine Pn.mk ?_;intro N hN)))|((try apply Or.inl);refine⟨_,aq.x (h1) (sd @Nat.zero_add),?_⟩;refine hN _ _ ?_;clear hN N)|((try apply Or.inl);refine⟨_,aq.x (h2) (sd @Nat.zero_add),?_⟩;refine hN _ _ ?_;clear hN N)))
  exact b4 (b:=2) (.inl rfl) (sd @Nat.zero_add) (by rw[jd,b1,b2];rfl)
 ·rw[b2]at h2
  (repeat(first|((repeat(revert hN;revert N;apply Pn.out));refine wk @Nat.zero_add ?_;(repeat(refine Pn.mk ?_;intro N hN)))|((try apply Or.inl);refine⟨_,aq.x (h1) (sd @Nat.zero_add),?_⟩;refine hN _ _ ?_;clear hN N)|((try apply Or.inl);refine⟨_,aq.x (h2) (sd @Nat.zero_add),?_⟩;refine hN _ _ ?_;clear hN N)))
  exact b4 (b:=0) (.inl rfl) (sd @Nat.zero_add) (by rw[jd,b1,b2];rfl)
theorem Kc {s:au} {k:Nat} (h:k<s.ah.length):eL s k=true:=by
 unfold eL;exact kP (by omega)
theorem HU {s:au} {l:List ad} (hA:jk s l) (p:aD):gC l p<0↔eD l p<0:=by
 constructor
 ·intro h
  rcases Int.lt_or_le (eD l p) 0 with h0|h0
  ·exact h0
  ·exfalso
   obtain⟨h1,_⟩:=lJ h0
   have h2:=(eA (hA.2 _ (gH h1))).1
   rw[gC,if_pos h0]at h
   omega
 ·intro h
  rw[gC,if_neg (by omega)];omega
end Go.Proofs.YtgoelphibofcmaaGreat.V

namespace Go.Proofs.YtgoelphibofcmaaGreat.V
open Go.RowKit
attribute [local irreducible] dG wpOps gy Call
attribute [local go_sem] aM fF eP ga fW cQ upd cz K.av cR AV.cells AV.cell rowOf rowsOf part ld rowAt bq cu dD ee ik bJ dh ev fU eX dr ej dd dc dQ dR bQ bf cW bP cY cX eh ek ei cV cj de ef bK aO da cG ij bw cK bU aY dn aZ dE AV.undef bD bG dV ec dM dK cH eu ew cF ep eo cZ db List.getD_cons_zero List.getD_cons_succ List.getD_nil List.all_cons List.all_nil Bool.and_true Bool.true_and Bool.and_self Bool.not_true Bool.not_false Option.map_some Option.map_none Option.bind_some Option.bind_none List.length_cons List.length_nil List.take_succ_cons List.take_zero List.take_nil List.drop_succ_cons List.drop_zero List.drop_nil List.head?_cons List.map_cons List.map_nil List.getElem?_cons_zero List.getElem?_cons_succ List.cons_append List.nil_append List.append_nil List.length_map List.set_cons_zero List.set_cons_succ Nat.reduceMul eq_self Int.toNat_natCast Int.natCast_nonneg and_self true_and and_true decide_true decide_false Bool.false_eq_true Nat.zero_add Nat.add_zero List.contains_cons List.contains_nil Bool.or_false Bool.false_or beq_self_eq_true Nat.reduceBEq ne_eq not_true_eq_false not_false_eq_true Id.mk.injEq false_and and_false Nat.reduceLT Int.reduceLE Int.reduceLT Int.reduceToNat Int.reduceNeg Int.reduceAdd Nat.le_refl List.length_append beq_true beq_false Bool.not_eq_eq_eq_not or_false false_or dL ai aj aH bl bB cw aX bd aU bh cU bH
abbrev mP:MK:=⟨true,[.tI,.tI]⟩
theorem Cb (p:aD):∀(ts:List ad) (i:Nat),gi mP (ae p) (ts.map aa) i=some (if p7 ts p<ts.length then some (i+p7 ts p)else none)
 |[],i=>by simp[gi,p7]
 |t::ts,i=>by
  have e:eX mP.ts (ae p) ((aa t).take mP.ks)=some (decide (p=t.aQ)):=by
   have h:(p=t.aQ)↔(p.eZ=t.aQ.eZ/\p.eT=t.aQ.eT):=⟨fun h=>by rw[h];exact⟨rfl,rfl⟩,fun h=>D7 h.1 h.2⟩
   simp[MK.ks,ae,aa,eX,fU,h]
  have ih:=Cb p ts (i+1)
  rw[List.map_cons]
  unfold gi
  rw[e]
  by_cases h:p=t.aQ
  ·rw[decide_eq_true h]
   have h0:p7 (t::ts) p=0:=by simp[p7,List.findIdx_cons,h]
   simp[h0]
  ·rw[decide_eq_false h]
   have h0:p7 (t::ts) p=p7 ts p+1:=by
    simp[p7,List.findIdx_cons,Ne.symm h]
   simp only[ih,h0,List.length_cons,Nat.add_lt_add_iff_right]
   congr 1
   split<;>simp;omega
theorem yU (ts:List ad) (p:aD):fM mP (.agg [.int .i64 p.eZ,.int .i64 p.eT]) (ts.map aa)=some (if 0<=eD ts p then some (eD ts p).toNat else none):=by
 have h:=Cb p ts 0
 unfold fM
 rw[if_pos ⟨rfl,rfl,rfl⟩]
 show gi mP (ae p) _ 0= _
 rw[h]
 unfold eD
 split<;>simp
theorem GP {ts:List ad} {p:aD} (h:0<=eD ts p):fM mP (.agg [.int .i64 p.eZ,.int .i64 p.eT]) (ts.map aa)=some (some (eD ts p).toNat):=by rw[yU,if_pos h]
theorem qQ {ts:List ad} {p:aD} (h:eD ts p<0):fM mP (.agg [.int .i64 p.eZ,.int .i64 p.eT]) (ts.map aa)=some none:=by rw[yU,if_neg (by omega)]
structure CF (g:Rows) (n:Nat) (c T O:Id) (s:aA) (ts:List ad):Prop where
 row:∃b,g c=some ⟨b,6,[[.sl (s.aE.ax.map bI),.sl (s.aE.ah.map bE),.sl (s.bc.ah.map aa),.int .i64 s.aB,.map T mP,.map O mP]]⟩
 tl:∃b,g T=some ⟨b,mP.pG,ts.map aa⟩
 cv:c.ck<n
 tv:T.ck<n
 ov:O.ck<n
theorem CF.ro {g:Rows} {n:Nat} {c T O:Id} {s:aA} {ts:List ad} (h:CF g n c T O s ts):CF (V.ro g) n c T O s ts:=by
 obtain⟨b,h1⟩:=h.row
 obtain⟨b2,h2⟩:=h.tl
 exact⟨⟨false,by simp[V.ro,h1]⟩,⟨false,by simp[V.ro,h2]⟩,h.cv,h.tv,h.ov⟩
theorem CF.frame {g g':Rows} {n n':Nat} {c T O:Id} {s:aA} {ts:List ad} (h:CF g n c T O s ts) (hn:n<=n') (hc:g' c=g c) (hT:g' T=g T):CF g' n' c T O s ts:=
 ⟨by rw[hc];exact h.row,by rw[hT];exact h.tl,Nat.lt_of_lt_of_le h.cv hn,Nat.lt_of_lt_of_le h.tv hn,Nat.lt_of_lt_of_le h.ov hn⟩
theorem Tn {σ:ar} {c T O:Id} {s:aA} {ts:List ad} (h:CF σ.get σ.next c T O s ts) (p:aD):Call Tryz.prog 121 [.ptr c 0 0,.agg (ae p)] σ (fun r _=>r=.int .i64 (gC ts p)):=by
 refine eU eC rfl fun ml=>?_
 clear ml
 obtain⟨b,h1⟩:=h.row
 obtain⟨b2,h2⟩:=h.tl
 have v1:=dp h.cv
 have v2:=dp h.tv
 by_cases h0:0<=eD ts p
 ·have hm:=GP h0
  have hg:=fw (lJ h0).1
  have ho:(some (eD ts p).toNat).isSome=true:=rfl
  (try((repeat(revert hN;revert N;apply Pn.out));refine wk (tw @h1 (tw @h2 (tw @v1 (tw @v2 (tw @hm (tw @hg (tw @ho (tw @ae.eq_1 @aa.eq_1)))))))) ?_;(repeat(refine Pn.mk ?_;intro N hN))))
  exact fx (.inl rfl) (vs:=[.int .i64 (aJ ts (eD ts p).toNat).aV]) (sd @Nat.zero_add) (by rw[gC,if_pos h0];rfl)
 ·have hm:=qQ (ts:=ts) (p:=p) (by omega)
  have ho:(none:Option Nat).isSome=false:=rfl
  (try((repeat(revert hN;revert N;apply Pn.out));refine wk (tw @h1 (tw @h2 (tw @v1 (tw @v2 (tw @hm (tw @ho @ae.eq_1)))))) ?_;(repeat(refine Pn.mk ?_;intro N hN))))
  exact fx (.inl rfl) (vs:=[.int .i64 (-1)]) (sd @Nat.zero_add) (by rw[gC,if_neg h0];rfl)
theorem Ny {σ:ar} {c T O:Id} {s:aA} {ts:List ad} (h:CF σ.get σ.next c T O s ts) (p:aD):gy (Call Tryz.prog) 121 [.ptr c 0 0,.agg (ae p)] σ (fun r=>r=.int .i64 (gC ts p)):=by
 unfold gy PC
 exact Or.inl (aI _ _ _ _ _ (fun r σ' hr=>⟨_,by rw[hr];exact aH _ _ _ _,rfl⟩) (Tn (σ:=⟨V.ro σ.get,σ.next⟩) h.ro p))
theorem FU {σ:ar} (s:au) (hS:iF s) (F:aD->Int) (hF:∀q,0<=F q->eL s (F q)=true) (p:aD) (hx:iB p.eZ) (hy:iB p.eT) (t:Int) (ht:eL s t=true) (f:Nat) (first:List AV)
  (E6:∀σ':ar,σ.next<=σ'.next->(∀x:Id,x.ck<σ.next->σ'.get x=σ.get x)->∀q,gy (Call Tryz.prog) f (first++[.agg (ae q)]) σ' (fun r=>r=.int .i64 (F q))):
  Call Tryz.prog 120 [.agg (ab s),.agg (ae p),.int .i64 t,.tY f first] σ (fun r _=>r=.int .i64 (tH s F p t)):=by
 refine eU eC rfl fun ml=>?_
 clear ml
 (try((repeat(revert hN;revert N;apply Pn.out));refine wk (tw @ae.eq_1 @ab.eq_1) ?_;(repeat(refine Pn.mk ?_;intro N hN))))
 refine aW (fun n env st=>∃k:Nat,n=(4)-k/\k<=(4)/\env 12=.int .i64 (k:Int)/\env 9=.int .i64 (dU s F p t k)/\st.get ⟨120000000,σ.next⟩=some ⟨true,2,[ab s]⟩/\st.get ⟨120000001,σ.next⟩=some ⟨true,2,[ae p]⟩/\(σ.next<st.next/\∀x:Id,x.ck<σ.next->st.get x=σ.get x)) (4) ⟨0,by omega,by omega,sl (tw @ae.eq_1 @ab.eq_1),sl (tw @ae.eq_1 @ab.eq_1),sl (tw @ae.eq_1 @ab.eq_1),sl (tw @ae.eq_1 @ab.eq_1),⟨by(try dsimp only);omega,fun x hx=>by
  have:=dp hx
  simp only[go_sem, ↓reduceIte,Nat.reduceEqDiff,Nat.reduceAdd,Nat.reduceSub,Nat.reduceLeDiff,reduceCtorEq,this]⟩⟩ ?_
 rintro n_a env_a st_a ⟨k,rfl,ale,a12,a9,ag0,ag1,mb⟩ dH
 have a2:=dH 2 (by kernel_rfl);have a3:=dH 3 (by kernel_rfl);have a4:=dH 4 (by kernel_rfl);have a5:=dH 5 (by kernel_rfl)
 simp only[go_sem, ↓reduceIte,Nat.reduceEqDiff,Nat.reduceAdd,Nat.reduceSub,Nat.reduceLeDiff,reduceCtorEq,ae,ab]at a2 a3 a4 a5
 clear dH
 obtain⟨an,dH⟩:=mb
 by_cases hk:(k:Int)<4
 ·have cE:∀{e:Env} {gg:Rows} {nx:Nat},(e 12=.int .i64 (IntKind.i64.wrap ((k:Int)+1)))->(e 9=.int .i64 (dU s F p t (k+1)))->(gg ⟨120000000,σ.next⟩=some ⟨true,2,[ab s]⟩)->(gg ⟨120000001,σ.next⟩=some ⟨true,2,[ae p]⟩)->(σ.next<nx/\∀x:Id,x.ck<σ.next->gg x=σ.get x)->∃m0,m0<(4)-k/\∃k:Nat,m0=(4)-k/\k<=(4)/\e 12=.int .i64 (k:Int)/\e 9=.int .i64 (dU s F p t k)/\gg ⟨120000000,σ.next⟩=some ⟨true,2,[ab s]⟩/\gg ⟨120000001,σ.next⟩=some ⟨true,2,[ae p]⟩/\(σ.next<nx/\∀x:Id,x.ck<σ.next->gg x=σ.get x):=fun x1 x2 x3 x4 x5=>⟨_,by omega,k+1,rfl,by omega,(by rw[x1,az (by omega)]),x2,x3,x4,x5⟩
  have dF:=Em p k (kP (by omega)) hx hy
  have fh:=ly hS F p t k
  (repeat(first|((repeat(revert hN;revert N;apply Pn.out));refine wk (tw @a12 (tw @a9 (tw @ag0 (tw @ag1 (tw @a2 (tw @a3 (tw @a4 (tw @a5 (tw @hk @ae.eq_1))))))))) ?_;(repeat(refine Pn.mk ?_;intro N hN)))|((try apply Or.inl);refine⟨_,aq.x (dF) (sd (tw @a12 (tw @a9 (tw @ag0 (tw @ag1 (tw @a2 (tw @a3 (tw @a4 (tw @a5 (tw @hk @ae.eq_1)))))))))),?_⟩;refine hN _ _ ?_;clear hN N)))
  refine .inl ⟨_,E6 _ (by(try dsimp only);omega) (fun x hx=>sd (dH x hx)) (dx p k),?_⟩
  refine hN _ _ ?_
  clear hN N
  by_cases h0:0<=F (dx p k)
  ·have xx:=H4 s hS.form t k (F (dx p k)) ht (hF _ h0) (kP (by omega))
   have fP:=vD hS t k (F (dx p k))
   have hw:IntKind.i64.wrap (dU s F p t k+gT s t k (F (dx p k)))=dU s F p t (k+1):=by
    rw[bF (by omega),dU,if_pos h0]
   rw[ab]at xx
   (repeat(first|((repeat(revert hN;revert N;apply Pn.out));refine wk (tw @a12 (tw @a9 (tw @ag0 (tw @ag1 (tw @a2 (tw @a3 (tw @a4 (tw @a5 (tw @h0 @ab.eq_1))))))))) ?_;(repeat(refine Pn.mk ?_;intro N hN)))|((try apply Or.inl);refine⟨_,aq.x (xx) (sd (tw @a12 (tw @a9 (tw @ag0 (tw @ag1 (tw @a2 (tw @a3 (tw @a4 (tw @a5 (tw @h0 @ab.eq_1)))))))))),?_⟩;refine hN _ _ ?_;clear hN N)))
   refine cE ?_ ?_ ?_ ?_ (⟨by(try dsimp only);omega,fun x hx=>by
    have h1:=dH x hx
    simp only[go_sem, ↓reduceIte,Nat.reduceEqDiff,Nat.reduceAdd,Nat.reduceSub,Nat.reduceLeDiff,reduceCtorEq,h1]⟩)
   all_goals simp only[go_sem, ↓reduceIte,Nat.reduceEqDiff,Nat.reduceAdd,Nat.reduceSub,Nat.reduceLeDiff,reduceCtorEq,a12,a9,ag0,ag1,a2,a3,a4,a5,hw,ae,ab]
  ·have hw:dU s F p t (k+1)=dU s F p t k:=by rw[dU,if_neg h0,Int.add_zero]
   (try((repeat(revert hN;revert N;apply Pn.out));refine wk (tw @a12 (tw @a9 (tw @ag0 (tw @ag1 (tw @a2 (tw @a3 (tw @a4 (tw @a5 @h0)))))))) ?_;(repeat(refine Pn.mk ?_;intro N hN))))
   refine cE ?_ ?_ ?_ ?_ (⟨by(try dsimp only);omega,fun x hx=>by
    have h1:=dH x hx
    simp only[go_sem, ↓reduceIte,Nat.reduceEqDiff,Nat.reduceAdd,Nat.reduceSub,Nat.reduceLeDiff,reduceCtorEq,h1]⟩)
   all_goals simp only[go_sem, ↓reduceIte,Nat.reduceEqDiff,Nat.reduceAdd,Nat.reduceSub,Nat.reduceLeDiff,reduceCtorEq,a12,a9,ag0,ag1,a2,a3,a4,a5,hw,ae,ab]
 ·(try((repeat(revert hN;revert N;apply Pn.out));refine wk (tw @a12 (tw @a9 (tw @ag0 (tw @ag1 (tw @a2 (tw @a3 (tw @a4 (tw @a5 @hk)))))))) ?_;(repeat(refine Pn.mk ?_;intro N hN))))
  exact fx (.inl rfl) (vs:=[.int .i64 (dU s F p t k)]) (sd (tw @a12 (tw @a9 (tw @ag0 (tw @ag1 (tw @a2 (tw @a3 (tw @a4 @a5)))))))) (by rw[show k=4 by omega];rfl)
end Go.Proofs.YtgoelphibofcmaaGreat.V

namespace Go.Proofs.YtgoelphibofcmaaGreat.V
open Go.RowKit
attribute [local irreducible] dG wpOps gy Call
attribute [local go_sem] aM fF eP ga fW cQ upd cz K.av cR AV.cells AV.cell rowOf rowsOf part ld rowAt bq cu dD ee ik bJ dh ev fU eX dr ej dd dc dQ dR bQ bf cW bP cY cX eh ek ei cV cj de ef bK aO da cG ij bw cK bU aY dn aZ dE AV.undef bD bG dV ec dM dK cH eu ew cF ep eo cZ db List.getD_cons_zero List.getD_cons_succ List.getD_nil List.all_cons List.all_nil Bool.and_true Bool.true_and Bool.and_self Bool.not_true Bool.not_false Option.map_some Option.map_none Option.bind_some Option.bind_none List.length_cons List.length_nil List.take_succ_cons List.take_zero List.take_nil List.drop_succ_cons List.drop_zero List.drop_nil List.head?_cons List.map_cons List.map_nil List.getElem?_cons_zero List.getElem?_cons_succ List.cons_append List.nil_append List.append_nil List.length_map List.set_cons_zero List.set_cons_succ Nat.reduceMul eq_self Int.toNat_natCast Int.natCast_nonneg and_self true_and and_true decide_true decide_false Bool.false_eq_true Nat.zero_add Nat.add_zero List.contains_cons List.contains_nil Bool.or_false Bool.false_or beq_self_eq_true Nat.reduceBEq ne_eq not_true_eq_false not_false_eq_true Id.mk.injEq false_and and_false Nat.reduceLT Int.reduceLE Int.reduceLT Int.reduceToNat Int.reduceNeg Int.reduceAdd Nat.le_refl List.length_append beq_true beq_false Bool.not_eq_eq_eq_not or_false false_or dL ai aj aH bl bB cw aX bd aU bh cU bH
noncomputable def j4 (s:aA) (ts:List ad) (p:aD) (t:Int):Bool:=Cj p&&decide (gC ts p<0)&&decide (s.aB<=tH s.aE (gC ts) p t)
theorem FV {σ:ar} {c T O:Id} {s:aA} {ts:List ad} (h:CF σ.get σ.next c T O s ts) (hS:iF s.aE) (hF:∀q,0<=gC ts q->eL s.aE (gC ts q)=true) (p:aD) (hx:iB p.eZ) (hy:iB p.eT) (t:Int) (ht:eL s.aE t=true):
  gy (Call Tryz.prog) 120 [.agg (ab s.aE),.agg (ae p),.int .i64 t,.tY 121 [.ptr c 0 0]] σ (fun r=>r=.int .i64 (tH s.aE (gC ts) p t)):=by
 unfold gy PC
 exact Or.inl (aI _ _ _ _ _ (fun r σ' hr=>⟨_,by rw[hr];exact aH _ _ _ _,rfl⟩) (FU (σ:=⟨V.ro σ.get,σ.next⟩) s.aE hS (gC ts) hF p hx hy t ht _ _
  (fun σ' hn hk q=>Ny (h.ro.frame hn (hk _ h.cv) (hk _ h.tv)) q)))
theorem NN {σ:ar} {c T O:Id} {s:aA} {ts:List ad} (h:CF σ.get σ.next c T O s ts) (hS:iF s.aE) (hF:∀q,0<=gC ts q->eL s.aE (gC ts q)=true) (p:aD) (t:Int) (ht:eL s.aE t=true):
  Call Tryz.prog 133 [.ptr c 0 0,.agg (ae p),.int .i64 t] σ (fun r _=>r=.bool (j4 s ts p t)):=by
 refine eU eC rfl fun ml=>?_
 clear ml
 obtain⟨b,h1⟩:=h.row
 have v1:=dp h.cv
 have hw:=rj p
 have v2:=dp h.tv
 by_cases h0:Cj p=true
 ·rw[h0]at hw
  obtain⟨hx,hy⟩:=tj h0
  by_cases h2:gC ts p<0
  ·(repeat(first|((repeat(revert hN;revert N;apply Pn.out));refine wk (tw @h1 (tw @v1 (tw @h2 @ae.eq_1))) ?_;(repeat(refine Pn.mk ?_;intro N hN)))|((try apply Or.inl);refine⟨_,aq.x (hw) (sd (tw @h1 (tw @v1 (tw @h2 @ae.eq_1)))),?_⟩;refine hN _ _ ?_;clear hN N)))
   refine⟨_,Ny (h.frame (by(try dsimp only);omega) (sd @v1) (sd @v2)) p,?_⟩
   refine hN _ _ ?_
   clear hN N
   (repeat(first|((repeat(revert hN;revert N;apply Pn.out));refine wk (tw @h1 (tw @v1 (tw @h2 (tw @ae.eq_1 @ab.eq_1)))) ?_;(repeat(refine Pn.mk ?_;intro N hN)))|((try apply Or.inl);refine⟨_,aq.x (hw) (sd (tw @h1 (tw @v1 (tw @h2 (tw @ae.eq_1 @ab.eq_1))))),?_⟩;refine hN _ _ ?_;clear hN N)))
   refine⟨_,FV (h.frame (by(try dsimp only);omega) (sd @v1) (sd @v2)) hS hF p hx hy t ht,?_⟩
   refine hN _ _ ?_
   clear hN N
   have hb:=ly hS (gC ts) p t 4
   (repeat(first|((repeat(revert hN;revert N;apply Pn.out));refine wk (tw @h1 (tw @v1 (tw @h2 (tw @ae.eq_1 @ab.eq_1)))) ?_;(repeat(refine Pn.mk ?_;intro N hN)))|((try apply Or.inl);refine⟨_,aq.x (hw) (sd (tw @h1 (tw @v1 (tw @h2 (tw @ae.eq_1 @ab.eq_1))))),?_⟩;refine hN _ _ ?_;clear hN N)))
   exact fx (.inl rfl) (vs:=[.bool (decide (s.aB<=tH s.aE (gC ts) p t))]) (sd @Nat.zero_add) (by rw[show j4 s ts p t=decide (s.aB<=tH s.aE (gC ts) p t) by simp[j4,h0,h2]];rfl)
  ·(repeat(first|((repeat(revert hN;revert N;apply Pn.out));refine wk (tw @h1 (tw @v1 (tw @h2 @ae.eq_1))) ?_;(repeat(refine Pn.mk ?_;intro N hN)))|((try apply Or.inl);refine⟨_,aq.x (hw) (sd (tw @h1 (tw @v1 (tw @h2 @ae.eq_1)))),?_⟩;refine hN _ _ ?_;clear hN N)))
   refine⟨_,Ny (h.frame (by(try dsimp only);omega) (sd @v1) (sd @v2)) p,?_⟩
   refine hN _ _ ?_
   clear hN N
   (repeat(first|((repeat(revert hN;revert N;apply Pn.out));refine wk (tw @h1 (tw @v1 (tw @h2 @ae.eq_1))) ?_;(repeat(refine Pn.mk ?_;intro N hN)))|((try apply Or.inl);refine⟨_,aq.x (hw) (sd (tw @h1 (tw @v1 (tw @h2 @ae.eq_1)))),?_⟩;refine hN _ _ ?_;clear hN N)))
   exact fx (.inl rfl) (vs:=[.bool false]) (sd @Nat.zero_add) (by rw[show j4 s ts p t=false by simp[j4,h2]];rfl)
 ·rw[Bool.not_eq_true]at h0
  rw[h0]at hw
  (repeat(first|((repeat(revert hN;revert N;apply Pn.out));refine wk (tw @h1 (tw @v1 @ae.eq_1)) ?_;(repeat(refine Pn.mk ?_;intro N hN)))|((try apply Or.inl);refine⟨_,aq.x (hw) (sd (tw @h1 (tw @v1 @ae.eq_1))),?_⟩;refine hN _ _ ?_;clear hN N)))
  exact fx (.inl rfl) (vs:=[.bool false]) (sd @Nat.zero_add) (by rw[show j4 s ts p t=false by simp[j4,h0]];rfl)
end Go.Proofs.YtgoelphibofcmaaGreat.V

namespace Go.Proofs.YtgoelphibofcmaaGreat.V
open Go.RowKit
attribute [local irreducible] dG wpOps gy Call
attribute [local go_sem] aM fF eP ga fW cQ upd cz K.av cR AV.cells AV.cell rowOf rowsOf part ld rowAt bq cu dD ee ik bJ dh ev fU eX dr ej dd dc dQ dR bQ bf cW bP cY cX eh ek ei cV cj de ef bK aO da cG ij bw cK bU aY dn aZ dE AV.undef bD bG dV ec dM dK cH eu ew cF ep eo cZ db List.getD_cons_zero List.getD_cons_succ List.getD_nil List.all_cons List.all_nil Bool.and_true Bool.true_and Bool.and_self Bool.not_true Bool.not_false Option.map_some Option.map_none Option.bind_some Option.bind_none List.length_cons List.length_nil List.take_succ_cons List.take_zero List.take_nil List.drop_succ_cons List.drop_zero List.drop_nil List.head?_cons List.map_cons List.map_nil List.getElem?_cons_zero List.getElem?_cons_succ List.cons_append List.nil_append List.append_nil List.length_map List.set_cons_zero List.set_cons_succ Nat.reduceMul eq_self Int.toNat_natCast Int.natCast_nonneg and_self true_and and_true decide_true decide_false Bool.false_eq_true Nat.zero_add Nat.add_zero List.contains_cons List.contains_nil Bool.or_false Bool.false_or beq_self_eq_true Nat.reduceBEq ne_eq not_true_eq_false not_false_eq_true Id.mk.injEq false_and and_false Nat.reduceLT Int.reduceLE Int.reduceLT Int.reduceToNat Int.reduceNeg Int.reduceAdd Nat.le_refl List.length_append beq_true beq_false Bool.not_eq_eq_eq_not or_false false_or dL ai aj aH bl bB cw aX bd aU bh cU bH
def OW (rows:List (List AV)):Prop:=∀r∈rows,∃(x y:Int) (v:AV),r=[.int .i64 x,.int .i64 y,v]
theorem Fy (x y:Int):∀(rows:List (List AV)) (i:Nat),OW rows->∃fi,gi mP [.int .i64 x,.int .i64 y] rows i=some fi
 |[],i,_=>⟨none,by simp[gi]⟩
 |r::rs,i,h=>by
  obtain⟨fi,hf⟩:=Fy x y rs (i+1) fun r hr=>h r (by simp[hr])
  obtain⟨x',y',v,rfl⟩:=h r (by simp)
  unfold gi
  have e:eX mP.ts [.int .i64 x,.int .i64 y] (([.int .i64 x',.int .i64 y',v]:List AV).take mP.ks)=some (decide (x=x')&&decide (y=y')):=by
   simp[MK.ks,eX,fU]
  rw[e]
  cases decide (x=x')&&decide (y=y')
  ·exact⟨fi,hf⟩
  ·exact⟨some i,rfl⟩
theorem Ci {rows:List (List AV)} (h:OW rows) (x y:Int):∃fi,fM mP (.agg [.int .i64 x,.int .i64 y]) rows=some fi:=by
 unfold fM
 rw[if_pos ⟨rfl,rfl,rfl⟩]
 exact Fy x y rows 0 h
theorem OU {rows:List (List AV)} (h:OW rows) (x y:Int) (v:AV) (fi:Option Nat):OW (dM rows [.int .i64 x,.int .i64 y,v] fi):=by
 intro r hr
 cases fi with
 |none=>
  rcases List.mem_append.1 (show r∈rows++[_]from hr)with h1|h1
  ·exact h r h1
  ·simp at h1;exact⟨x,y,v,h1⟩
 |some i=>
  rcases List.mem_or_eq_of_mem_set (show r∈rows.set i _ from hr)with h1|h1
  ·exact h r h1
  ·exact⟨x,y,v,h1⟩
theorem JF {rows:List (List AV)} (h:OW rows) (fi:Option Nat):OW (dK rows fi):=by
 intro r hr
 cases fi with
 |none=>exact h r (by simpa[dK]using hr)
 |some i=>exact h r (List.mem_of_mem_eraseIdx (by simpa[dK]using hr))
def iK (σ:ar) (O:Id) (g:Rows) (n:Nat):Prop:=σ.next<=n/\(∀x:Id,x.ck<σ.next->x≠O->g x=σ.get x)/\∃rows,g O=some ⟨true,mP.pG,rows⟩/\OW rows
theorem iK.xw {σ:ar} {g:Rows} {n:Nat} {c T O:Id} {s:aA} {ts:List ad} (h:CF σ.get σ.next c T O s ts) (hc:c≠O) (hT:T≠O) (k:iK σ O g n):CF g n c T O s ts:=
 h.frame k.1 (k.2.1 _ h.cv hc) (k.2.1 _ h.tv hT)
theorem iK.trans {a b:ar} {O:Id} {g:Rows} {n:Nat} (h:iK a O b.get b.next) (k:iK b O g n):iK a O g n:=
 ⟨Nat.le_trans h.1 k.1,fun x hx hO=>(k.2.1 x (Nat.lt_of_lt_of_le hx h.1) hO).trans (h.2.1 x hx hO),k.2.2⟩
theorem iK.frame {a:ar} {O:Id} {g g':Rows} {n n' m:Nat} (h:iK a O g n) (ha:a.next<=m) (ho:O.ck<m) (hn:n<=n') (hf:∀x:Id,x.ck<m->g' x=g x):iK a O g' n':=by
 refine⟨Nat.le_trans h.1 hn,fun x hx hO=>(hf x (Nat.lt_of_lt_of_le hx ha)).trans (h.2.1 x hx hO),?_⟩
 obtain⟨rows,h1,h2⟩:=h.2.2
 exact⟨rows,(hf O ho).trans h1,h2⟩
theorem iK.write {a:ar} {O:Id} {g g':Rows} {n n':Nat} (h:iK a O g n) (hn:n<=n') (hf:∀x:Id,x.ck<a.next->x≠O->g' x=g x) {rows:List (List AV)} (ho:g' O=some ⟨true,mP.pG,rows⟩) (hw:OW rows):iK a O g' n':=
 ⟨Nat.le_trans h.1 hn,fun x hx hO=>(hf x hx hO).trans (h.2.1 x hx hO),rows,ho,hw⟩
theorem Ip {σ:ar} {c T O:Id} {s:aA} {ts:List ad} (h:CF σ.get σ.next c T O s ts) (hS:iF s.aE) (hF:∀q,0<=gC ts q->eL s.aE (gC ts q)=true) (p:aD) (t:Int) (ht:eL s.aE t=true):
  gy (Call Tryz.prog) 133 [.ptr c 0 0,.agg (ae p),.int .i64 t] σ (fun r=>r=.bool (j4 s ts p t)):=by
 unfold gy PC
 exact Or.inl (aI _ _ _ _ _ (fun r σ' hr=>⟨_,by rw[hr];exact bl _ _ _,rfl⟩) (NN (σ:=⟨V.ro σ.get,σ.next⟩) h.ro hS hF p t ht))
theorem rR {σ:ar} {c T O:Id} {s:aA} {ts:List ad} (h:CF σ.get σ.next c T O s ts) (hc:c≠O) (hT:T≠O) (hO:∃rows,σ.get O=some ⟨true,mP.pG,rows⟩/\OW rows) (hS:iF s.aE) (hF:∀q,0<=gC ts q->eL s.aE (gC ts q)=true) (p:aD) (hx:iB p.eZ) (hy:iB p.eT):
  Call Tryz.prog 127 [.ptr c 0 0,.agg (ae p)] σ (fun r σ'=>r=.gJ []/\iK σ O σ'.get σ'.next):=by
 refine eU eC rfl fun ml=>?_
 clear ml
 have OE:=hS.Kd
 have h0:iK σ O σ.get σ.next:=⟨Nat.le_refl _,fun _ _ _=>rfl,hO⟩
 (try((repeat(revert hN;revert N;apply Pn.out));refine wk @ae.eq_1 ?_;(repeat(refine Pn.mk ?_;intro N hN))))
 refine aW (fun n env st=>∃k:Nat,n=(4)-k/\k<=(4)/\env 8=.int .i64 (k:Int)/\st.get ⟨127000000,σ.next⟩=some ⟨true,2,[ae p]⟩/\(σ.next<st.next/\iK σ O st.get st.next)) (4) ⟨0,by omega,by omega,sl @ae.eq_1,sl @ae.eq_1,⟨by(try dsimp only);omega,h0.frame (Nat.le_refl _) h.ov (by(try dsimp only);omega) fun x hx=>by
  have:=dp hx
  simp only[go_sem, ↓reduceIte,Nat.reduceEqDiff,Nat.reduceAdd,Nat.reduceSub,Nat.reduceLeDiff,reduceCtorEq,this]⟩⟩ ?_
 rintro n_a env_a st_a ⟨k,rfl,ale,a8,ag0,mb⟩ dH
 have a0:=dH 0 (by kernel_rfl);have a3:=dH 3 (by kernel_rfl)
 simp only[go_sem, ↓reduceIte,Nat.reduceEqDiff,Nat.reduceAdd,Nat.reduceSub,Nat.reduceLeDiff,reduceCtorEq,ae]at a0 a3
 clear dH
 obtain⟨an,ak⟩:=mb
 have ha:=ak.xw h hc hT
 by_cases hk:(k:Int)<4
 ·have cE:∀{e:Env} {gg:Rows} {nx:Nat},(e 8=.int .i64 (IntKind.i64.wrap ((k:Int)+1)))->(gg ⟨127000000,σ.next⟩=some ⟨true,2,[ae p]⟩)->(σ.next<nx/\iK σ O gg nx)->∃m0,m0<(4)-k/\∃k:Nat,m0=(4)-k/\k<=(4)/\e 8=.int .i64 (k:Int)/\gg ⟨127000000,σ.next⟩=some ⟨true,2,[ae p]⟩/\(σ.next<nx/\iK σ O gg nx):=fun x1 x2 x3=>⟨_,by omega,k+1,rfl,by omega,(by rw[x1,az (by omega)]),x2,x3⟩
  have dF:=Em p k (kP (by omega)) hx hy
  obtain⟨b,h1⟩:=ha.row
  have v1:=dp ha.cv
  (repeat(first|((repeat(revert hN;revert N;apply Pn.out));refine wk (tw @a8 (tw @ag0 (tw @a0 (tw @a3 (tw @hk (tw @h1 (tw @v1 @ae.eq_1))))))) ?_;(repeat(refine Pn.mk ?_;intro N hN)))|((try apply Or.inl);refine⟨_,aq.x (dF) (sd (tw @a8 (tw @ag0 (tw @a0 (tw @a3 (tw @hk (tw @h1 (tw @v1 @ae.eq_1)))))))),?_⟩;refine hN _ _ ?_;clear hN N)))
  refine aW (fun n env st=>∃t:Nat,n=(s.aE.ah.length)-t/\t<=(s.aE.ah.length)/\env 21=.int .i64 (t:Int)/\st.get ⟨127000000,σ.next⟩=some ⟨true,2,[ae p]⟩/\st.get ⟨127004003,st_a.next+1+1⟩=some ⟨true,2,[ae (dx p k)]⟩/\(st_a.next+3<=st.next/\iK σ O st.get st.next/\(env 6=.cm∨∃(o:Id) (n:Nat) (rows:List (List AV)),env 6=.own o 0 n/\st.get o=some ⟨true,1,rows⟩/\rows.length=n/\0<n/\n<=t/\st_a.next+3<=o.ck/\o.ck<st.next))) (s.aE.ah.length) ⟨0,by omega,by omega,sl (tw @a8 (tw @ag0 (tw @a0 (tw @a3 @ae.eq_1)))),sl (tw @a8 (tw @ag0 (tw @a0 (tw @a3 @ae.eq_1)))),sl (tw @a8 (tw @ag0 (tw @a0 (tw @a3 @ae.eq_1)))),⟨by(try dsimp only);omega,ak.frame ak.1 ha.ov (by(try dsimp only);omega) fun x hx=>(by
   have:=dp hx
   simp only[go_sem, ↓reduceIte,Nat.reduceEqDiff,Nat.reduceAdd,Nat.reduceSub,Nat.reduceLeDiff,reduceCtorEq,this]),.inl (sd @Nat.zero_add)⟩⟩ ?_
  rintro n_b env_b st_b ⟨t,rfl,ble,b21,bg0,bg1,bI0⟩ fY
  have b0:=fY 0 (by kernel_rfl);have b3:=fY 3 (by kernel_rfl);have b5:=fY 5 (by kernel_rfl);have b8:=fY 8 (by kernel_rfl);have Ht:=fY 20 (by kernel_rfl)
  simp only[go_sem, ↓reduceIte,Nat.reduceEqDiff,Nat.reduceAdd,Nat.reduceSub,Nat.reduceLeDiff,reduceCtorEq,a8,ag0,a0,a3,ae]at b0 b3 b5 b8 Ht
  clear fY
  obtain⟨bn,bk,b6⟩:=bI0
  have Oa:=bk.xw h hc hT
  obtain⟨b2,h2⟩:=Oa.row
  have v2:=dp Oa.cv
  have vt:=dp (i:=⟨127000000,σ.next⟩) (n:=st_b.next) (by(try dsimp only);omega)
  have vq:=dp (i:=⟨127004003,st_a.next+1+1⟩) (n:=st_b.next) (by(try dsimp only);omega)
  by_cases ht:(t:Int)<(s.aE.ah.length:Int)
  ·have gj:∀{e:Env} {gg:Rows} {nx:Nat},(e 21=.int .i64 (IntKind.i64.wrap ((t:Int)+1)))->(gg ⟨127000000,σ.next⟩=some ⟨true,2,[ae p]⟩)->(gg ⟨127004003,st_a.next+1+1⟩=some ⟨true,2,[ae (dx p k)]⟩)->(st_a.next+3<=nx/\iK σ O gg nx/\(e 6=.cm∨∃(o:Id) (n:Nat) (rows:List (List AV)),e 6=.own o 0 n/\gg o=some ⟨true,1,rows⟩/\rows.length=n/\0<n/\n<=(t+1)/\st_a.next+3<=o.ck/\o.ck<nx))->∃m0,m0<(s.aE.ah.length)-t/\∃t:Nat,m0=(s.aE.ah.length)-t/\t<=(s.aE.ah.length)/\e 21=.int .i64 (t:Int)/\gg ⟨127000000,σ.next⟩=some ⟨true,2,[ae p]⟩/\gg ⟨127004003,st_a.next+1+1⟩=some ⟨true,2,[ae (dx p k)]⟩/\(st_a.next+3<=nx/\iK σ O gg nx/\(e 6=.cm∨∃(o:Id) (n:Nat) (rows:List (List AV)),e 6=.own o 0 n/\gg o=some ⟨true,1,rows⟩/\rows.length=n/\0<n/\n<=t/\st_a.next+3<=o.ck/\o.ck<nx)):=fun x1 x2 x3 x4=>⟨_,by omega,t+1,rfl,by omega,(by rw[x1,az (by omega)]),x2,x3,x4⟩
   have Rh:t<s.aE.ah.length:=by omega
   (try((repeat(revert hN;revert N;apply Pn.out));refine wk (tw @b21 (tw @bg0 (tw @bg1 (tw @b0 (tw @b3 (tw @b5 (tw @b8 (tw @Ht (tw @ht (tw @h2 (tw @v2 (tw @vt (tw @vq @ae.eq_1))))))))))))) ?_;(repeat(refine Pn.mk ?_;intro N hN))))
   refine .inl ⟨_,Ip (Oa.frame (by(try dsimp only);omega) (sd @v2) (by(have:=dp Oa.tv);simp only[go_sem, ↓reduceIte,Nat.reduceEqDiff,Nat.reduceAdd,Nat.reduceSub,Nat.reduceLeDiff,reduceCtorEq,this])) hS hF (dx p k) t (Kc Rh),?_⟩
   refine hN _ _ ?_
   clear hN N
   have jA:∀x:Id,x.ck<st_b.next->x≠⟨127010002,st_b.next+1+1+1⟩:=fun x hx h=>by rw[h]at hx;(try dsimp only at hx);omega
   cases hb:j4 s ts (dx p k) t
   ·(try((repeat(revert hN;revert N;apply Pn.out));refine wk (tw @b21 (tw @bg0 (tw @bg1 (tw @b0 (tw @b3 (tw @b5 (tw @b8 (tw @Ht @hb)))))))) ?_;(repeat(refine Pn.mk ?_;intro N hN))))
    refine gj ?_ ?_ ?_ (by(try dsimp only);exact⟨by omega,bk.frame bk.1 Oa.ov (by omega) (fun x hx=>by
      have h1:=dp (i:=x) (n:=st_b.next) (by omega)
      simp only[go_sem, ↓reduceIte,Nat.reduceEqDiff,Nat.reduceAdd,Nat.reduceSub,Nat.reduceLeDiff,reduceCtorEq,h1]),by
     rcases b6 with h|⟨o,n,rows,h1,h2,h3,h4,h5,h6,h7⟩
     ·exact .inl (sd @h)
     ·have h8:=dp h7
      exact .inr ⟨o,n,rows,sd @h1,sd (tw @h2 @h8),h3,h4,by omega,h6,by omega⟩⟩)
    all_goals simp only[go_sem, ↓reduceIte,Nat.reduceEqDiff,Nat.reduceAdd,Nat.reduceSub,Nat.reduceLeDiff,reduceCtorEq,b21,bg0,bg1,b0,b3,b5,b8,Ht,ae,vt,vq]
   ·rcases b6 with b6|⟨o,n,rows,b6,bo,o3,o4,o5,o6,o7⟩
    ·(try((repeat(revert hN;revert N;apply Pn.out));refine wk (tw @b21 (tw @bg0 (tw @bg1 (tw @b0 (tw @b3 (tw @b5 (tw @b8 (tw @Ht (tw @b6 @hb))))))))) ?_;(repeat(refine Pn.mk ?_;intro N hN))))
     refine gj ?_ ?_ ?_ (by(try dsimp only);exact⟨by omega,bk.frame (m:=st_a.next) ak.1 ha.ov (by omega) (fun x hx=>by
      have h1:=dp (i:=x) (n:=st_b.next) (by omega)
      simp only[go_sem, ↓reduceIte,Nat.reduceEqDiff,Nat.reduceAdd,Nat.reduceSub,Nat.reduceLeDiff,reduceCtorEq,h1]),.inr ⟨⟨127010003,st_b.next+1+1+1⟩,1,[[.int .i64 t]],sl @Nat.zero_add,sd @Nat.zero_add,rfl,by omega,by omega,by(try dsimp only);omega,by(try dsimp only);omega⟩⟩)
     all_goals simp only[go_sem, ↓reduceIte,Nat.reduceEqDiff,Nat.reduceAdd,Nat.reduceSub,Nat.reduceLeDiff,reduceCtorEq,b21,bg0,bg1,b0,b3,b5,b8,Ht,ae,vt,vq]
    ·subst o3
     have e1:rows.length<=16777215:=by omega
     have vo:=dp o7
     have vto:=cr (a:=⟨127000000,σ.next⟩) (b:=o) (by(try dsimp only);omega)
     have vqo:=cr (a:=⟨127004003,st_a.next+1+1⟩) (b:=o) (by(try dsimp only);omega)
     (try((repeat(revert hN;revert N;apply Pn.out));refine wk (tw @b21 (tw @bg0 (tw @bg1 (tw @b0 (tw @b3 (tw @b5 (tw @b8 (tw @Ht (tw @b6 (tw @bo (tw @hb (tw @e1 @vo)))))))))))) ?_;(repeat(refine Pn.mk ?_;intro N hN))))
     refine gj ?_ ?_ ?_ (by(try dsimp only);exact⟨by omega,bk.frame (m:=st_a.next) ak.1 ha.ov (by omega) (fun x hx=>by
      have h1:=dp (i:=x) (n:=st_b.next) (by omega)
      have h2:=cr (a:=x) (b:=o) (by omega)
      simp only[go_sem, ↓reduceIte,Nat.reduceEqDiff,Nat.reduceAdd,Nat.reduceSub,Nat.reduceLeDiff,reduceCtorEq,h1,h2]),.inr ⟨⟨127010003,st_b.next+1+1+1⟩,rows.length+1,rows++[[.int .i64 t]],sl @Nat.zero_add,sd @Nat.zero_add,by simp,by omega,by omega,by(try dsimp only);omega,by(try dsimp only);omega⟩⟩)
     all_goals simp only[go_sem, ↓reduceIte,Nat.reduceEqDiff,Nat.reduceAdd,Nat.reduceSub,Nat.reduceLeDiff,reduceCtorEq,b21,bg0,bg1,b0,b3,b5,b8,Ht,ae,vt,vq,vto,vqo]
  ·obtain⟨rows,hg,UM⟩:=bk.2.2
   have vo:=dp Oa.ov
   obtain⟨fi,Gl⟩:=Ci UM (dx p k).eZ (dx p k).eT
   have hq:((⟨127000000,σ.next⟩:Id)=O)=False:=(cr (a:=O) (b:=⟨127000000,σ.next⟩) (by have:=h.ov;(try dsimp only);omega)).2
   rcases b6 with b6|⟨o,n,Na,b6,bo,o3,o4,o5,o6,o7⟩
   ·have d0:decide ((0:Int)<((0:Nat):Int))=false:=rfl
    (try((repeat(revert hN;revert N;apply Pn.out));refine wk (tw @b21 (tw @bg0 (tw @bg1 (tw @b0 (tw @b3 (tw @b5 (tw @b8 (tw @Ht (tw @b6 (tw @ht (tw @h2 (tw @v2 (tw @vt (tw @vq (tw @vo (tw @hg (tw @Gl (tw @ae.eq_1 @d0)))))))))))))))))) ?_;(repeat(refine Pn.mk ?_;intro N hN))))
    refine cE ?_ ?_ (by(try dsimp only);exact⟨by omega,bk.write (by omega) (fun x hx M5=>by
     have h1:=dp (i:=x) (n:=st_b.next) (by omega)
     have h2:(x=O)=False:=eq_false M5
     simp only[go_sem, ↓reduceIte,Nat.reduceEqDiff,Nat.reduceAdd,Nat.reduceSub,Nat.reduceLeDiff,reduceCtorEq,h1,h2]) (sl @Nat.zero_add) (JF UM _)⟩)
    all_goals simp only[go_sem, ↓reduceIte,Nat.reduceEqDiff,Nat.reduceAdd,Nat.reduceSub,Nat.reduceLeDiff,reduceCtorEq,a8,ag0,a0,a3,b21,bg0,bg1,b0,b3,b5,b8,Ht,ae,vt,vo,hq]
   ·have d1:decide ((0:Int)<(n:Int))=true:=decide_eq_true (by omega)
    (try((repeat(revert hN;revert N;apply Pn.out));refine wk (tw @b21 (tw @bg0 (tw @bg1 (tw @b0 (tw @b3 (tw @b5 (tw @b8 (tw @Ht (tw @b6 (tw @ht (tw @h2 (tw @v2 (tw @vt (tw @vq (tw @vo (tw @hg (tw @Gl (tw @ae.eq_1 @d1)))))))))))))))))) ?_;(repeat(refine Pn.mk ?_;intro N hN))))
    refine cE ?_ ?_ (by(try dsimp only);exact⟨by omega,bk.write (by omega) (fun x hx M5=>by
     have h1:=dp (i:=x) (n:=st_b.next) (by omega)
     have h2:(x=O)=False:=eq_false M5
     simp only[go_sem, ↓reduceIte,Nat.reduceEqDiff,Nat.reduceAdd,Nat.reduceSub,Nat.reduceLeDiff,reduceCtorEq,h1,h2]) (sl @Nat.zero_add) (OU UM _ _ _ _)⟩)
    all_goals simp only[go_sem, ↓reduceIte,Nat.reduceEqDiff,Nat.reduceAdd,Nat.reduceSub,Nat.reduceLeDiff,reduceCtorEq,a8,ag0,a0,a3,b21,bg0,bg1,b0,b3,b5,b8,Ht,ae,vt,vo,hq]
 ·(try((repeat(revert hN;revert N;apply Pn.out));refine wk (tw @a8 (tw @ag0 (tw @a0 (tw @a3 @hk)))) ?_;(repeat(refine Pn.mk ?_;intro N hN))))
  exact fx (.inr rfl) (vs:=[]) rfl ⟨rfl,ak.frame ak.1 ha.ov (by(try dsimp only);omega) (fun x hx=>rfl)⟩
end Go.Proofs.YtgoelphibofcmaaGreat.V

namespace Go.Proofs.YtgoelphibofcmaaGreat.V
open Go.RowKit
attribute [local irreducible] dG wpOps gy Call
attribute [local go_sem] aM fF eP ga fW cQ upd cz K.av cR AV.cells AV.cell rowOf rowsOf part ld rowAt bq cu dD ee ik bJ dh ev fU eX dr ej dd dc dQ dR bQ bf cW bP cY cX eh ek ei cV cj de ef bK aO da cG ij bw cK bU aY dn aZ dE AV.undef bD bG dV ec dM dK cH eu ew cF ep eo cZ db List.getD_cons_zero List.getD_cons_succ List.getD_nil List.all_cons List.all_nil Bool.and_true Bool.true_and Bool.and_self Bool.not_true Bool.not_false Option.map_some Option.map_none Option.bind_some Option.bind_none List.length_cons List.length_nil List.take_succ_cons List.take_zero List.take_nil List.drop_succ_cons List.drop_zero List.drop_nil List.head?_cons List.map_cons List.map_nil List.getElem?_cons_zero List.getElem?_cons_succ List.cons_append List.nil_append List.append_nil List.length_map List.set_cons_zero List.set_cons_succ Nat.reduceMul eq_self Int.toNat_natCast Int.natCast_nonneg and_self true_and and_true decide_true decide_false Bool.false_eq_true Nat.zero_add Nat.add_zero List.contains_cons List.contains_nil Bool.or_false Bool.false_or beq_self_eq_true Nat.reduceBEq ne_eq not_true_eq_false not_false_eq_true Id.mk.injEq false_and and_false Nat.reduceLT Int.reduceLE Int.reduceLT Int.reduceToNat Int.reduceNeg Int.reduceAdd Nat.le_refl List.length_append beq_true beq_false Bool.not_eq_eq_eq_not or_false false_or dL ai aj aH bl bB cw aX bd aU bh cU bH
structure lR (g:Rows) (n:Nat) (c T O:Id) (s:aA) (ts:List ad):Prop where
 row:g c=some ⟨true,6,[[.sl (s.aE.ax.map bI),.sl (s.aE.ah.map bE),.sl (s.bc.ah.map aa),.int .i64 s.aB,.map T mP,.map O mP]]⟩
 tl:g T=some ⟨true,mP.pG,ts.map aa⟩
 op:∃rows,g O=some ⟨true,mP.pG,rows⟩/\OW rows
 cv:c.ck<n
 tv:T.ck<n
 ov:O.ck<n
 cT:c≠T
 cO:c≠O
 TO:T≠O
theorem lR.xw {g:Rows} {n:Nat} {c T O:Id} {s:aA} {ts:List ad} (h:lR g n c T O s ts):CF g n c T O s ts:=⟨⟨_,h.row⟩,⟨_,h.tl⟩,h.cv,h.tv,h.ov⟩
theorem lR.look {σ:ar} {g:Rows} {n:Nat} {c T O:Id} {s:aA} {ts:List ad} (h:lR σ.get σ.next c T O s ts) (k:iK σ O g n):lR g n c T O s ts:=
 ⟨(k.2.1 _ h.cv h.cO).trans h.row,(k.2.1 _ h.tv h.TO).trans h.tl,k.2.2,Nat.lt_of_lt_of_le h.cv k.1,Nat.lt_of_lt_of_le h.tv k.1,Nat.lt_of_lt_of_le h.ov k.1,h.cT,h.cO,h.TO⟩
theorem lR.frame {g g':Rows} {n n':Nat} {c T O:Id} {s:aA} {ts:List ad} (h:lR g n c T O s ts) (hn:n<=n') (hf:∀x:Id,x.ck<n->g' x=g x):lR g' n' c T O s ts:=
 ⟨(hf _ h.cv).trans h.row,(hf _ h.tv).trans h.tl,by rw[hf _ h.ov];exact h.op,Nat.lt_of_lt_of_le h.cv hn,Nat.lt_of_lt_of_le h.tv hn,Nat.lt_of_lt_of_le h.ov hn,h.cT,h.cO,h.TO⟩
def Ti (σ:ar) (s:aA) (ts:List ad) (r:AV) (σ':ar):Prop:=
 ∃c T O:Id,r=.ptr c 0 0/\lR σ'.get σ'.next c T O s ts/\σ.next<=c.ck/\σ.next<=T.ck/\σ.next<=O.ck/\σ.next<=σ'.next/\∀x:Id,x.ck<σ.next->σ'.get x=σ.get x
theorem BO {l:List ad} {p:aD}:eD l p<0↔∀t∈l,t.aQ≠p:=by
 unfold eD p7
 by_cases h:(l.findIdx fun c=>decide (c.aQ=p))<l.length
 ·rw[if_pos h]
  obtain⟨t,ht,h2⟩:=List.findIdx_lt_length.1 h
  exact⟨fun h=>by omega,fun h=>absurd (by simpa using h2) (h t ht)⟩
 ·rw[if_neg h]
  exact⟨fun _ t ht e=>h (List.findIdx_lt_length.2 ⟨t,ht,by simp[e]⟩),fun _=>by omega⟩
theorem Ka {l:List ad} (h:nJ l) {k:Nat} (hk:k<l.length):eD (l.take k) (aJ l k).aQ<0:=by
 rw[BO]
 intro t ht e
 obtain⟨j,hj,rfl⟩:=List.getElem_of_mem ht
 have KI:j<k:=by rw[List.length_take]at hj;omega
 have:=h j k KI hk
 rw[List.getElem_take]at e
 have e2:aJ l j=l[j]'(by omega):=by unfold aJ;rw[List.getD_eq_getElem?_getD,List.getElem?_eq_getElem (by omega)];rfl
 rw[e2,e]at this
 simp[jJ]at this
theorem Mq {l:List ad} {k:Nat} (hk:k<l.length):(l.take k).map aa++[[.int .i64 (aJ l k).aQ.eZ,.int .i64 (aJ l k).aQ.eT,.int .i64 (aJ l k).aV]]=(l.take (k+1)).map aa:=by
 have e2:aJ l k=l[k]:=by unfold aJ;rw[List.getD_eq_getElem?_getD,List.getElem?_eq_getElem hk];rfl
 rw[List.take_succ_eq_append_getElem hk,List.map_append,e2]
 rfl
theorem iF.ME {s:au} {l:List ad} (hA:jk s l):∀q,0<=gC l q->eL s (gC l q)=true:=fun _ h=>A6 hA h
theorem Ab (s:aA) (hS:iF s.aE) (l:List ad) (hA:jk s.aE l) (σ:ar):Call Tryz.prog 73 [.agg (aw s),.agg [.sl (l.map aa)]] σ (Ti σ s l):=by
 refine eU eC rfl fun ml=>?_
 clear ml
 have IH:=hA.1.sD
 (try((repeat(revert hN;revert N;apply Pn.out));refine wk @aw.eq_1 ?_;(repeat(refine Pn.mk ?_;intro N hN))))
 refine aW (fun n env st=>∃k:Nat,n=(l.length)-k/\k<=(l.length)/\env 18=.int .i64 (k:Int)/\st.get ⟨73001004,σ.next+1⟩=some ⟨true,6,[[.sl (s.aE.ax.map bI),.sl (s.aE.ah.map bE),.sl (s.bc.ah.map aa),.int .i64 s.aB,.map ⟨73001001,σ.next+1⟩ mP,.map ⟨73001002,σ.next+1⟩ mP]]⟩/\st.get ⟨73001001,σ.next+1⟩=some ⟨true,mP.pG,(l.take k).map aa⟩/\st.get ⟨73001002,σ.next+1⟩=some ⟨true,mP.pG,[]⟩/\st.get ⟨73000001,σ.next⟩=some ⟨true,1,[[.sl (l.map aa)]]⟩/\(σ.next+3<=st.next/\∀x:Id,x.ck<σ.next->st.get x=σ.get x)) (l.length) ⟨0,by omega,by omega,sl @Nat.zero_add,sl @Nat.zero_add,sl @Nat.zero_add,sl @Nat.zero_add,sl @Nat.zero_add,⟨by(try dsimp only);omega,fun x hx=>by
  have:=dp hx
  simp only[go_sem, ↓reduceIte,Nat.reduceEqDiff,Nat.reduceAdd,Nat.reduceSub,Nat.reduceLeDiff,reduceCtorEq,this]⟩⟩ ?_
 rintro n_a env_a st_a ⟨k,rfl,ale,a18,ag0,ag1,ag2,ag3,mb⟩ dH
 have a3:=dH 3 (by kernel_rfl);have a5:=dH 5 (by kernel_rfl);have PH:=dH 16 (by kernel_rfl);have a17:=dH 17 (by kernel_rfl)
 simp only[go_sem, ↓reduceIte,Nat.reduceEqDiff,Nat.reduceAdd,Nat.reduceSub,Nat.reduceLeDiff,reduceCtorEq]at a3 a5 PH a17
 clear dH
 obtain⟨an,dH⟩:=mb
 have v1:=dp (i:=⟨73001004,σ.next+1⟩) (n:=st_a.next) (by(try dsimp only);omega)
 have v2:=dp (i:=⟨73001001,σ.next+1⟩) (n:=st_a.next) (by(try dsimp only);omega)
 have v3:=dp (i:=⟨73001002,σ.next+1⟩) (n:=st_a.next) (by(try dsimp only);omega)
 have v4:=dp (i:=⟨73000001,σ.next⟩) (n:=st_a.next) (by(try dsimp only);omega)
 by_cases hk:(k:Int)<(l.length:Int)
 ·have cE:∀{e:Env} {gg:Rows} {nx:Nat},(e 18=.int .i64 (IntKind.i64.wrap ((k:Int)+1)))->(gg ⟨73001004,σ.next+1⟩=some ⟨true,6,[[.sl (s.aE.ax.map bI),.sl (s.aE.ah.map bE),.sl (s.bc.ah.map aa),.int .i64 s.aB,.map ⟨73001001,σ.next+1⟩ mP,.map ⟨73001002,σ.next+1⟩ mP]]⟩)->(gg ⟨73001001,σ.next+1⟩=some ⟨true,mP.pG,(l.take (k+1)).map aa⟩)->(gg ⟨73001002,σ.next+1⟩=some ⟨true,mP.pG,[]⟩)->(gg ⟨73000001,σ.next⟩=some ⟨true,1,[[.sl (l.map aa)]]⟩)->(σ.next+3<=nx/\∀x:Id,x.ck<σ.next->gg x=σ.get x)->∃m0,m0<(l.length)-k/\∃k:Nat,m0=(l.length)-k/\k<=(l.length)/\e 18=.int .i64 (k:Int)/\gg ⟨73001004,σ.next+1⟩=some ⟨true,6,[[.sl (s.aE.ax.map bI),.sl (s.aE.ah.map bE),.sl (s.bc.ah.map aa),.int .i64 s.aB,.map ⟨73001001,σ.next+1⟩ mP,.map ⟨73001002,σ.next+1⟩ mP]]⟩/\gg ⟨73001001,σ.next+1⟩=some ⟨true,mP.pG,(l.take k).map aa⟩/\gg ⟨73001002,σ.next+1⟩=some ⟨true,mP.pG,[]⟩/\gg ⟨73000001,σ.next⟩=some ⟨true,1,[[.sl (l.map aa)]]⟩/\(σ.next+3<=nx/\∀x:Id,x.ck<σ.next->gg x=σ.get x):=fun x1 x2 x3 x4 x5 x6=>⟨_,by omega,k+1,rfl,by omega,(by rw[x1,az (by omega)]),x2,x3,x4,x5,x6⟩
  have fA:k<l.length:=by omega
  have hg:=fw fA
  have hm:=qQ (Ka hA.1.G3 fA)
  have qF:=Mq fA
  (try((repeat(revert hN;revert N;apply Pn.out));refine wk (tw @a18 (tw @ag0 (tw @ag1 (tw @ag2 (tw @ag3 (tw @a3 (tw @a5 (tw @PH (tw @a17 (tw @hk (tw @hg (tw @hm (tw @v1 (tw @v2 (tw @v3 (tw @v4 @aa.eq_1)))))))))))))))) ?_;(repeat(refine Pn.mk ?_;intro N hN))))
  refine cE ?_ ?_ ?_ ?_ ?_ (by(try dsimp only);exact⟨by omega,fun x hx=>by
   have h1:=dp (i:=x) (n:=st_a.next) (by omega)
   have h2:=cr (a:=x) (b:=⟨73001001,σ.next+1⟩) (by(try dsimp only);omega)
   have h3:=dH x hx
   simp only[go_sem, ↓reduceIte,Nat.reduceEqDiff,Nat.reduceAdd,Nat.reduceSub,Nat.reduceLeDiff,reduceCtorEq,h1,h2,h3]⟩)
  all_goals simp only[go_sem, ↓reduceIte,Nat.reduceEqDiff,Nat.reduceAdd,Nat.reduceSub,Nat.reduceLeDiff,reduceCtorEq,a18,ag0,ag1,ag2,ag3,a3,a5,PH,a17,aa,v1,v2,v3,v4,qF]
 ·have l7:k=l.length:=by omega
  subst l7
  have nV:l.take l.length=l:=List.take_length
  (try((repeat(revert hN;revert N;apply Pn.out));refine wk (tw @a18 (tw @ag0 (tw @ag1 (tw @ag2 (tw @ag3 (tw @a3 (tw @a5 (tw @PH (tw @a17 (tw @hk (tw @v1 (tw @v2 (tw @v3 @v4))))))))))))) ?_;(repeat(refine Pn.mk ?_;intro N hN))))
  refine aW (fun n env st=>∃j:Nat,n=(l.length)-j/\j<=(l.length)/\env 34=.int .i64 (j:Int)/\(σ.next+3<=st.next/\lR st.get st.next ⟨73001004,σ.next+1⟩ ⟨73001001,σ.next+1⟩ ⟨73001002,σ.next+1⟩ s l/\∀x:Id,x.ck<σ.next->st.get x=σ.get x)) (l.length) ⟨0,by omega,by omega,sl (tw @a18 (tw @ag0 (tw @ag1 (tw @ag2 (tw @ag3 (tw @a3 (tw @a5 (tw @PH @a17)))))))),by(try dsimp only);exact⟨by omega,⟨sd @ag0,sd (tw @ag1 @nV),⟨[],sd @ag2,by intro r hr;cases hr⟩,by(try dsimp only);omega,by(try dsimp only);omega,by(try dsimp only);omega,(by intro e;injection e with e1 e2;revert e1;decide),(by intro e;injection e with e1 e2;revert e1;decide),(by intro e;injection e with e1 e2;revert e1;decide)⟩,fun x hx=>by
   have h3:=dH x hx
   simp only[go_sem, ↓reduceIte,Nat.reduceEqDiff,Nat.reduceAdd,Nat.reduceSub,Nat.reduceLeDiff,reduceCtorEq,h3]⟩⟩ ?_
  rintro n_b env_b st_b ⟨j,rfl,ble,b34,bI0⟩ fY
  have b5:=fY 5 (by kernel_rfl);have tG:=fY 32 (by kernel_rfl);have uj:=fY 33 (by kernel_rfl)
  simp only[go_sem, ↓reduceIte,Nat.reduceEqDiff,Nat.reduceAdd,Nat.reduceSub,Nat.reduceLeDiff,reduceCtorEq,a18,ag0,ag1,ag2,ag3,a3,a5,PH,a17]at b5 tG uj
  clear fY
  obtain⟨bn,bC,fY⟩:=bI0
  by_cases hj:(j:Int)<(l.length:Int)
  ·have gj:∀{e:Env} {gg:Rows} {nx:Nat},(e 34=.int .i64 (IntKind.i64.wrap ((j:Int)+1)))->(σ.next+3<=nx/\lR gg nx ⟨73001004,σ.next+1⟩ ⟨73001001,σ.next+1⟩ ⟨73001002,σ.next+1⟩ s l/\∀x:Id,x.ck<σ.next->gg x=σ.get x)->∃m0,m0<(l.length)-j/\∃j:Nat,m0=(l.length)-j/\j<=(l.length)/\e 34=.int .i64 (j:Int)/\(σ.next+3<=nx/\lR gg nx ⟨73001004,σ.next+1⟩ ⟨73001001,σ.next+1⟩ ⟨73001002,σ.next+1⟩ s l/\∀x:Id,x.ck<σ.next->gg x=σ.get x):=fun x1 x2=>⟨_,by omega,j+1,rfl,by omega,(by rw[x1,az (by omega)]),x2⟩
   have jB:j<l.length:=by omega
   have hg:=fw jB
   have Q8:=tj (hA.1.pt jB)
   (try((repeat(revert hN;revert N;apply Pn.out));refine wk (tw @b34 (tw @b5 (tw @tG (tw @uj (tw @hj (tw @hg @aa.eq_1)))))) ?_;(repeat(refine Pn.mk ?_;intro N hN))))
   have Qy:lR (bq (bq st_b.get ⟨73009002,st_b.next+1⟩ ⟨true,3,[[.int .i64 0,.int .i64 0,.int .i64 0]]⟩) ⟨73009002,st_b.next+1⟩ ⟨true,3,[[.int .i64 (aJ l j).aQ.eZ,.int .i64 (aJ l j).aQ.eT,.int .i64 (aJ l j).aV]]⟩) (st_b.next+1+1+1) ⟨73001004,σ.next+1⟩ ⟨73001001,σ.next+1⟩ ⟨73001002,σ.next+1⟩ s l:=bC.frame (by omega) fun x hx=>by
    have h1:=dp hx
    simp only[go_sem, ↓reduceIte,Nat.reduceEqDiff,Nat.reduceAdd,Nat.reduceSub,Nat.reduceLeDiff,reduceCtorEq,h1]
   refine .inr (aI _ _ _ _ _ (fun r σ1 hq=>?_) (rR (σ:=⟨bq (bq st_b.get ⟨73009002,st_b.next+1⟩ ⟨true,3,[[.int .i64 0,.int .i64 0,.int .i64 0]]⟩) ⟨73009002,st_b.next+1⟩ ⟨true,3,[[.int .i64 (aJ l j).aQ.eZ,.int .i64 (aJ l j).aQ.eT,.int .i64 (aJ l j).aV]]⟩,st_b.next+1+1+1⟩) Qy.xw Qy.cO Qy.TO Qy.op hS (iF.ME hA) (aJ l j).aQ Q8.1 Q8.2))
   obtain⟨g1,x1⟩:=σ1
   obtain⟨rfl,hL⟩:=hq
   (try dsimp only at hL)
   have Ix:=Qy.look hL
   have Sk:=hL.1
   have hLf:=hL.2.1
   (try dsimp only at Sk hLf)
   refine hN _ _ ?_
   clear hN N
   (try((repeat(revert hN;revert N;apply Pn.out));refine wk (tw @b34 (tw @b5 (tw @tG @uj))) ?_;(repeat(refine Pn.mk ?_;intro N hN))))
   exact gj (sd (tw @b34 (tw @b5 (tw @tG @uj)))) (by(try dsimp only);exact⟨by omega,Ix.frame (by omega) (fun x hx=>rfl),fun x hx=>by
    have h1:=dp (i:=x) (n:=st_b.next) (by omega)
    have h2:=hLf x (by omega) (fun e=>by rw[e]at hx;(try dsimp only at hx);omega)
    have h3:=fY x hx
    simp only[h2]
    simp only[go_sem, ↓reduceIte,Nat.reduceEqDiff,Nat.reduceAdd,Nat.reduceSub,Nat.reduceLeDiff,reduceCtorEq,h1,h3]⟩)
  ·(try((repeat(revert hN;revert N;apply Pn.out));refine wk (tw @b34 (tw @b5 (tw @tG (tw @uj @hj)))) ?_;(repeat(refine Pn.mk ?_;intro N hN))))
   exact fx (.inl rfl) (vs:=[.ptr ⟨73001004,σ.next+1⟩ 0 0]) (sd @Nat.zero_add) ⟨_,_,_,rfl,bC.frame (by(try dsimp only);omega) (fun x hx=>rfl),by(try dsimp only);omega,by(try dsimp only);omega,by(try dsimp only);omega,by(try dsimp only);omega,fY⟩
end Go.Proofs.YtgoelphibofcmaaGreat.V

namespace Go.Proofs.YtgoelphibofcmaaGreat.V
open Go.RowKit
def iz:List ad->ad->List ad
 |[],q=>[q]
 |x::r,q=>if jJ q.aQ x.aQ=true then q::x::r else x::iz r q
theorem oU {q x:ad}:∀{l:List ad},x∈iz l q↔x=q∨x∈l
 |[]=>by simp[iz]
 |y::r=>by
  have ih:=@oU q x r
  rw[iz]
  split
  ·simp
  ·simp only[List.mem_cons,ih]
   constructor
   ·rintro(h|h|h)<;>simp[h]
   ·rintro(h|h|h)<;>simp[h]
theorem o9 (q:ad):∀l:List ad,(iz l q).length=l.length+1
 |[]=>rfl
 |y::r=>by
  have ih:=o9 q r
  rw[iz]
  split
  ·simp
  ·simp[ih]
theorem r6 {l:List ad}:nJ l↔l.Pairwise fun a b=>jJ a.aQ b.aQ=true:=by
 rw[List.pairwise_iff_getElem]
 constructor
 ·intro h i j hi hj Dw
  have:=h i j Dw hj
  rwa [fb hi,fb hj]at this
 ·intro h i j Dw hj
  have:=h i j (by omega) hj Dw
  rwa [fb (by omega),fb hj]
theorem lK {l:List ad} {p:aD}:eD l p<0↔∀t∈l,t.aQ≠p:=BO
theorem JJ {q:ad}:∀{l:List ad},nJ l->eD l q.aQ<0->nJ (iz l q):=by
 intro l
 rw[r6,r6,lK]
 induction l with
 |nil=>intro _ _;exact List.pairwise_singleton _ _
 |cons y r ih=>
  intro h hn
  obtain⟨h1,h2⟩:=List.pairwise_cons.1 h
  rw[iz]
  split
  ·rename_i hl
   refine List.pairwise_cons.2 ⟨fun x hx=>?_,h⟩
   rcases List.mem_cons.1 hx with rfl|hx
   ·exact hl
   ·exact jQ hl (h1 x hx)
  ·rename_i hl
   rw[Bool.not_eq_true]at hl
   refine List.pairwise_cons.2 ⟨fun x hx=>?_,ih h2 fun t ht=>hn t (by simp[ht])⟩
   rcases oU.1 hx with rfl|hx
   ·exact Fw hl fun e=>hn y (by simp) e.symm
   ·exact h1 x hx
theorem jO (x:ad) (r:List ad) (p:aD):gC (x::r) p=if x.aQ=p then x.aV else gC r p:=by
 unfold gC eD p7
 rw[List.findIdx_cons]
 by_cases h:x.aQ=p
 ·simp[h,aJ]
 ·simp only[h,decide_false,cond_false,List.length_cons,Nat.add_lt_add_iff_right,if_false]
  by_cases hl:(r.findIdx fun c=>decide (c.aQ=p))<r.length
  ·rw[if_pos hl,if_pos hl,if_pos (by omega),if_pos (by omega)]
   simp[aJ]
  ·rw[if_neg hl,if_neg hl];rfl
theorem A5 {q:ad} (p:aD):∀{l:List ad},(∀t∈l,t.aQ≠q.aQ)->gC (iz l q) p=if q.aQ=p then q.aV else gC l p
 |[],_=>by rw[iz,jO]
 |x::r,h=>by
  have ih:=@A5 q p r fun t ht=>h t (by simp[ht])
  rw[iz]
  split
  ·rw[jO]
  ·rw[jO,ih,jO]
   by_cases h1:x.aQ=p
   ·have h2:q.aQ≠p:=fun e=>h x (by simp) (h1.trans e.symm)
    rw[if_pos h1,if_neg h2,if_pos h1]
   ·rw[if_neg h1,if_neg h1]
theorem zt {q:ad} (p:aD):∀{l:List ad},(∀t∈l,t.aQ≠q.aQ)->gC (l++[q]) p=if q.aQ=p then q.aV else gC l p
 |[],_=>by rw[List.nil_append,jO]
 |x::r,h=>by
  have ih:=@zt q p r fun t ht=>h t (by simp[ht])
  rw[List.cons_append,jO,ih,jO]
  by_cases h1:x.aQ=p
  ·have h2:q.aQ≠p:=fun e=>h x (by simp) (h1.trans e.symm)
   rw[if_pos h1,if_neg h2,if_pos h1]
  ·rw[if_neg h1,if_neg h1]
theorem yX {α:Type} [DecidableEq α]:∀{xs ys:List α},xs.Nodup->(∀x∈xs,x∈ys)->xs.length<=ys.length
 |[],_,_,_=>Nat.zero_le _
 |x::xs,ys,hn,h=>by
  obtain⟨h1,h2⟩:=List.nodup_cons.1 hn
  have hx:=h x (by simp)
  have:=@yX α _ xs (ys.erase x) h2 fun y hy=>(List.mem_erase_of_ne fun e=>h1 (by rw[<-e];exact hy)).2 (h y (by simp[hy]))
  rw[List.length_erase_of_mem hx]at this
  have:=List.length_pos_of_mem hx
  rw[List.length_cons];omega
theorem G4 {l:List ad} (h:nJ l):l.Nodup:=by
 rw[r6]at h
 refine List.Pairwise.imp (fun {a b} qD e=>?_) h
 rw[e,nh]at qD;cases qD
abbrev iS:=List ad×List ad
noncomputable def ju (s:aA) (st:iS) (x:ad):iS:=if j4 s st.2 x.aQ x.aV=true then(st.1++[x],iz st.2 x)else st
noncomputable def gD (s:aA) (l:List ad) (st:iS):iS:=l.foldl (ju s) st
noncomputable def wz (s:aA) (l:List ad):Nat->iS->iS
 |0,st=>st
 |n+1,st=>if (gD s l st).1.length=st.1.length then gD s l st else wz s l n (gD s l st)
noncomputable def kb (s:aA) (l:List ad):iS:=wz s l (l.length+1) ([],s.bc.ah)
def oN (l now:List ad):Nat:=(l.filter fun x=>decide (eD now x.aQ<0)).length
theorem filter_lt {α:Type} {p q:α->Bool} (hpq:∀x,q x=true->p x=true) {x:α} (hp:p x=true) (hq:q x=false):∀{l:List α},x∈l->(l.filter q).length<(l.filter p).length:=by
 have le:∀l:List α,(l.filter q).length<=(l.filter p).length:=fun l=>by
  induction l with
  |nil=>exact Nat.le_refl _
  |cons y r ih=>
   rw[List.filter_cons,List.filter_cons]
   cases h1:q y
   ·cases h2:p y<;>simp<;>omega
   ·rw[hpq y h1];simp;omega
 intro l hl
 induction l with
 |nil=>cases hl
 |cons y r ih=>
  rcases List.mem_cons.1 hl with rfl|hl
  ·have:=le r
   rw[List.filter_cons,List.filter_cons,hp,hq];simp;omega
  ·have:=ih hl
   rw[List.filter_cons,List.filter_cons]
   cases h1:q y
   ·cases h2:p y<;>simp<;>omega
   ·rw[hpq y h1];simp;omega
structure oj (s:aA) (l:List ad) (st:iS):Prop where
 G3:nJ st.2
 sub:∀x∈st.2,x∈l
 done:∀x∈st.1,x∈l
 len:st.2.length=s.bc.ah.length+st.1.length
theorem oj.sD {s:aA} {l:List ad} {st:iS} (h:oj s l st):st.2.length<=l.length:=by
 classical
 exact yX (G4 h.G3) h.sub
theorem oj.asm {s:aA} {l:List ad} {st:iS} (h:oj s l st) (hA:jk s.aE l):jk s.aE st.2:=by
 refine⟨⟨Nat.le_trans h.sD hA.1.sD,fun i hi=>?_⟩,fun t ht=>hA.2 t (h.sub t ht)⟩
 obtain⟨j,hj,gZ⟩:=List.getElem_of_mem (h.sub _ (gH hi))
 have h1:=hA.1.ok j hj
 rw[EI,fb hj,gZ]at h1
 exact⟨h1.1,h1.2.1,fun h0=>h.G3 _ _ (by omega) hi⟩
theorem oL {s:aA} {l:List ad} (hA:jk s.aE l) {now:List ad} (hs:∀x∈now,x∈l) {p:aD} {t:Int} (h:j4 s now p t=true):eD now p<0:=by
 rcases Int.lt_or_le (eD now p) 0 with h0|h0
 ·exact h0
 ·exfalso
  obtain⟨h1,_⟩:=lJ h0
  have h2:=(eA (hA.2 _ (hs _ (gH h1)))).1
  simp[j4,gC,h0]at h
  omega
theorem oj.step {s:aA} {l:List ad} {st:iS} (h:oj s l st) (hA:jk s.aE l) {x:ad} (hx:x∈l):oj s l (ju s st x):=by
 unfold ju
 split
 ·rename_i hf
  have h0:=oL hA h.sub hf
  exact⟨JJ h.G3 h0,fun y hy=>by rcases oU.1 hy with rfl|hy;exact hx;exact h.sub y hy,fun y hy=>by
   rcases List.mem_append.1 hy with hy|hy
   ·exact h.done y hy
   ·rw[List.mem_singleton.1 hy];exact hx,by rw[o9,List.length_append,List.length_singleton,h.len];omega⟩
 ·exact h
theorem Gb {s:aA} {l:List ad} {st:iS} (h:oj s l st) (hA:jk s.aE l) {x:ad} (hx:x∈l):oN l (ju s st x).2+(ju s st x).1.length<=oN l st.2+st.1.length:=by
 unfold ju
 split
 ·rename_i hf
  have h0:=oL hA h.sub hf
  have:oN l (iz st.2 x)<oN l st.2:=filter_lt (x:=x) (fun y hy=>by
   simp only[decide_eq_true_eq,lK]at hy ⊢
   exact fun t ht=>hy t (oU.2 (.inr ht))) (by simpa using h0) (by
   simp only[decide_eq_false_iff_not,lK]
   exact fun h=>h x (oU.2 (.inl rfl)) rfl) hx
  simp only[List.length_append,List.length_singleton]
  omega
 ·exact Nat.le_refl _
noncomputable def fK (s:aA) (l:List ad) (st:iS) (i:Nat):iS:=(l.take i).foldl (ju s) st
theorem qK (s:aA) (l:List ad) (st:iS) {i:Nat} (hi:i<l.length):fK s l st (i+1)=ju s (fK s l st i) (aJ l i):=by
 unfold fK
 rw[List.take_succ_eq_append_getElem hi,List.foldl_append,fb hi];rfl
theorem pw (s:aA) (l:List ad) (st:iS):fK s l st l.length=gD s l st:=by rw[fK,List.take_length];rfl
theorem xp {s:aA} {l:List ad} {st:iS} (h:oj s l st) (hA:jk s.aE l):∀i,i<=l.length->oj s l (fK s l st i)/\oN l (fK s l st i).2+(fK s l st i).1.length<=oN l st.2+st.1.length/\st.1.length<=(fK s l st i).1.length
 |0,_=>by simp[fK];exact h
 |i+1,hi=>by
  obtain⟨h1,h2,h3⟩:=xp h hA i (by omega)
  rw[qK s l st hi]
  refine⟨h1.step hA (gH hi),Nat.le_trans (Gb h1 hA (gH hi)) h2,Nat.le_trans h3 ?_⟩
  unfold ju
  split
  ·simp
  ·exact Nat.le_refl _
theorem E4 (l now:List ad):oN l now<=l.length:=List.length_filter_le _ _
theorem ta {s:aA} {l:List ad} (hP:vn s) (hA:jk s.aE l) (hW:iR s.bc.ah l=true):oj s l ([],s.bc.ah):=by
 refine⟨hP.Al.1.G3,fun x hx=>?_,fun x hx=>by(cases hx),rfl⟩
 unfold iR at hW
 rw[List.all_eq_true]at hW
 have h1:=of_decide_eq_true (hW x hx)
 have h2:=(eA (hP.Al.2 x hx)).1
 have h0:0<=eD l x.aQ:=by
  rcases Int.lt_or_le (eD l x.aQ) 0 with h0|h0
  ·rw[gC,if_neg (by omega)]at h1;omega
  ·exact h0
 obtain⟨h3,h4⟩:=lJ h0
 rw[gC,if_pos h0]at h1
 have:x=aJ l (eD l x.aQ).toNat:=by
  cases uS:aJ l (eD l x.aQ).toNat with
  |mk a t=>rw[uS]at h1 h4;cases x;simp_all
 rw[this];exact gH h3
theorem yK {s:aA} {l:List ad} {st:iS} (h:oj s l st) (hA:jk s.aE l) {n:Nat} (hn:oN l st.2<n):
  ((gD s l st).1.length=st.1.length->wz s l n st=gD s l st)/\
  ((gD s l st).1.length≠st.1.length->∃m,n=m+1/\wz s l n st=wz s l m (gD s l st)/\oN l (gD s l st).2<m):=by
 obtain⟨m,rfl⟩:∃m,n=m+1:=⟨n-1,by omega⟩
 obtain⟨h1,h2,h3⟩:=xp h hA l.length (Nat.le_refl _)
 rw[pw]at h1 h2 h3
 refine⟨fun e=>by rw[wz,if_pos e],fun e=>⟨m,rfl,by rw[wz,if_neg e],by omega⟩⟩
end Go.Proofs.YtgoelphibofcmaaGreat.V

namespace Go.Proofs.YtgoelphibofcmaaGreat.V
open Go.RowKit
attribute [local irreducible] dG wpOps gy Call
attribute [local go_sem] aM fF eP ga fW cQ upd cz K.av cR AV.cells AV.cell rowOf rowsOf part ld rowAt bq cu dD ee ik bJ dh ev fU eX dr ej dd dc dQ dR bQ bf cW bP cY cX eh ek ei cV cj de ef bK aO da cG ij bw cK bU aY dn aZ dE AV.undef bD bG dV ec dM dK cH eu ew cF ep eo cZ db List.getD_cons_zero List.getD_cons_succ List.getD_nil List.all_cons List.all_nil Bool.and_true Bool.true_and Bool.and_self Bool.not_true Bool.not_false Option.map_some Option.map_none Option.bind_some Option.bind_none List.length_cons List.length_nil List.take_succ_cons List.take_zero List.take_nil List.drop_succ_cons List.drop_zero List.drop_nil List.head?_cons List.map_cons List.map_nil List.getElem?_cons_zero List.getElem?_cons_succ List.cons_append List.nil_append List.append_nil List.length_map List.set_cons_zero List.set_cons_succ Nat.reduceMul eq_self Int.toNat_natCast Int.natCast_nonneg and_self true_and and_true decide_true decide_false Bool.false_eq_true Nat.zero_add Nat.add_zero List.contains_cons List.contains_nil Bool.or_false Bool.false_or beq_self_eq_true Nat.reduceBEq ne_eq not_true_eq_false not_false_eq_true Id.mk.injEq false_and and_false Nat.reduceLT Int.reduceLE Int.reduceLT Int.reduceToNat Int.reduceNeg Int.reduceAdd Nat.le_refl List.length_append beq_true beq_false Bool.not_eq_eq_eq_not or_false false_or dL ai aj aH bl bB cw aX bd aU bh cU bH
theorem Iu (g:Rows) (n:Nat) (x:ad):er g (n+1) (aa x)=some (aa x):=by simp[aa,bz,cD,eK]
def Nn (n:Nat) (L:List ad) (r:AV) (σ':ar):Prop:=∃o:Id,r=.agg [.own o 0 L.length]/\σ'.get o=some ⟨true,3,L.map aa⟩/\n<=o.ck/\o.ck<σ'.next
theorem Nn.val {f:Nat} {args eE:List AV} {L:List ad} {σ:ar} (h:∀n,Call Tryz.prog f eE ⟨fun _=>none,n⟩ (Nn n L)) (hv:cN (dL σ.get) 6 args=some eE):Call Tryz.prog f args σ (fun r σ'=>Nn σ.next L r σ'/\Kept σ σ'):=by
 refine AW mixed hv (aI _ _ _ _ _ (fun r σ' hq=>?_) (x7 mixed (h σ.next)))
 obtain⟨⟨o,rfl,h2,h3,h4⟩,hn⟩:=hq
 refine⟨[o],rfl,fun i hi=>?_,⟨o,rfl,(sj (by simp)).trans h2,h3,h4⟩,hn,fun j hj=>pP fun hc=>?_⟩
 ·rw[List.mem_singleton.1 hi]
  exact⟨_,h2,rfl,fun cs du a ha=>by
   obtain⟨x,_,rfl⟩:=List.mem_map.1 du
   simp[aa]at ha
   rcases ha with rfl|rfl|rfl<;>rfl⟩
 ·rw[List.mem_singleton.1 hc]at hj;omega
theorem Jc (l:List ad) (hl:l.length<=1048576) (n0:Nat):Call Tryz.prog 99 [.di [.sl (l.map aa)]] ⟨fun _=>none,n0⟩ (Nn n0 l):=by
 refine eU eC rfl fun ml=>?_
 clear ml
 have Lu:(l.map aa).length<=16777216:=by simp;omega
 have dI:(l.map aa).all (fun c=>c.length==3&&c.all AV.cell)=true:=all_map fun x=>⟨rfl,rfl⟩
 have Fc:(l.map aa).length=l.length:=by simp
 generalize oQ:l.map aa=rows at Lu dI Fc
 (try((repeat(revert hN;revert N;apply Pn.out));refine wk (tw @Lu @dI) ?_;(repeat(refine Pn.mk ?_;intro N hN))))
 exact fx (.inl rfl) (vs:=[.agg [.own ⟨99001005,n0+1⟩ 0 rows.length]]) (sd @Nat.zero_add) ⟨⟨99001005,n0+1⟩,by rw[Fc];rfl,by rw[oQ];simp only[go_sem, ↓reduceIte,Nat.reduceEqDiff,Nat.reduceAdd,Nat.reduceSub,Nat.reduceLeDiff,reduceCtorEq],by(try dsimp only);omega,by(try dsimp only);omega⟩
def uq (q:ad) (l:List ad):Bool:=l.any fun x=>jJ q.aQ x.aQ
theorem Ck {q:ad}:∀{l:List ad},uq q l=false->iz l q=l++[q]
 |[],_=>rfl
 |x::l,h=>by
  unfold uq at h
  rw[List.any_cons,Bool.or_eq_false_iff]at h
  rw[iz,if_neg (by rw[h.1];simp),Ck h.2];rfl
theorem y7 {q y:ad}:∀{l:List ad},uq q l=true->iz (l++[y]) q=iz l q++[y]
 |x::l,h=>by
  unfold uq at h
  rw[List.any_cons]at h
  rw[List.cons_append,iz,iz]
  cases hx:jJ q.aQ x.aQ
  ·rw[hx,Bool.false_or]at h
   rw[if_neg (by simp),if_neg (by simp),y7 h];rfl
  ·simp
theorem y5 {q y:ad}:∀{l:List ad},uq q l=false->jJ q.aQ y.aQ=true->iz (l++[y]) q=l++[q]++[y]
 |[],_,hy=>by simp[iz,hy]
 |x::l,h,hy=>by
  unfold uq at h
  rw[List.any_cons,Bool.or_eq_false_iff]at h
  rw[List.cons_append,iz,if_neg (by rw[h.1];simp),y5 h.2 hy];rfl
def jc (q:ad) (l:List ad):List ad:=if uq q l=true then iz l q else l
theorem vN (q:ad) (l:List ad) (y:ad):uq q (l++[y])=(uq q l||jJ q.aQ y.aQ):=by simp[uq]
theorem GW (q:ad) (l:List ad):(jc q l).length<=l.length+1:=by
 unfold jc
 split
 ·rw[o9];omega
 ·omega
theorem JE {q y:ad} {l:List ad} (h:uq q l=true∨jJ q.aQ y.aQ=false):jc q (l++[y])=jc q l++[y]:=by
 unfold jc
 rw[vN]
 cases hd:uq q l
 ·rw[hd]at h
  have h2:jJ q.aQ y.aQ=false:=by rcases h with h|h;cases h;exact h
  simp[h2]
 ·simp[y7 hd]
theorem JD {q y:ad} {l:List ad} (h:uq q l=false) (hy:jJ q.aQ y.aQ=true):jc q (l++[y])=jc q l++[q]++[y]:=by
 unfold jc
 rw[vN,h,hy]
 simp[y5 h hy]
def Th (m:Nat) (L:List ad) (v:AV) (g:Rows) (n:Nat):Prop:=(L=[]/\v=.cm)∨∃o:Id,v=.own o 0 L.length/\g o=some ⟨true,3,L.map aa⟩/\m<=o.ck/\o.ck<n
theorem Kb {l:List ad} {k:Nat} (hk:k<l.length):l.take (k+1)=l.take k++[aJ l k]:=by rw[List.take_succ_eq_append_getElem hk,fb hk]
theorem rU (L:List ad) (q:ad):(L++[q]).map aa=L.map aa++[[.int .i64 q.aQ.eZ,.int .i64 q.aQ.eT,.int .i64 q.aV]]:=by rw[List.map_append];rfl
theorem iN (L:List ad) (q:ad):(L++[q]).length=L.length+1:=by rw[List.length_append];rfl
theorem Jd (l:List ad) (hl:l.length<=1048576) (p:aD) (t:Int) (n0:Nat):Call Tryz.prog 101 [.di [.sl (l.map aa)],.agg (ae p),.int .i64 t] ⟨fun _=>none,n0⟩ (Nn n0 (iz l ⟨p,t⟩)):=by
 refine eU eC rfl fun ml=>?_
 clear ml
 obtain⟨q,hq⟩:∃q:ad,q=⟨p,t⟩:=⟨_,rfl⟩
 (try((repeat(revert hN;revert N;apply Pn.out));refine wk @ae.eq_1 ?_;(repeat(refine Pn.mk ?_;intro N hN))))
 refine aW (fun n env st=>∃i:Nat,n=(l.length)-i/\i<=(l.length)/\env 9=.int .i64 (i:Int)/\env 8=.bool (uq q (l.take i))/\st.get ⟨101000000,n0⟩=some ⟨true,2,[ae p]⟩/\st.get ⟨101000001,n0⟩=some ⟨true,1,[[.cm]]⟩/\(n0+2<=st.next/\∃v,st.get ⟨101001001,n0+1⟩=some ⟨true,1,[[v]]⟩/\Th (n0+2) (jc q (l.take i)) v st.get st.next)) (l.length) ⟨0,by omega,by omega,sl @ae.eq_1,sl @ae.eq_1,sl @ae.eq_1,sl @ae.eq_1,by(try dsimp only);exact⟨by omega,.cm,sd @Nat.zero_add,.inl ⟨rfl,rfl⟩⟩⟩ ?_
 rintro n_a env_a st_a ⟨i,rfl,ale,a9,a8,ag0,ag1,mb⟩ dH
 have a0:=dH 0 (by kernel_rfl);have a2:=dH 2 (by kernel_rfl);have a4:=dH 4 (by kernel_rfl);have a6:=dH 6 (by kernel_rfl);have a7:=dH 7 (by kernel_rfl)
 simp only[go_sem, ↓reduceIte,Nat.reduceEqDiff,Nat.reduceAdd,Nat.reduceSub,Nat.reduceLeDiff,reduceCtorEq,ae]at a0 a2 a4 a6 a7
 clear dH
 obtain⟨an,v,av,aG⟩:=mb
 have vA:=dp (i:=⟨101000000,n0⟩) (n:=st_a.next) (by(try dsimp only);omega)
 have vB:=dp (i:=⟨101000001,n0⟩) (n:=st_a.next) (by(try dsimp only);omega)
 have vC:=dp (i:=⟨101001001,n0+1⟩) (n:=st_a.next) (by(try dsimp only);omega)
 have Lw:=GW q (l.take i)
 rw[List.length_take]at Lw
 by_cases hi:(i:Int)<(l.length:Int)
 ·have cE:∀{e:Env} {gg:Rows} {nx:Nat},(e 9=.int .i64 (IntKind.i64.wrap ((i:Int)+1)))->(e 8=.bool (uq q (l.take (i+1))))->(gg ⟨101000000,n0⟩=some ⟨true,2,[ae p]⟩)->(gg ⟨101000001,n0⟩=some ⟨true,1,[[.cm]]⟩)->(n0+2<=nx/\∃v,gg ⟨101001001,n0+1⟩=some ⟨true,1,[[v]]⟩/\Th (n0+2) (jc q (l.take (i+1))) v gg nx)->∃m0,m0<(l.length)-i/\∃i:Nat,m0=(l.length)-i/\i<=(l.length)/\e 9=.int .i64 (i:Int)/\e 8=.bool (uq q (l.take i))/\gg ⟨101000000,n0⟩=some ⟨true,2,[ae p]⟩/\gg ⟨101000001,n0⟩=some ⟨true,1,[[.cm]]⟩/\(n0+2<=nx/\∃v,gg ⟨101001001,n0+1⟩=some ⟨true,1,[[v]]⟩/\Th (n0+2) (jc q (l.take i)) v gg nx):=fun x1 x2 x3 x4 x5=>⟨_,by omega,i+1,rfl,by omega,(by rw[x1,az (by omega)]),x2,x3,x4,x5⟩
  have fh:i<l.length:=by omega
  have j7:=fw fh
  have dS:=om p (aJ l i).aQ
  have nV:=Kb fh
  have UO:jJ q.aQ (aJ l i).aQ=jJ p (aJ l i).aQ:=by rw[hq]
  have lF:(l.map aa).length=l.length:=by simp
  have KF:=vN q (l.take i) (aJ l i)
  rw[<-nV,UO]at KF
  rw[ae,ae]at dS
  by_cases hc:uq q (l.take i)=true∨jJ p (aJ l i).aQ=false
  ·have lh:=JE (q:=q) (y:=aJ l i) (l:=l.take i) (by rw[UO];exact hc)
   rw[<-nV]at lh
   generalize jc q (l.take i)=L at aG lh Lw
   have ux:=iN L (aJ l i)
   have rM:=rU L (aJ l i)
   have nT:uq q (l.take (i+1))=uq q (l.take i):=by
    rw[KF]
    rcases hc with h|h<;>rw[h]<;>simp
   rcases aG with⟨hL,rfl⟩|⟨o,rfl,ao,aon,aov⟩
   ·subst hL
    cases hd:uq q (l.take i)
    ·have h2:jJ p (aJ l i).aQ=false:=by rcases hc with h|h;rw[hd]at h;cases h;exact h
     rw[h2]at dS
     rw[hd]at a8 nT
     (repeat(first|((repeat(revert hN;revert N;apply Pn.out));refine wk (tw @a9 (tw @a8 (tw @ag0 (tw @ag1 (tw @a0 (tw @a2 (tw @a4 (tw @a6 (tw @a7 (tw @hi (tw @j7 (tw @vA (tw @vB (tw @vC (tw @av (tw @lF (tw @ae.eq_1 @aa.eq_1))))))))))))))))) ?_;(repeat(refine Pn.mk ?_;intro N hN)))|((try apply Or.inl);refine⟨_,aq.x (dS) (sd (tw @a9 (tw @a8 (tw @ag0 (tw @ag1 (tw @a0 (tw @a2 (tw @a4 (tw @a6 (tw @a7 (tw @hi (tw @j7 (tw @vA (tw @vB (tw @vC (tw @av (tw @lF (tw @ae.eq_1 @aa.eq_1)))))))))))))))))),?_⟩;refine hN _ _ ?_;clear hN N)))
     refine cE ?_ ?_ ?_ ?_ (by(try dsimp only);exact⟨by omega,_,sl @Nat.zero_add,.inr ⟨⟨101009010,st_a.next+1+1⟩,by rw[lh,ux]<;>(simp only[go_sem, ↓reduceIte,Nat.reduceEqDiff,Nat.reduceAdd,Nat.reduceSub,Nat.reduceLeDiff,reduceCtorEq]<;>rfl),by rw[lh,rM]<;>(simp only[go_sem, ↓reduceIte,Nat.reduceEqDiff,Nat.reduceAdd,Nat.reduceSub,Nat.reduceLeDiff,reduceCtorEq]<;>rfl),by(try dsimp only);omega,by(try dsimp only);omega⟩⟩)
     all_goals simp only[go_sem, ↓reduceIte,Nat.reduceEqDiff,Nat.reduceAdd,Nat.reduceSub,Nat.reduceLeDiff,reduceCtorEq,a9,a8,ag0,ag1,a0,a2,a4,a6,a7,nT,vA,vB,vC,ae]
    ·rw[hd]at a8 nT
     (try((repeat(revert hN;revert N;apply Pn.out));refine wk (tw @a9 (tw @a8 (tw @ag0 (tw @ag1 (tw @a0 (tw @a2 (tw @a4 (tw @a6 (tw @a7 (tw @hi (tw @j7 (tw @vA (tw @vB (tw @vC (tw @av (tw @lF (tw @ae.eq_1 @aa.eq_1))))))))))))))))) ?_;(repeat(refine Pn.mk ?_;intro N hN))))
     refine cE ?_ ?_ ?_ ?_ (by(try dsimp only);exact⟨by omega,_,sl @Nat.zero_add,.inr ⟨⟨101009010,st_a.next+1+1⟩,by rw[lh,ux]<;>(simp only[go_sem, ↓reduceIte,Nat.reduceEqDiff,Nat.reduceAdd,Nat.reduceSub,Nat.reduceLeDiff,reduceCtorEq]<;>rfl),by rw[lh,rM]<;>(simp only[go_sem, ↓reduceIte,Nat.reduceEqDiff,Nat.reduceAdd,Nat.reduceSub,Nat.reduceLeDiff,reduceCtorEq]<;>rfl),by(try dsimp only);omega,by(try dsimp only);omega⟩⟩)
     all_goals simp only[go_sem, ↓reduceIte,Nat.reduceEqDiff,Nat.reduceAdd,Nat.reduceSub,Nat.reduceLeDiff,reduceCtorEq,a9,a8,ag0,ag1,a0,a2,a4,a6,a7,nT,vA,vB,vC,ae]
   ·have vo:=dp aov
    have oA:=cr (a:=⟨101000000,n0⟩) (b:=o) (by(try dsimp only);omega)
    have oB:=cr (a:=⟨101000001,n0⟩) (b:=o) (by(try dsimp only);omega)
    have oC:=cr (a:=⟨101001001,n0+1⟩) (b:=o) (by(try dsimp only);omega)
    have MM:(L.map aa).length=L.length:=by simp
    have ML:L.length<=16777215:=by omega
    cases hd:uq q (l.take i)
    ·have h2:jJ p (aJ l i).aQ=false:=by rcases hc with h|h;rw[hd]at h;cases h;exact h
     rw[h2]at dS
     rw[hd]at a8 nT
     (repeat(first|((repeat(revert hN;revert N;apply Pn.out));refine wk (tw @a9 (tw @a8 (tw @ag0 (tw @ag1 (tw @a0 (tw @a2 (tw @a4 (tw @a6 (tw @a7 (tw @hi (tw @j7 (tw @vA (tw @vB (tw @vC (tw @vo (tw @oA (tw @oB (tw @oC (tw @ao (tw @av (tw @lF (tw @MM (tw @ML (tw @ae.eq_1 @aa.eq_1)))))))))))))))))))))))) ?_;(repeat(refine Pn.mk ?_;intro N hN)))|((try apply Or.inl);refine⟨_,aq.x (dS) (sd (tw @a9 (tw @a8 (tw @ag0 (tw @ag1 (tw @a0 (tw @a2 (tw @a4 (tw @a6 (tw @a7 (tw @hi (tw @j7 (tw @vA (tw @vB (tw @vC (tw @vo (tw @oA (tw @oB (tw @oC (tw @ao (tw @av (tw @lF (tw @MM (tw @ML (tw @ae.eq_1 @aa.eq_1))))))))))))))))))))))))),?_⟩;refine hN _ _ ?_;clear hN N)))
     refine cE ?_ ?_ ?_ ?_ (by(try dsimp only);exact⟨by omega,_,sl @Nat.zero_add,.inr ⟨⟨101009010,st_a.next+1+1⟩,by rw[lh,ux]<;>(simp only[go_sem, ↓reduceIte,Nat.reduceEqDiff,Nat.reduceAdd,Nat.reduceSub,Nat.reduceLeDiff,reduceCtorEq]<;>rfl),by rw[lh,rM]<;>(simp only[go_sem, ↓reduceIte,Nat.reduceEqDiff,Nat.reduceAdd,Nat.reduceSub,Nat.reduceLeDiff,reduceCtorEq]<;>rfl),by(try dsimp only);omega,by(try dsimp only);omega⟩⟩)
     all_goals simp only[go_sem, ↓reduceIte,Nat.reduceEqDiff,Nat.reduceAdd,Nat.reduceSub,Nat.reduceLeDiff,reduceCtorEq,a9,a8,ag0,ag1,a0,a2,a4,a6,a7,nT,vA,vB,vC,oA,oB,oC,ae]
    ·rw[hd]at a8 nT
     (try((repeat(revert hN;revert N;apply Pn.out));refine wk (tw @a9 (tw @a8 (tw @ag0 (tw @ag1 (tw @a0 (tw @a2 (tw @a4 (tw @a6 (tw @a7 (tw @hi (tw @j7 (tw @vA (tw @vB (tw @vC (tw @vo (tw @oA (tw @oB (tw @oC (tw @ao (tw @av (tw @lF (tw @MM (tw @ML (tw @ae.eq_1 @aa.eq_1)))))))))))))))))))))))) ?_;(repeat(refine Pn.mk ?_;intro N hN))))
     refine cE ?_ ?_ ?_ ?_ (by(try dsimp only);exact⟨by omega,_,sl @Nat.zero_add,.inr ⟨⟨101009010,st_a.next+1+1⟩,by rw[lh,ux]<;>(simp only[go_sem, ↓reduceIte,Nat.reduceEqDiff,Nat.reduceAdd,Nat.reduceSub,Nat.reduceLeDiff,reduceCtorEq]<;>rfl),by rw[lh,rM]<;>(simp only[go_sem, ↓reduceIte,Nat.reduceEqDiff,Nat.reduceAdd,Nat.reduceSub,Nat.reduceLeDiff,reduceCtorEq]<;>rfl),by(try dsimp only);omega,by(try dsimp only);omega⟩⟩)
     all_goals simp only[go_sem, ↓reduceIte,Nat.reduceEqDiff,Nat.reduceAdd,Nat.reduceSub,Nat.reduceLeDiff,reduceCtorEq,a9,a8,ag0,ag1,a0,a2,a4,a6,a7,nT,vA,vB,vC,oA,oB,oC,ae]
  ·have hd:uq q (l.take i)=false:=by
    cases h:uq q (l.take i)
    ·rfl
    ·exact absurd (.inl h) hc
   have h2:jJ p (aJ l i).aQ=true:=by
    cases h:jJ p (aJ l i).aQ
    ·exact absurd (.inr h) hc
    ·rfl
   have lh:=JD (q:=q) (y:=aJ l i) hd (by rw[UO];exact h2)
   rw[<-nV]at lh
   have nT:uq q (l.take (i+1))=true:=by rw[KF,h2];simp
   rw[hd]at a8
   rw[h2]at dS
   have SP:aa q=[.int .i64 p.eZ,.int .i64 p.eT,.int .i64 t]:=by rw[hq];rfl
   generalize jc q (l.take i)=L at aG lh Lw
   have ux:=iN (L++[q]) (aJ l i)
   have rM:=rU (L++[q]) (aJ l i)
   have UE:=iN L q
   have UF:(L++[q]).map aa=L.map aa++[[.int .i64 p.eZ,.int .i64 p.eT,.int .i64 t]]:=by rw[List.map_append,List.map_singleton,SP]
   rw[UE]at ux
   rw[UF]at rM
   rcases aG with⟨hL,rfl⟩|⟨o,rfl,ao,aon,aov⟩
   ·subst hL
    (repeat(first|((repeat(revert hN;revert N;apply Pn.out));refine wk (tw @a9 (tw @a8 (tw @ag0 (tw @ag1 (tw @a0 (tw @a2 (tw @a4 (tw @a6 (tw @a7 (tw @hi (tw @j7 (tw @vA (tw @vB (tw @vC (tw @av (tw @lF (tw @ae.eq_1 @aa.eq_1))))))))))))))))) ?_;(repeat(refine Pn.mk ?_;intro N hN)))|((try apply Or.inl);refine⟨_,aq.x (dS) (sd (tw @a9 (tw @a8 (tw @ag0 (tw @ag1 (tw @a0 (tw @a2 (tw @a4 (tw @a6 (tw @a7 (tw @hi (tw @j7 (tw @vA (tw @vB (tw @vC (tw @av (tw @lF (tw @ae.eq_1 @aa.eq_1)))))))))))))))))),?_⟩;refine hN _ _ ?_;clear hN N)))
    refine cE ?_ ?_ ?_ ?_ (by(try dsimp only);exact⟨by omega,_,sl @Nat.zero_add,.inr ⟨⟨101009010,st_a.next+1+1+1+1⟩,by rw[lh,ux]<;>(simp only[go_sem, ↓reduceIte,Nat.reduceEqDiff,Nat.reduceAdd,Nat.reduceSub,Nat.reduceLeDiff,reduceCtorEq]<;>rfl),by rw[lh,rM]<;>(simp only[go_sem, ↓reduceIte,Nat.reduceEqDiff,Nat.reduceAdd,Nat.reduceSub,Nat.reduceLeDiff,reduceCtorEq]<;>rfl),by(try dsimp only);omega,by(try dsimp only);omega⟩⟩)
    all_goals simp only[go_sem, ↓reduceIte,Nat.reduceEqDiff,Nat.reduceAdd,Nat.reduceSub,Nat.reduceLeDiff,reduceCtorEq,a9,a8,ag0,ag1,a0,a2,a4,a6,a7,nT,vA,vB,vC,ae]
   ·have vo:=dp aov
    have oA:=cr (a:=⟨101000000,n0⟩) (b:=o) (by(try dsimp only);omega)
    have oB:=cr (a:=⟨101000001,n0⟩) (b:=o) (by(try dsimp only);omega)
    have oC:=cr (a:=⟨101001001,n0+1⟩) (b:=o) (by(try dsimp only);omega)
    have MM:(L.map aa).length=L.length:=by simp
    have ML:L.length<=16777214:=by omega
    have QA:L.length<=16777215:=by omega
    (repeat(first|((repeat(revert hN;revert N;apply Pn.out));refine wk (tw @a9 (tw @a8 (tw @ag0 (tw @ag1 (tw @a0 (tw @a2 (tw @a4 (tw @a6 (tw @a7 (tw @hi (tw @j7 (tw @vA (tw @vB (tw @vC (tw @vo (tw @oA (tw @oB (tw @oC (tw @ao (tw @av (tw @lF (tw @MM (tw @ML (tw @QA (tw @ae.eq_1 @aa.eq_1))))))))))))))))))))))))) ?_;(repeat(refine Pn.mk ?_;intro N hN)))|((try apply Or.inl);refine⟨_,aq.x (dS) (sd (tw @a9 (tw @a8 (tw @ag0 (tw @ag1 (tw @a0 (tw @a2 (tw @a4 (tw @a6 (tw @a7 (tw @hi (tw @j7 (tw @vA (tw @vB (tw @vC (tw @vo (tw @oA (tw @oB (tw @oC (tw @ao (tw @av (tw @lF (tw @MM (tw @ML (tw @QA (tw @ae.eq_1 @aa.eq_1)))))))))))))))))))))))))),?_⟩;refine hN _ _ ?_;clear hN N)))
    refine cE ?_ ?_ ?_ ?_ (by(try dsimp only);exact⟨by omega,_,sl @Nat.zero_add,.inr ⟨⟨101009010,st_a.next+1+1+1+1⟩,by rw[lh,ux]<;>(simp only[go_sem, ↓reduceIte,Nat.reduceEqDiff,Nat.reduceAdd,Nat.reduceSub,Nat.reduceLeDiff,reduceCtorEq]<;>rfl),by rw[lh,rM]<;>(simp only[go_sem, ↓reduceIte,Nat.reduceEqDiff,Nat.reduceAdd,Nat.reduceSub,Nat.reduceLeDiff,reduceCtorEq]<;>rfl),by(try dsimp only);omega,by(try dsimp only);omega⟩⟩)
    all_goals simp only[go_sem, ↓reduceIte,Nat.reduceEqDiff,Nat.reduceAdd,Nat.reduceSub,Nat.reduceLeDiff,reduceCtorEq,a9,a8,ag0,ag1,a0,a2,a4,a6,a7,nT,vA,vB,vC,oA,oB,oC,ae]
 ·have lE:i=l.length:=by omega
  subst lE
  rw[List.take_length]at a8 aG Lw
  cases hd:uq q l
  ·rw[hd]at a8
   have lh:iz l ⟨p,t⟩=jc q l++[q]:=by rw[<-hq,Ck hd,jc,hd];simp
   have SP:aa q=[.int .i64 p.eZ,.int .i64 p.eT,.int .i64 t]:=by rw[hq];rfl
   generalize jc q l=L at aG Lw lh
   have ux:=iN L q
   have rM:(L++[q]).map aa=L.map aa++[[.int .i64 p.eZ,.int .i64 p.eT,.int .i64 t]]:=by rw[List.map_append,List.map_singleton,SP]
   rcases aG with⟨hL,rfl⟩|⟨o,rfl,ao,aon,aov⟩
   ·subst hL
    (try((repeat(revert hN;revert N;apply Pn.out));refine wk (tw @a9 (tw @a8 (tw @ag0 (tw @ag1 (tw @a0 (tw @a2 (tw @a4 (tw @a6 (tw @a7 (tw @hi (tw @vA (tw @vB (tw @vC (tw @av (tw @ae.eq_1 @aa.eq_1))))))))))))))) ?_;(repeat(refine Pn.mk ?_;intro N hN))))
    exact fx (.inl rfl) (vs:=[.agg [.own ⟨101011006,st_a.next+1+1⟩ 0 1]]) (sd (tw @a9 (tw @a8 (tw @ag0 (tw @ag1 (tw @a0 (tw @a2 (tw @a4 (tw @a6 (tw @a7 @vB)))))))))) ⟨⟨101011006,st_a.next+1+1⟩,by rw[lh];rfl,by rw[lh];simp only[go_sem, ↓reduceIte,Nat.reduceEqDiff,Nat.reduceAdd,Nat.reduceSub,Nat.reduceLeDiff,reduceCtorEq,vB];rw[SP],by(try dsimp only);omega,by(try dsimp only);omega⟩
   ·have vo:=dp aov
    have oA:=cr (a:=⟨101000000,n0⟩) (b:=o) (by(try dsimp only);omega)
    have oB:=cr (a:=⟨101000001,n0⟩) (b:=o) (by(try dsimp only);omega)
    have oC:=cr (a:=⟨101001001,n0+1⟩) (b:=o) (by(try dsimp only);omega)
    have MM:(L.map aa).length=L.length:=by simp
    have ML:L.length<=16777215:=by omega
    (try((repeat(revert hN;revert N;apply Pn.out));refine wk (tw @a9 (tw @a8 (tw @ag0 (tw @ag1 (tw @a0 (tw @a2 (tw @a4 (tw @a6 (tw @a7 (tw @hi (tw @vA (tw @vB (tw @vC (tw @vo (tw @oA (tw @oB (tw @oC (tw @ao (tw @av (tw @MM (tw @ML (tw @ae.eq_1 @aa.eq_1)))))))))))))))))))))) ?_;(repeat(refine Pn.mk ?_;intro N hN))))
    exact fx (.inl rfl) (vs:=[.agg [.own ⟨101011006,st_a.next+1+1⟩ 0 (L.length+1)]]) (sd (tw @a9 (tw @a8 (tw @ag0 (tw @ag1 (tw @a0 (tw @a2 (tw @a4 (tw @a6 (tw @a7 @vB)))))))))) ⟨⟨101011006,st_a.next+1+1⟩,by rw[lh,ux];rfl,by rw[lh,rM];simp only[go_sem, ↓reduceIte,Nat.reduceEqDiff,Nat.reduceAdd,Nat.reduceSub,Nat.reduceLeDiff,reduceCtorEq,vB],by(try dsimp only);omega,by(try dsimp only);omega⟩
  ·rw[hd]at a8
   have lh:iz l ⟨p,t⟩=jc q l:=by rw[<-hq,jc,hd];simp
   have jN:0<(jc q l).length:=by rw[<-lh,o9];omega
   generalize jc q l=L at aG Lw jN lh
   rcases aG with⟨hL,rfl⟩|⟨o,rfl,ao,aon,aov⟩
   ·subst hL;cases jN
   ·have vo:=dp aov
    have oB:=cr (a:=⟨101000001,n0⟩) (b:=o) (by(try dsimp only);omega)
    (try((repeat(revert hN;revert N;apply Pn.out));refine wk (tw @a9 (tw @a8 (tw @ag0 (tw @ag1 (tw @a0 (tw @a2 (tw @a4 (tw @a6 (tw @a7 (tw @hi (tw @vA (tw @vB (tw @vC (tw @vo (tw @ao (tw @av (tw @ae.eq_1 @aa.eq_1))))))))))))))))) ?_;(repeat(refine Pn.mk ?_;intro N hN))))
    exact fx (.inl rfl) (vs:=[.agg [.own o 0 L.length]]) (sd (tw @a9 (tw @a8 (tw @ag0 (tw @ag1 (tw @a0 (tw @a2 (tw @a4 (tw @a6 (tw @a7 @vB)))))))))) ⟨o,by rw[lh];rfl,by rw[lh];simp only[go_sem, ↓reduceIte,Nat.reduceEqDiff,Nat.reduceAdd,Nat.reduceSub,Nat.reduceLeDiff,reduceCtorEq,vB,oB,ao],by(try dsimp only);omega,by(try dsimp only);omega⟩
theorem Jf (s:aA) (hP:vn s) (l:List ad) (hA:jk s.aE l) (p:aD) (t:Int) (ht:eL s.aE t=true):aq Tryz.prog 100 [.di (aw s),.di [.sl (l.map aa)],.agg [.int .i64 p.eZ,.int .i64 p.eT,.int .i64 t]] (.bool (j4 s l p t)):=by
 refine aq.body eC rfl fun ml n0=>?_
 clear ml
 have h1:=wD p
 have h2:=(wE s.aE t).cut mixed (.ptr _ [.sl (s.bc.ah.map aa),.int .i64 s.aB] (.same _ .nil))
 have h3:=qN l p hA.1.G3 (by have:=hA.1.sD;omega)
 rw[ht]at h2
 by_cases h0:Cj p=true
 ·rw[h0]at h1
  obtain⟨hx,hy⟩:=tj h0
  by_cases hi:eD l p<0
  ·have h4:=(zV s.aE hP.set l hA p hx hy t ht).cut mixed (.ptr _ [.sl (s.bc.ah.map aa),.int .i64 s.aB] (.same _ (.same _ (.same _ .nil))))
   have e:j4 s l p t=decide (s.aB<=tH s.aE (gC l) p t):=by simp[j4,h0,(HU hA p).2 hi]
   rw[e]
   (repeat(first|((repeat(revert hN;revert N;apply Pn.out));refine wk (tw @aw.eq_1 (tw @ab.eq_1 (tw @ae.eq_1 @hi))) ?_;(repeat(refine Pn.mk ?_;intro N hN)))|((try apply Or.inl);refine⟨_,aq.x (h1) (sd (tw @aw.eq_1 (tw @ab.eq_1 (tw @ae.eq_1 @hi)))),?_⟩;refine hN _ _ ?_;clear hN N)|((try apply Or.inl);refine⟨_,aq.x (h2) (sd (tw @aw.eq_1 (tw @ab.eq_1 (tw @ae.eq_1 @hi)))),?_⟩;refine hN _ _ ?_;clear hN N)|((try apply Or.inl);refine⟨_,aq.x (h3) (sd (tw @aw.eq_1 (tw @ab.eq_1 (tw @ae.eq_1 @hi)))),?_⟩;refine hN _ _ ?_;clear hN N)|((try apply Or.inl);refine⟨_,aq.x (h4) (sd (tw @aw.eq_1 (tw @ab.eq_1 (tw @ae.eq_1 @hi)))),?_⟩;refine hN _ _ ?_;clear hN N)))
   exact aT (b:=decide (s.aB<=tH s.aE (gC l) p t)) (.inl rfl) (sd @Nat.zero_add) rfl
  ·have e:j4 s l p t=false:=by
    have:¬gC l p<0:=fun h=>hi ((HU hA p).1 h)
    simp[j4,this]
   rw[e]
   (repeat(first|((repeat(revert hN;revert N;apply Pn.out));refine wk (tw @aw.eq_1 (tw @ab.eq_1 (tw @ae.eq_1 @hi))) ?_;(repeat(refine Pn.mk ?_;intro N hN)))|((try apply Or.inl);refine⟨_,aq.x (h1) (sd (tw @aw.eq_1 (tw @ab.eq_1 (tw @ae.eq_1 @hi)))),?_⟩;refine hN _ _ ?_;clear hN N)|((try apply Or.inl);refine⟨_,aq.x (h2) (sd (tw @aw.eq_1 (tw @ab.eq_1 (tw @ae.eq_1 @hi)))),?_⟩;refine hN _ _ ?_;clear hN N)|((try apply Or.inl);refine⟨_,aq.x (h3) (sd (tw @aw.eq_1 (tw @ab.eq_1 (tw @ae.eq_1 @hi)))),?_⟩;refine hN _ _ ?_;clear hN N)))
   exact aT (b:=false) (.inl rfl) (sd @Nat.zero_add) rfl
 ·rw[Bool.not_eq_true]at h0
  rw[h0]at h1
  have e:j4 s l p t=false:=by simp[j4,h0]
  rw[e]
  (repeat(first|((repeat(revert hN;revert N;apply Pn.out));refine wk (tw @aw.eq_1 (tw @ab.eq_1 @ae.eq_1)) ?_;(repeat(refine Pn.mk ?_;intro N hN)))|((try apply Or.inl);refine⟨_,aq.x (h1) (sd (tw @aw.eq_1 (tw @ab.eq_1 @ae.eq_1))),?_⟩;refine hN _ _ ?_;clear hN N)))
  exact aT (b:=false) (.inl rfl) (sd @Nat.zero_add) rfl
end Go.Proofs.YtgoelphibofcmaaGreat.V
