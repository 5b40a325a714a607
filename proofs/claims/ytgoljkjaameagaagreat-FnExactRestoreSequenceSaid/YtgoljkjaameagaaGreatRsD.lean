/- Groups, by the reference. -/
import Derived.Test.YtgoljkjaameagaaGreatRsC
import Derived.Test.YtgoljkjaameagaaGreatRsB
import Derived.Shelf.SlSortCmp.WholeK
import Derived.Shelf.SlSortCmp.NoneTotal
import Derived.Ground.SlsfProg
import Derived.Test.YtgoljkjaameagaaGreatProg
set_option linter.unusedVariables false
set_option linter.unusedSimpArgs false
set_option maxRecDepth 100000
set_option maxHeartbeats 16000000
namespace Go.Proofs.YtgoljkjaameagaaGreat.V
open Go.RowKit
attribute [local irreducible] dL wpOps gC Call
attribute [local go_sem] aO fM eS ga fZ cU upd cD K.av cR AV.cells AV.cell rowOf rowsOf part ld rowAt bt cw dG ei iu bK dm eB fY e6 dt ep di dh dV dW bU bd cZ bQ db da ek er eo cY ck dj ej bP aQ dd cJ iq br cN bV aZ dr bc dH AV.undef bF bJ dX eh dR dO cK eA eC cI ev eu dc de List.getD_cons_zero List.getD_cons_succ List.getD_nil List.all_cons List.all_nil Bool.and_true Bool.true_and Bool.and_self Bool.not_true Bool.not_false Option.map_some Option.map_none Option.bind_some Option.bind_none List.length_cons List.length_nil List.take_succ_cons List.take_zero List.take_nil List.drop_succ_cons List.drop_zero List.drop_nil List.head?_cons List.map_cons List.map_nil List.getElem?_cons_zero List.getElem?_cons_succ List.cons_append List.nil_append List.append_nil List.length_map List.set_cons_zero List.set_cons_succ Nat.reduceMul eq_self Int.toNat_natCast Int.natCast_nonneg and_self true_and and_true decide_true decide_false Bool.false_eq_true Nat.zero_add Nat.add_zero List.contains_cons List.contains_nil Bool.or_false Bool.false_or beq_self_eq_true Nat.reduceBEq ne_eq not_true_eq_false not_false_eq_true Id.mk.injEq false_and and_false Nat.reduceLT Int.reduceLE Int.reduceLT Int.reduceToNat Int.reduceNeg Int.reduceAdd Nat.le_refl List.length_append beq_true beq_false Bool.not_eq_eq_eq_not or_false false_or dP ai aq aI bh bE cz aY bl aV bf cW bH
theorem Cs (a b:Nat):aj Tryz.prog 192 [.int .i64 a,.int .i64 b] (.int .i64 (min a b:Nat)):=by
 refine aj.body eI rfl fun hl n0=>?_
 clear hl
 by_cases h:(a:Int)<(b:Int)
 ·(try((repeat(revert hN;revert N;apply Pn.out));refine wk @h ?_;(repeat(refine Pn.mk ?_;intro N hN))))
  exact cr (b:=(a:Int)) (.inl rfl) (sd @Nat.zero_add) (by omega)
 ·(try((repeat(revert hN;revert N;apply Pn.out));refine wk @h ?_;(repeat(refine Pn.mk ?_;intro N hN))))
  exact cr (b:=(b:Int)) (.inl rfl) (sd @Nat.zero_add) (by omega)
theorem Cr (a b:Nat):aj Tryz.prog 191 [.int .i64 a,.int .i64 b] (.int .i64 (max a b:Nat)):=by
 refine aj.body eI rfl fun hl n0=>?_
 clear hl
 by_cases h:(b:Int)<(a:Int)
 ·(try((repeat(revert hN;revert N;apply Pn.out));refine wk @h ?_;(repeat(refine Pn.mk ?_;intro N hN))))
  exact cr (b:=(a:Int)) (.inl rfl) (sd @Nat.zero_add) (by omega)
 ·(try((repeat(revert hN;revert N;apply Pn.out));refine wk @h ?_;(repeat(refine Pn.mk ?_;intro N hN))))
  exact cr (b:=(b:Int)) (.inl rfl) (sd @Nat.zero_add) (by omega)
def dI (f:Nat->Nat) (n:Nat):List (List AV):=(List.range n).map fun i=>eN (f i)
theorem gq (f:Nat->Nat) (n:Nat):(dI f n).length=n:=by simp[dI]
theorem fy {f:Nat->Nat} {n i:Nat} (h:i<n):(dI f n)[i]? =some (eN (f i)):=by simp[dI,h]
theorem il {f g:Nat->Nat} {n:Nat} (h:∀i,i<n->f i=g i):dI f n=dI g n:=List.map_congr_left fun i hi=>by rw[h i (List.mem_range.1 hi)]
theorem qk {f g:Nat->Nat} {n k v:Nat} (hk:k<n) (hv:g k=v) (h:∀i,i<n->i≠k->g i=f i):(dI f n).set k (eN v)=dI g n:=by
 refine List.ext_getElem? fun i=>?_
 rw[List.getElem?_set]
 by_cases hi:k=i
 ·subst hi
  rw[if_pos rfl,gq,if_pos hk,fy hk,hv]
 ·rw[if_neg hi]
  by_cases fB:i<n
  ·rw[fy fB,fy fB,h i fB (fun h=>hi h.symm)]
  ·rw[List.getElem?_eq_none (by rw[gq];omega),List.getElem?_eq_none (by rw[gq];omega)]
theorem Ct (cnt:Nat) (hn:cnt<=1048576) (bs:List PB) (hb:∀b∈bs,b.a<cnt/\b.b<cnt) (qC:bs.length<=1048576):aj Tryz.prog 125 [.int .i64 cnt,.sl (bs.map az)] (.sl ((fD cnt (eE bs)).map Bj)):=by
 refine aj.body eI rfl fun hl n0=>?_
 clear hl
 (try((repeat(revert hN;revert N;apply Pn.out));refine wk @Nat.zero_add ?_;(repeat(refine Pn.mk ?_;intro N hN))))
 refine aW (fun n env st=>∃k:Nat,n=(cnt)-k/\k<=(cnt)/\env 6=.int .i64 (k:Int)/\(∃o:Id,env 5=.own o 0 k/\st.get o=some ⟨true,1,dI id k⟩/\o.bW<st.next)) (cnt) ⟨0,by omega,by omega,sl @Nat.zero_add,⟨⟨125001000,n0+1⟩,sd @Nat.zero_add,by simp only[go_sem, ↓reduceIte,Nat.reduceEqDiff,Nat.reduceAdd,Nat.reduceSub,Nat.reduceLeDiff,reduceCtorEq];rfl,by(try dsimp only);omega⟩⟩ ?_
 rintro n_a env_a st_a ⟨k,rfl,ale,a6,me⟩ dJ
 have a0:=dJ 0 (by kernel_rfl);have a1:=dJ 1 (by kernel_rfl)
 simp only[go_sem, ↓reduceIte,Nat.reduceEqDiff,Nat.reduceAdd,Nat.reduceSub,Nat.reduceLeDiff,reduceCtorEq]at a0 a1
 clear dJ
 obtain⟨o,a5,ag,vO⟩:=me
 have tl:=gq id k
 have td:=dv vO
 by_cases hk:(k:Int)<(cnt:Int)
 ·have cG:∀{e:Env} {gg:Rows} {nx:Nat},(e 6=.int .i64 (IntKind.i64.wrap ((k:Int)+1)))->(∃o:Id,e 5=.own o 0 (k+1)/\gg o=some ⟨true,1,dI id (k+1)⟩/\o.bW<nx)->∃m0,m0<(cnt)-k/\∃k:Nat,m0=(cnt)-k/\k<=(cnt)/\e 6=.int .i64 (k:Int)/\(∃o:Id,e 5=.own o 0 k/\gg o=some ⟨true,1,dI id k⟩/\o.bW<nx):=fun x1 x2=>⟨_,by omega,k+1,rfl,by omega,(by rw[x1,aB (by omega)]),x2⟩
  have fE:k<cnt:=by omega
  have e1:k+1<=16777216:=by omega
  have tG:dI id k++[[.int .i64 (k:Int)]]=dI id (k+1):=by simp[dI,List.range_succ,eN]
  (try((repeat(revert hN;revert N;apply Pn.out));refine wk (tw @a6 (tw @a0 (tw @a1 (tw @a5 (tw @ag (tw @td (tw @hk (tw @tl (tw @e1 @tG))))))))) ?_;(repeat(refine Pn.mk ?_;intro N hN))))
  exact cG (sd (tw @a6 (tw @a0 @a1))) (⟨⟨125005003,st_a.next+1⟩,sd @Nat.zero_add,sd @tG,by(try dsimp only);omega⟩)
 have mC:k=cnt:=by omega
 subst mC
 have Vh:st_a.get o=some ⟨true,1,dI (eE (bs.take 0)) k⟩:=ag
 clear ag
 (try((repeat(revert hN;revert N;apply Pn.out));refine wk (tw @a6 (tw @a0 (tw @a1 @hk))) ?_;(repeat(refine Pn.mk ?_;intro N hN))))
 refine aW (fun n env st=>∃j:Nat,n=(bs.length)-j/\j<=(bs.length)/\env 7=.int .i64 (j:Int)/\st.get o=some ⟨true,1,dI (eE (bs.take j)) k⟩/\(o.bW<st.next)) (bs.length) ⟨0,by omega,by omega,sl (tw @a6 (tw @a0 (tw @a1 (tw @a5 @Vh)))),sl (tw @a6 (tw @a0 (tw @a1 (tw @a5 @Vh)))),(by(try dsimp only);omega)⟩ ?_
 rintro n_b env_b st_b ⟨j,rfl,ble,b7,bg0,bI0⟩ gu
 have b0:=gu 0 (by kernel_rfl);have b1:=gu 1 (by kernel_rfl);have b5:=gu 5 (by kernel_rfl)
 simp only[go_sem, ↓reduceIte,Nat.reduceEqDiff,Nat.reduceAdd,Nat.reduceSub,Nat.reduceLeDiff,reduceCtorEq,a6,a0,a1,a5,Vh]at b0 b1 b5
 clear gu
 by_cases hj:(j:Int)<(bs.length:Int)
 ·have gp:∀{e:Env} {gg:Rows} {nx:Nat},(e 7=.int .i64 (IntKind.i64.wrap ((j:Int)+1)))->(gg o=some ⟨true,1,dI (eE (bs.take (j+1))) k⟩)->(o.bW<nx)->∃m0,m0<(bs.length)-j/\∃j:Nat,m0=(bs.length)-j/\j<=(bs.length)/\e 7=.int .i64 (j:Int)/\gg o=some ⟨true,1,dI (eE (bs.take j)) k⟩/\(o.bW<nx):=fun x1 x2 x3=>⟨_,by omega,j+1,rfl,by omega,(by rw[x1,aB (by omega)]),x2,x3⟩
  have iW:j<bs.length:=by omega
  have HU:(bs.map az)[j]? =some (az bs[j]):=by simp[iW]
  have Np:=hb _ (List.getElem_mem iW)
  have oF:bs.take (j+1)=bs.take j++[bs[j]]:=List.take_succ_eq_append_getElem iW
  have lY:eE (bs.take (j+1))=eR (eE (bs.take j)) bs[j]:=by rw[oF,xd]
  generalize eE (bs.take j)=L at *
  generalize bs[j]=b at *
  have hA:=fy (f:=L) Np.1
  have hB:=fy (f:=L) Np.2
  have SS:=Cs (L b.a) (L b.b)
  have SU:=Cr (L b.a) (L b.b)
  have tl:=gq L k
  have gP:(b.a:Int)<(k:Int):=by omega
  have fU:(b.b:Int)<(k:Int):=by omega
  (try((repeat(revert hN;revert N;apply Pn.out));refine wk (tw @b7 (tw @bg0 (tw @b0 (tw @b1 (tw @b5 (tw @hj (tw @HU (tw @az.eq_1 (tw @hA (tw @hB (tw @gP (tw @fU (tw @tl @eN.eq_1))))))))))))) ?_;(repeat(refine Pn.mk ?_;intro N hN))))
  refine aW (fun n env st=>∃i:Nat,n=(k)-i/\i<=(k)/\env 10=.int .i64 (i:Int)/\st.get o=some ⟨true,1,dI (fun x=>if x<i then eR L b x else L x) k⟩/\(o.bW<st.next)) (k) ⟨0,by omega,by omega,sl (tw @b7 (tw @bg0 (tw @b0 (tw @b1 (tw @b5 @Nat.not_lt_zero))))),sl (tw @b7 (tw @bg0 (tw @b0 (tw @b1 (tw @b5 @Nat.not_lt_zero))))),(by(try dsimp only);omega)⟩ ?_
  rintro n_c env_c st_c ⟨i,rfl,cle,jF,cg0,cI0⟩ cfr
  have c0:=cfr 0 (by kernel_rfl);have c1:=cfr 1 (by kernel_rfl);have c5:=cfr 5 (by kernel_rfl);have c7:=cfr 7 (by kernel_rfl);have c8:=cfr 8 (by kernel_rfl);have c9:=cfr 9 (by kernel_rfl)
  simp only[go_sem, ↓reduceIte,Nat.reduceEqDiff,Nat.reduceAdd,Nat.reduceSub,Nat.reduceLeDiff,reduceCtorEq,b7,bg0,b0,b1,b5,Nat.not_lt_zero]at c0 c1 c5 c7 c8 c9
  clear cfr
  have hC:=fy (f:=fun x=>if x<i then eR L b x else L x) (n:=k) (i:=i)
  have tc:=gq (fun x=>if x<i then eR L b x else L x) k
  by_cases hi:(i:Int)<(k:Int)
  ·have iw:∀{e:Env} {gg:Rows} {nx:Nat},(e 10=.int .i64 (IntKind.i64.wrap ((i:Int)+1)))->(gg o=some ⟨true,1,dI (fun x=>if x<(i+1)then eR L b x else L x) k⟩)->(o.bW<nx)->∃m0,m0<(k)-i/\∃i:Nat,m0=(k)-i/\i<=(k)/\e 10=.int .i64 (i:Int)/\gg o=some ⟨true,1,dI (fun x=>if x<i then eR L b x else L x) k⟩/\(o.bW<nx):=fun x1 x2 x3=>⟨_,by omega,i+1,rfl,by omega,(by rw[x1,aB (by omega)]),x2,x3⟩
   have fB:i<k:=by omega
   replace hC:=hC fB
   rw[if_neg (Nat.lt_irrefl i)]at hC
   by_cases he:L i=max (L b.a) (L b.b)
   ·have vM:decide ((L i:Int)=((max (L b.a) (L b.b):Nat):Int))=true:=decide_eq_true (by rw[he])
    have eF:(dI (fun x=>if x<i then eR L b x else L x) k).set i (eN (min (L b.a) (L b.b)))=dI (fun x=>if x<i+1 then eR L b x else L x) k:=qk fB (by rw[if_pos (by omega),eR,if_pos he]) fun x hx Dl=>by
     by_cases h:x<i
     ·rw[if_pos h,if_pos (by omega)]
     ·rw[if_neg h,if_neg (by omega)]
    rw[eN]at eF hC
    (repeat(first|((repeat(revert hN;revert N;apply Pn.out));refine wk (tw @jF (tw @cg0 (tw @c0 (tw @c1 (tw @c5 (tw @c7 (tw @c8 (tw @c9 (tw @hi (tw @hC (tw @tc (tw @vM @eF)))))))))))) ?_;(repeat(refine Pn.mk ?_;intro N hN)))|((try apply Or.inl);refine⟨_,aj.x (SS) (sd (tw @jF (tw @cg0 (tw @c0 (tw @c1 (tw @c5 (tw @c7 (tw @c8 (tw @c9 (tw @hi (tw @hC (tw @tc (tw @vM @eF))))))))))))),?_⟩;refine hN _ _ ?_;clear hN N)|((try apply Or.inl);refine⟨_,aj.x (SU) (sd (tw @jF (tw @cg0 (tw @c0 (tw @c1 (tw @c5 (tw @c7 (tw @c8 (tw @c9 (tw @hi (tw @hC (tw @tc (tw @vM @eF))))))))))))),?_⟩;refine hN _ _ ?_;clear hN N)))
    refine iw ?_ ?_ (by(try dsimp only);omega)
    all_goals simp only[go_sem, ↓reduceIte,Nat.reduceEqDiff,Nat.reduceAdd,Nat.reduceSub,Nat.reduceLeDiff,reduceCtorEq,jF,cg0,c0,c1,c5,c7,c8,c9]
   ·have vM:decide ((L i:Int)=((max (L b.a) (L b.b):Nat):Int))=false:=decide_eq_false fun h=>he (by omega)
    have mN:dI (fun x=>if x<i then eR L b x else L x) k=dI (fun x=>if x<i+1 then eR L b x else L x) k:=il fun x hx=>by
     by_cases h:x<i
     ·rw[if_pos h,if_pos (by omega)]
     ·by_cases Dl:x=i
      ·subst Dl;rw[if_neg h,if_pos (by omega),eR,if_neg he]
      ·rw[if_neg h,if_neg (by omega)]
    rw[eN]at hC
    (repeat(first|((repeat(revert hN;revert N;apply Pn.out));refine wk (tw @jF (tw @cg0 (tw @c0 (tw @c1 (tw @c5 (tw @c7 (tw @c8 (tw @c9 (tw @hi (tw @hC (tw @tc @vM))))))))))) ?_;(repeat(refine Pn.mk ?_;intro N hN)))|((try apply Or.inl);refine⟨_,aj.x (SS) (sd (tw @jF (tw @cg0 (tw @c0 (tw @c1 (tw @c5 (tw @c7 (tw @c8 (tw @c9 (tw @hi (tw @hC (tw @tc @vM)))))))))))),?_⟩;refine hN _ _ ?_;clear hN N)|((try apply Or.inl);refine⟨_,aj.x (SU) (sd (tw @jF (tw @cg0 (tw @c0 (tw @c1 (tw @c5 (tw @c7 (tw @c8 (tw @c9 (tw @hi (tw @hC (tw @tc @vM)))))))))))),?_⟩;refine hN _ _ ?_;clear hN N)))
    rw[mN]at cg0
    refine iw ?_ ?_ (by(try dsimp only);omega)
    all_goals simp only[go_sem, ↓reduceIte,Nat.reduceEqDiff,Nat.reduceAdd,Nat.reduceSub,Nat.reduceLeDiff,reduceCtorEq,jF,cg0,c0,c1,c5,c7,c8,c9]
  ·have y8:i=k:=by omega
   subst y8
   have dE:dI (fun x=>if x<i then eR L b x else L x) i=dI (eR L b) i:=il fun x hx=>if_pos hx
   rw[dE]at cg0
   rw[<-lY]at cg0
   (try((repeat(revert hN;revert N;apply Pn.out));refine wk (tw @jF (tw @cg0 (tw @c0 (tw @c1 (tw @c5 (tw @c7 (tw @c8 (tw @c9 (tw @hi @tc))))))))) ?_;(repeat(refine Pn.mk ?_;intro N hN))))
   refine gp ?_ ?_ (by(try dsimp only);omega)
   all_goals simp only[go_sem, ↓reduceIte,Nat.reduceEqDiff,Nat.reduceAdd,Nat.reduceSub,Nat.reduceLeDiff,reduceCtorEq,b7,bg0,b0,b1,b5,jF,cg0,c0,c1,c5,c7,c8,c9]
 have im:j=bs.length:=by omega
 subst im
 rw[List.take_length]at bg0
 have hL:=uE bs
 generalize eE bs=L at *
 have tl:=gq L k
 (try((repeat(revert hN;revert N;apply Pn.out));refine wk (tw @b7 (tw @bg0 (tw @b0 (tw @b1 (tw @b5 @hj))))) ?_;(repeat(refine Pn.mk ?_;intro N hN))))
 have Vi:o.bW<st_b.next:=bI0
 refine aW (fun n env st=>∃i:Nat,n=(k)-i/\i<=(k)/\env 12=.int .i64 (i:Int)/\st.get o=some ⟨true,1,dI L k⟩/\(∃oo rows ids,env 11=.own oo 0 rows.length/\st.get oo=some ⟨true,1,rows⟩/\eK Qc st.get rows ((leads i L).map (members k L)) ids/\(∀x∈oo::ids,st_b.next<=x.bW/\x.bW<st.next)/\st_b.next<=st.next/\oo∉ids)) (k) ⟨0,by omega,by omega,sl (tw @b7 (tw @bg0 (tw @b0 (tw @b1 (tw @b5 (dv Vi)))))),sl (tw @b7 (tw @bg0 (tw @b0 (tw @b1 (tw @b5 (dv Vi)))))),⟨⟨125016000,st_b.next+1⟩,[],[],by(simp only[go_sem, ↓reduceIte,Nat.reduceEqDiff,Nat.reduceAdd,Nat.reduceSub,Nat.reduceLeDiff,reduceCtorEq])<;>rfl,sd @Nat.zero_add,.nil,fun x hx=>by rw[List.mem_singleton.1 hx];(try dsimp only);omega,by(try dsimp only);omega,by simp⟩⟩ ?_
 rintro n_d env_d st_d ⟨i,rfl,dle,d12,dg0,dI0⟩ dfr
 have d0:=dfr 0 (by kernel_rfl);have d5:=dfr 5 (by kernel_rfl)
 simp only[go_sem, ↓reduceIte,Nat.reduceEqDiff,Nat.reduceAdd,Nat.reduceSub,Nat.reduceLeDiff,reduceCtorEq,b7,bg0,b0,b1,b5,dv Vi]at d0 d5
 clear dfr
 obtain⟨oo,rows,ids,d11,dg,hR,oH,hle,sk⟩:=dI0
 have tG:=gW i L
 have rO:=hR.len
 by_cases hi:(i:Int)<(k:Int)
 ·have uH:∀{e:Env} {gg:Rows} {nx:Nat},(e 12=.int .i64 (IntKind.i64.wrap ((i:Int)+1)))->(gg o=some ⟨true,1,dI L k⟩)->(∃oo rows ids,e 11=.own oo 0 rows.length/\gg oo=some ⟨true,1,rows⟩/\eK Qc gg rows ((leads (i+1) L).map (members k L)) ids/\(∀x∈oo::ids,st_b.next<=x.bW/\x.bW<nx)/\st_b.next<=nx/\oo∉ids)->∃m0,m0<(k)-i/\∃i:Nat,m0=(k)-i/\i<=(k)/\e 12=.int .i64 (i:Int)/\gg o=some ⟨true,1,dI L k⟩/\(∃oo rows ids,e 11=.own oo 0 rows.length/\gg oo=some ⟨true,1,rows⟩/\eK Qc gg rows ((leads i L).map (members k L)) ids/\(∀x∈oo::ids,st_b.next<=x.bW/\x.bW<nx)/\st_b.next<=nx/\oo∉ids):=fun x1 x2 x3=>⟨_,by omega,i+1,rfl,by omega,(by rw[x1,aB (by omega)]),x2,x3⟩
  have fB:i<k:=by omega
  have hC:=fy (f:=L) fB
  have qt:=dv (i:=o) (n:=st_d.next) (by omega)
  have RT:=dv (i:=oo) (n:=st_d.next) (oH oo (by simp)).2
  by_cases he:L i=i
  ·rw[if_pos he]at tG
   have vM:decide ((L i:Int)=(i:Int))=true:=decide_eq_true (by rw[he])
   rw[eN]at hC
   (try((repeat(revert hN;revert N;apply Pn.out));refine wk (tw @d12 (tw @dg0 (tw @d0 (tw @d5 (tw @d11 (tw @dg (tw @hi (tw @hC (tw @tl (tw @vM (tw @qt @RT))))))))))) ?_;(repeat(refine Pn.mk ?_;intro N hN))))
   refine aW (fun n env st=>∃m:Nat,n=((k-i))-m/\m<=((k-i))/\env 14=(.int .i64 ((i+m:Nat):Int))/\(∃pp:Id,env 13=.own pp 0 (members (i+m) L i).length/\st.get pp=some ⟨true,1,(members (i+m) L i).map eN⟩/\st_d.next<=pp.bW/\pp.bW<st.next/\(∀x:Id,x.bW<st_d.next->st.get x=st_d.get x)/\st_d.next<=st.next)) ((k-i)) ⟨0,by omega,by omega,sl (tw @d12 (tw @dg0 (tw @d0 (tw @d5 @d11)))),⟨⟨125021000,st_d.next+1+1⟩,by rw[show members (i+0) L i=[]from nD hL (Nat.le_refl i)];(simp only[go_sem, ↓reduceIte,Nat.reduceEqDiff,Nat.reduceAdd,Nat.reduceSub,Nat.reduceLeDiff,reduceCtorEq])<;>rfl,by rw[show members (i+0) L i=[]from nD hL (Nat.le_refl i)];(simp only[go_sem, ↓reduceIte,Nat.reduceEqDiff,Nat.reduceAdd,Nat.reduceSub,Nat.reduceLeDiff,reduceCtorEq])<;>rfl,by(try dsimp only);omega,by(try dsimp only);omega,fun x hx=>sd (dv hx),by(try dsimp only);omega⟩⟩ ?_
   rintro n_f env_f st_f ⟨m,rfl,fle,f14,fI0⟩ ffr
   have f0:=ffr 0 (by kernel_rfl);have f5:=ffr 5 (by kernel_rfl);have f11:=ffr 11 (by kernel_rfl);have f12:=ffr 12 (by kernel_rfl)
   simp only[go_sem, ↓reduceIte,Nat.reduceEqDiff,Nat.reduceAdd,Nat.reduceSub,Nat.reduceLeDiff,reduceCtorEq,d12,dg0,d0,d5,d11]at f0 f5 f11 f12
   clear ffr
   obtain⟨pp,f13,fg,O0,Jm,jV,rh⟩:=fI0
   have si:st_f.get o=some ⟨true,1,dI L k⟩:=(jV o (by omega)).trans dg0
   have UW:st_f.get oo=some ⟨true,1,rows⟩:=(jV oo (oH oo (by simp)).2).trans dg
   have Bn:=dv Jm
   have Ci:=dv (i:=o) (n:=st_f.next) (by omega)
   have RU:=dv (i:=oo) (n:=st_f.next) (by have:=(oH oo (by simp)).2;omega)
   have OX:members (i+(m+1)) L i=members (i+m) L i++if L (i+m)=i then[i+m]else[]:=jz (i+m) L i
   have U9:(members (i+m) L i).length<=i+m:=by
    have:=List.length_filter_le (fun k=>L k==i) (List.range (i+m))
    simpa[members]using this
   have x1:=cH (a:=o) (b:=pp) (by omega)
   have x2:=cH (a:=oo) (b:=pp) (by have:=(oH oo (by simp)).2;omega)
   have x3:=cH (a:=o) (b:=oo) (by have:=(oH oo (by simp)).1;omega)
   by_cases hm:m<k-i
   ·have sH:∀{e:Env} {gg:Rows} {nx:Nat},(e 14=(.int .i64 ((i+(m+1):Nat):Int)))->(∃pp:Id,e 13=.own pp 0 (members (i+(m+1)) L i).length/\gg pp=some ⟨true,1,(members (i+(m+1)) L i).map eN⟩/\st_d.next<=pp.bW/\pp.bW<nx/\(∀x:Id,x.bW<st_d.next->gg x=st_d.get x)/\st_d.next<=nx)->∃m0,m0<((k-i))-m/\∃m:Nat,m0=((k-i))-m/\m<=((k-i))/\e 14=(.int .i64 ((i+m:Nat):Int))/\(∃pp:Id,e 13=.own pp 0 (members (i+m) L i).length/\gg pp=some ⟨true,1,(members (i+m) L i).map eN⟩/\st_d.next<=pp.bW/\pp.bW<nx/\(∀x:Id,x.bW<st_d.next->gg x=st_d.get x)/\st_d.next<=nx):=fun x1 x2=>⟨_,by omega,m+1,rfl,by omega,x1,x2⟩
    have RB:((i+m:Nat):Int)<(k:Int):=by omega
    have Uh:=fy (f:=L) (show i+m<k by omega)
    have hw:IntKind.i64.wrap (((i+m:Nat):Int)+1)=((i+(m+1):Nat):Int):=by rw[bz (by omega)];omega
    rw[eN]at Uh
    by_cases hq:L (i+m)=i
    ·have oy:decide ((L (i+m):Int)=(i:Int))=true:=decide_eq_true (by rw[hq])
     rw[if_pos hq]at OX
     have e1:(members (i+m) L i).length+1<=16777216:=by omega
     have lF:((members (i+m) L i).map eN).length=(members (i+m) L i).length:=by simp
     (try((repeat(revert hN;revert N;apply Pn.out));refine wk (tw @f14 (tw @f0 (tw @f5 (tw @f11 (tw @f12 (tw @f13 (tw @fg (tw @si (tw @RB (tw @Uh (tw @tl (tw @oy (tw @Bn (tw @Ci (tw @x1 (tw @e1 @lF)))))))))))))))) ?_;(repeat(refine Pn.mk ?_;intro N hN))))
     exact sH (sd (tw @f14 (tw @f0 (tw @f5 (tw @f11 (tw @f12 (tw @si (tw @hw (tw @Ci @x1))))))))) (⟨⟨125026003,st_f.next+1+1⟩,by rw[OX,List.length_append];simp only[go_sem, ↓reduceIte,Nat.reduceEqDiff,Nat.reduceAdd,Nat.reduceSub,Nat.reduceLeDiff,reduceCtorEq,List.length_cons,List.length_nil],by rw[OX,List.map_append,List.map_cons,List.map_nil];simp only[go_sem, ↓reduceIte,Nat.reduceEqDiff,Nat.reduceAdd,Nat.reduceSub,Nat.reduceLeDiff,reduceCtorEq,eN],by(try dsimp only);omega,by(try dsimp only);omega,fun x hx=>by
      have y1:=jV x hx
      have y2:=cH (a:=x) (b:=pp) (by omega)
      simp only[go_sem, ↓reduceIte,Nat.reduceEqDiff,Nat.reduceAdd,Nat.reduceSub,Nat.reduceLeDiff,reduceCtorEq,dv (show x.bW<st_f.next by omega),y1,y2],by(try dsimp only);omega⟩)
    ·have oy:decide ((L (i+m):Int)=(i:Int))=false:=decide_eq_false fun h=>hq (by omega)
     rw[if_neg hq,List.append_nil]at OX
     (try((repeat(revert hN;revert N;apply Pn.out));refine wk (tw @f14 (tw @f0 (tw @f5 (tw @f11 (tw @f12 (tw @f13 (tw @fg (tw @si (tw @RB (tw @Uh (tw @tl (tw @oy (tw @Bn (tw @Ci @x1)))))))))))))) ?_;(repeat(refine Pn.mk ?_;intro N hN))))
     exact sH (sd (tw @f14 (tw @f0 (tw @f5 (tw @f11 (tw @f12 (tw @si @hw))))))) (⟨pp,by rw[OX];simp only[go_sem, ↓reduceIte,Nat.reduceEqDiff,Nat.reduceAdd,Nat.reduceSub,Nat.reduceLeDiff,reduceCtorEq,f13],by rw[OX];simp only[go_sem, ↓reduceIte,Nat.reduceEqDiff,Nat.reduceAdd,Nat.reduceSub,Nat.reduceLeDiff,reduceCtorEq,fg],O0,by(try dsimp only);omega,jV,by(try dsimp only);omega⟩)
   ·have hmk:i+m=k:=by omega
    have RB:¬((i+m:Nat):Int)<(k:Int):=by omega
    rw[hmk]at f13 fg U9
    have e1:rows.length+1<=16777216:=by
     have:=jY i L
     rw[rO,List.length_map];omega
    (try((repeat(revert hN;revert N;apply Pn.out));refine wk (tw @f14 (tw @f0 (tw @f5 (tw @f11 (tw @f12 (tw @f13 (tw @fg (tw @si (tw @UW (tw @RB (tw @Bn (tw @Ci (tw @RU (tw @x1 (tw @x2 @e1))))))))))))))) ?_;(repeat(refine Pn.mk ?_;intro N hN))))
    refine uH ?_ ?_ (⟨⟨125027003,st_f.next+1⟩,rows++[[.own pp 0 (members k L i).length]],ids++[pp],by rw[List.length_append];simp only[go_sem, ↓reduceIte,Nat.reduceEqDiff,Nat.reduceAdd,Nat.reduceSub,Nat.reduceLeDiff,reduceCtorEq,List.length_cons,List.length_nil],sd @Nat.zero_add,by
      rw[tG,List.map_append]
      refine(hR.frame Mo fun x hx=>?_).app (.one ⟨pp,rfl,?_,rfl⟩)
      ·have h1:=oH x (by simp[hx])
       have y1:=jV x h1.2
       have y2:=cH (a:=x) (b:=pp) (by omega)
       have y3:(x=oo)=False:=by
        simp only[eq_iff_iff,iff_false]
        rintro rfl
        exact sk hx
       simp only[go_sem, ↓reduceIte,Nat.reduceEqDiff,Nat.reduceAdd,Nat.reduceSub,Nat.reduceLeDiff,reduceCtorEq,dv (show x.bW<st_f.next by omega),y1,y2,y3]
      ·simp only[go_sem, ↓reduceIte,Nat.reduceEqDiff,Nat.reduceAdd,Nat.reduceSub,Nat.reduceLeDiff,reduceCtorEq,Bn,x2,fg],fun x hx=>by
      rcases List.mem_cons.1 hx with rfl|hx
      ·(try dsimp only);omega
      ·rcases List.mem_append.1 hx with hx|hx
       ·have:=oH x (by simp[hx]);(try dsimp only);omega
       ·rw[List.mem_singleton.1 hx];(try dsimp only);omega,by(try dsimp only);omega,fun hc=>by
      rcases List.mem_append.1 hc with hc|hc
      ·have:=(oH _ (List.mem_cons_of_mem _ hc)).2;(try dsimp only at this);omega
      ·have:=List.mem_singleton.1 hc;rw[<-this]at Jm;(try dsimp only at Jm);omega⟩)
    all_goals simp only[go_sem, ↓reduceIte,Nat.reduceEqDiff,Nat.reduceAdd,Nat.reduceSub,Nat.reduceLeDiff,reduceCtorEq,f14,f0,f5,f11,f12,si,Ci,x3]
  ·rw[if_neg he,List.append_nil]at tG
   have vM:decide ((L i:Int)=(i:Int))=false:=decide_eq_false fun h=>he (by omega)
   rw[eN]at hC
   (try((repeat(revert hN;revert N;apply Pn.out));refine wk (tw @d12 (tw @dg0 (tw @d0 (tw @d5 (tw @d11 (tw @dg (tw @hi (tw @hC (tw @tl (tw @vM (tw @qt @RT))))))))))) ?_;(repeat(refine Pn.mk ?_;intro N hN))))
   refine uH ?_ ?_ (⟨oo,rows,ids,sd @d11,sd @dg,by rw[tG];exact hR,fun x hx=>by have:=oH x hx;(try dsimp only);omega,by(try dsimp only);omega,sk⟩)
   all_goals simp only[go_sem, ↓reduceIte,Nat.reduceEqDiff,Nat.reduceAdd,Nat.reduceSub,Nat.reduceLeDiff,reduceCtorEq,d12,dg0,d0,d5]
 ·have y8:i=k:=by omega
  (try((repeat(revert hN;revert N;apply Pn.out));refine wk (tw @d12 (tw @dg0 (tw @d0 (tw @d5 (tw @d11 (tw @dg @hi)))))) ?_;(repeat(refine Pn.mk ?_;intro N hN))))
  refine xD (.inl rfl) (by simp only[go_sem, ↓reduceIte,Nat.reduceEqDiff,Nat.reduceAdd,Nat.reduceSub,Nat.reduceLeDiff,reduceCtorEq];rfl) ?_
  rw[vI dg (by simp) (rows':=(fD k L).map Bj) (by rw[List.drop_zero,List.take_of_length_le (Nat.le_refl _)];rw[y8]at hR;exact JQ 3 hR)]
theorem xO (n:Nat):List.replicate n [AV.int .i64 0]=dI (fun _=>0) n:=by
 refine List.ext_getElem? fun i=>?_
 by_cases h:i<n
 ·rw[fy h,List.getElem?_replicate,if_pos h];rfl
 ·rw[List.getElem?_eq_none (by simp;omega),List.getElem?_eq_none (by rw[gq];omega)]
def cX (cnt:Nat) (L:Nat->Nat) (i m:Nat):Nat->Nat:=fun x=>if cm L x<i then cm L x else if x∈(members cnt L ((leads cnt L).getD i 0)).take m then i else 0
theorem pz (cnt:Nat) (L:Nat->Nat):cX cnt L 0 0=fun _=>0:=by funext x;simp[cX]
theorem uM (t:Int) (bs:List PB) (k:Nat) (h:k<bs.length):aM t (bs.take (k+1))=aM t (bs.take k)++if t<=(bs[k]).s then[bs[k]]else[]:=by
 unfold aM
 rw[List.take_succ_eq_append_getElem h,List.filter_append]
 congr 1
 by_cases h:t<=bs[k].s<;>simp[h]
theorem xK {t:Int} {bs:List PB} {b:PB} (h:b∈aM t bs):b∈bs:=(List.mem_filter.1 h).1
theorem nJ (t:Int) (bs:List PB):(aM t bs).length<=bs.length:=List.length_filter_le _ _
theorem Cv (cnt:Nat) (hn:cnt<=1048576) (bs:List PB) (hb:∀b∈bs,b.a<cnt/\b.b<cnt) (qC:bs.length<=1048576) (t:Int):aj Tryz.prog 240 [.int .i64 cnt,.sl (bs.map az),.int .i64 t] (.gO [.int .i64 (leads cnt (eE (aM t bs))).length,.sl ((e9 (eE (aM t bs)) bs).map az)]):=by
 refine aj.body eI rfl fun hl n0=>?_
 clear hl
 (try((repeat(revert hN;revert N;apply Pn.out));refine wk @Nat.zero_add ?_;(repeat(refine Pn.mk ?_;intro N hN))))
 refine aW (fun n env st=>∃k:Nat,n=(bs.length)-k/\k<=(bs.length)/\env 9=.int .i64 (k:Int)/\(∃o:Id,env 8=.own o 0 (aM t (bs.take k)).length/\st.get o=some ⟨true,3,(aM t (bs.take k)).map az⟩/\o.bW<st.next)) (bs.length) ⟨0,by omega,by omega,sl @Nat.zero_add,⟨⟨240001000,n0+1⟩,by(simp only[go_sem, ↓reduceIte,Nat.reduceEqDiff,Nat.reduceAdd,Nat.reduceSub,Nat.reduceLeDiff,reduceCtorEq])<;>rfl,by(simp only[go_sem, ↓reduceIte,Nat.reduceEqDiff,Nat.reduceAdd,Nat.reduceSub,Nat.reduceLeDiff,reduceCtorEq])<;>rfl,by(try dsimp only);omega⟩⟩ ?_
 rintro n_a env_a st_a ⟨k,rfl,ale,a9,me⟩ dJ
 have a0:=dJ 0 (by kernel_rfl);have a1:=dJ 1 (by kernel_rfl);have a2:=dJ 2 (by kernel_rfl)
 simp only[go_sem, ↓reduceIte,Nat.reduceEqDiff,Nat.reduceAdd,Nat.reduceSub,Nat.reduceLeDiff,reduceCtorEq]at a0 a1 a2
 clear dJ
 obtain⟨o,a8,ag,vO⟩:=me
 have td:=dv vO
 by_cases hk:(k:Int)<(bs.length:Int)
 ·have cG:∀{e:Env} {gg:Rows} {nx:Nat},(e 9=.int .i64 (IntKind.i64.wrap ((k:Int)+1)))->(∃o:Id,e 8=.own o 0 (aM t (bs.take (k+1))).length/\gg o=some ⟨true,3,(aM t (bs.take (k+1))).map az⟩/\o.bW<nx)->∃m0,m0<(bs.length)-k/\∃k:Nat,m0=(bs.length)-k/\k<=(bs.length)/\e 9=.int .i64 (k:Int)/\(∃o:Id,e 8=.own o 0 (aM t (bs.take k)).length/\gg o=some ⟨true,3,(aM t (bs.take k)).map az⟩/\o.bW<nx):=fun x1 x2=>⟨_,by omega,k+1,rfl,by omega,(by rw[x1,aB (by omega)]),x2⟩
  have fE:k<bs.length:=by omega
  have eT:(bs.map az)[k]? =some (az bs[k]):=by simp[fE]
  have hs:=uM t bs k fE
  have Dj:=nJ t (bs.take k)
  rw[List.length_take]at Dj
  by_cases hc:t<=(bs[k]).s
  ·rw[if_pos hc]at hs
   have e1:(aM t (bs.take k)).length+1<=16777216:=by omega
   have lF:((aM t (bs.take k)).map az).length=(aM t (bs.take k)).length:=by simp
   generalize bs[k]=b at *
   (try((repeat(revert hN;revert N;apply Pn.out));refine wk (tw @a9 (tw @a0 (tw @a1 (tw @a2 (tw @a8 (tw @ag (tw @td (tw @hk (tw @eT (tw @hc (tw @e1 (tw @lF @az.eq_1)))))))))))) ?_;(repeat(refine Pn.mk ?_;intro N hN))))
   exact cG (sd (tw @a9 (tw @a0 (tw @a1 @a2)))) (⟨⟨240006006,st_a.next+1+1⟩,by rw[hs,List.length_append];simp only[go_sem, ↓reduceIte,Nat.reduceEqDiff,Nat.reduceAdd,Nat.reduceSub,Nat.reduceLeDiff,reduceCtorEq,List.length_cons,List.length_nil],by rw[hs,List.map_append,List.map_cons,List.map_nil];simp only[go_sem, ↓reduceIte,Nat.reduceEqDiff,Nat.reduceAdd,Nat.reduceSub,Nat.reduceLeDiff,reduceCtorEq,az],by(try dsimp only);omega⟩)
  ·rw[if_neg hc,List.append_nil]at hs
   generalize bs[k]=b at *
   (try((repeat(revert hN;revert N;apply Pn.out));refine wk (tw @a9 (tw @a0 (tw @a1 (tw @a2 (tw @a8 (tw @ag (tw @td (tw @hk (tw @eT (tw @hc @az.eq_1)))))))))) ?_;(repeat(refine Pn.mk ?_;intro N hN))))
   exact cG (sd (tw @a9 (tw @a0 (tw @a1 @a2)))) (⟨o,by rw[hs];simp only[go_sem, ↓reduceIte,Nat.reduceEqDiff,Nat.reduceAdd,Nat.reduceSub,Nat.reduceLeDiff,reduceCtorEq,a8],by rw[hs];simp only[go_sem, ↓reduceIte,Nat.reduceEqDiff,Nat.reduceAdd,Nat.reduceSub,Nat.reduceLeDiff,reduceCtorEq,ag],by(try dsimp only);omega⟩)
 have mC:k=bs.length:=by omega
 subst mC
 rw[List.take_length]at a8 ag
 have Dg:=Ct cnt hn (aM t bs) (fun b h=>hb b (xK h)) (by have:=nJ t bs;omega)
 have hL:=uE (aM t bs)
 have Df:fz (dP st_a.get) 6 (.own o 0 (aM t bs).length)=some (.sl ((aM t bs).map az)):=gy (sz:=3) (by simp[dP,ag]) rfl fun b=>z8 _ 4 b
 have UU:∀x,cV (dP st_a.get) 6 [.int .i64 x,.own o 0 (aM t bs).length]=some [.int .i64 x,.sl ((aM t bs).map az)]:=fun x=>by simp only[ai,aq,aI,Df,Option.map_some]
 (try((repeat(revert hN;revert N;apply Pn.out));refine wk (tw @a9 (tw @a0 (tw @a1 (tw @a2 (tw @a8 @hk))))) ?_;(repeat(refine Pn.mk ?_;intro N hN))))
 refine .inl ⟨_,aj.x Dg (UU _),?_⟩
 refine hN _ _ ?_
 clear hN N
 generalize eE (aM t bs)=L at *
 have tE:((fD cnt L).map Bj).length=(leads cnt L).length:=by simp[fD]
 have Tk:=jY cnt L
 have jP:(0:Int)<=(cnt:Int):=by omega
 have qD:(cnt:Int)<=((16777216:Nat):Int):=by omega
 have gQ:List.replicate cnt [AV.int .i64 0]=dI (cX cnt L 0 0) cnt:=by rw[xO,pz]
 (try((repeat(revert hN;revert N;apply Pn.out));refine wk (tw @a9 (tw @a0 (tw @a1 (tw @a2 (tw @jP (tw @qD @Int.le_refl)))))) ?_;(repeat(refine Pn.mk ?_;intro N hN))))
 refine aW (fun n env st=>∃i:Nat,n=((leads cnt L).length)-i/\i<=((leads cnt L).length)/\env 12=.int .i64 (i:Int)/\st.get ⟨240008001,st_a.next+1+1⟩=some ⟨true,1,dI (cX cnt L i 0) cnt⟩/\(st_a.next+1+1<st.next)) ((leads cnt L).length) ⟨0,by omega,by omega,sl (tw @a9 (tw @a0 (tw @a1 (tw @a2 @gQ)))),sl (tw @a9 (tw @a0 (tw @a1 (tw @a2 @gQ)))),(by(try dsimp only);omega)⟩ ?_
 rintro n_c env_c st_c ⟨i,rfl,cle,zU,cg0,cI0⟩ cfr
 have c1:=cfr 1 (by kernel_rfl);have jF:=cfr 10 (by kernel_rfl);have ow:=cfr 11 (by kernel_rfl)
 simp only[go_sem, ↓reduceIte,Nat.reduceEqDiff,Nat.reduceAdd,Nat.reduceSub,Nat.reduceLeDiff,reduceCtorEq,a9,a0,a1,a2,gQ]at c1 jF ow
 clear cfr
 by_cases hi:(i:Int)<((leads cnt L).length:Int)
 ·have iw:∀{e:Env} {gg:Rows} {nx:Nat},(e 12=.int .i64 (IntKind.i64.wrap ((i:Int)+1)))->(gg ⟨240008001,st_a.next+1+1⟩=some ⟨true,1,dI (cX cnt L (i+1) 0) cnt⟩)->(st_a.next+1+1<nx)->∃m0,m0<((leads cnt L).length)-i/\∃i:Nat,m0=((leads cnt L).length)-i/\i<=((leads cnt L).length)/\e 12=.int .i64 (i:Int)/\gg ⟨240008001,st_a.next+1+1⟩=some ⟨true,1,dI (cX cnt L i 0) cnt⟩/\(st_a.next+1+1<nx):=fun x1 x2 x3=>⟨_,by omega,i+1,rfl,by omega,(by rw[x1,aB (by omega)]),x2,x3⟩
  have fB:i<(leads cnt L).length:=by omega
  have kh:((fD cnt L).map Bj)[i]? =some (Bj (members cnt L (leads cnt L)[i])):=by simp[fD,fB]
  have vN:(leads cnt L).getD i 0=(leads cnt L)[i]:=by simp[List.getD_eq_getElem?_getD,fB]
  have lG:∀m,cX cnt L i m=fun x=>if cm L x<i then cm L x else if x∈(members cnt L (leads cnt L)[i]).take m then i else 0:=fun m=>by unfold cX;rw[vN]
  have sj:=fun x (hx:x<cnt)=>tO hL (n:=cnt) (k:=x) (i:=i) hx fB
  have mM:(members cnt L (leads cnt L)[i]).Nodup:=List.nodup_range.filter _
  have OV:∀x∈members cnt L (leads cnt L)[i],x<cnt:=fun x hx=>(l8.1 hx).1
  have hMc:(members cnt L (leads cnt L)[i]).length<=cnt:=by
   have:=List.length_filter_le (fun k=>L k==(leads cnt L)[i]) (List.range cnt)
   simpa[members]using this
  generalize members cnt L (leads cnt L)[i]=M at *
  have De:(M.map eN).length=M.length:=by simp
  (try((repeat(revert hN;revert N;apply Pn.out));refine wk (tw @zU (tw @cg0 (tw @c1 (tw @jF (tw @ow (tw @hi @tE)))))) ?_;(repeat(refine Pn.mk ?_;intro N hN))))
  refine aW (fun n env st=>∃m:Nat,n=(M.length)-m/\m<=(M.length)/\env 13=.int .i64 (m:Int)/\st.get ⟨240008001,st_a.next+1+1⟩=some ⟨true,1,dI (cX cnt L i m) cnt⟩/\(st_a.next+1+1<st.next)) (M.length) ⟨0,by omega,by omega,sl (tw @zU (tw @cg0 (tw @c1 (tw @jF @ow)))),sl (tw @zU (tw @cg0 (tw @c1 (tw @jF @ow)))),(by(try dsimp only);omega)⟩ ?_
  rintro n_d env_d st_d ⟨m,rfl,dle,d13,dg0,dI0⟩ dfr
  have d1:=dfr 1 (by kernel_rfl);have d10:=dfr 10 (by kernel_rfl);have d11:=dfr 11 (by kernel_rfl);have d12:=dfr 12 (by kernel_rfl)
  simp only[go_sem, ↓reduceIte,Nat.reduceEqDiff,Nat.reduceAdd,Nat.reduceSub,Nat.reduceLeDiff,reduceCtorEq,zU,cg0,c1,jF,ow]at d1 d10 d11 d12
  clear dfr
  have tl:=gq (cX cnt L i m) cnt
  by_cases hm:(m:Int)<(M.length:Int)
  ·have uH:∀{e:Env} {gg:Rows} {nx:Nat},(e 13=.int .i64 (IntKind.i64.wrap ((m:Int)+1)))->(gg ⟨240008001,st_a.next+1+1⟩=some ⟨true,1,dI (cX cnt L i (m+1)) cnt⟩)->(st_a.next+1+1<nx)->∃m0,m0<(M.length)-m/\∃m:Nat,m0=(M.length)-m/\m<=(M.length)/\e 13=.int .i64 (m:Int)/\gg ⟨240008001,st_a.next+1+1⟩=some ⟨true,1,dI (cX cnt L i m) cnt⟩/\(st_a.next+1+1<nx):=fun x1 x2 x3=>⟨_,by omega,m+1,rfl,by omega,(by rw[x1,aB (by omega)]),x2,x3⟩
   have Al:m<M.length:=by omega
   have wW:(M.map eN)[m]? =some (eN M[m]):=by simp[Al]
   have w7:=OV _ (List.getElem_mem Al)
   have Dl:(M[m]:Int)<(cnt:Int):=by omega
   have Dk:=fy (f:=cX cnt L i m) w7
   have eF:(dI (cX cnt L i m) cnt).set M[m] (eN i)=dI (cX cnt L i (m+1)) cnt:=qk w7 (by
    have h1:=(sj _ w7).1 (List.getElem_mem Al)
    rw[lG]
    simp only[]
    rw[if_neg (by omega),if_pos (by rw[List.take_succ_eq_append_getElem Al];exact List.mem_append_right _ (List.mem_singleton.2 rfl))]) fun x hx ik=>by
    rw[lG,lG]
    simp only[]
    rw[List.take_succ_eq_append_getElem Al]
    simp only[List.mem_append,List.mem_singleton,ik,or_false]
   rw[eN]at eF Dk
   generalize M[m]=xm at *
   (try((repeat(revert hN;revert N;apply Pn.out));refine wk (tw @d13 (tw @dg0 (tw @d1 (tw @d10 (tw @d11 (tw @d12 (tw @hm (tw @hi (tw @kh (tw @tE (tw @wW (tw @De (tw @Dl (tw @Dk (tw @tl (tw @eF (tw @Bj.eq_1 @eN.eq_1))))))))))))))))) ?_;(repeat(refine Pn.mk ?_;intro N hN))))
   refine uH ?_ ?_ (by(try dsimp only);omega)
   all_goals simp only[go_sem, ↓reduceIte,Nat.reduceEqDiff,Nat.reduceAdd,Nat.reduceSub,Nat.reduceLeDiff,reduceCtorEq,d13,dg0,d1,d10,d11,d12,eF]
  ·have lF:m=M.length:=by omega
   subst lF
   have rh:dI (cX cnt L i M.length) cnt=dI (cX cnt L (i+1) 0) cnt:=il fun x hx=>by
    rw[lG,List.take_length]
    simp only[cX,List.take_zero,List.not_mem_nil,if_false]
    have h1:=sj x hx
    by_cases h2:cm L x<i
    ·rw[if_pos h2,if_pos (by omega)]
    ·rw[if_neg h2]
     by_cases h3:x∈M
     ·rw[if_pos h3,if_pos (by have:=h1.1 h3;omega),h1.1 h3]
     ·rw[if_neg h3,if_neg fun h4=>h3 (h1.2 (by omega))]
   (try((repeat(revert hN;revert N;apply Pn.out));refine wk (tw @d13 (tw @dg0 (tw @d1 (tw @d10 (tw @d11 (tw @d12 (tw @hm (tw @hi (tw @kh (tw @tE (tw @De @Bj.eq_1))))))))))) ?_;(repeat(refine Pn.mk ?_;intro N hN))))
   refine iw ?_ ?_ (by(try dsimp only);omega)
   all_goals simp only[go_sem, ↓reduceIte,Nat.reduceEqDiff,Nat.reduceAdd,Nat.reduceSub,Nat.reduceLeDiff,reduceCtorEq,zU,cg0,c1,jF,ow,d13,dg0,d1,d10,d11,d12,rh]
 have lV:i=(leads cnt L).length:=by omega
 subst lV
 have sk:dI (cX cnt L (leads cnt L).length 0) cnt=dI (cm L) cnt:=il fun x hx=>by rw[cX,if_pos (km hL hx)]
 rw[sk]at cg0
 have tl:=gq (cm L) cnt
 (try((repeat(revert hN;revert N;apply Pn.out));refine wk (tw @zU (tw @cg0 (tw @c1 (tw @jF (tw @ow (tw @hi @tE)))))) ?_;(repeat(refine Pn.mk ?_;intro N hN))))
 have S7:st_a.next+1+1<st_c.next:=cI0
 refine aW (fun n env st=>∃j:Nat,n=(bs.length)-j/\j<=(bs.length)/\env 15=.int .i64 (j:Int)/\st.get ⟨240008001,st_a.next+1+1⟩=some ⟨true,1,dI (cm L) cnt⟩/\(∃p:Id,env 14=.own p 0 (e9 L (bs.take j)).length/\st.get p=some ⟨true,3,(e9 L (bs.take j)).map az⟩/\st_c.next<=p.bW/\p.bW<st.next)) (bs.length) ⟨0,by omega,by omega,sl (tw @zU (tw @cg0 (tw @c1 (tw @jF @ow)))),sl (tw @zU (tw @cg0 (tw @c1 (tw @jF @ow)))),⟨⟨240016000,st_c.next+1⟩,by(simp only[go_sem, ↓reduceIte,Nat.reduceEqDiff,Nat.reduceAdd,Nat.reduceSub,Nat.reduceLeDiff,reduceCtorEq])<;>rfl,by(simp only[go_sem, ↓reduceIte,Nat.reduceEqDiff,Nat.reduceAdd,Nat.reduceSub,Nat.reduceLeDiff,reduceCtorEq])<;>rfl,by(try dsimp only);omega,by(try dsimp only);omega⟩⟩ ?_
 rintro n_f env_f st_f ⟨j,rfl,fle,f15,fg0,fI0⟩ ffr
 have f1:=ffr 1 (by kernel_rfl);have f10:=ffr 10 (by kernel_rfl);have f11:=ffr 11 (by kernel_rfl)
 simp only[go_sem, ↓reduceIte,Nat.reduceEqDiff,Nat.reduceAdd,Nat.reduceSub,Nat.reduceLeDiff,reduceCtorEq,zU,cg0,c1,jF,ow]at f1 f10 f11
 clear ffr
 obtain⟨p,f14,fg,O0,Jm⟩:=fI0
 have x1:=cH (a:=⟨240008001,st_a.next+1+1⟩) (b:=p) (by(try dsimp only);omega)
 have Bn:=dv Jm
 have hvn:st_a.next+1+1<st_f.next:=by omega
 have Jy:=dv (i:=⟨240008001,st_a.next+1+1⟩) (n:=st_f.next) hvn
 have Dj:=(nH L (bs.take j)).2
 rw[List.length_take]at Dj
 by_cases hj:(j:Int)<(bs.length:Int)
 ·have sH:∀{e:Env} {gg:Rows} {nx:Nat},(e 15=.int .i64 (IntKind.i64.wrap ((j:Int)+1)))->(gg ⟨240008001,st_a.next+1+1⟩=some ⟨true,1,dI (cm L) cnt⟩)->(∃p:Id,e 14=.own p 0 (e9 L (bs.take (j+1))).length/\gg p=some ⟨true,3,(e9 L (bs.take (j+1))).map az⟩/\st_c.next<=p.bW/\p.bW<nx)->∃m0,m0<(bs.length)-j/\∃j:Nat,m0=(bs.length)-j/\j<=(bs.length)/\e 15=.int .i64 (j:Int)/\gg ⟨240008001,st_a.next+1+1⟩=some ⟨true,1,dI (cm L) cnt⟩/\(∃p:Id,e 14=.own p 0 (e9 L (bs.take j)).length/\gg p=some ⟨true,3,(e9 L (bs.take j)).map az⟩/\st_c.next<=p.bW/\p.bW<nx):=fun x1 x2 x3=>⟨_,by omega,j+1,rfl,by omega,(by rw[x1,aB (by omega)]),x2,x3⟩
  have iW:j<bs.length:=by omega
  have HU:(bs.map az)[j]? =some (az bs[j]):=by simp[iW]
  have Np:=hb _ (List.getElem_mem iW)
  have hs:=AO L (bs.take j) bs[j]
  rw[<-List.take_succ_eq_append_getElem iW]at hs
  generalize bs[j]=b at *
  have hA:=fy (f:=cm L) Np.1
  have hB:=fy (f:=cm L) Np.2
  have gP:(b.a:Int)<(cnt:Int):=by omega
  have fU:(b.b:Int)<(cnt:Int):=by omega
  have SS:=Cs (cm L b.a) (cm L b.b)
  have SU:=Cr (cm L b.a) (cm L b.b)
  rw[eN]at hA hB
  by_cases he:cm L b.a=cm L b.b
  ·rw[if_pos he,List.append_nil]at hs
   have vM:decide ((cm L b.a:Int)=(cm L b.b:Int))=true:=decide_eq_true (by rw[he])
   (try((repeat(revert hN;revert N;apply Pn.out));refine wk (tw @f15 (tw @fg0 (tw @f1 (tw @f10 (tw @f11 (tw @f14 (tw @fg (tw @hj (tw @HU (tw @hA (tw @hB (tw @gP (tw @fU (tw @tl (tw @vM (tw @x1 (tw @Bn @az.eq_1))))))))))))))))) ?_;(repeat(refine Pn.mk ?_;intro N hN))))
   refine sH ?_ ?_ (⟨p,by rw[hs];simp only[go_sem, ↓reduceIte,Nat.reduceEqDiff,Nat.reduceAdd,Nat.reduceSub,Nat.reduceLeDiff,reduceCtorEq,f14],by rw[hs];simp only[go_sem, ↓reduceIte,Nat.reduceEqDiff,Nat.reduceAdd,Nat.reduceSub,Nat.reduceLeDiff,reduceCtorEq,fg],O0,by(try dsimp only);omega⟩)
   all_goals simp only[go_sem, ↓reduceIte,Nat.reduceEqDiff,Nat.reduceAdd,Nat.reduceSub,Nat.reduceLeDiff,reduceCtorEq,f15,fg0,f1,f10,f11]
  ·rw[if_neg he]at hs
   have vM:decide ((cm L b.a:Int)=(cm L b.b:Int))=false:=decide_eq_false fun h=>he (by omega)
   have e1:(e9 L (bs.take j)).length+1<=16777216:=by omega
   have lF:((e9 L (bs.take j)).map az).length=(e9 L (bs.take j)).length:=by simp
   (repeat(first|((repeat(revert hN;revert N;apply Pn.out));refine wk (tw @f15 (tw @fg0 (tw @f1 (tw @f10 (tw @f11 (tw @f14 (tw @fg (tw @hj (tw @HU (tw @hA (tw @hB (tw @gP (tw @fU (tw @tl (tw @vM (tw @x1 (tw @Bn (tw @Jy (tw @e1 (tw @lF @az.eq_1)))))))))))))))))))) ?_;(repeat(refine Pn.mk ?_;intro N hN)))|((try apply Or.inl);refine⟨_,aj.x (SS) (sd (tw @f15 (tw @fg0 (tw @f1 (tw @f10 (tw @f11 (tw @f14 (tw @fg (tw @hj (tw @HU (tw @hA (tw @hB (tw @gP (tw @fU (tw @tl (tw @vM (tw @x1 (tw @Bn (tw @Jy (tw @e1 (tw @lF @az.eq_1))))))))))))))))))))),?_⟩;refine hN _ _ ?_;clear hN N)|((try apply Or.inl);refine⟨_,aj.x (SU) (sd (tw @f15 (tw @fg0 (tw @f1 (tw @f10 (tw @f11 (tw @f14 (tw @fg (tw @hj (tw @HU (tw @hA (tw @hB (tw @gP (tw @fU (tw @tl (tw @vM (tw @x1 (tw @Bn (tw @Jy (tw @e1 (tw @lF @az.eq_1))))))))))))))))))))),?_⟩;refine hN _ _ ?_;clear hN N)))
   refine sH ?_ ?_ (⟨⟨240023014,st_f.next+1+1+1+1⟩,by rw[hs,List.length_append];simp only[go_sem, ↓reduceIte,Nat.reduceEqDiff,Nat.reduceAdd,Nat.reduceSub,Nat.reduceLeDiff,reduceCtorEq,List.length_cons,List.length_nil],by rw[hs,List.map_append,List.map_cons,List.map_nil];simp only[go_sem, ↓reduceIte,Nat.reduceEqDiff,Nat.reduceAdd,Nat.reduceSub,Nat.reduceLeDiff,reduceCtorEq,az],by(try dsimp only);omega,by(try dsimp only);omega⟩)
   all_goals simp only[go_sem, ↓reduceIte,Nat.reduceEqDiff,Nat.reduceAdd,Nat.reduceSub,Nat.reduceLeDiff,reduceCtorEq,f15,fg0,f1,f10,f11,x1,Jy]
 ·have im:j=bs.length:=by omega
  subst im
  rw[List.take_length]at f14 fg
  (try((repeat(revert hN;revert N;apply Pn.out));refine wk (tw @f15 (tw @fg0 (tw @f1 (tw @f10 (tw @f11 (tw @f14 (tw @hj @tE))))))) ?_;(repeat(refine Pn.mk ?_;intro N hN))))
  refine jC (.inl rfl) (r1:=.int .i64 ((leads cnt L).length:Int)) (sd @Nat.zero_add) (by simp only[go_sem, ↓reduceIte,Nat.reduceEqDiff,Nat.reduceAdd,Nat.reduceSub,Nat.reduceLeDiff,reduceCtorEq];rfl) ?_
  have h1:gE st_f.get 5 (.own p 0 (e9 L bs).length)=some (.sl ((e9 L bs).map az)):=fJ (sz:=3) fg rfl fun b=>vH _ 3 b
  simp only[eY,bD,cF,eQ,h1,Option.map_some]
end Go.Proofs.YtgoljkjaameagaaGreat.V

namespace Go.Proofs.YtgoljkjaameagaaGreat.V
def Fh (bs:List PB) (e v:Nat):Prop:=(cE bs e).a=v∨(cE bs e).b=v
def jg (bs:List PB) (m v:Nat):List Nat:=(List.range m).filter fun i=>(cE bs i).a==v||(cE bs i).b==v
theorem su {bs:List PB} {m v e:Nat}:e∈jg bs m v↔e<m/\Fh bs e v:=by simp[jg,Fh]
theorem GZ (bs:List PB) (m v:Nat):jg bs (m+1) v=jg bs m v++if (cE bs m).a=v∨(cE bs m).b=v then[m]else[]:=by
 unfold jg
 rw[List.range_succ,List.filter_append]
 congr 1
 by_cases h:(cE bs m).a=v<;>by_cases h2:(cE bs m).b=v<;>simp[h,h2]
theorem sr (bs:List PB) (m v:Nat):(jg bs m v).length<=m:=by
 have:=List.length_filter_le (fun i=>(cE bs i).a==v||(cE bs i).b==v) (List.range m)
 simpa[jg]using this
def nS (cnt:Nat) (bs:List PB):Prop:=∀e,e<bs.length->(cE bs e).a<cnt/\(cE bs e).b<cnt/\(cE bs e).a≠(cE bs e).b
theorem pE {cnt:Nat} {bs:List PB} (h:nS cnt bs) {e v:Nat} (he:e<bs.length):cq bs e v<cnt:=by
 have:=h e he;unfold cq;split;exact this.2.1;exact this.1
theorem J2 {cnt:Nat} {bs:List PB} (h:nS cnt bs) {e v:Nat} (he:e<bs.length) (hi:Fh bs e v):cq bs e v≠v:=by
 have h1:=(h e he).2.2
 unfold cq
 split
 ·rename_i ha;rw[<-ha];exact fun h=>h1 h.symm
 ·rename_i ha;rcases hi with hi|hi
  ·exact absurd hi ha
  ·rw[<-hi];exact h1
theorem zz {bs:List PB} {e v:Nat}:Fh bs e (cq bs e v):=by
 unfold cq Fh;split
 ·exact .inr rfl
 ·exact .inl rfl
theorem pG {cnt:Nat} {bs:List PB} (h:nS cnt bs) {e v:Nat} (he:e<bs.length) (hi:Fh bs e v):cq bs e (cq bs e v)=v:=by
 have h1:=(h e he).2.2
 unfold cq
 by_cases ha:(cE bs e).a=v
 ·rw[if_pos ha,if_neg h1];exact ha
 ·rw[if_neg ha,if_pos rfl]
  rcases hi with hi|hi
  ·exact absurd hi ha
  ·exact hi
structure zO (cnt:Nat) (bs:List PB) (f:Nat->Int) (y:Nat) (out:Nat->Int):Prop where
 lo:∀v,v<cnt->-1<=out v/\out v<=cnt
 first:out y=0
 zero:∀v,v<cnt->out v=0->v=y
 down:∀v,v<cnt->0<out v->∃e,e<bs.length/\Fh bs e v/\0<fK bs f e v/\out (cq bs e v)=out v-1
 shut:∀e v,e<bs.length->Fh bs e v->0<=out (cq bs e v)->0<fK bs f e v->0<=out v
structure Bf (cnt:Nat) (bs:List PB) (f:Nat->Int) (y:Nat) (out:Nat->Int) (Q:List Nat) (i:Nat):Prop where
 nd:Q.Nodup
 lt:∀x∈Q,x<cnt
 iff:∀v,v<cnt->(0<=out v↔v∈Q)
 lo:∀v,v<cnt->-1<=out v
 first:out y=0
 up:∀j (h:j<Q.length),out Q[j]<=j
 zero:∀v,v<cnt->out v=0->v=y
 down:∀v,v<cnt->0<out v->∃e,e<bs.length/\Fh bs e v/\0<fK bs f e v/\out (cq bs e v)=out v-1
 shut:∀j (h:j<Q.length),j<i->∀e,e<bs.length->Fh bs e Q[j]->0<fK bs f e (cq bs e Q[j])->0<=out (cq bs e Q[j])
section
variable {cnt:Nat} {bs:List PB} {f:Nat->Int} {y:Nat} {out:Nat->Int} {Q:List Nat} {i:Nat}
theorem Bf.start (hy:y<cnt):Bf cnt bs f y (fun v=>if v=y then 0 else -1) [y] 0 where
 nd:=by simp
 lt:=fun x hx=>by rw[List.mem_singleton.1 hx];exact hy
 iff:=fun v _=>by
  by_cases h:v=y<;>simp[h]
 lo:=fun v _=>by split<;>omega
 first:=if_pos rfl
 up:=fun j h=>by
  have:j=0:=by simp at h;omega
  subst this;simp
 zero:=fun v _ h=>by
  by_cases hv:v=y
  ·exact hv
  ·rw[if_neg hv]at h;omega
 down:=fun v _ h=>by
  by_cases hv:v=y
  ·rw[if_pos hv]at h;omega
  ·rw[if_neg hv]at h;omega
 shut:=fun j h hj=>by omega
theorem Bf.len (h:Bf cnt bs f y out Q i):Q.length<=cnt:=pC cnt Q h.nd h.lt
theorem Bf.visit (h:Bf cnt bs f y out Q i) (ok:nS cnt bs) (hi:i<Q.length) {e:Nat} (he:e<bs.length) (qq:Fh bs e Q[i]) (ki:out (cq bs e Q[i])<0) (fX:0<fK bs f e (cq bs e Q[i])):
  Bf cnt bs f y (fun v=>if v=cq bs e Q[i]then out Q[i]+1 else out v) (Q++[cq bs e Q[i]]) i:=by
 have Nz:0<=out Q[i]:=(h.iff _ (h.lt _ (List.getElem_mem hi))).2 (List.getElem_mem hi)
 have hq:=pE ok (v:=Q[i]) he
 have ik:=J2 ok he qq
 have To:=pG ok he qq
 have Vd:cq bs e Q[i]∉Q:=fun hm=>by have:=(h.iff _ hq).2 hm;omega
 have lG:=h.up i hi
 generalize hw:cq bs e Q[i]=w at *
 have rq:∀v,0<=out v->(if v=w then out Q[i]+1 else out v)=out v:=fun v hv=>by
  rw[if_neg];rintro rfl;omega
 have mono:∀v,0<=out v->0<=(if v=w then out Q[i]+1 else out v):=fun v hv=>by rw[rq v hv];exact hv
 refine⟨?_,?_,?_,?_,?_,?_,?_,?_,?_⟩
 ·rw[List.nodup_append]
  exact⟨h.nd,by simp,fun a ha b hb=>by rw[List.mem_singleton.1 hb];rintro rfl;exact Vd ha⟩
 ·intro x hx
  rcases List.mem_append.1 hx with hx|hx
  ·exact h.lt x hx
  ·rw[List.mem_singleton.1 hx];exact hq
 ·intro v hv
  by_cases H3:v=w
  ·subst H3;simp;omega
  ·rw[if_neg H3,h.iff v hv];simp[H3]
 ·intro v hv
  by_cases H3:v=w
  ·rw[if_pos H3];omega
  ·rw[if_neg H3];exact h.lo v hv
 ·rw[rq y (by rw[h.first];exact Int.le_refl _)];exact h.first
 ·intro j hj
  by_cases im:j<Q.length
  ·rw[List.getElem_append_left im,rq _ ((h.iff _ (h.lt _ (List.getElem_mem im))).2 (List.getElem_mem im))]
   exact h.up j im
  ·have LV:j=Q.length:=by simp at hj;omega
   subst LV
   simp
   omega
 ·intro v hv h0
  by_cases H3:v=w
  ·rw[if_pos H3]at h0;omega
  ·rw[if_neg H3]at h0;exact h.zero v hv h0
 ·intro v hv h0
  by_cases H3:v=w
  ·subst H3
   rw[if_pos rfl]
   refine⟨e,he,by rw[<-hw];exact zz,fX,?_⟩
   rw[To,rq _ Nz];omega
  ·rw[if_neg H3]at h0 ⊢
   obtain⟨e',h1,h2,h3,h4⟩:=h.down v hv h0
   exact⟨e',h1,h2,h3,by rw[rq _ (by omega)];exact h4⟩
 ·intro j hj np e' LQ Nt hr
  have im:j<Q.length:=by omega
  rw[List.getElem_append_left im]at Nt hr ⊢
  exact mono _ (h.shut j im np e' LQ Nt hr)
theorem Bf.next (h:Bf cnt bs f y out Q i) (hi:i<Q.length) (hs:∀e∈jg bs bs.length Q[i],0<fK bs f e (cq bs e Q[i])->0<=out (cq bs e Q[i])):Bf cnt bs f y out Q (i+1):=
 ⟨h.nd,h.lt,h.iff,h.lo,h.first,h.up,h.zero,h.down,fun j hj np e he qq hr=>by
  by_cases LV:j=i
  ·subst LV;exact hs e (su.2 ⟨he,qq⟩) hr
  ·exact h.shut j hj (by omega) e he qq hr⟩
theorem Bf.done (h:Bf cnt bs f y out Q i) (ok:nS cnt bs) (hi:Q.length<=i):zO cnt bs f y out where
 lo:=fun v hv=>⟨h.lo v hv,by
  by_cases h0:0<=out v
  ·obtain⟨j,hj,rfl⟩:=List.getElem_of_mem ((h.iff v hv).1 h0)
   have:=h.up j hj
   have:=h.len
   omega
  ·omega⟩
 first:=h.first
 zero:=h.zero
 down:=h.down
 shut:=fun e v he qq h0 hr=>by
  obtain⟨j,hj,Qp⟩:=List.getElem_of_mem ((h.iff _ (pE ok he)).1 h0)
  have h2:=h.shut j hj (by omega) e he (by rw[Qp];exact zz)
  rw[Qp,pG ok he qq]at h2
  exact h2 hr
end
end Go.Proofs.YtgoljkjaameagaaGreat.V

namespace Go.Proofs.YtgoljkjaameagaaGreat.V
open Go.RowKit
attribute [local irreducible] dL wpOps gC Call
attribute [local go_sem] aO fM eS ga fZ cU upd cD K.av cR AV.cells AV.cell rowOf rowsOf part ld rowAt bt cw dG ei iu bK dm eB fY e6 dt ep di dh dV dW bU bd cZ bQ db da ek er eo cY ck dj ej bP aQ dd cJ iq br cN bV aZ dr bc dH AV.undef bF bJ dX eh dR dO cK eA eC cI ev eu dc de List.getD_cons_zero List.getD_cons_succ List.getD_nil List.all_cons List.all_nil Bool.and_true Bool.true_and Bool.and_self Bool.not_true Bool.not_false Option.map_some Option.map_none Option.bind_some Option.bind_none List.length_cons List.length_nil List.take_succ_cons List.take_zero List.take_nil List.drop_succ_cons List.drop_zero List.drop_nil List.head?_cons List.map_cons List.map_nil List.getElem?_cons_zero List.getElem?_cons_succ List.cons_append List.nil_append List.append_nil List.length_map List.set_cons_zero List.set_cons_succ Nat.reduceMul eq_self Int.toNat_natCast Int.natCast_nonneg and_self true_and and_true decide_true decide_false Bool.false_eq_true Nat.zero_add Nat.add_zero List.contains_cons List.contains_nil Bool.or_false Bool.false_or beq_self_eq_true Nat.reduceBEq ne_eq not_true_eq_false not_false_eq_true Id.mk.injEq false_and and_false Nat.reduceLT Int.reduceLE Int.reduceLT Int.reduceToNat Int.reduceNeg Int.reduceAdd Nat.le_refl List.length_append beq_true beq_false Bool.not_eq_eq_eq_not or_false false_or dP ai aq aI bh bE cz aY bl aV bf cW bH
def mE (P:Program) (f:Nat) (args:List AV) (R:AV->Prop):Prop:=∀n:Nat,Call P f args ⟨fun _=>none,n⟩ fun r0 σ'=>∃r',gE σ'.get 6 r0=some r'/\R r'
theorem aj.r {P:Program} {f:Nat} {args:List AV} {r:AV} (h:aj P f args r):mE P f args (fun r'=>r'=r):=h
theorem GF {P:Program} {f:Nat} {args eH:List AV} {g:Rows} {n:Nat} {R:AV->Prop} (hv:cV (dP g) 6 args=some eH) (h:Sound P f eH ⟨fun _=>none,n⟩ fun r0 σ'=>∃r',gE σ'.get 6 r0=some r'/\R r'):Sound P f args ⟨g,n⟩ fun r σ'=>R r/\σ'=⟨g,n⟩:=by
 intro hs D ι w vs S U A
 refine(yJ (g0:=g) (K:=R) ⟨eH,hv,h⟩ (fun _ _ h=>h) S U A).mono ?_
 rintro e w' ⟨r,D',u,rfl,hR,T,S',hr⟩
 exact⟨r,g,n,D',ι,u,rfl,⟨hR,rfl⟩,T,S',U,Nat.le_refl _,hr⟩
theorem mE.x {P:Program} (hm:P.follows .mixedOrders=true) {f:Nat} {args eH:List AV} {R:AV->Prop} (h:mE P f eH R) {σ:ar} (hv:cV (dP σ.get) 6 args=some eH):Call P f args σ fun r σ'=>R r/\σ'=σ:=
 gS (GF hv (gx hm (h σ.next)))
theorem mE.body {P:Program} {f:Nat} {args:List AV} {R:AV->Prop} {nt na:Nat} {body:VC} {res:List om} (hf:mz P f=some ⟨nt,na,body,res⟩) (ha:na=args.length) (h:(∀a∈args,eJ a)->∀n:Nat,dL (Call P) body (kR res fun r0 σ'=>∃r',gE σ'.get 6 r0=some r'/\R r') (cD args) ⟨fun _=>none,n⟩):mE P f args R:=fun n=>mH hf ha fun hl=>h hl n
def ea (f:Nat->Int) (n:Nat):List (List AV):=(List.range n).map fun i=>bq (f i)
theorem dF (f:Nat->Int) (n:Nat):(ea f n).length=n:=by simp[ea]
theorem dS {f:Nat->Int} {n i:Nat} (h:i<n):(ea f n)[i]? =some (bq (f i)):=by simp[ea,h]
theorem ly {f g:Nat->Int} {n k:Nat} {v:Int} (hk:k<n) (hv:g k=v) (h:∀i,i<n->i≠k->g i=f i):(ea f n).set k (bq v)=ea g n:=by
 refine List.ext_getElem? fun i=>?_
 rw[List.getElem?_set]
 by_cases hi:k=i
 ·subst hi
  rw[if_pos rfl,dF,if_pos hk,dS hk,hv]
 ·rw[if_neg hi]
  by_cases fB:i<n
  ·rw[dS fB,dS fB,h i fB (fun h=>hi h.symm)]
  ·rw[List.getElem?_eq_none (by rw[dF];omega),List.getElem?_eq_none (by rw[dF];omega)]
theorem HF (f:Nat->Int) (n:Nat):ea f (n+1)=ea f n++[bq (f n)]:=by simp[ea,List.range_succ]
theorem fzI (g:Rows) (n:Nat) (a:Int):cV g (n+1) (bq a)=some (bq a):=by simp[bq,ai,aq,aI]
theorem Ud (g:Rows) (n:Nat) (a:Int):ef g (n+1) (bq a)=some (bq a):=by simp[bq,bD,cF,eQ]
theorem KB {g:Rows} {f:Nat->Int} {n m:Nat}:iv g (m+1) (ea f n)=some (ea f n):=by
 have:ea f n=((List.range n).map f).map bq:=by simp[ea]
 rw[this];exact ux fun x=>Ud g m x
theorem AY {g:Rows} {f:Nat->Int} {n m:Nat}:dU g (m+1) (ea f n)=some (ea f n):=by
 have:ea f n=((List.range n).map f).map bq:=by simp[ea]
 rw[this];exact qW fun x=>fzI g m x
def PG (l:List Nat):AV:=if l=[]then .cC else .sl (l.map eN)
def qJ (cnt:Nat) (bs:List PB) (m:Nat):List (List AV):=(List.range cnt).map fun v=>[PG (jg bs m v)]
theorem Dx {cnt:Nat} {bs:List PB} {m v:Nat} (h:v<cnt):(qJ cnt bs m)[v]? =some [PG (jg bs m v)]:=by simp[qJ,h]
def fS (cnt:Nat) (bs:List PB) (f:Nat->Int):List AV:=[.int .i64 cnt,.sl (bs.map az),.sl (qJ cnt bs bs.length),.sl (ea f bs.length)]
theorem vn {bs:List PB} {e:Nat} (h:e<bs.length):(bs.map az)[e]? =some (az (cE bs e)):=getD_map az h
def Small (bs:List PB) (f:Nat->Int):Prop:=∀e,e<bs.length->(0<=(cE bs e).s/\(cE bs e).s<=4)/\-4<=f e/\f e<=4
theorem Kn (cnt:Nat) (bs:List PB) (f:Nat->Int) (hs:Small bs f) (e v:Nat) (he:e<bs.length):aj Tryz.prog 297 [.dn (fS cnt bs f),.int .i64 v,.int .i64 e] (.gO [.int .i64 (fK bs f e v),.int .i64 (cq bs e v)]):=by
 refine aj.body eI rfl fun hl n0=>?_
 clear hl
 have hb:=vn he
 have hf:=dS (f:=f) he
 obtain⟨⟨s0,s1⟩,s2,s3⟩:=hs e he
 have w1:IntKind.i64.wrap ((cE bs e).s-f e)=(cE bs e).s-f e:=bz (by omega)
 have w2:IntKind.i64.wrap ((cE bs e).s+f e)=(cE bs e).s+f e:=bz (by omega)
 unfold fK cq
 generalize cE bs e=b at *
 by_cases h:b.a=v
 ·have hd:decide ((b.a:Int)=(v:Int))=true:=decide_eq_true (by rw[h])
  (try((repeat(revert hN;revert N;apply Pn.out));refine wk (tw @fS.eq_1 (tw @hb (tw @hf (tw @az.eq_1 (tw @bq.eq_1 (tw @hd (tw @w1 @w2))))))) ?_;(repeat(refine Pn.mk ?_;intro N hN))))
  refine jC (.inl rfl) (by simp only[go_sem, ↓reduceIte,Nat.reduceEqDiff,Nat.reduceAdd,Nat.reduceSub,Nat.reduceLeDiff,reduceCtorEq];rfl) (by simp only[go_sem, ↓reduceIte,Nat.reduceEqDiff,Nat.reduceAdd,Nat.reduceSub,Nat.reduceLeDiff,reduceCtorEq];rfl) ?_
  simp only[eY,bD,cF,eQ,Option.map_some,if_pos h]
 ·have hd:decide ((b.a:Int)=(v:Int))=false:=decide_eq_false fun hc=>h (by omega)
  (try((repeat(revert hN;revert N;apply Pn.out));refine wk (tw @fS.eq_1 (tw @hb (tw @hf (tw @az.eq_1 (tw @bq.eq_1 (tw @hd (tw @w1 @w2))))))) ?_;(repeat(refine Pn.mk ?_;intro N hN))))
  refine jC (.inl rfl) (by simp only[go_sem, ↓reduceIte,Nat.reduceEqDiff,Nat.reduceAdd,Nat.reduceSub,Nat.reduceLeDiff,reduceCtorEq];rfl) (by simp only[go_sem, ↓reduceIte,Nat.reduceEqDiff,Nat.reduceAdd,Nat.reduceSub,Nat.reduceLeDiff,reduceCtorEq];rfl) ?_
  simp only[eY,bD,cF,eQ,Option.map_some,if_neg h]
theorem F6 (cnt:Nat) (hn:cnt<=1048576) (bs:List PB) (ok:nS cnt bs) (qC:bs.length<=1048576) (f:Nat->Int) (hs:Small bs f) (y:Nat) (hy:y<cnt):
  mE Tryz.prog 253 [.dn (fS cnt bs f),.int .i64 y] fun r=>∃out,r=.sl (ea out cnt)/\zO cnt bs f y out:=by
 refine mE.body eI rfl fun hl n0=>?_
 clear hl
 (try((repeat(revert hN;revert N;apply Pn.out));refine wk @fS.eq_1 ?_;(repeat(refine Pn.mk ?_;intro N hN))))
 refine aW (fun n env st=>∃k:Nat,n=(cnt)-k/\k<=(cnt)/\env 6=.int .i64 (k:Int)/\(∃o:Id,env 5=.own o 0 k/\st.get o=some ⟨true,1,ea (fun _=>-1) k⟩/\o.bW<st.next)) (cnt) ⟨0,by omega,by omega,sl @fS.eq_1,⟨⟨253001000,n0+1⟩,by(simp only[go_sem, ↓reduceIte,Nat.reduceEqDiff,Nat.reduceAdd,Nat.reduceSub,Nat.reduceLeDiff,reduceCtorEq])<;>rfl,by(simp only[go_sem, ↓reduceIte,Nat.reduceEqDiff,Nat.reduceAdd,Nat.reduceSub,Nat.reduceLeDiff,reduceCtorEq])<;>rfl,by(try dsimp only);omega⟩⟩ ?_
 rintro n_a env_a st_a ⟨k,rfl,ale,a6,me⟩ dJ
 have a0:=dJ 0 (by kernel_rfl);have a1:=dJ 1 (by kernel_rfl)
 simp only[go_sem, ↓reduceIte,Nat.reduceEqDiff,Nat.reduceAdd,Nat.reduceSub,Nat.reduceLeDiff,reduceCtorEq,fS]at a0 a1
 clear dJ
 obtain⟨o,a5,ag,vO⟩:=me
 have tl:=dF (fun _=>-1) k
 have td:=dv vO
 by_cases hk:(k:Int)<(cnt:Int)
 ·have cG:∀{e:Env} {gg:Rows} {nx:Nat},(e 6=.int .i64 (IntKind.i64.wrap ((k:Int)+1)))->(∃o:Id,e 5=.own o 0 (k+1)/\gg o=some ⟨true,1,ea (fun _=>-1) (k+1)⟩/\o.bW<nx)->∃m0,m0<(cnt)-k/\∃k:Nat,m0=(cnt)-k/\k<=(cnt)/\e 6=.int .i64 (k:Int)/\(∃o:Id,e 5=.own o 0 k/\gg o=some ⟨true,1,ea (fun _=>-1) k⟩/\o.bW<nx):=fun x1 x2=>⟨_,by omega,k+1,rfl,by omega,(by rw[x1,aB (by omega)]),x2⟩
  have e1:k+1<=16777216:=by omega
  have tG:ea (fun _=>-1) k++[[.int .i64 (-1)]]=ea (fun _=>-1) (k+1):=(HF _ _).symm
  (try((repeat(revert hN;revert N;apply Pn.out));refine wk (tw @a6 (tw @a0 (tw @a1 (tw @a5 (tw @ag (tw @td (tw @hk (tw @tl (tw @e1 (tw @tG @fS.eq_1)))))))))) ?_;(repeat(refine Pn.mk ?_;intro N hN))))
  exact cG (sd (tw @a6 (tw @a0 (tw @a1 @fS.eq_1)))) (⟨⟨253005002,st_a.next+1⟩,sd @Nat.zero_add,sd @tG,by(try dsimp only);omega⟩)
 have mC:k=cnt:=by omega
 subst mC
 have TA:(y:Int)<(k:Int):=by omega
 have hym:=dS (f:=fun _=>-1) hy
 have Cg:(ea (fun _=>-1) k).set y (bq 0)=ea (fun v=>if v=y then 0 else -1) k:=ly hy (if_pos rfl) fun i _ hi=>if_neg hi
 rw[bq]at Cg hym
 (try((repeat(revert hN;revert N;apply Pn.out));refine wk (tw @a6 (tw @a0 (tw @a1 (tw @a5 (tw @ag (tw @td (tw @hk (tw @tl (tw @TA (tw @hym (tw @Cg @fS.eq_1))))))))))) ?_;(repeat(refine Pn.mk ?_;intro N hN))))
 refine aW (fun m env st=>∃(i:Nat) (out:Nat->Int) (Q:List Nat) (p:Id),m=k-i/\env 8=.int .i64 (i:Int)/\env 7=.own p 0 Q.length/\st.get p=some ⟨true,1,Q.map eN⟩/\st.get o=some ⟨true,1,ea out k⟩/\o.bW<p.bW/\p.bW<st.next/\Bf k bs f y out Q i/\i<=Q.length) k ⟨0,_,[y],⟨253007001,st_a.next+1+1⟩,by omega,by(simp only[go_sem, ↓reduceIte,Nat.reduceEqDiff,Nat.reduceAdd,Nat.reduceSub,Nat.reduceLeDiff,reduceCtorEq])<;>rfl,by(simp only[go_sem, ↓reduceIte,Nat.reduceEqDiff,Nat.reduceAdd,Nat.reduceSub,Nat.reduceLeDiff,reduceCtorEq])<;>rfl,by(simp only[go_sem, ↓reduceIte,Nat.reduceEqDiff,Nat.reduceAdd,Nat.reduceSub,Nat.reduceLeDiff,reduceCtorEq])<;>rfl,sd @td,by(try dsimp only);omega,by(try dsimp only);omega,Bf.start hy,by simp⟩ ?_
 rintro n env_b st_b ⟨i,out,Q,p,rfl,b8,b7,bgp,bgo,ew,hpn,hB,hiq⟩ gu
 have b0:=gu 0 (by kernel_rfl)
 have b5:=gu 5 (by kernel_rfl)
 simp only[go_sem, ↓reduceIte,Nat.reduceEqDiff,Nat.reduceAdd,Nat.reduceSub,Nat.reduceLeDiff,reduceCtorEq,a6,a0,a1,a5,fS]at b0 b5
 clear gu
 have hql:=hB.len
 have TG:=dF out k
 have hqm:(Q.map eN).length=Q.length:=by simp
 have Bn:=dv hpn
 have qt:=dv (i:=o) (n:=st_b.next) (by omega)
 by_cases hi:(i:Int)<(Q.length:Int)
 ·have fB:i<Q.length:=by omega
  have kh:(Q.map eN)[i]? =some (eN Q[i]):=by simp[fB]
  have Nz:=hB.lt _ (List.getElem_mem fB)
  obtain⟨vt,Pd⟩:∃vt,vt=Q[i]:=⟨_,rfl⟩
  rw[<-Pd]at kh Nz
  have hA:=Dx (cnt:=k) (bs:=bs) (m:=bs.length) Nz
  have L9:(vt:Int)<(k:Int):=by omega
  have lV:=sr bs bs.length vt
  have hme:∀x,x<(jg bs bs.length vt).length->(jg bs bs.length vt).getD x 0<bs.length/\Fh bs ((jg bs bs.length vt).getD x 0) vt:=fun x hx=>by
   rw[List.getD_eq_getElem?_getD,List.getElem?_eq_getElem hx]
   exact su.1 (List.getElem_mem hx)
  have RD:∀e∈jg bs bs.length vt,∃x,x<(jg bs bs.length vt).length/\(jg bs bs.length vt).getD x 0=e:=fun e he=>by
   obtain⟨x,hx,rfl⟩:=List.getElem_of_mem he
   exact⟨x,hx,by rw[List.getD_eq_getElem?_getD,List.getElem?_eq_getElem hx];rfl⟩
  generalize hIn:jg bs bs.length vt=I at *
  unfold PG at hA
  by_cases GI:I=[]
  ·rw[if_pos GI]at hA
   have hI1:I.length=0:=by rw[GI];rfl
   (try((repeat(revert hN;revert N;apply Pn.out));refine wk (tw @b0 (tw @b5 (tw @b7 (tw @b8 (tw @bgp (tw @hi (tw @kh (tw @hqm (tw @eN.eq_1 @fS.eq_1))))))))) ?_;(repeat(refine Pn.mk ?_;intro N hN))))
   refine aW (fun n env st=>∃x:Nat,n=(I.length)-x/\x<=(I.length)/\env 10=.int .i64 (x:Int)/\(∃(iV:Nat->Int) (Q':List Nat) (p':Id),env 7=.own p' 0 Q'.length/\st.get p'=some ⟨true,1,Q'.map eN⟩/\st.get o=some ⟨true,1,ea iV k⟩/\o.bW<p'.bW/\p'.bW<st.next/\Bf k bs f y iV Q' i/\(∃h:i<Q'.length,Q'[i]=vt)/\(∀z,z<x->0<fK bs f (I.getD z 0) (cq bs (I.getD z 0) vt)->0<=iV (cq bs (I.getD z 0) vt)))) (I.length) ⟨0,by omega,by omega,sl (tw @b0 (tw @b5 (tw @b8 @fS.eq_1))),⟨out,Q,p,sd @b7,sd @bgp,sd @bgo,ew,by(try dsimp only);omega,hB,⟨fB,Pd.symm⟩,fun z hz=>by omega⟩⟩ ?_
   rintro n_c env_c st_c ⟨x,rfl,cle,jF,cI0⟩ cfr
   have c0:=cfr 0 (by kernel_rfl);have c5:=cfr 5 (by kernel_rfl);have c8:=cfr 8 (by kernel_rfl);have c9:=cfr 9 (by kernel_rfl)
   simp only[go_sem, ↓reduceIte,Nat.reduceEqDiff,Nat.reduceAdd,Nat.reduceSub,Nat.reduceLeDiff,reduceCtorEq,b0,b5,b8,fS]at c0 c5 c8 c9
   clear cfr
   obtain⟨iV,Q',p',c7,IC,yT,D9,O1,dD,⟨ym,rl⟩,Li⟩:=cI0
   have Vp:=dD.len
   have PL:=dF iV k
   have O3:(Q'.map eN).length=Q'.length:=by simp
   have An:=dv O1
   have mO:=dv (i:=o) (n:=st_c.next) (by omega)
   have x1:=cH D9
   have hx:¬(x:Int)<((0:Nat):Int):=by omega
   have hxe:x=I.length:=by omega
   have hw:IntKind.i64.wrap ((i:Int)+1)=((i+1:Nat):Int):=aB (by omega)
   (try((repeat(revert hN;revert N;apply Pn.out));refine wk (tw @jF (tw @c0 (tw @c5 (tw @c8 (tw @c9 (tw @c7 (tw @hx (tw @hA (tw @L9 @fS.eq_1))))))))) ?_;(repeat(refine Pn.mk ?_;intro N hN))))
   refine⟨_,?_,i+1,iV,Q',p',rfl,sd (tw @jF (tw @c0 (tw @c5 (tw @c8 (tw @c9 @hw))))),sd @c7,sd @IC,sd @yT,D9,by(try dsimp only);omega,dD.next ym fun e he hr=>?_,by omega⟩
   ·omega
   ·rw[rl,hIn]at he
    rw[rl]at hr ⊢
    obtain⟨z,hz,rfl⟩:=RD e he
    exact Li z (by omega) hr
  ·rw[if_neg GI]at hA
   have q9:(I.map eN).length=I.length:=by simp
   (try((repeat(revert hN;revert N;apply Pn.out));refine wk (tw @b0 (tw @b5 (tw @b7 (tw @b8 (tw @bgp (tw @hi (tw @kh (tw @hqm (tw @eN.eq_1 @fS.eq_1))))))))) ?_;(repeat(refine Pn.mk ?_;intro N hN))))
   refine aW (fun n env st=>∃x:Nat,n=(I.length)-x/\x<=(I.length)/\env 10=.int .i64 (x:Int)/\(∃(iV:Nat->Int) (Q':List Nat) (p':Id),env 7=.own p' 0 Q'.length/\st.get p'=some ⟨true,1,Q'.map eN⟩/\st.get o=some ⟨true,1,ea iV k⟩/\o.bW<p'.bW/\p'.bW<st.next/\Bf k bs f y iV Q' i/\(∃h:i<Q'.length,Q'[i]=vt)/\(∀z,z<x->0<fK bs f (I.getD z 0) (cq bs (I.getD z 0) vt)->0<=iV (cq bs (I.getD z 0) vt)))) (I.length) ⟨0,by omega,by omega,sl (tw @b0 (tw @b5 (tw @b8 @fS.eq_1))),⟨out,Q,p,sd @b7,sd @bgp,sd @bgo,ew,by(try dsimp only);omega,hB,⟨fB,Pd.symm⟩,fun z hz=>by omega⟩⟩ ?_
   rintro n_c env_c st_c ⟨x,rfl,cle,jF,cI0⟩ cfr
   have c0:=cfr 0 (by kernel_rfl);have c5:=cfr 5 (by kernel_rfl);have c8:=cfr 8 (by kernel_rfl);have c9:=cfr 9 (by kernel_rfl)
   simp only[go_sem, ↓reduceIte,Nat.reduceEqDiff,Nat.reduceAdd,Nat.reduceSub,Nat.reduceLeDiff,reduceCtorEq,b0,b5,b8,fS]at c0 c5 c8 c9
   clear cfr
   obtain⟨iV,Q',p',c7,IC,yT,D9,O1,dD,⟨ym,rl⟩,Li⟩:=cI0
   have Vp:=dD.len
   have PL:=dF iV k
   have O3:(Q'.map eN).length=Q'.length:=by simp
   have An:=dv O1
   have mO:=dv (i:=o) (n:=st_c.next) (by omega)
   have x1:=cH D9
   by_cases hx:(x:Int)<(I.length:Int)
   ·have iw:∀{e:Env} {gg:Rows} {nx:Nat},(e 10=.int .i64 (IntKind.i64.wrap ((x:Int)+1)))->(∃(iV:Nat->Int) (Q':List Nat) (p':Id),e 7=.own p' 0 Q'.length/\gg p'=some ⟨true,1,Q'.map eN⟩/\gg o=some ⟨true,1,ea iV k⟩/\o.bW<p'.bW/\p'.bW<nx/\Bf k bs f y iV Q' i/\(∃h:i<Q'.length,Q'[i]=vt)/\(∀z,z<(x+1)->0<fK bs f (I.getD z 0) (cq bs (I.getD z 0) vt)->0<=iV (cq bs (I.getD z 0) vt)))->∃m0,m0<(I.length)-x/\∃x:Nat,m0=(I.length)-x/\x<=(I.length)/\e 10=.int .i64 (x:Int)/\(∃(iV:Nat->Int) (Q':List Nat) (p':Id),e 7=.own p' 0 Q'.length/\gg p'=some ⟨true,1,Q'.map eN⟩/\gg o=some ⟨true,1,ea iV k⟩/\o.bW<p'.bW/\p'.bW<nx/\Bf k bs f y iV Q' i/\(∃h:i<Q'.length,Q'[i]=vt)/\(∀z,z<x->0<fK bs f (I.getD z 0) (cq bs (I.getD z 0) vt)->0<=iV (cq bs (I.getD z 0) vt))):=fun x1 x2=>⟨_,by omega,x+1,rfl,by omega,(by rw[x1,aB (by omega)]),x2⟩
    have QD:x<I.length:=by omega
    have Ou:(I.map eN)[x]? =some (eN (I.getD x 0)):=getD_map eN QD
    obtain⟨he,qq⟩:=hme x QD
    obtain⟨e,Tb⟩:∃e,e=I.getD x 0:=⟨_,rfl⟩
    rw[<-Tb]at Ou he qq
    have iS:=vn he
    have hq:=pE ok (v:=vt) he
    have To:=pG ok he qq
    have O6:=Kn k bs f hs e (cq bs e vt) he
    have Ro:=ok e he
    have oL:IntKind.i64.wrap (((cE bs e).a:Int)+((cE bs e).b:Int))=((cE bs e).a:Int)+((cE bs e).b:Int):=bz (by omega)
    have qu:IntKind.i64.wrap (((cE bs e).a:Int)+((cE bs e).b:Int)-(vt:Int))=(cq bs e vt:Int):=by
     rw[bz (by omega)]
     unfold cq
     rcases qq with h1|h1
     ·rw[if_pos h1];omega
     ·rw[if_neg fun h2=>Ro.2.2 (h2.trans h1.symm)];omega
    have Qv:(cq bs e vt:Int)<(k:Int):=by omega
    have OM:=dS (f:=iV) hq
    have LS:=dS (f:=iV) Nz
    rw[fS]at O6
    have lG:=dD.up i ym
    rw[rl]at lG
    have kD:=dD.lo vt Nz
    have Jz:IntKind.i64.wrap (iV vt+1)=iV vt+1:=bz (by omega)
    rw[bq]at OM LS
    generalize xW:cE bs e=b at *
    by_cases ki:iV (cq bs e vt)<0
    ·by_cases fX:0<fK bs f e (cq bs e vt)
     ·have hV:=dD.visit ok ym (e:=e) he (by rw[rl];exact qq) (by rw[rl];exact ki) (by rw[rl];exact fX)
      rw[rl]at hV
      have eF:(ea iV k).set (cq bs e vt) (bq (iV vt+1))=ea (fun v=>if v=cq bs e vt then iV vt+1 else iV v) k:=ly hq (if_pos rfl) fun v _ hv=>if_neg hv
      rw[bq]at eF
      have e1:Q'.length+1<=16777216:=by omega
      (repeat(first|((repeat(revert hN;revert N;apply Pn.out));refine wk (tw @jF (tw @c0 (tw @c5 (tw @c8 (tw @c9 (tw @c7 (tw @IC (tw @yT (tw @hx (tw @hA (tw @q9 (tw @Ou (tw @L9 (tw @iS (tw @oL (tw @qu (tw @Qv (tw @OM (tw @LS (tw @ki (tw @fX (tw @Jz (tw @eF (tw @O3 (tw @PL (tw @An (tw @mO (tw @x1 (tw @e1 (tw @eN.eq_1 (tw @az.eq_1 @fS.eq_1))))))))))))))))))))))))))))))) ?_;(repeat(refine Pn.mk ?_;intro N hN)))|((try apply Or.inl);refine⟨_,aj.x (O6) (sd (tw @jF (tw @c0 (tw @c5 (tw @c8 (tw @c9 (tw @c7 (tw @IC (tw @yT (tw @hx (tw @hA (tw @q9 (tw @Ou (tw @L9 (tw @iS (tw @oL (tw @qu (tw @Qv (tw @OM (tw @LS (tw @ki (tw @fX (tw @Jz (tw @eF (tw @O3 (tw @PL (tw @An (tw @mO (tw @x1 (tw @e1 (tw @eN.eq_1 (tw @az.eq_1 @fS.eq_1)))))))))))))))))))))))))))))))),?_⟩;refine hN _ _ ?_;clear hN N)))
      exact iw (sd (tw @jF (tw @c0 (tw @c5 (tw @c8 @c9))))) (⟨_,Q'++[cq bs e vt],⟨253020003,st_c.next+1+1+1+1+1+1⟩,by rw[List.length_append];simp only[go_sem, ↓reduceIte,Nat.reduceEqDiff,Nat.reduceAdd,Nat.reduceSub,Nat.reduceLeDiff,reduceCtorEq,List.length_cons,List.length_nil],by rw[List.map_append,List.map_cons,List.map_nil];simp only[go_sem, ↓reduceIte,Nat.reduceEqDiff,Nat.reduceAdd,Nat.reduceSub,Nat.reduceLeDiff,reduceCtorEq,eN],sd (tw @mO @x1),by(try dsimp only);omega,by(try dsimp only);omega,hV,⟨by simp;omega,by rw[List.getElem_append_left ym];exact rl⟩,fun z hz hr=>by
       by_cases R4:z=x
       ·subst R4
        rw[<-Tb,if_pos rfl]
        have:=(dD.iff vt Nz).2 (by rw[<-rl];exact List.getElem_mem ym)
        omega
       ·have:=Li z (by omega) hr
        split
        ·have:=(dD.iff vt Nz).2 (by rw[<-rl];exact List.getElem_mem ym)
         omega
        ·exact this⟩)
     ·(repeat(first|((repeat(revert hN;revert N;apply Pn.out));refine wk (tw @jF (tw @c0 (tw @c5 (tw @c8 (tw @c9 (tw @c7 (tw @IC (tw @yT (tw @hx (tw @hA (tw @q9 (tw @Ou (tw @L9 (tw @iS (tw @oL (tw @qu (tw @Qv (tw @OM (tw @ki (tw @fX (tw @PL (tw @An (tw @mO (tw @x1 (tw @eN.eq_1 (tw @az.eq_1 @fS.eq_1)))))))))))))))))))))))))) ?_;(repeat(refine Pn.mk ?_;intro N hN)))|((try apply Or.inl);refine⟨_,aj.x (O6) (sd (tw @jF (tw @c0 (tw @c5 (tw @c8 (tw @c9 (tw @c7 (tw @IC (tw @yT (tw @hx (tw @hA (tw @q9 (tw @Ou (tw @L9 (tw @iS (tw @oL (tw @qu (tw @Qv (tw @OM (tw @ki (tw @fX (tw @PL (tw @An (tw @mO (tw @x1 (tw @eN.eq_1 (tw @az.eq_1 @fS.eq_1))))))))))))))))))))))))))),?_⟩;refine hN _ _ ?_;clear hN N)))
      exact iw (sd (tw @jF (tw @c0 (tw @c5 (tw @c8 @c9))))) (⟨iV,Q',p',sd @c7,sd (tw @IC @An),sd (tw @yT @mO),D9,by(try dsimp only);omega,dD,⟨ym,rl⟩,fun z hz hr=>by
       by_cases R4:z=x
       ·subst R4;rw[<-Tb]at hr;exact absurd hr fX
       ·exact Li z (by omega) hr⟩)
    ·(repeat(first|((repeat(revert hN;revert N;apply Pn.out));refine wk (tw @jF (tw @c0 (tw @c5 (tw @c8 (tw @c9 (tw @c7 (tw @IC (tw @yT (tw @hx (tw @hA (tw @q9 (tw @Ou (tw @L9 (tw @iS (tw @oL (tw @qu (tw @Qv (tw @OM (tw @ki (tw @PL (tw @An (tw @mO (tw @x1 (tw @eN.eq_1 (tw @az.eq_1 @fS.eq_1))))))))))))))))))))))))) ?_;(repeat(refine Pn.mk ?_;intro N hN)))|((try apply Or.inl);refine⟨_,aj.x (O6) (sd (tw @jF (tw @c0 (tw @c5 (tw @c8 (tw @c9 (tw @c7 (tw @IC (tw @yT (tw @hx (tw @hA (tw @q9 (tw @Ou (tw @L9 (tw @iS (tw @oL (tw @qu (tw @Qv (tw @OM (tw @ki (tw @PL (tw @An (tw @mO (tw @x1 (tw @eN.eq_1 (tw @az.eq_1 @fS.eq_1)))))))))))))))))))))))))),?_⟩;refine hN _ _ ?_;clear hN N)))
     exact iw (sd (tw @jF (tw @c0 (tw @c5 (tw @c8 @c9))))) (⟨iV,Q',p',sd @c7,sd (tw @IC @An),sd (tw @yT @mO),D9,by(try dsimp only);omega,dD,⟨ym,rl⟩,fun z hz hr=>by
      by_cases R4:z=x
      ·subst R4;rw[<-Tb];omega
      ·exact Li z (by omega) hr⟩)
   ·have hxe:x=I.length:=by omega
    have hw:IntKind.i64.wrap ((i:Int)+1)=((i+1:Nat):Int):=aB (by omega)
    (try((repeat(revert hN;revert N;apply Pn.out));refine wk (tw @jF (tw @c0 (tw @c5 (tw @c8 (tw @c9 (tw @c7 (tw @hx (tw @hA (tw @q9 (tw @L9 @fS.eq_1)))))))))) ?_;(repeat(refine Pn.mk ?_;intro N hN))))
    refine⟨_,?_,i+1,iV,Q',p',rfl,sd (tw @jF (tw @c0 (tw @c5 (tw @c8 (tw @c9 @hw))))),sd @c7,sd @IC,sd @yT,D9,by(try dsimp only);omega,dD.next ym fun e he hr=>?_,by omega⟩
    ·omega
    ·rw[rl,hIn]at he
     rw[rl]at hr ⊢
     obtain⟨z,hz,rfl⟩:=RD e he
     exact Li z (by omega) hr
 ·(try((repeat(revert hN;revert N;apply Pn.out));refine wk (tw @b0 (tw @b5 (tw @b7 (tw @b8 (tw @hi @fS.eq_1))))) ?_;(repeat(refine Pn.mk ?_;intro N hN))))
  have tC:gE st_b.get 6 (.own o 0 k)=some (.sl (ea out k)):=vI bgo (by rw[TG];omega) (by rw[List.drop_zero,List.take_of_length_le (by rw[TG];omega)];exact KB)
  exact⟨_,rfl,_,by simp only[go_sem, ↓reduceIte,Nat.reduceEqDiff,Nat.reduceAdd,Nat.reduceSub,Nat.reduceLeDiff,reduceCtorEq,fj];exact tC,out,rfl,hB.done ok (by omega)⟩
end Go.Proofs.YtgoljkjaameagaaGreat.V

namespace Go.Proofs.YtgoljkjaameagaaGreat.V
open Go.RowKit
attribute [local irreducible] dL wpOps gC Call
attribute [local go_sem] aO fM eS ga fZ cU upd cD K.av cR AV.cells AV.cell rowOf rowsOf part ld rowAt bt cw dG ei iu bK dm eB fY e6 dt ep di dh dV dW bU bd cZ bQ db da ek er eo cY ck dj ej bP aQ dd cJ iq br cN bV aZ dr bc dH AV.undef bF bJ dX eh dR dO cK eA eC cI ev eu dc de List.getD_cons_zero List.getD_cons_succ List.getD_nil List.all_cons List.all_nil Bool.and_true Bool.true_and Bool.and_self Bool.not_true Bool.not_false Option.map_some Option.map_none Option.bind_some Option.bind_none List.length_cons List.length_nil List.take_succ_cons List.take_zero List.take_nil List.drop_succ_cons List.drop_zero List.drop_nil List.head?_cons List.map_cons List.map_nil List.getElem?_cons_zero List.getElem?_cons_succ List.cons_append List.nil_append List.append_nil List.length_map List.set_cons_zero List.set_cons_succ eq_self Int.toNat_natCast Int.natCast_nonneg and_self true_and and_true decide_true decide_false Bool.false_eq_true Nat.zero_add Nat.add_zero List.contains_cons List.contains_nil Bool.or_false Bool.false_or beq_self_eq_true ne_eq not_true_eq_false not_false_eq_true Id.mk.injEq false_and and_false Nat.le_refl List.length_append beq_true beq_false Bool.not_eq_eq_eq_not or_false false_or dP ai aq aI bh bE cz aY bl aV bf cW bH
def Qb:Dc (List Nat):=fun g cs x ids=>(x=[]/\cs=[.cC]/\ids=[])∨∃id,cs=[.own id 0 x.length]/\0<x.length/\g id=some ⟨true,1,x.map eN⟩/\ids=[id]
theorem NI:x9 Qb 1 where
 frame:=fun h hf=>by
  rcases h with h|⟨id,h1,h0,h2,h3⟩
  ·exact .inl h
  ·subst h3;exact .inr ⟨id,h1,h0,(hf id (by simp)).trans h2,rfl⟩
 len:=fun h=>by rcases h with⟨_,h,_⟩|⟨id,h,_⟩<;>subst h<;>rfl
 cell:=fun h=>by rcases h with⟨_,h,_⟩|⟨id,h,_⟩<;>subst h<;>rfl
 live:=fun h i hi=>by
  rcases h with⟨_,_,h⟩|⟨id,h1,h0,h2,h3⟩
  ·subst h;cases hi
  ·subst h3
   have:i=id:=by simpa using hi
   subst this
   exact⟨_,h2,rfl,by simp[sF]⟩
 small:=by simp[sF]
theorem Pm {g:Rows} {rows:List (List AV)} {xs:List (List Nat)} {ids:List Id} (n:Nat) (h:eK Qb g rows xs ids):dU (dP g) (n+2) rows=some (xs.map fun l=>[PG l]):=
 h.fz (fun {cs x ids} h=>by
  rcases h with⟨h0,h1,_⟩|⟨id,h1,h0,h2,_⟩
  ·subst h0 h1;rw[ai,aq,aY];rfl
  ·have ik:x≠[]:=by rintro rfl;simp at h0
   subst h1
   rw[ai,aq,gy (e:=eN) (sz:=1) (by simp[dP,h2]) rfl fun a=>fzN _ n a]
   simp[PG,ik])
theorem eK.Si {α:Type} {R:Dc α} {sz:Nat} {g:Rows} {rows:List (List AV)} {xs:List α} {ids:List Id} (ok:x9 R sz) (h:eK R g rows xs ids) (mM:ids.Nodup) (k:Nat) (hk:k<xs.length):
  ∃cs ic,rows[k]? =some cs/\R g cs xs[k] ic/\(∀i∈ic,i∈ids)/\∀(g':Rows) qz x' QF,R g' qz x' QF->(∀i∈ids,i∉ic->g' i=g i)->QF.Nodup->(∀i∈QF,i∉ids)->∃Eg,eK R g' (rows.set k qz) (xs.set k x') Eg/\Eg.Nodup/\∀i∈Eg,i∈QF∨i∈ids:=by
 obtain⟨r1,cs,r2,i1,ic,i2,rfl,rfl,rfl,h3,h4,h5⟩:=h.split k hk
 obtain⟨n1,n2,n3⟩:=List.nodup_append.1 mM
 obtain⟨nc,n5,n4⟩:=List.nodup_append.1 n2
 refine⟨cs,ic,by simp,h4,fun i hi=>by simp[hi],fun g' qz x' QF hR hf hn' kE=>⟨i1++(QF++i2),?_,?_,fun i hi=>?_⟩⟩
 ·have e:xs.set r1.length x'=xs.take r1.length++x'::xs.drop (r1.length+1):=by rw[List.set_eq_take_append_cons_drop,if_pos hk]
  have e2:(r1++cs::r2).set r1.length qz=r1++qz::r2:=by simp
  rw[e,e2]
  refine(h3.frame ok fun i hi=>hf i (by simp[hi]) fun hc=>n3 i hi i (by simp[hc]) rfl).app (.cons hR (h5.frame ok fun i hi=>hf i (by simp[hi]) fun hc=>n4 i hc i hi rfl))
 ·rw[List.nodup_append,List.nodup_append]
  refine⟨n1,⟨hn',n5,fun x hx y hy he=>?_⟩,fun x hx y hy he=>?_⟩
  ·subst he;exact kE x hx (by simp[hy])
  ·subst he
   rcases List.mem_append.1 hy with hy|hy
   ·exact kE x hy (by simp[hx])
   ·exact n3 x hx x (by simp[hy]) rfl
 ·rcases List.mem_append.1 hi with hi|hi
  ·exact .inr (by simp[hi])
  ·rcases List.mem_append.1 hi with hi|hi
   ·exact .inl hi
   ·exact .inr (by simp[hi])
def rR (A:Id) (lo:Nat) (L:List (List Nat)) (g:Rows) (nx:Nat):Prop:=∃rows ids,g A=some ⟨true,1,rows⟩/\eK Qb g rows L ids/\ids.Nodup/\∀i∈ids,lo<i.bW/\i.bW<nx
def bB (cnt:Nat) (bs:List PB) (A F:Id):List AV:=[.int .i64 cnt,.sl (bs.map az),.own A 0 cnt,.own F 0 bs.length]
def lK (cnt:Nat) (bs:List PB) (m:Nat):List (List Nat):=(List.range cnt).map fun v=>jg bs m v
theorem jx (cnt:Nat) (bs:List PB) (m:Nat):(lK cnt bs m).length=cnt:=by simp[lK]
structure oR (cnt:Nat) (bs:List PB) (f:Nat->Int) (X A F:Id) (g:Rows) (nx:Nat):Prop where
 x:g X=some ⟨true,4,[bB cnt bs A F]⟩
 a:rR A F.bW (lK cnt bs bs.length) g nx
 f:g F=some ⟨true,1,ea f bs.length⟩
 xa:X.bW<A.bW
 af:A.bW<F.bW
 fn:F.bW<nx
theorem rR.fz {A:Id} {lo cnt:Nat} {bs:List PB} {m nx n:Nat} {g:Rows} (h:rR A lo (lK cnt bs m) g nx):V.fz (dP g) (n+3) (.own A 0 cnt)=some (.sl (qJ cnt bs m)):=by
 obtain⟨rows,ids,h1,h2,_,_⟩:=h
 have hl:=h2.len
 rw[jx]at hl
 rw[gV]
 simp only[dP,h1,Option.map_some,if_true]
 rw[if_pos (by omega),List.drop_zero,List.take_of_length_le (by omega)]
 have:=Pm n h2
 rw[this]
 simp[lK,qJ]
theorem oR.fz {cnt:Nat} {bs:List PB} {f:Nat->Int} {X A F:Id} {g:Rows} {nx:Nat} (h:oR cnt bs f X A F g nx):V.fz (dP g) 6 (.ptr X 0 0)=some (.dn (fS cnt bs f)):=by
 have hF:dP g F=some ⟨true,1,ea f bs.length⟩:=by simp[dP,h.f]
 have hX:dP g X=some ⟨true,4,[bB cnt bs A F]⟩:=by simp[dP,h.x]
 have hf:V.fz (dP g) 5 (.own F 0 bs.length)=some (.sl (ea f bs.length)):=by
  rw[gV]
  simp only[hF,if_true]
  rw[if_pos (by rw[dF];omega),List.drop_zero,List.take_of_length_le (by rw[dF];omega),AY];rfl
 have ha:=h.a.fz (n:=2)
 rw[bf]
 simp only[hX,if_true,List.getElem?_cons_zero,List.drop_zero,bB,ai,aq,aI,cz,ha,hf,Option.map_some,fS]
theorem GY (cnt:Nat) (bs:List PB):lK cnt bs 0=List.replicate cnt []:=by
 refine List.ext_getElem? fun i=>?_
 simp only[lK,List.getElem?_map,List.getElem?_replicate]
 by_cases h:i<cnt
 ·rw[List.getElem?_range h,if_pos h];rfl
 ·rw[List.getElem?_eq_none (by simpa using h),if_neg h];rfl
theorem zH (g:Rows):∀n:Nat,eK Qb g (List.replicate n [.cC]) (List.replicate n []) []
 |0=>.nil
 |n+1=>.cons (i1:=[]) (.inl ⟨rfl,rfl,rfl⟩) (zH g n)
def yw (cnt:Nat) (bs:List PB) (m:Nat):List (List Nat):=(lK cnt bs m).set (cE bs m).a (jg bs m (cE bs m).a++[m])
theorem Cm {cnt:Nat} {bs:List PB} {m v:Nat} (hv:v<cnt) (ik:(cE bs m).a≠v):(yw cnt bs m)[v]? =some (jg bs m v):=by
 unfold yw
 rw[List.getElem?_set_ne ik]
 simp[lK,hv]
theorem GX {cnt:Nat} {bs:List PB} {m:Nat} (ha:(cE bs m).a<cnt) (hb:(cE bs m).b<cnt) (ik:(cE bs m).a≠(cE bs m).b):(yw cnt bs m).set (cE bs m).b (jg bs m (cE bs m).b++[m])=lK cnt bs (m+1):=by
 refine List.ext_getElem? fun i=>?_
 by_cases hi:i<cnt
 ·have hr:(lK cnt bs (m+1))[i]? =some (jg bs (m+1) i):=by simp[lK,hi]
  rw[hr,GZ]
  by_cases h1:(cE bs m).b=i
  ·rw[List.getElem?_set,if_pos h1,if_pos (by simp[yw,jx];omega),if_pos (.inr h1),h1]
  ·rw[List.getElem?_set_ne h1]
   by_cases h2:(cE bs m).a=i
   ·unfold yw
    rw[List.getElem?_set,if_pos h2,if_pos (by rw[jx];omega),if_pos (.inl h2),h2]
   ·rw[Cm hi h2,if_neg (fun h=>h.elim h2 h1),List.append_nil]
 ·rw[List.getElem?_eq_none (by simp[yw,jx];omega),List.getElem?_eq_none (by rw[jx];omega)]
theorem k7 {α:Type} {l:List α} {k:Nat} {x:α} (h:l[k]? =some x) (hk:k<l.length):l[k]=x:=by
 rw[List.getElem?_eq_getElem hk]at h;exact Option.some.inj h
theorem FX {A K:Id} {lo Se nx k j:Nat} {L:List (List Nat)} {La:List Nat} {g:Rows} {rows:List (List AV)} {ids:List Id} (hR:eK Qb g rows L ids) (mM:ids.Nodup) (oH:∀i∈ids,lo<i.bW/\i.bW<Se) (hA:A.bW<=lo) (hL:L[k]? =some La) (hK1:Se<=K.bW) (OF:K.bW<nx) (kD:lo<Se):
  ∃cs,rows[k]? =some cs/\((La=[]/\cs=[.cC])∨∃id:Id,cs=[.own id 0 La.length]/\0<La.length/\g id=some ⟨true,1,La.map eN⟩/\id.bW<Se/\lo<id.bW)/\
   ∀g':Rows,g' A=some ⟨true,1,rows.set k [.own K 0 (La.length+1)]⟩->g' K=some ⟨true,1,La.map eN++[[.int .i64 j]]⟩->(∀i:Id,i.bW<Se->(i=A)=False->(∀id,cs=[.own id 0 La.length]->(i=id)=False)->g' i=g i)->rR A lo (L.set k (La++[j])) g' nx:=by
 have hk:k<L.length:=(List.getElem?_eq_some_iff.1 hL).1
 have Uw:=k7 hL hk
 obtain⟨cs,ic,dx,Qm,Rw,w6⟩:=hR.Si NI mM k hk
 rw[Uw]at Qm
 refine⟨cs,dx,?_,fun g' h1 h2 h3=>?_⟩
 ·rcases Qm with⟨h1,h2,_⟩|⟨id,h1,h2,h3,h4⟩
  ·exact .inl ⟨h1,h2⟩
  ·subst h4
   have:=oH id (Rw id (by simp))
   exact .inr ⟨id,h1,h2,h3,this.2,this.1⟩
 ·obtain⟨Eg,q1,q2,q3⟩:=w6 g' [.own K 0 (La.length+1)] (La++[j]) [K] (.inr ⟨K,by simp,by simp,by rw[h2];simp[eN],rfl⟩) (fun i hi Tn=>by
   refine h3 i (oH i hi).2 ?_ fun id hid=>?_
   ·simp only[eq_iff_iff,iff_false];rintro rfl;have:=oH _ hi;omega
   ·simp only[eq_iff_iff,iff_false]
    rintro rfl
    rcases Qm with⟨_,h4,_⟩|⟨kb,h4,_,_,h5⟩
    ·rw[hid]at h4;cases h4
    ·rw[hid]at h4
     simp only[List.cons.injEq,AV.own.injEq,and_true]at h4
     rw[h5,h4]at Tn
     exact Tn (by simp)) (by simp) fun i hi hc=>by
   rw[List.mem_singleton.1 hi]at hc;have:=oH _ hc;omega
  refine⟨_,Eg,h1,q1,q2,fun i hi=>?_⟩
  rcases q3 i hi with h|h
  ·rw[List.mem_singleton.1 h];omega
  ·have:=oH i h;omega
theorem MZ {P:Program} {Q:Ex->Env->ar->Prop} {c:VC} {env:Env} {σ:ar} (I:Env->ar->Prop) (h2:∀e s,I e s->Q .normal e s) (h1:∀N':Env->ar->Prop,(∀e s,I e s->N' e s)->dL (Call P) c (dr N' Q) env σ):dL (Call P) c Q env σ:=by
 refine jE (fun _ _ _ _ h=>h) aJ c _ _ env σ (fun x e s h=>?_) (h1 I fun _ _ h=>h)
 cases x with
 |normal=>exact h2 e s h
 |exit id=>exact h
 |ret=>exact h
end Go.Proofs.YtgoljkjaameagaaGreat.V

namespace Go.Proofs.YtgoljkjaameagaaGreat.V
open Go.RowKit
attribute [local irreducible] dL wpOps gC Call
attribute [local go_sem] aO fM eS ga fZ cU upd cD K.av cR AV.cells AV.cell rowOf rowsOf part ld rowAt bt cw dG ei iu bK dm eB fY e6 dt ep di dh dV dW bU bd cZ bQ db da ek er eo cY ck dj ej bP aQ dd cJ iq br cN bV aZ dr bc dH AV.undef bF bJ dX eh dR dO cK eA eC cI ev eu dc de List.getD_cons_zero List.getD_cons_succ List.getD_nil List.all_cons List.all_nil Bool.and_true Bool.true_and Bool.and_self Bool.not_true Bool.not_false Option.map_some Option.map_none Option.bind_some Option.bind_none List.length_cons List.length_nil List.take_succ_cons List.take_zero List.take_nil List.drop_succ_cons List.drop_zero List.drop_nil List.head?_cons List.map_cons List.map_nil List.getElem?_cons_zero List.getElem?_cons_succ List.cons_append List.nil_append List.append_nil List.length_map List.set_cons_zero List.set_cons_succ Nat.reduceMul eq_self Int.toNat_natCast Int.natCast_nonneg and_self true_and and_true decide_true decide_false Bool.false_eq_true Nat.zero_add Nat.add_zero List.contains_cons List.contains_nil Bool.or_false Bool.false_or beq_self_eq_true Nat.reduceBEq ne_eq not_true_eq_false not_false_eq_true Id.mk.injEq false_and and_false Nat.reduceLT Int.reduceLE Int.reduceLT Int.reduceToNat Int.reduceNeg Int.reduceAdd Nat.le_refl List.length_append beq_true beq_false Bool.not_eq_eq_eq_not or_false false_or dP ai aq aI bh bE cz aY bl aV bf cW bH
theorem JJ (cnt:Nat) (hn:cnt<=1048576) (bs:List PB) (ok:nS cnt bs) (qC:bs.length<=1048576) (σ:ar):
  Call Tryz.prog 251 [.int .i64 cnt,.sl (bs.map az)] σ fun r σ'=>∃X A F,r=.ptr X 0 0/\σ.next<=X.bW/\oR cnt bs (fun _=>0) X A F σ'.get σ'.next:=by
 refine H9 N9 rfl fun hl=>?_
 try simp only[q]
 clear hl
 have jP:(0:Int)<=(cnt:Int):=by omega
 have qD:(cnt:Int)<=((16777216:Nat):Int):=by omega
 have Rc:(0:Int)<=(bs.length:Int):=by omega
 have K5:(bs.length:Int)<=((16777216:Nat):Int):=by omega
 have hz:List.replicate bs.length [AV.int .i64 0]=ea (fun _=>0) bs.length:=by
  refine List.ext_getElem? fun i=>?_
  by_cases h:i<bs.length
  ·rw[dS h,List.getElem?_replicate,if_pos h];rfl
  ·rw[List.getElem?_eq_none (by simp;omega),List.getElem?_eq_none (by rw[dF];omega)]
 (try((repeat(revert hN;revert N;apply Pn.out));refine wk (tw @jP (tw @qD (tw @Rc (tw @K5 (tw @Int.le_refl @hz))))) ?_;(repeat(refine Pn.mk ?_;intro N hN))))
 obtain⟨X,hX⟩:∃X:Id,X=⟨251001003,σ.next+1⟩:=⟨_,rfl⟩
 obtain⟨A,hA⟩:∃X:Id,X=⟨251002002,σ.next+1+1⟩:=⟨_,rfl⟩
 obtain⟨F,hF⟩:∃X:Id,X=⟨251003003,σ.next+1+1+1⟩:=⟨_,rfl⟩
 have hXA:X.bW<A.bW:=by rw[hX,hA];(try dsimp only);omega
 have hAF:A.bW<F.bW:=by rw[hA,hF];(try dsimp only);omega
 have hXs:σ.next<=X.bW:=by rw[hX];(try dsimp only);omega
 refine aW (fun n env st=>∃j:Nat,n=(bs.length)-j/\j<=(bs.length)/\env 6=.int .i64 (j:Int)/\env 5=(.ptr X 0 0)/\st.get X=some ⟨true,4,[bB cnt bs A F]⟩/\st.get F=some ⟨true,1,ea (fun _=>0) bs.length⟩/\(rR A F.bW (lK cnt bs j) st.get st.next/\F.bW<st.next)) (bs.length) ⟨0,by omega,by omega,by(try simp only[go_sem, ↓reduceIte,Nat.reduceEqDiff,Nat.reduceAdd,Nat.reduceSub,Nat.reduceLeDiff,reduceCtorEq,hX,hF,hA,bB,hz]);try rfl,by(try simp only[go_sem, ↓reduceIte,Nat.reduceEqDiff,Nat.reduceAdd,Nat.reduceSub,Nat.reduceLeDiff,reduceCtorEq,hX,hF,hA,bB,hz]);try rfl,by(try simp only[go_sem, ↓reduceIte,Nat.reduceEqDiff,Nat.reduceAdd,Nat.reduceSub,Nat.reduceLeDiff,reduceCtorEq,hX,hF,hA,bB,hz]);try rfl,by(try simp only[go_sem, ↓reduceIte,Nat.reduceEqDiff,Nat.reduceAdd,Nat.reduceSub,Nat.reduceLeDiff,reduceCtorEq,hX,hF,hA,bB,hz]);try rfl,⟨⟨List.replicate cnt [.cC],[],by rw[hA];(simp only[go_sem, ↓reduceIte,Nat.reduceEqDiff,Nat.reduceAdd,Nat.reduceSub,Nat.reduceLeDiff,reduceCtorEq])<;>rfl,by rw[GY];exact zH _ _,List.nodup_nil,fun i hi=>by cases hi⟩,by rw[hF];(try dsimp only);omega⟩⟩ ?_
 rintro n_a env_a st_a ⟨j,rfl,ale,a6,a5,ag0,ag1,me⟩ dJ
 have a0:=dJ 0 (by kernel_rfl);have a1:=dJ 1 (by kernel_rfl)
 simp only[go_sem, ↓reduceIte,Nat.reduceEqDiff,Nat.reduceAdd,Nat.reduceSub,Nat.reduceLeDiff,reduceCtorEq,hX,hF,hA,bB,hz]at a0 a1
 clear dJ
 obtain⟨⟨rows,ids,ag,hR,mM,oH⟩,hFn⟩:=me
 have x1:=cH hXA
 have x2:=cH hAF
 have x3:=cH (a:=X) (b:=F) (by omega)
 have vX:=dv (i:=X) (n:=st_a.next) (by omega)
 have vA:=dv (i:=A) (n:=st_a.next) (by omega)
 have vF:=dv (i:=F) (n:=st_a.next) (by omega)
 by_cases hj:(j:Int)<(bs.length:Int)
 ·have cG:∀{e:Env} {gg:Rows} {nx:Nat},(e 6=.int .i64 (IntKind.i64.wrap ((j:Int)+1)))->(e 5=(.ptr X 0 0))->(gg X=some ⟨true,4,[bB cnt bs A F]⟩)->(gg F=some ⟨true,1,ea (fun _=>0) bs.length⟩)->(rR A F.bW (lK cnt bs (j+1)) gg nx/\F.bW<nx)->∃m0,m0<(bs.length)-j/\∃j:Nat,m0=(bs.length)-j/\j<=(bs.length)/\e 6=.int .i64 (j:Int)/\e 5=(.ptr X 0 0)/\gg X=some ⟨true,4,[bB cnt bs A F]⟩/\gg F=some ⟨true,1,ea (fun _=>0) bs.length⟩/\(rR A F.bW (lK cnt bs j) gg nx/\F.bW<nx):=fun x1 x2 x3 x4 x5=>⟨_,by omega,j+1,rfl,by omega,(by rw[x1,aB (by omega)]),x2,x3,x4,x5⟩
  have iW:j<bs.length:=by omega
  have iS:=vn iW
  obtain⟨ha1,Re,ik⟩:=ok j iW
  have gP:((cE bs j).a:Int)<(cnt:Int):=by omega
  have fU:((cE bs j).b:Int)<(cnt:Int):=by omega
  have rh:=GX (m:=j) ha1 Re ik
  have e1:=sr bs j (cE bs j).a
  have e2:=sr bs j (cE bs j).b
  have Ru:(yw cnt bs j)[(cE bs j).b]? =some (jg bs j (cE bs j).b):=Cm Re ik
  have Rt:(lK cnt bs j)[(cE bs j).a]? =some (jg bs j (cE bs j).a):=by simp[lK,ha1]
  have Uf:yw cnt bs j=(lK cnt bs j).set (cE bs j).a (jg bs j (cE bs j).a++[j]):=rfl
  have S3:(yw cnt bs j).length=cnt:=by rw[Uf,List.length_set,jx]
  have jm:=hR.len
  rw[jx]at jm
  obtain⟨cs7,jv,I8,Jn⟩:=FX (A:=A) (K:=⟨251007022,st_a.next+1⟩) (nx:=st_a.next+1+1) (j:=j) hR mM oH (by omega) Rt (by(try dsimp only);omega) (by(try dsimp only);omega) hFn
  rw[<-Uf]at Jn
  obtain⟨c7,rfl⟩:∃c,cs7=[c]:=by
   rcases I8 with⟨_,h⟩|⟨id,h,_⟩<;>exact⟨_,h⟩
  generalize jg bs j (cE bs j).a=La at *
  generalize jg bs j (cE bs j).b=Lb at *
  generalize cE bs j=b at *
  generalize yw cnt bs j=LA at *
  clear Uf
  (try((repeat(revert hN;revert N;apply Pn.out));refine wk (tw @a6 (tw @a5 (tw @ag0 (tw @ag1 (tw @a0 (tw @a1 (tw @hj (tw @iS (tw @az.eq_1 (tw @ag (tw @jv (tw @gP (tw @fU (tw @jm (tw @x1 (tw @x2 (tw @x3 (tw @vX (tw @vA (tw @vF @bB.eq_1)))))))))))))))))))) ?_;(repeat(refine Pn.mk ?_;intro N hN))))
  refine KT (fun e s=>e 0=.int .i64 cnt/\e 1=.sl (bs.map az)/\e 5=.ptr X 0 0/\e 6=.int .i64 j/\s.get X=some ⟨true,4,[bB cnt bs A F]⟩/\s.get F=some ⟨true,1,ea (fun _=>0) bs.length⟩/\rR A F.bW LA s.get s.next/\F.bW<s.next) ?_ ?_
  ·rintro e1 s1 ⟨m0,m1,m5,m6,mX,mF,⟨rows1,ids1,mg,mR,mnd,mver⟩,mn⟩
   refine hN _ _ ?_
   clear hN N
   have jn:=mR.len
   rw[S3]at jn
   have wX:=dv (i:=X) (n:=s1.next) (by omega)
   have wA:=dv (i:=A) (n:=s1.next) (by omega)
   have wF:=dv (i:=F) (n:=s1.next) (by omega)
   obtain⟨cs8,jw,I9,Jo⟩:=FX (A:=A) (K:=⟨251008022,s1.next⟩) (nx:=s1.next+1) (j:=j) mR mnd mver (by omega) Ru (by(try dsimp only);omega) (by(try dsimp only);omega) mn
   rw[rh]at Jo
   obtain⟨c8,rfl⟩:∃c,cs8=[c]:=by
    rcases I9 with⟨_,h⟩|⟨id,h,_⟩<;>exact⟨_,h⟩
   (try((repeat(revert hN;revert N;apply Pn.out));refine wk (tw @m0 (tw @m1 (tw @m5 (tw @m6 (tw @mX (tw @mF (tw @hj (tw @iS (tw @az.eq_1 (tw @mg (tw @jw (tw @gP (tw @fU (tw @jn (tw @x1 (tw @x2 (tw @x3 (tw @wX (tw @wA (tw @wF @bB.eq_1)))))))))))))))))))) ?_;(repeat(refine Pn.mk ?_;intro N hN))))
   refine MZ (fun e s=>e 0=.int .i64 cnt/\e 1=.sl (bs.map az)/\e 5=.ptr X 0 0/\e 6=.int .i64 j/\s.get X=some ⟨true,4,[bB cnt bs A F]⟩/\s.get F=some ⟨true,1,ea (fun _=>0) bs.length⟩/\rR A F.bW (lK cnt bs (j+1)) s.get s.next/\F.bW<s.next) ?_ ?_
   ·rintro e2 s2 ⟨p0,p1,p5,p6,pX,pF,pL,pn⟩
    simp only[dr,bc]
    refine hN _ _ ?_
    clear hN N
    (try((repeat(revert hN;revert N;apply Pn.out));refine wk (tw @p0 (tw @p1 (tw @p5 @p6))) ?_;(repeat(refine Pn.mk ?_;intro N hN))))
    refine cG ?_ ?_ ?_ ?_ (⟨by obtain⟨r,i,q1,q2,q3,q4⟩:=pL;exact⟨r,i,sd @q1,q2,q3,fun x hx=>by have:=q4 x hx;(try dsimp only);omega⟩,by(try dsimp only);omega⟩)
    all_goals simp only[go_sem, ↓reduceIte,Nat.reduceEqDiff,Nat.reduceAdd,Nat.reduceSub,Nat.reduceLeDiff,reduceCtorEq,p0,p1,p5,p6,pX,pF]
   ·intro N hN
    rcases I9 with⟨Uv,Ah⟩|⟨id,Ah,hLp,hid,HW,y7⟩
    ·simp only[List.cons.injEq,and_true]at Ah
     subst Ah
     subst Uv
     refine fh ?_ ?_<;>(try((repeat(revert hN;revert N;apply Pn.out));refine wk (tw @m0 (tw @m1 (tw @m5 (tw @m6 (tw @mX (tw @mF (tw @hj (tw @iS (tw @az.eq_1 (tw @mg (tw @jw (tw @gP (tw @fU (tw @jn (tw @x1 (tw @x2 (tw @x3 (tw @wX (tw @wA (tw @wF @bB.eq_1)))))))))))))))))))) ?_;(repeat(refine Pn.mk ?_;intro N hN))))<;>(try refine fh ?_ ?_)<;>(try((repeat(revert hN;revert N;apply Pn.out));refine wk (tw @m0 (tw @m1 (tw @m5 (tw @m6 (tw @mX (tw @mF (tw @hj (tw @iS (tw @az.eq_1 (tw @mg (tw @jw (tw @gP (tw @fU (tw @jn (tw @x1 (tw @x2 (tw @x3 (tw @wX (tw @wA (tw @wF @bB.eq_1)))))))))))))))))))) ?_;(repeat(refine Pn.mk ?_;intro N hN))))<;>(try refine fh ?_ ?_)<;>(try((repeat(revert hN;revert N;apply Pn.out));refine wk (tw @m0 (tw @m1 (tw @m5 (tw @m6 (tw @mX (tw @mF (tw @hj (tw @iS (tw @az.eq_1 (tw @mg (tw @jw (tw @gP (tw @fU (tw @jn (tw @x1 (tw @x2 (tw @x3 (tw @wX (tw @wA (tw @wF @bB.eq_1)))))))))))))))))))) ?_;(repeat(refine Pn.mk ?_;intro N hN))))<;>(try refine fh ?_ ?_)<;>(try((repeat(revert hN;revert N;apply Pn.out));refine wk (tw @m0 (tw @m1 (tw @m5 (tw @m6 (tw @mX (tw @mF (tw @hj (tw @iS (tw @az.eq_1 (tw @mg (tw @jw (tw @gP (tw @fU (tw @jn (tw @x1 (tw @x2 (tw @x3 (tw @wX (tw @wA (tw @wF @bB.eq_1)))))))))))))))))))) ?_;(repeat(refine Pn.mk ?_;intro N hN))))<;>(try refine fh ?_ ?_)<;>(try((repeat(revert hN;revert N;apply Pn.out));refine wk (tw @m0 (tw @m1 (tw @m5 (tw @m6 (tw @mX (tw @mF (tw @hj (tw @iS (tw @az.eq_1 (tw @mg (tw @jw (tw @gP (tw @fU (tw @jn (tw @x1 (tw @x2 (tw @x3 (tw @wX (tw @wA (tw @wF @bB.eq_1)))))))))))))))))))) ?_;(repeat(refine Pn.mk ?_;intro N hN))))<;>(try refine fh ?_ ?_)<;>(try((repeat(revert hN;revert N;apply Pn.out));refine wk (tw @m0 (tw @m1 (tw @m5 (tw @m6 (tw @mX (tw @mF (tw @hj (tw @iS (tw @az.eq_1 (tw @mg (tw @jw (tw @gP (tw @fU (tw @jn (tw @x1 (tw @x2 (tw @x3 (tw @wX (tw @wA (tw @wF @bB.eq_1)))))))))))))))))))) ?_;(repeat(refine Pn.mk ?_;intro N hN))))
     all_goals
      refine⟨by simp only[go_sem, ↓reduceIte,Nat.reduceEqDiff,Nat.reduceAdd,Nat.reduceSub,Nat.reduceLeDiff,reduceCtorEq,m0,m1,m5,m6,mX,mF,hj,iS,az,mg,jw,gP,fU,jn,x1,x2,x3,wX,wA,wF,bB],by simp only[go_sem, ↓reduceIte,Nat.reduceEqDiff,Nat.reduceAdd,Nat.reduceSub,Nat.reduceLeDiff,reduceCtorEq,m0,m1,m5,m6,mX,mF,hj,iS,az,mg,jw,gP,fU,jn,x1,x2,x3,wX,wA,wF,bB],by simp only[go_sem, ↓reduceIte,Nat.reduceEqDiff,Nat.reduceAdd,Nat.reduceSub,Nat.reduceLeDiff,reduceCtorEq,m0,m1,m5,m6,mX,mF,hj,iS,az,mg,jw,gP,fU,jn,x1,x2,x3,wX,wA,wF,bB],by simp only[go_sem, ↓reduceIte,Nat.reduceEqDiff,Nat.reduceAdd,Nat.reduceSub,Nat.reduceLeDiff,reduceCtorEq,m0,m1,m5,m6,mX,mF,hj,iS,az,mg,jw,gP,fU,jn,x1,x2,x3,wX,wA,wF,bB],by simp only[go_sem, ↓reduceIte,Nat.reduceEqDiff,Nat.reduceAdd,Nat.reduceSub,Nat.reduceLeDiff,reduceCtorEq,m0,m1,m5,m6,mX,mF,hj,iS,az,mg,jw,gP,fU,jn,x1,x2,x3,wX,wA,wF,bB],by simp only[go_sem, ↓reduceIte,Nat.reduceEqDiff,Nat.reduceAdd,Nat.reduceSub,Nat.reduceLeDiff,reduceCtorEq,m0,m1,m5,m6,mX,mF,hj,iS,az,mg,jw,gP,fU,jn,x1,x2,x3,wX,wA,wF,bB],Jo _ (by simp only[go_sem, ↓reduceIte,Nat.reduceEqDiff,Nat.reduceAdd,Nat.reduceSub,Nat.reduceLeDiff,reduceCtorEq,m0,m1,m5,m6,mX,mF,hj,iS,az,mg,jw,gP,fU,jn,x1,x2,x3,wX,wA,wF,bB,List.length_nil]) (by simp only[go_sem, ↓reduceIte,Nat.reduceEqDiff,Nat.reduceAdd,Nat.reduceSub,Nat.reduceLeDiff,reduceCtorEq,m0,m1,m5,m6,mX,mF,hj,iS,az,mg,jw,gP,fU,jn,x1,x2,x3,wX,wA,wF,bB,List.map_nil,List.nil_append]) (fun i hi OO fB=>?_),by(try dsimp only);omega⟩
      clear fB
      simp only[go_sem, ↓reduceIte,Nat.reduceEqDiff,Nat.reduceAdd,Nat.reduceSub,Nat.reduceLeDiff,reduceCtorEq,wX,wA,wF,dv hi,OO]
    ·simp only[List.cons.injEq,and_true]at Ah
     subst Ah
     have sZ:=dv HW
     have y1:=cH (a:=A) (b:=id) (by omega)
     have y2:=cH (a:=F) (b:=id) y7
     have y3:=cH (a:=X) (b:=id) (by omega)
     have e3:Lb.length+1<=16777216:=by omega
     have z1:(Lb.map eN).length=Lb.length:=by simp
     refine fh ?_ ?_<;>(try((repeat(revert hN;revert N;apply Pn.out));refine wk (tw @m0 (tw @m1 (tw @m5 (tw @m6 (tw @mX (tw @mF (tw @hj (tw @iS (tw @az.eq_1 (tw @mg (tw @jw (tw @gP (tw @fU (tw @jn (tw @x1 (tw @x2 (tw @x3 (tw @wX (tw @wA (tw @wF (tw @bB.eq_1 (tw @hid (tw @sZ (tw @y1 (tw @y2 (tw @y3 (tw @e3 @z1))))))))))))))))))))))))))) ?_;(repeat(refine Pn.mk ?_;intro N hN))))<;>(try refine fh ?_ ?_)<;>(try((repeat(revert hN;revert N;apply Pn.out));refine wk (tw @m0 (tw @m1 (tw @m5 (tw @m6 (tw @mX (tw @mF (tw @hj (tw @iS (tw @az.eq_1 (tw @mg (tw @jw (tw @gP (tw @fU (tw @jn (tw @x1 (tw @x2 (tw @x3 (tw @wX (tw @wA (tw @wF (tw @bB.eq_1 (tw @hid (tw @sZ (tw @y1 (tw @y2 (tw @y3 (tw @e3 @z1))))))))))))))))))))))))))) ?_;(repeat(refine Pn.mk ?_;intro N hN))))<;>(try refine fh ?_ ?_)<;>(try((repeat(revert hN;revert N;apply Pn.out));refine wk (tw @m0 (tw @m1 (tw @m5 (tw @m6 (tw @mX (tw @mF (tw @hj (tw @iS (tw @az.eq_1 (tw @mg (tw @jw (tw @gP (tw @fU (tw @jn (tw @x1 (tw @x2 (tw @x3 (tw @wX (tw @wA (tw @wF (tw @bB.eq_1 (tw @hid (tw @sZ (tw @y1 (tw @y2 (tw @y3 (tw @e3 @z1))))))))))))))))))))))))))) ?_;(repeat(refine Pn.mk ?_;intro N hN))))<;>(try refine fh ?_ ?_)<;>(try((repeat(revert hN;revert N;apply Pn.out));refine wk (tw @m0 (tw @m1 (tw @m5 (tw @m6 (tw @mX (tw @mF (tw @hj (tw @iS (tw @az.eq_1 (tw @mg (tw @jw (tw @gP (tw @fU (tw @jn (tw @x1 (tw @x2 (tw @x3 (tw @wX (tw @wA (tw @wF (tw @bB.eq_1 (tw @hid (tw @sZ (tw @y1 (tw @y2 (tw @y3 (tw @e3 @z1))))))))))))))))))))))))))) ?_;(repeat(refine Pn.mk ?_;intro N hN))))<;>(try refine fh ?_ ?_)<;>(try((repeat(revert hN;revert N;apply Pn.out));refine wk (tw @m0 (tw @m1 (tw @m5 (tw @m6 (tw @mX (tw @mF (tw @hj (tw @iS (tw @az.eq_1 (tw @mg (tw @jw (tw @gP (tw @fU (tw @jn (tw @x1 (tw @x2 (tw @x3 (tw @wX (tw @wA (tw @wF (tw @bB.eq_1 (tw @hid (tw @sZ (tw @y1 (tw @y2 (tw @y3 (tw @e3 @z1))))))))))))))))))))))))))) ?_;(repeat(refine Pn.mk ?_;intro N hN))))<;>(try refine fh ?_ ?_)<;>(try((repeat(revert hN;revert N;apply Pn.out));refine wk (tw @m0 (tw @m1 (tw @m5 (tw @m6 (tw @mX (tw @mF (tw @hj (tw @iS (tw @az.eq_1 (tw @mg (tw @jw (tw @gP (tw @fU (tw @jn (tw @x1 (tw @x2 (tw @x3 (tw @wX (tw @wA (tw @wF (tw @bB.eq_1 (tw @hid (tw @sZ (tw @y1 (tw @y2 (tw @y3 (tw @e3 @z1))))))))))))))))))))))))))) ?_;(repeat(refine Pn.mk ?_;intro N hN))))
     all_goals
      refine⟨by simp only[go_sem, ↓reduceIte,Nat.reduceEqDiff,Nat.reduceAdd,Nat.reduceSub,Nat.reduceLeDiff,reduceCtorEq,m0,m1,m5,m6,mX,mF,hj,iS,az,mg,jw,gP,fU,jn,x1,x2,x3,wX,wA,wF,bB,hid,sZ,y1,y2,y3,e3,z1],by simp only[go_sem, ↓reduceIte,Nat.reduceEqDiff,Nat.reduceAdd,Nat.reduceSub,Nat.reduceLeDiff,reduceCtorEq,m0,m1,m5,m6,mX,mF,hj,iS,az,mg,jw,gP,fU,jn,x1,x2,x3,wX,wA,wF,bB,hid,sZ,y1,y2,y3,e3,z1],by simp only[go_sem, ↓reduceIte,Nat.reduceEqDiff,Nat.reduceAdd,Nat.reduceSub,Nat.reduceLeDiff,reduceCtorEq,m0,m1,m5,m6,mX,mF,hj,iS,az,mg,jw,gP,fU,jn,x1,x2,x3,wX,wA,wF,bB,hid,sZ,y1,y2,y3,e3,z1],by simp only[go_sem, ↓reduceIte,Nat.reduceEqDiff,Nat.reduceAdd,Nat.reduceSub,Nat.reduceLeDiff,reduceCtorEq,m0,m1,m5,m6,mX,mF,hj,iS,az,mg,jw,gP,fU,jn,x1,x2,x3,wX,wA,wF,bB,hid,sZ,y1,y2,y3,e3,z1],by simp only[go_sem, ↓reduceIte,Nat.reduceEqDiff,Nat.reduceAdd,Nat.reduceSub,Nat.reduceLeDiff,reduceCtorEq,m0,m1,m5,m6,mX,mF,hj,iS,az,mg,jw,gP,fU,jn,x1,x2,x3,wX,wA,wF,bB,hid,sZ,y1,y2,y3,e3,z1],by simp only[go_sem, ↓reduceIte,Nat.reduceEqDiff,Nat.reduceAdd,Nat.reduceSub,Nat.reduceLeDiff,reduceCtorEq,m0,m1,m5,m6,mX,mF,hj,iS,az,mg,jw,gP,fU,jn,x1,x2,x3,wX,wA,wF,bB,hid,sZ,y1,y2,y3,e3,z1],Jo _ (by simp only[go_sem, ↓reduceIte,Nat.reduceEqDiff,Nat.reduceAdd,Nat.reduceSub,Nat.reduceLeDiff,reduceCtorEq,m0,m1,m5,m6,mX,mF,hj,iS,az,mg,jw,gP,fU,jn,x1,x2,x3,wX,wA,wF,bB,hid,sZ,y1,y2,y3,e3,z1,List.length_nil]) (by simp only[go_sem, ↓reduceIte,Nat.reduceEqDiff,Nat.reduceAdd,Nat.reduceSub,Nat.reduceLeDiff,reduceCtorEq,m0,m1,m5,m6,mX,mF,hj,iS,az,mg,jw,gP,fU,jn,x1,x2,x3,wX,wA,wF,bB,hid,sZ,y1,y2,y3,e3,z1,List.map_nil,List.nil_append]) (fun i hi OO fB=>?_),by(try dsimp only);omega⟩
      have ik:=fB id rfl
      simp only[go_sem, ↓reduceIte,Nat.reduceEqDiff,Nat.reduceAdd,Nat.reduceSub,Nat.reduceLeDiff,reduceCtorEq,wX,wA,wF,dv hi,OO,ik]
  ·intro N hN
   rcases I8 with⟨Uv,Ah⟩|⟨id,Ah,hLp,hid,HW,y7⟩
   ·simp only[List.cons.injEq,and_true]at Ah
    subst Ah
    subst Uv
    refine fh ?_ ?_<;>(try((repeat(revert hN;revert N;apply Pn.out));refine wk (tw @a6 (tw @a5 (tw @ag0 (tw @ag1 (tw @a0 (tw @a1 (tw @hj (tw @iS (tw @az.eq_1 (tw @ag (tw @jv (tw @gP (tw @fU (tw @jm (tw @x1 (tw @x2 (tw @x3 (tw @vX (tw @vA (tw @vF @bB.eq_1)))))))))))))))))))) ?_;(repeat(refine Pn.mk ?_;intro N hN))))<;>(try refine fh ?_ ?_)<;>(try((repeat(revert hN;revert N;apply Pn.out));refine wk (tw @a6 (tw @a5 (tw @ag0 (tw @ag1 (tw @a0 (tw @a1 (tw @hj (tw @iS (tw @az.eq_1 (tw @ag (tw @jv (tw @gP (tw @fU (tw @jm (tw @x1 (tw @x2 (tw @x3 (tw @vX (tw @vA (tw @vF @bB.eq_1)))))))))))))))))))) ?_;(repeat(refine Pn.mk ?_;intro N hN))))<;>(try refine fh ?_ ?_)<;>(try((repeat(revert hN;revert N;apply Pn.out));refine wk (tw @a6 (tw @a5 (tw @ag0 (tw @ag1 (tw @a0 (tw @a1 (tw @hj (tw @iS (tw @az.eq_1 (tw @ag (tw @jv (tw @gP (tw @fU (tw @jm (tw @x1 (tw @x2 (tw @x3 (tw @vX (tw @vA (tw @vF @bB.eq_1)))))))))))))))))))) ?_;(repeat(refine Pn.mk ?_;intro N hN))))<;>(try refine fh ?_ ?_)<;>(try((repeat(revert hN;revert N;apply Pn.out));refine wk (tw @a6 (tw @a5 (tw @ag0 (tw @ag1 (tw @a0 (tw @a1 (tw @hj (tw @iS (tw @az.eq_1 (tw @ag (tw @jv (tw @gP (tw @fU (tw @jm (tw @x1 (tw @x2 (tw @x3 (tw @vX (tw @vA (tw @vF @bB.eq_1)))))))))))))))))))) ?_;(repeat(refine Pn.mk ?_;intro N hN))))<;>(try refine fh ?_ ?_)<;>(try((repeat(revert hN;revert N;apply Pn.out));refine wk (tw @a6 (tw @a5 (tw @ag0 (tw @ag1 (tw @a0 (tw @a1 (tw @hj (tw @iS (tw @az.eq_1 (tw @ag (tw @jv (tw @gP (tw @fU (tw @jm (tw @x1 (tw @x2 (tw @x3 (tw @vX (tw @vA (tw @vF @bB.eq_1)))))))))))))))))))) ?_;(repeat(refine Pn.mk ?_;intro N hN))))<;>(try refine fh ?_ ?_)<;>(try((repeat(revert hN;revert N;apply Pn.out));refine wk (tw @a6 (tw @a5 (tw @ag0 (tw @ag1 (tw @a0 (tw @a1 (tw @hj (tw @iS (tw @az.eq_1 (tw @ag (tw @jv (tw @gP (tw @fU (tw @jm (tw @x1 (tw @x2 (tw @x3 (tw @vX (tw @vA (tw @vF @bB.eq_1)))))))))))))))))))) ?_;(repeat(refine Pn.mk ?_;intro N hN))))
    all_goals
     refine⟨by simp only[go_sem, ↓reduceIte,Nat.reduceEqDiff,Nat.reduceAdd,Nat.reduceSub,Nat.reduceLeDiff,reduceCtorEq,a6,a5,ag0,ag1,a0,a1,hj,iS,az,ag,jv,gP,fU,jm,x1,x2,x3,vX,vA,vF,bB],by simp only[go_sem, ↓reduceIte,Nat.reduceEqDiff,Nat.reduceAdd,Nat.reduceSub,Nat.reduceLeDiff,reduceCtorEq,a6,a5,ag0,ag1,a0,a1,hj,iS,az,ag,jv,gP,fU,jm,x1,x2,x3,vX,vA,vF,bB],by simp only[go_sem, ↓reduceIte,Nat.reduceEqDiff,Nat.reduceAdd,Nat.reduceSub,Nat.reduceLeDiff,reduceCtorEq,a6,a5,ag0,ag1,a0,a1,hj,iS,az,ag,jv,gP,fU,jm,x1,x2,x3,vX,vA,vF,bB],by simp only[go_sem, ↓reduceIte,Nat.reduceEqDiff,Nat.reduceAdd,Nat.reduceSub,Nat.reduceLeDiff,reduceCtorEq,a6,a5,ag0,ag1,a0,a1,hj,iS,az,ag,jv,gP,fU,jm,x1,x2,x3,vX,vA,vF,bB],by simp only[go_sem, ↓reduceIte,Nat.reduceEqDiff,Nat.reduceAdd,Nat.reduceSub,Nat.reduceLeDiff,reduceCtorEq,a6,a5,ag0,ag1,a0,a1,hj,iS,az,ag,jv,gP,fU,jm,x1,x2,x3,vX,vA,vF,bB],by simp only[go_sem, ↓reduceIte,Nat.reduceEqDiff,Nat.reduceAdd,Nat.reduceSub,Nat.reduceLeDiff,reduceCtorEq,a6,a5,ag0,ag1,a0,a1,hj,iS,az,ag,jv,gP,fU,jm,x1,x2,x3,vX,vA,vF,bB],Jn _ (by simp only[go_sem, ↓reduceIte,Nat.reduceEqDiff,Nat.reduceAdd,Nat.reduceSub,Nat.reduceLeDiff,reduceCtorEq,a6,a5,ag0,ag1,a0,a1,hj,iS,az,ag,jv,gP,fU,jm,x1,x2,x3,vX,vA,vF,bB,List.length_nil]) (by simp only[go_sem, ↓reduceIte,Nat.reduceEqDiff,Nat.reduceAdd,Nat.reduceSub,Nat.reduceLeDiff,reduceCtorEq,a6,a5,ag0,ag1,a0,a1,hj,iS,az,ag,jv,gP,fU,jm,x1,x2,x3,vX,vA,vF,bB,List.map_nil,List.nil_append]) (fun i hi OO fB=>?_),by(try dsimp only);omega⟩
     clear fB
     simp only[go_sem, ↓reduceIte,Nat.reduceEqDiff,Nat.reduceAdd,Nat.reduceSub,Nat.reduceLeDiff,reduceCtorEq,vX,vA,vF,dv hi,OO]
   ·simp only[List.cons.injEq,and_true]at Ah
    subst Ah
    have sZ:=dv HW
    have y1:=cH (a:=A) (b:=id) (by omega)
    have y2:=cH (a:=F) (b:=id) y7
    have y3:=cH (a:=X) (b:=id) (by omega)
    have e3:La.length+1<=16777216:=by omega
    have z1:(La.map eN).length=La.length:=by simp
    refine fh ?_ ?_<;>(try((repeat(revert hN;revert N;apply Pn.out));refine wk (tw @a6 (tw @a5 (tw @ag0 (tw @ag1 (tw @a0 (tw @a1 (tw @hj (tw @iS (tw @az.eq_1 (tw @ag (tw @jv (tw @gP (tw @fU (tw @jm (tw @x1 (tw @x2 (tw @x3 (tw @vX (tw @vA (tw @vF (tw @bB.eq_1 (tw @hid (tw @sZ (tw @y1 (tw @y2 (tw @y3 (tw @e3 @z1))))))))))))))))))))))))))) ?_;(repeat(refine Pn.mk ?_;intro N hN))))<;>(try refine fh ?_ ?_)<;>(try((repeat(revert hN;revert N;apply Pn.out));refine wk (tw @a6 (tw @a5 (tw @ag0 (tw @ag1 (tw @a0 (tw @a1 (tw @hj (tw @iS (tw @az.eq_1 (tw @ag (tw @jv (tw @gP (tw @fU (tw @jm (tw @x1 (tw @x2 (tw @x3 (tw @vX (tw @vA (tw @vF (tw @bB.eq_1 (tw @hid (tw @sZ (tw @y1 (tw @y2 (tw @y3 (tw @e3 @z1))))))))))))))))))))))))))) ?_;(repeat(refine Pn.mk ?_;intro N hN))))<;>(try refine fh ?_ ?_)<;>(try((repeat(revert hN;revert N;apply Pn.out));refine wk (tw @a6 (tw @a5 (tw @ag0 (tw @ag1 (tw @a0 (tw @a1 (tw @hj (tw @iS (tw @az.eq_1 (tw @ag (tw @jv (tw @gP (tw @fU (tw @jm (tw @x1 (tw @x2 (tw @x3 (tw @vX (tw @vA (tw @vF (tw @bB.eq_1 (tw @hid (tw @sZ (tw @y1 (tw @y2 (tw @y3 (tw @e3 @z1))))))))))))))))))))))))))) ?_;(repeat(refine Pn.mk ?_;intro N hN))))<;>(try refine fh ?_ ?_)<;>(try((repeat(revert hN;revert N;apply Pn.out));refine wk (tw @a6 (tw @a5 (tw @ag0 (tw @ag1 (tw @a0 (tw @a1 (tw @hj (tw @iS (tw @az.eq_1 (tw @ag (tw @jv (tw @gP (tw @fU (tw @jm (tw @x1 (tw @x2 (tw @x3 (tw @vX (tw @vA (tw @vF (tw @bB.eq_1 (tw @hid (tw @sZ (tw @y1 (tw @y2 (tw @y3 (tw @e3 @z1))))))))))))))))))))))))))) ?_;(repeat(refine Pn.mk ?_;intro N hN))))<;>(try refine fh ?_ ?_)<;>(try((repeat(revert hN;revert N;apply Pn.out));refine wk (tw @a6 (tw @a5 (tw @ag0 (tw @ag1 (tw @a0 (tw @a1 (tw @hj (tw @iS (tw @az.eq_1 (tw @ag (tw @jv (tw @gP (tw @fU (tw @jm (tw @x1 (tw @x2 (tw @x3 (tw @vX (tw @vA (tw @vF (tw @bB.eq_1 (tw @hid (tw @sZ (tw @y1 (tw @y2 (tw @y3 (tw @e3 @z1))))))))))))))))))))))))))) ?_;(repeat(refine Pn.mk ?_;intro N hN))))<;>(try refine fh ?_ ?_)<;>(try((repeat(revert hN;revert N;apply Pn.out));refine wk (tw @a6 (tw @a5 (tw @ag0 (tw @ag1 (tw @a0 (tw @a1 (tw @hj (tw @iS (tw @az.eq_1 (tw @ag (tw @jv (tw @gP (tw @fU (tw @jm (tw @x1 (tw @x2 (tw @x3 (tw @vX (tw @vA (tw @vF (tw @bB.eq_1 (tw @hid (tw @sZ (tw @y1 (tw @y2 (tw @y3 (tw @e3 @z1))))))))))))))))))))))))))) ?_;(repeat(refine Pn.mk ?_;intro N hN))))
    all_goals
     refine⟨by simp only[go_sem, ↓reduceIte,Nat.reduceEqDiff,Nat.reduceAdd,Nat.reduceSub,Nat.reduceLeDiff,reduceCtorEq,a6,a5,ag0,ag1,a0,a1,hj,iS,az,ag,jv,gP,fU,jm,x1,x2,x3,vX,vA,vF,bB,hid,sZ,y1,y2,y3,e3,z1],by simp only[go_sem, ↓reduceIte,Nat.reduceEqDiff,Nat.reduceAdd,Nat.reduceSub,Nat.reduceLeDiff,reduceCtorEq,a6,a5,ag0,ag1,a0,a1,hj,iS,az,ag,jv,gP,fU,jm,x1,x2,x3,vX,vA,vF,bB,hid,sZ,y1,y2,y3,e3,z1],by simp only[go_sem, ↓reduceIte,Nat.reduceEqDiff,Nat.reduceAdd,Nat.reduceSub,Nat.reduceLeDiff,reduceCtorEq,a6,a5,ag0,ag1,a0,a1,hj,iS,az,ag,jv,gP,fU,jm,x1,x2,x3,vX,vA,vF,bB,hid,sZ,y1,y2,y3,e3,z1],by simp only[go_sem, ↓reduceIte,Nat.reduceEqDiff,Nat.reduceAdd,Nat.reduceSub,Nat.reduceLeDiff,reduceCtorEq,a6,a5,ag0,ag1,a0,a1,hj,iS,az,ag,jv,gP,fU,jm,x1,x2,x3,vX,vA,vF,bB,hid,sZ,y1,y2,y3,e3,z1],by simp only[go_sem, ↓reduceIte,Nat.reduceEqDiff,Nat.reduceAdd,Nat.reduceSub,Nat.reduceLeDiff,reduceCtorEq,a6,a5,ag0,ag1,a0,a1,hj,iS,az,ag,jv,gP,fU,jm,x1,x2,x3,vX,vA,vF,bB,hid,sZ,y1,y2,y3,e3,z1],by simp only[go_sem, ↓reduceIte,Nat.reduceEqDiff,Nat.reduceAdd,Nat.reduceSub,Nat.reduceLeDiff,reduceCtorEq,a6,a5,ag0,ag1,a0,a1,hj,iS,az,ag,jv,gP,fU,jm,x1,x2,x3,vX,vA,vF,bB,hid,sZ,y1,y2,y3,e3,z1],Jn _ (by simp only[go_sem, ↓reduceIte,Nat.reduceEqDiff,Nat.reduceAdd,Nat.reduceSub,Nat.reduceLeDiff,reduceCtorEq,a6,a5,ag0,ag1,a0,a1,hj,iS,az,ag,jv,gP,fU,jm,x1,x2,x3,vX,vA,vF,bB,hid,sZ,y1,y2,y3,e3,z1,List.length_nil]) (by simp only[go_sem, ↓reduceIte,Nat.reduceEqDiff,Nat.reduceAdd,Nat.reduceSub,Nat.reduceLeDiff,reduceCtorEq,a6,a5,ag0,ag1,a0,a1,hj,iS,az,ag,jv,gP,fU,jm,x1,x2,x3,vX,vA,vF,bB,hid,sZ,y1,y2,y3,e3,z1,List.map_nil,List.nil_append]) (fun i hi OO fB=>?_),by(try dsimp only);omega⟩
     have ik:=fB id rfl
     simp only[go_sem, ↓reduceIte,Nat.reduceEqDiff,Nat.reduceAdd,Nat.reduceSub,Nat.reduceLeDiff,reduceCtorEq,vX,vA,vF,dv hi,OO,ik]
 ·have im:j=bs.length:=by omega
  subst im
  (try((repeat(revert hN;revert N;apply Pn.out));refine wk (tw @a6 (tw @a5 (tw @ag0 (tw @ag1 (tw @a0 (tw @a1 @hj)))))) ?_;(repeat(refine Pn.mk ?_;intro N hN))))
  exact ft (.inl rfl) (by simp only[fA,iD,go_sem, ↓reduceIte,Nat.reduceEqDiff,Nat.reduceAdd,Nat.reduceSub,Nat.reduceLeDiff,reduceCtorEq];rfl) ⟨X,A,F,rfl,hXs,⟨ag0,⟨rows,ids,ag,hR,mM,fun x hx=>by have:=oH x hx;(try dsimp only);omega⟩,ag1,hXA,hAF,by(try dsimp only);omega⟩⟩
theorem rR.frame {A:Id} {lo nx vV:Nat} {L:List (List Nat)} {g g':Rows} (h:rR A lo L g nx) (hA:A.bW<nx) (hf:∀i:Id,i.bW<nx->lo<i.bW∨i=A->g' i=g i) (hn:nx<=vV):rR A lo L g' vV:=by
 obtain⟨rows,ids,h1,h2,h3,h4⟩:=h
 refine⟨rows,ids,(hf A hA (.inr rfl)).trans h1,h2.frame NI fun i hi=>hf i (h4 i hi).2 (.inl (h4 i hi).1),h3,fun i hi=>?_⟩
 have:=h4 i hi;omega
theorem oR.frame {cnt:Nat} {bs:List PB} {f:Nat->Int} {X A F:Id} {g g':Rows} {nx vV:Nat} (h:oR cnt bs f X A F g nx) (hf:∀i:Id,i.bW<nx->g' i=g i) (hn:nx<=vV):oR cnt bs f X A F g' vV:=by
 have h1:=h.xa;have h2:=h.af;have h3:=h.fn
 exact⟨(hf X (by omega)).trans h.x,h.a.frame (by omega) (fun i hi _=>hf i hi) hn,(hf F h3).trans h.f,h1,h2,by omega⟩
theorem oR.Q1 {cnt:Nat} {bs:List PB} {f f':Nat->Int} {X A F:Id} {g g':Rows} {nx vV:Nat} (h:oR cnt bs f X A F g nx) (hF:g' F=some ⟨true,1,ea f' bs.length⟩) (hf:∀i:Id,i.bW<nx->(i=F)=False->g' i=g i) (hn:nx<=vV):oR cnt bs f' X A F g' vV:=by
 have h1:=h.xa;have h2:=h.af;have h3:=h.fn
 refine⟨(hf X (by omega) (cH (by omega)).1).trans h.x,h.a.frame (by omega) (fun i hi kD=>hf i hi ?_) hn,hF,h1,h2,by omega⟩
 rcases kD with kD|rfl
 ·exact(cH kD).2
 ·exact(cH h2).1
theorem Pv (cnt:Nat) (bs:List PB) (f:Nat->Int) (hs:Small bs f) (e v:Nat) (he:e<bs.length) (X A F:Id) (σ:ar) (nx:Nat) (hS:oR cnt bs f X A F σ.get nx) (hn:nx<=σ.next):
  Call Tryz.prog 298 [.ptr X 0 0,.int .i64 v,.int .i64 e] σ fun r σ'=>oR cnt bs (uJ bs f e v) X A F σ'.get nx/\σ.next<=σ'.next/\∀i:Id,(i=F)=False->σ'.get i=σ.get i:=by
 refine eW eI rfl fun hl=>?_
 clear hl
 have hX:=hS.x
 have hF:=hS.f
 have hb:=vn he
 have Rp:=dS (f:=f) he
 have tl:=dF f bs.length
 obtain⟨⟨s0,s1⟩,s2,s3⟩:=hs e he
 have hei:(e:Int)<(bs.length:Int):=by omega
 have w1:IntKind.i64.wrap (f e+1)=f e+1:=bz (by omega)
 have w2:IntKind.i64.wrap (f e-1)=f e+-1:=by rw[bz (by omega)];omega
 rw[bq]at Rp
 unfold uJ
 by_cases h:(cE bs e).a=v
 ·have eF:(ea f bs.length).set e (bq (f e+1))=ea (fun j=>f j+if j=e then(if (cE bs e).a=v then 1 else -1)else 0) bs.length:=ly he (by rw[if_pos rfl,if_pos h]) fun i _ hi=>by rw[if_neg hi,Int.add_zero]
  rw[bq]at eF
  generalize S6:cE bs e=b at *
  have hd:decide ((b.a:Int)=(v:Int))=true:=decide_eq_true (by rw[h])
  (try((repeat(revert hN;revert N;apply Pn.out));refine wk (tw @hX (tw @hF (tw @hb (tw @Rp (tw @tl (tw @hei (tw @w1 (tw @eF (tw @hd (tw @az.eq_1 @bB.eq_1)))))))))) ?_;(repeat(refine Pn.mk ?_;intro N hN))))
  exact ft (.inr rfl) (vs:=[]) rfl ⟨hS.Q1 (sd @Nat.zero_add) (fun i hi ik=>sd @ik) (Nat.le_refl _),by(try dsimp only);omega,fun i ik=>sd @ik⟩
 ·have eF:(ea f bs.length).set e (bq (f e+-1))=ea (fun j=>f j+if j=e then(if (cE bs e).a=v then 1 else -1)else 0) bs.length:=ly he (by rw[if_pos rfl,if_neg h]) fun i _ hi=>by rw[if_neg hi,Int.add_zero]
  rw[bq]at eF
  generalize S6:cE bs e=b at *
  have hd:decide ((b.a:Int)=(v:Int))=false:=decide_eq_false fun hc=>h (by omega)
  (try((repeat(revert hN;revert N;apply Pn.out));refine wk (tw @hX (tw @hF (tw @hb (tw @Rp (tw @tl (tw @hei (tw @w2 (tw @eF (tw @hd (tw @az.eq_1 @bB.eq_1)))))))))) ?_;(repeat(refine Pn.mk ?_;intro N hN))))
  exact ft (.inr rfl) (vs:=[]) rfl ⟨hS.Q1 (sd @Nat.zero_add) (fun i hi ik=>sd @ik) (Nat.le_refl _),by(try dsimp only);omega,fun i ik=>sd @ik⟩
structure oU (bs:List PB) (out:Nat->Int) (f f':Nat->Int) (x v:Nat):Prop where
 le:∀i,i<bs.length->f' i<=(cE bs i).s/\-(cE bs i).s<=f' i
 cut:∀S:Nat->Bool,Gt S bs f'=Gt S bs f+bi (S x)-bi (S v)
 zx:∀e,e<bs.length->out (cE bs e).a<=out v->out (cE bs e).b<=out v->f' e=f e
section
variable {cnt:Nat} {bs:List PB} {out:Nat->Int} {f f':Nat->Int} {x v y:Nat}
theorem oU.start (h:∀i,i<bs.length->f i<=(cE bs i).s/\-(cE bs i).s<=f i):oU bs out f f x x:=⟨h,fun S=>by omega,fun _ _ _ _=>rfl⟩
theorem oU.step (h:oU bs out f f' x v) {e:Nat} (he:e<bs.length) (hi:Fh bs e v) (hr:0<fK bs f' e v) (hd:out (cq bs e v)=out v-1):oU bs out f (uJ bs f' e v) x (cq bs e v):=by
 refine⟨fun i lV=>?_,fun S=>?_,fun i lV ha hb=>?_⟩
 ·have h1:=h.le i lV
  unfold uJ
  by_cases HX:i=e
  ·subst HX
   rw[if_pos rfl]
   unfold fK at hr
   split at hr<;>rename_i hc
   ·rw[if_pos hc];omega
   ·rw[if_neg hc];omega
  ·rw[if_neg HX];omega
 ·rw[Gu he hi,h.cut S];omega
 ·have HX:i≠e:=by
   rintro rfl
   rcases hi with hi|hi
   ·rw[hi]at ha;omega
   ·rw[hi]at hb;omega
  unfold uJ
  rw[if_neg HX,Int.add_zero]
  exact h.zx i lV (by omega) (by omega)
theorem oU.goes (h:oU bs out f f' x v) (hs:zO cnt bs f y out) (hv:v<cnt) (h0:0<out v):∃e∈jg bs bs.length v,0<fK bs f' e v/\out (cq bs e v)=out v-1:=by
 obtain⟨e,h1,h2,h3,h4⟩:=hs.down v hv h0
 refine⟨e,su.2 ⟨h1,h2⟩,?_,h4⟩
 have hf:f' e=f e:=by
  refine h.zx e h1 ?_ ?_
  ·unfold cq at h4
   split at h4
   ·rename_i ha;rw[ha];exact Int.le_refl _
   ·omega
  ·unfold cq at h4
   rcases h2 with h2|h2
   ·rw[if_pos h2]at h4;omega
   ·rw[h2];exact Int.le_refl _
 unfold fK at h3 ⊢
 rw[hf];exact h3
theorem oU.done {val:Int} (h:oU bs out f f' x y) (hf:ke bs f x y val):ke bs f' x y (val+1):=
 ⟨h.le,fun S hx hy=>by rw[h.cut S,hf.cut S hx hy,hx,hy];simp[bi]⟩
theorem EW {val:Int} (hs:zO cnt bs f y out) (ok:nS cnt bs) (hf:ke bs f x y val) (hx:out x<0):∃S:Nat->Bool,S x=true/\S y=false/\val=jk S bs:=by
 refine⟨fun v=>decide (out v<0),decide_eq_true hx,decide_eq_false (by rw[hs.first];omega),hf.full (decide_eq_true hx) (decide_eq_false (by rw[hs.first];omega)) fun i hi re=>⟨fun h1 h2 hr=>?_,fun h1 h2 hr=>?_⟩⟩
 ·have Ot:=of_decide_eq_true h1
  have Dd:=of_decide_eq_false h2
  have:=hs.shut i (cE bs i).a hi (.inl rfl) (by unfold cq;rw[if_pos rfl];omega) hr
  omega
 ·have Ot:=of_decide_eq_true h1
  have Dd:=of_decide_eq_false h2
  have:=hs.shut i (cE bs i).b hi (.inr rfl) (by unfold cq;rw[if_neg re];omega) hr
  omega
end
theorem xJ {bs:List PB} {f:Nat->Int} (dK:∀e,e<bs.length->0<=(cE bs e).s/\(cE bs e).s<=4) (h:∀i,i<bs.length->f i<=(cE bs i).s/\-(cE bs i).s<=f i):Small bs f:=fun e he=>by
 have:=dK e he;have:=h e he;omega
theorem rR.at_ {A:Id} {lo nx v:Nat} {L:List (List Nat)} {l:List Nat} {g:Rows} (h:rR A lo L g nx) (hv:L[v]? =some l) (hl:0<l.length):∃(rows:List (List AV)) (id:Id),g A=some ⟨true,1,rows⟩/\rows.length=L.length/\rows[v]? =some [.own id 0 l.length]/\g id=some ⟨true,1,l.map eN⟩/\lo<id.bW/\id.bW<nx:=by
 obtain⟨rows,ids,h1,h2,h3,h4⟩:=h
 have hk:v<L.length:=(List.getElem?_eq_some_iff.1 hv).1
 obtain⟨cs,ic,dx,hR,Rw⟩:=h2.at_ v hk
 rw[k7 hv hk]at hR
 rcases hR with⟨h5,_⟩|⟨id,rfl,_,h6,rfl⟩
 ·subst h5;simp at hl
 ·have:=h4 id (Rw id (by simp))
  exact⟨rows,id,h1,h2.len,dx,h6,this.1,this.2⟩
theorem Oq (cnt:Nat) (hn:cnt<=1048576) (bs:List PB) (ok:nS cnt bs) (qC:bs.length<=1048576) (dK:∀e,e<bs.length->0<=(cE bs e).s/\(cE bs e).s<=4) (f:Nat->Int) (x y:Nat) (hx:x<cnt) (hy:y<cnt) (RX:x≠y) (val:Int) (hf:ke bs f x y val)
  (X A F:Id) (σ:ar) (nb:Nat) (hS:oR cnt bs f X A F σ.get nb) (rh:nb<=σ.next):
  Call Tryz.prog 252 [.ptr X 0 0,.int .i64 x,.int .i64 y] σ fun r σ'=>∃b f',r=.bool b/\oR cnt bs f' X A F σ'.get nb/\σ.next<=σ'.next/\(∀i:Id,i.bW<nb->(i=F)=False->σ'.get i=σ.get i)/\
   (b=false->f'=f/\∃S:Nat->Bool,S x=true/\S y=false/\val=jk S bs)/\(b=true->ke bs f' x y (val+1)):=by
 refine eW eI rfl fun hl=>?_
 clear hl
 have Dl:(x:Int)<(cnt:Int):=by omega
 have hz:∀(g:Rows),(∀i:Id,i.bW<nb->g i=σ.get i)->cV (dP g) 6 [.ptr X 0 0,.int .i64 (y:Int)]=some [.dn (fS cnt bs f),.int .i64 y]:=fun g hg=>by
  have:=(hS.frame hg (Nat.le_refl _)).fz
  simp only[ai,aq,this,aI,Option.map_some]
 (try((repeat(revert hN;revert N;apply Pn.out));refine wk @Nat.zero_add ?_;(repeat(refine Pn.mk ?_;intro N hN))))
 refine .inr (aJ _ _ _ _ _ (fun r σ1 hq=>?_) ((F6 cnt hn bs ok qC f (xJ dK hf.le) y hy).x mixed (hz _ (fun i hi=>rfl))))
 obtain⟨⟨out,rfl,O8⟩,rfl⟩:=hq
 refine hN _ _ ?_
 clear hN N
 have hox:=dS (f:=out) hx
 have tl:=dF out cnt
 by_cases ki:out x<0
 ·(try((repeat(revert hN;revert N;apply Pn.out));refine wk (tw @hox (tw @ki (tw @Dl (tw @tl @bq.eq_1)))) ?_;(repeat(refine Pn.mk ?_;intro N hN))))
  exact ft (.inl rfl) (vs:=[.bool false]) (sd @Nat.zero_add) ⟨false,f,rfl,hS.frame (fun i hi=>rfl) (Nat.le_refl _),by(try dsimp only);omega,fun i _ _=>rfl,fun _=>⟨rfl,EW O8 ok hf ki⟩,fun h=>by cases h⟩
 (try((repeat(revert hN;revert N;apply Pn.out));refine wk (tw @hox (tw @ki (tw @Dl (tw @tl @bq.eq_1)))) ?_;(repeat(refine Pn.mk ?_;intro N hN))))
 refine aW (fun m env st=>∃(v:Nat) (f':Nat->Int),m=(out v).toNat/\v<cnt/\0<=out v/\env 8=.int .i64 (v:Int)/\oU bs out f f' x v/\oR cnt bs f' X A F st.get nb/\(∀i:Id,i.bW<nb->(i=F)=False->st.get i=σ.get i)/\σ.next<=st.next) (out x).toNat ⟨x,f,rfl,hx,by omega,by(simp only[go_sem, ↓reduceIte,Nat.reduceEqDiff,Nat.reduceAdd,Nat.reduceSub,Nat.reduceLeDiff,reduceCtorEq]),oU.start hf.le,hS.frame (fun i hi=>rfl) (Nat.le_refl _),fun i _ _=>rfl,by(try dsimp only);omega⟩ ?_
 rintro m env_b st_b ⟨v,f',rfl,hv,td,b8,hW,hN1,jV,hle⟩ gu
 have b0:=gu 0 (by kernel_rfl)
 have b2:=gu 2 (by kernel_rfl)
 have b7:=gu 7 (by kernel_rfl)
 simp only[go_sem, ↓reduceIte,Nat.reduceEqDiff,Nat.reduceAdd,Nat.reduceSub,Nat.reduceLeDiff,reduceCtorEq]at b0 b2 b7
 clear gu
 by_cases Tw:v=y
 ·have hd:decide ((v:Int)=(y:Int))=true:=decide_eq_true (by rw[Tw])
  subst Tw
  (try((repeat(revert hN;revert N;apply Pn.out));refine wk (tw @b0 (tw @b2 (tw @b7 (tw @b8 @hd)))) ?_;(repeat(refine Pn.mk ?_;intro N hN))))
  exact ft (.inl rfl) (vs:=[.bool true]) (sd @Nat.zero_add) ⟨true,f',rfl,hN1,by(try dsimp only);omega,jV,fun h=>(by cases h),fun _=>hW.done hf⟩
 have hd:decide ((v:Int)=(y:Int))=false:=decide_eq_false fun h=>Tw (by omega)
 have Bn:0<out v:=by
  have:=O8.zero v hv
  rcases Int.lt_or_eq_of_le td with h|h
  ·exact h
  ·exact absurd (this h.symm) Tw
 have Nr:=hW.goes O8 hv Bn
 have hIm:∀ed∈jg bs bs.length v,ed<bs.length/\Fh bs ed v:=fun ed h=>su.1 h
 have hIL:(lK cnt bs bs.length)[v]? =some (jg bs bs.length v):=by simp[lK,hv]
 have hIl:=sr bs bs.length v
 generalize jg bs bs.length v=I at *
 have hIp:0<I.length:=by
  obtain⟨ed,h,_⟩:=Nr
  exact List.length_pos_of_mem h
 obtain⟨rows,id,hgA,rO,lW,hid,hid1,hid2⟩:=hN1.a.at_ hIL hIp
 rw[jx]at rO
 have hgX:=hN1.x
 have Ed:(v:Int)<(cnt:Int):=by omega
 have vO:=dS (f:=out) hv
 have oL:IntKind.i64.wrap (out v-1)=out v-1:=bz (by have:=O8.lo v hv;omega)
 have q9:(I.map eN).length=I.length:=by simp
 have L8:=xJ dK hW.le
 have lH:∀(g:Rows),(∀i:Id,i.bW<nb->g i=st_b.get i)->∀ed:Nat,cV (dP g) 6 [.ptr X 0 0,.int .i64 (v:Int),.int .i64 (ed:Int)]=some [.dn (fS cnt bs f'),.int .i64 v,.int .i64 ed]:=fun g hg ed=>by
  have:=(hN1.frame hg (Nat.le_refl _)).fz
  simp only[ai,aq,this,aI,Option.map_some]
 rw[bq]at vO
 (try((repeat(revert hN;revert N;apply Pn.out));refine wk (tw @b0 (tw @b2 (tw @b7 (tw @b8 @hd)))) ?_;(repeat(refine Pn.mk ?_;intro N hN))))
 refine aW (fun n env st=>∃k:Nat,n=(I.length)-k/\k<=(I.length)/\env 11=.int .i64 (k:Int)/\(∃(uI Fs:Int),env 9=.int .i64 uI/\env 10=.int .i64 Fs/\((uI<0/\∀z,z<k->¬(0<fK bs f' (I.getD z 0) v/\out (cq bs (I.getD z 0) v)=out v-1))∨∃ed:Nat,ed∈I/\Fs=(ed:Int)/\uI=(cq bs ed v:Int)/\0<fK bs f' ed v/\out (cq bs ed v)=out v-1))/\((∀i:Id,st.get i=st_b.get i)/\st_b.next<=st.next)) (I.length) ⟨0,by omega,by omega,sl (tw @b0 (tw @b2 (tw @b7 @b8))),⟨-1,0,by(simp only[go_sem, ↓reduceIte,Nat.reduceEqDiff,Nat.reduceAdd,Nat.reduceSub,Nat.reduceLeDiff,reduceCtorEq]),by(simp only[go_sem, ↓reduceIte,Nat.reduceEqDiff,Nat.reduceAdd,Nat.reduceSub,Nat.reduceLeDiff,reduceCtorEq]),.inl ⟨by omega,fun z hz=>by omega⟩⟩,⟨fun i=>rfl,by(try dsimp only);omega⟩⟩ ?_
 rintro n_c env_c st_c ⟨k,rfl,cle,ow,cI0,cI1⟩ cfr
 have c0:=cfr 0 (by kernel_rfl);have c2:=cfr 2 (by kernel_rfl);have c7:=cfr 7 (by kernel_rfl);have c8:=cfr 8 (by kernel_rfl)
 simp only[go_sem, ↓reduceIte,Nat.reduceEqDiff,Nat.reduceAdd,Nat.reduceSub,Nat.reduceLeDiff,reduceCtorEq,b0,b2,b7,b8]at c0 c2 c7 c8
 clear cfr
 obtain⟨uI,Fs,c9,jF,I7⟩:=cI0
 obtain⟨mN,S7⟩:=cI1
 have D5:=(mN X).trans hgX
 have DZ:=(mN A).trans hgA
 have Aj:=(mN id).trans hid
 by_cases hk:(k:Int)<(I.length:Int)
 ·have iw:∀{e:Env} {gg:Rows} {nx:Nat},(e 11=.int .i64 (IntKind.i64.wrap ((k:Int)+1)))->(∃(uI Fs:Int),e 9=.int .i64 uI/\e 10=.int .i64 Fs/\((uI<0/\∀z,z<(k+1)->¬(0<fK bs f' (I.getD z 0) v/\out (cq bs (I.getD z 0) v)=out v-1))∨∃ed:Nat,ed∈I/\Fs=(ed:Int)/\uI=(cq bs ed v:Int)/\0<fK bs f' ed v/\out (cq bs ed v)=out v-1))->((∀i:Id,gg i=st_b.get i)/\st_b.next<=nx)->∃m0,m0<(I.length)-k/\∃k:Nat,m0=(I.length)-k/\k<=(I.length)/\e 11=.int .i64 (k:Int)/\(∃(uI Fs:Int),e 9=.int .i64 uI/\e 10=.int .i64 Fs/\((uI<0/\∀z,z<k->¬(0<fK bs f' (I.getD z 0) v/\out (cq bs (I.getD z 0) v)=out v-1))∨∃ed:Nat,ed∈I/\Fs=(ed:Int)/\uI=(cq bs ed v:Int)/\0<fK bs f' ed v/\out (cq bs ed v)=out v-1))/\((∀i:Id,gg i=st_b.get i)/\st_b.next<=nx):=fun x1 x2 x3=>⟨_,by omega,k+1,rfl,by omega,(by rw[x1,aB (by omega)]),x2,x3⟩
  have fE:k<I.length:=by omega
  have eT:(I.map eN)[k]? =some (eN (I.getD k 0)):=getD_map eN fE
  have tF:I.getD k 0∈I:=by rw[List.getD_eq_getElem?_getD,List.getElem?_eq_getElem fE];exact List.getElem_mem fE
  obtain⟨he,qq⟩:=hIm _ tF
  have O6:=Kn cnt bs f' L8 (I.getD k 0) v he
  have uB:=lH st_c.get (fun i _=>mN i) (I.getD k 0)
  have hq:=pE ok (v:=v) he
  have Qt:=dS (f:=out) hq
  obtain⟨ed,hed⟩:∃ed,ed=I.getD k 0:=⟨_,rfl⟩
  rw[<-hed]at eT he qq O6 uB hq Qt tF
  rw[bq]at Qt
  rw[eN]at eT
  (try((repeat(revert hN;revert N;apply Pn.out));refine wk (tw @ow (tw @c0 (tw @c2 (tw @c7 (tw @c8 (tw @c9 (tw @jF (tw @hk (tw @D5 (tw @DZ (tw @Aj (tw @lW (tw @rO (tw @Ed (tw @eT (tw @q9 @bB.eq_1)))))))))))))))) ?_;(repeat(refine Pn.mk ?_;intro N hN))))
  refine .inl ⟨_,aj.x O6 uB,?_⟩
  refine hN _ _ ?_
  clear hN N
  have stay:∀k',k'=k+1->(¬(0<fK bs f' ed v/\out (cq bs ed v)=out v-1))->((uI<0/\∀z,z<k'->¬(0<fK bs f' (I.getD z 0) v/\out (cq bs (I.getD z 0) v)=out v-1))∨∃ed:Nat,ed∈I/\Fs=(ed:Int)/\uI=(cq bs ed v:Int)/\0<fK bs f' ed v/\out (cq bs ed v)=out v-1):=fun k' GP lJ=>by
   rcases I7 with⟨h1,h2⟩|h
   ·refine .inl ⟨h1,fun z hz=>?_⟩
    by_cases Ef:z=k
    ·subst Ef;rw[<-hed];exact lJ
    ·exact h2 z (by omega)
   ·exact .inr h
  by_cases hr:0<fK bs f' ed v
  ·by_cases K8:out (cq bs ed v)=out v-1
   ·have oy:decide (out (cq bs ed v)=out v-1)=true:=decide_eq_true K8
    have found:∃QX:Nat,QX∈I/\(ed:Int)=(QX:Int)/\(cq bs ed v:Int)=(cq bs QX v:Int)/\0<fK bs f' QX v/\out (cq bs QX v)=out v-1:=⟨ed,tF,rfl,rfl,hr,K8⟩
    by_cases HZ:uI<0
    ·(try((repeat(revert hN;revert N;apply Pn.out));refine wk (tw @ow (tw @c0 (tw @c2 (tw @c7 (tw @c8 (tw @c9 (tw @jF (tw @hk (tw @D5 (tw @DZ (tw @Aj (tw @lW (tw @rO (tw @Ed (tw @eT (tw @q9 (tw @hr (tw @Qt (tw @vO (tw @oL (tw @oy (tw @HZ @bB.eq_1)))))))))))))))))))))) ?_;(repeat(refine Pn.mk ?_;intro N hN))))
     exact iw (sd (tw @ow (tw @c0 (tw @c2 (tw @c7 @c8))))) (⟨_,_,sd @Nat.zero_add,sd @Nat.zero_add,.inr found⟩) (⟨mN,by(try dsimp only);omega⟩)
    ·by_cases dY:(cq bs ed v:Int)<uI
     ·(try((repeat(revert hN;revert N;apply Pn.out));refine wk (tw @ow (tw @c0 (tw @c2 (tw @c7 (tw @c8 (tw @c9 (tw @jF (tw @hk (tw @D5 (tw @DZ (tw @Aj (tw @lW (tw @rO (tw @Ed (tw @eT (tw @q9 (tw @hr (tw @Qt (tw @vO (tw @oL (tw @oy (tw @HZ (tw @dY @bB.eq_1))))))))))))))))))))))) ?_;(repeat(refine Pn.mk ?_;intro N hN))))
      exact iw (sd (tw @ow (tw @c0 (tw @c2 (tw @c7 @c8))))) (⟨_,_,sd @Nat.zero_add,sd @Nat.zero_add,.inr found⟩) (⟨mN,by(try dsimp only);omega⟩)
     ·(try((repeat(revert hN;revert N;apply Pn.out));refine wk (tw @ow (tw @c0 (tw @c2 (tw @c7 (tw @c8 (tw @c9 (tw @jF (tw @hk (tw @D5 (tw @DZ (tw @Aj (tw @lW (tw @rO (tw @Ed (tw @eT (tw @q9 (tw @hr (tw @Qt (tw @vO (tw @oL (tw @oy (tw @HZ (tw @dY @bB.eq_1))))))))))))))))))))))) ?_;(repeat(refine Pn.mk ?_;intro N hN))))
      exact iw (sd (tw @ow (tw @c0 (tw @c2 (tw @c7 @c8))))) (⟨uI,Fs,sd @c9,sd @jF,by
       rcases I7 with⟨h1,_⟩|h
       ·exact absurd h1 HZ
       ·exact .inr h⟩) (⟨mN,by(try dsimp only);omega⟩)
   ·have oy:decide (out (cq bs ed v)=out v-1)=false:=decide_eq_false K8
    (try((repeat(revert hN;revert N;apply Pn.out));refine wk (tw @ow (tw @c0 (tw @c2 (tw @c7 (tw @c8 (tw @c9 (tw @jF (tw @hk (tw @D5 (tw @DZ (tw @Aj (tw @lW (tw @rO (tw @Ed (tw @eT (tw @q9 (tw @hr (tw @Qt (tw @vO (tw @oL (tw @oy @bB.eq_1))))))))))))))))))))) ?_;(repeat(refine Pn.mk ?_;intro N hN))))
    exact iw (sd (tw @ow (tw @c0 (tw @c2 (tw @c7 @c8))))) (⟨uI,Fs,sd @c9,sd @jF,stay _ rfl fun h=>K8 h.2⟩) (⟨mN,by(try dsimp only);omega⟩)
  ·(try((repeat(revert hN;revert N;apply Pn.out));refine wk (tw @ow (tw @c0 (tw @c2 (tw @c7 (tw @c8 (tw @c9 (tw @jF (tw @hk (tw @D5 (tw @DZ (tw @Aj (tw @lW (tw @rO (tw @Ed (tw @eT (tw @q9 (tw @hr @bB.eq_1))))))))))))))))) ?_;(repeat(refine Pn.mk ?_;intro N hN))))
   exact iw (sd (tw @ow (tw @c0 (tw @c2 (tw @c7 @c8))))) (⟨uI,Fs,sd @c9,sd @jF,stay _ rfl fun h=>hr h.1⟩) (⟨mN,by(try dsimp only);omega⟩)
 ·have mC:k=I.length:=by omega
  have UT:∃ed:Nat,ed∈I/\Fs=(ed:Int)/\uI=(cq bs ed v:Int)/\0<fK bs f' ed v/\out (cq bs ed v)=out v-1:=by
   rcases I7 with⟨h1,h2⟩|h
   ·exfalso
    obtain⟨ed,he,hq⟩:=Nr
    obtain⟨z,hz,rfl⟩:=List.getElem_of_mem he
    refine h2 z (by omega) ?_
    rw[List.getD_eq_getElem?_getD,List.getElem?_eq_getElem hz];exact hq
   ·exact h
  obtain⟨ed,tF,rfl,rfl,hr,K8⟩:=UT
  obtain⟨he,qq⟩:=hIm _ tF
  (try((repeat(revert hN;revert N;apply Pn.out));refine wk (tw @ow (tw @c0 (tw @c2 (tw @c7 (tw @c8 (tw @c9 (tw @jF (tw @hk (tw @D5 (tw @DZ (tw @Aj (tw @lW (tw @rO (tw @Ed (tw @q9 @bB.eq_1))))))))))))))) ?_;(repeat(refine Pn.mk ?_;intro N hN))))
  refine .inr (aJ _ _ _ _ _ (fun r σ1 hq=>?_) (Pv cnt bs f' L8 ed v he X A F ⟨st_c.get,_⟩ nb (hN1.frame (fun i _=>mN i) (Nat.le_refl _)) (by(try dsimp only);omega)))
  obtain⟨SV,nA,Je⟩:=hq
  (try dsimp only at nA Je)
  refine hN _ _ ?_
  clear hN N
  (try((repeat(revert hN;revert N;apply Pn.out));refine wk (tw @ow (tw @c0 (tw @c2 (tw @c7 (tw @c8 @c9))))) ?_;(repeat(refine Pn.mk ?_;intro N hN))))
  refine⟨_,?_,cq bs ed v,uJ bs f' ed v,rfl,pE ok he,by omega,sd @Nat.zero_add,hW.step he qq hr K8,SV,fun i hi hF=>by rw[Je i hF,mN i,jV i hi hF],by(try dsimp only);omega⟩
  omega
def uf (P:Program) (f:Nat) (args:List AV) (R:AV->Prop):Prop:=∀σ:ar,Call P f args ⟨V.ro σ.get,σ.next⟩ fun r0 σ'=>∃r',V.fz σ'.get 6 r0=some r'/\R r'
theorem DQ {P:Program} {f:Nat} {args:List AV} {g:Rows} {n:Nat} {R:AV->Prop} (h:Sound P f args ⟨V.ro g,n⟩ fun r0 σ'=>∃r',V.fz σ'.get 6 r0=some r'/\R r'):Sound P f args ⟨g,n⟩ fun r σ'=>R r/\σ'=⟨g,n⟩:=by
 intro hs D ι w vs S U A
 refine(Bs (g0:=g) (K:=R) h (fun _ _ h=>h) S U A).mono ?_
 rintro e w' ⟨r,D',u,rfl,hR,T,S',hr⟩
 exact⟨r,g,n,D',ι,u,rfl,⟨hR,rfl⟩,T,S',U,Nat.le_refl _,hr⟩
theorem uf.x {P:Program} (hm:P.follows .mixedOrders=true) {f:Nat} {args:List AV} {R:AV->Prop} (h:uf P f args R) {σ:ar}:Call P f args σ fun r σ'=>R r/\σ'=σ:=
 gS (DQ (gx hm (h σ)))
theorem uf.body {P:Program} {f:Nat} {args:List AV} {R:AV->Prop} {nt na:Nat} {body:VC} {res:List om} (hf:mz P f=some ⟨nt,na,body,res⟩) (ha:na=args.length) (h:(∀a∈args,eJ a)->∀σ:ar,dL (Call P) body (kR res fun r0 σ'=>∃r',V.fz σ'.get 6 r0=some r'/\R r') (cD args) ⟨V.ro σ.get,σ.next⟩):uf P f args R:=fun σ=>mH hf ha fun hl=>h hl σ
theorem Mp {g:Rows} {rows:List (List AV)} {xs:List (List Nat)} {ids:List Id} (n:Nat) (h:eK Qb g rows xs ids):dU g (n+2) rows=some (xs.map fun l=>[PG l]):=by
 induction h with
 |nil=>rw[dU];rfl
 |cons h1 _ ih=>
  rename_i x _ _ _ _ _
  rcases h1 with⟨h0,h1,_⟩|⟨id,h1,h0,h2,_⟩
  ·subst h0 h1;rw[dU,ih,ai,aq,aY];rfl
  ·have ik:x≠[]:=by rintro rfl;simp at h0
   subst h1
   rw[dU,ih,ai,aq,gy (e:=eN) (sz:=1) h2 rfl fun a=>fzN _ n a]
   simp[PG,ik]
theorem oR.fz0 {cnt:Nat} {bs:List PB} {f:Nat->Int} {X A F:Id} {g:Rows} {nx:Nat} (h:oR cnt bs f X A F g nx):V.fz g 5 (.ptr X 0 0)=some (.dn (fS cnt bs f)):=by
 have hf:V.fz g 4 (.own F 0 bs.length)=some (.sl (ea f bs.length)):=by
  rw[gV]
  simp only[h.f,if_true]
  rw[if_pos (by rw[dF];omega),List.drop_zero,List.take_of_length_le (by rw[dF];omega),AY];rfl
 have ha:V.fz g 4 (.own A 0 cnt)=some (.sl (qJ cnt bs bs.length)):=by
  obtain⟨rows,ids,h1,h2,_,_⟩:=h.a
  have hl:=h2.len
  rw[jx]at hl
  rw[gV]
  simp only[h1,if_true]
  rw[if_pos (by omega),List.drop_zero,List.take_of_length_le (by omega),Mp 1 h2]
  simp[lK,qJ]
 rw[bf]
 simp only[h.x,if_true,List.getElem?_cons_zero,List.drop_zero,bB,ai,aq,aI,cz,ha,hf,Option.map_some,fS]
theorem Ft {S:Nat->Bool}:∀bs:List PB,(∀b∈bs,b.s<=4)->jk S bs<=4*bs.length
 |[],_=>by simp[jk]
 |b::bs,h=>by
  rw[tq]
  have:=Ft (S:=S) bs fun x hx=>h x (List.mem_cons_of_mem _ hx)
  have:=h b (by simp)
  simp only[List.length_cons]
  split<;>omega
theorem ke.zero {bs:List PB} {x y:Nat} (h:∀e,e<bs.length->0<=(cE bs e).s/\(cE bs e).s<=4):ke bs (fun _=>0) x y 0:=
 ⟨fun i hi=>by have:=h i hi;omega,fun S _ _=>j7 fun i _=>by simp⟩
theorem Lr {bs:List PB} {b:PB} (h:b∈bs):∃e,e<bs.length/\cE bs e=b:=by
 obtain⟨e,he,rfl⟩:=List.getElem_of_mem h
 exact⟨e,he,by simp[cE,List.getD_eq_getElem?_getD,he]⟩
theorem G6 (cnt:Nat) (hn:cnt<=1048576) (bs:List PB) (ok:nS cnt bs) (qC:bs.length<=1048576) (dK:∀e,e<bs.length->0<=(cE bs e).s/\(cE bs e).s<=4) (x y:Nat) (hx:x<cnt) (hy:y<cnt) (RX:x≠y):
  uf Tryz.prog 193 [.int .i64 cnt,.sl (bs.map az),.int .i64 x,.int .i64 y] fun r=>∃f val,r=.gO [.dn (fS cnt bs f),.int .i64 val]/\ke bs f x y val/\∃S:Nat->Bool,S x=true/\S y=false/\val=jk S bs:=by
 refine uf.body eI rfl fun hl σ=>?_
 clear hl
 (try((repeat(revert hN;revert N;apply Pn.out));refine wk @Nat.zero_add ?_;(repeat(refine Pn.mk ?_;intro N hN))))
 refine .inr (aJ _ _ _ _ _ (fun r σ1 hq=>?_) (JJ cnt hn bs ok qC _))
 obtain⟨X,A,F,rfl,hX,hS⟩:=hq
 refine hN _ _ ?_
 clear hN N
 have hS0:∀f val,ke bs f x y val->val<=jk (fun v=>decide (v=x)) bs:=fun f val hf=>hf.bound (decide_eq_true rfl) (decide_eq_false fun h=>RX h.symm)
 have htot:=Ft (S:=fun v=>decide (v=x)) bs fun b hb=>by
  obtain⟨e,he,rfl⟩:=Lr hb
  exact(dK e he).2
 generalize jk (fun v=>decide (v=x)) bs=T at *
 (try((repeat(revert hN;revert N;apply Pn.out));refine wk @Nat.zero_add ?_;(repeat(refine Pn.mk ?_;intro N hN))))
 refine aW (fun m env st=>∃(f:Nat->Int) (val:Int),m=(T-val).toNat/\0<=val/\env 10=.ptr X 0 0/\env 11=.int .i64 val/\ke bs f x y val/\oR cnt bs f X A F st.get σ1.next/\σ1.next<=st.next) T.toNat ⟨_,0,by simp,by omega,by(simp only[go_sem, ↓reduceIte,Nat.reduceEqDiff,Nat.reduceAdd,Nat.reduceSub,Nat.reduceLeDiff,reduceCtorEq]),by(simp only[go_sem, ↓reduceIte,Nat.reduceEqDiff,Nat.reduceAdd,Nat.reduceSub,Nat.reduceLeDiff,reduceCtorEq]),ke.zero dK,hS.frame (fun i hi=>rfl) (Nat.le_refl _),by(try dsimp only);omega⟩ ?_
 rintro m env_b st_b ⟨f,val,rfl,td,K0,b11,hf,hN1,hle⟩ gu
 have b2:=gu 2 (by kernel_rfl)
 have b3:=gu 3 (by kernel_rfl)
 simp only[go_sem, ↓reduceIte,Nat.reduceEqDiff,Nat.reduceAdd,Nat.reduceSub,Nat.reduceLeDiff,reduceCtorEq]at b2 b3
 clear gu
 (try((repeat(revert hN;revert N;apply Pn.out));refine wk (tw @b2 (tw @b3 @K0)) ?_;(repeat(refine Pn.mk ?_;intro N hN))))
 refine .inr (aJ _ _ _ _ _ (fun r σ2 hq=>?_) (Oq cnt hn bs ok qC dK f x y hx hy RX val hf X A F ⟨st_b.get,_⟩ σ1.next hN1 (by(try dsimp only);omega)))
 obtain⟨b,f',rfl,SV,nA,_,lJ,VD⟩:=hq
 (try dsimp only at nA)
 refine hN _ _ ?_
 clear hN N
 cases b with
 |true=>
  have j9:=VD rfl
  have K5:=hS0 _ _ hf
  have GJ:=hS0 _ _ j9
  have hw:IntKind.i64.wrap (val+1)=val+1:=bz (by omega)
  (try((repeat(revert hN;revert N;apply Pn.out));refine wk (tw @K0 (tw @b11 @hw)) ?_;(repeat(refine Pn.mk ?_;intro N hN))))
  exact⟨_,by omega,f',val+1,rfl,by omega,sd @K0,sd (tw @b11 @hw),j9,SV,by(try dsimp only);omega⟩
 |false=>
  obtain⟨rfl,S,h1,h2,h3⟩:=lJ rfl
  (try((repeat(revert hN;revert N;apply Pn.out));refine wk (tw @K0 @b11) ?_;(repeat(refine Pn.mk ?_;intro N hN))))
  have hz:=SV.fz0
  exact⟨[.ptr X 0 0,.int .i64 val],sd @Nat.zero_add,.gO [.dn (fS cnt bs f'),.int .i64 val],by simp only[fj,bH,ai,aq,hz,aI,Option.map_some],f',val,rfl,hf,S,h1,h2,h3⟩
theorem G7 (cnt:Nat) (hn:cnt<=1048576) (bs:List PB) (ok:nS cnt bs) (qC:bs.length<=1048576) (f:Nat->Int) (hs:Small bs f) (y:Nat) (hy:y<cnt):
  mE Tryz.prog 194 [.dn (fS cnt bs f),.int .i64 y] fun r=>∃l:List Nat,r=.sl (l.map eN)/\l.length<=cnt:=by
 refine mE.body eI rfl fun hl n0=>?_
 clear hl
 have hz:∀g:Rows,cV (dP g) 6 [.dn (fS cnt bs f),.int .i64 (y:Int)]=some [.dn (fS cnt bs f),.int .i64 y]:=fun g=>by simp only[ai,aq,aV,aI,Option.map_some]
 (try((repeat(revert hN;revert N;apply Pn.out));refine wk @Nat.zero_add ?_;(repeat(refine Pn.mk ?_;intro N hN))))
 refine .inr (aJ _ _ _ _ _ (fun r σ1 hq=>?_) ((F6 cnt hn bs ok qC f hs y hy).x mixed (hz _)))
 obtain⟨⟨out,rfl,O8⟩,rfl⟩:=hq
 refine hN _ _ ?_
 clear hN N
 (try((repeat(revert hN;revert N;apply Pn.out));refine wk @fS.eq_1 ?_;(repeat(refine Pn.mk ?_;intro N hN))))
 refine aW (fun n env st=>∃k:Nat,n=(cnt)-k/\k<=(cnt)/\env 7=.int .i64 (k:Int)/\(∃(o:Id) (l:List Nat),env 6=.own o 0 l.length/\st.get o=some ⟨true,1,l.map eN⟩/\o.bW<st.next/\l.length<=k)) (cnt) ⟨0,by omega,by omega,sl @fS.eq_1,⟨⟨194002000,n0+1+1+1⟩,[],by(simp only[go_sem, ↓reduceIte,Nat.reduceEqDiff,Nat.reduceAdd,Nat.reduceSub,Nat.reduceLeDiff,reduceCtorEq])<;>rfl,by(simp only[go_sem, ↓reduceIte,Nat.reduceEqDiff,Nat.reduceAdd,Nat.reduceSub,Nat.reduceLeDiff,reduceCtorEq])<;>rfl,by(try dsimp only);omega,by simp⟩⟩ ?_
 rintro n_a env_a st_a ⟨k,rfl,ale,a7,me⟩ dJ
 have a0:=dJ 0 (by kernel_rfl);have a5:=dJ 5 (by kernel_rfl)
 simp only[go_sem, ↓reduceIte,Nat.reduceEqDiff,Nat.reduceAdd,Nat.reduceSub,Nat.reduceLeDiff,reduceCtorEq,fS]at a0 a5
 clear dJ
 obtain⟨o,l,a6,ag,vO,FJ⟩:=me
 have td:=dv vO
 have lF:(l.map eN).length=l.length:=by simp
 by_cases hk:(k:Int)<(cnt:Int)
 ·have cG:∀{e:Env} {gg:Rows} {nx:Nat},(e 7=.int .i64 (IntKind.i64.wrap ((k:Int)+1)))->(∃(o:Id) (l:List Nat),e 6=.own o 0 l.length/\gg o=some ⟨true,1,l.map eN⟩/\o.bW<nx/\l.length<=(k+1))->∃m0,m0<(cnt)-k/\∃k:Nat,m0=(cnt)-k/\k<=(cnt)/\e 7=.int .i64 (k:Int)/\(∃(o:Id) (l:List Nat),e 6=.own o 0 l.length/\gg o=some ⟨true,1,l.map eN⟩/\o.bW<nx/\l.length<=k):=fun x1 x2=>⟨_,by omega,k+1,rfl,by omega,(by rw[x1,aB (by omega)]),x2⟩
  have w5:=dS (f:=out) (show k<cnt by omega)
  rw[bq]at w5
  have e1:l.length+1<=16777216:=by omega
  by_cases h0:0<=out k
  ·(try((repeat(revert hN;revert N;apply Pn.out));refine wk (tw @a7 (tw @a0 (tw @a5 (tw @a6 (tw @ag (tw @td (tw @hk (tw @w5 (tw @h0 (tw @e1 (tw @lF @fS.eq_1))))))))))) ?_;(repeat(refine Pn.mk ?_;intro N hN))))
   exact cG (sd (tw @a7 (tw @a0 (tw @a5 @fS.eq_1)))) (⟨⟨194007003,st_a.next+1+1⟩,l++[k],by rw[List.length_append];simp only[go_sem, ↓reduceIte,Nat.reduceEqDiff,Nat.reduceAdd,Nat.reduceSub,Nat.reduceLeDiff,reduceCtorEq,List.length_cons,List.length_nil],by rw[List.map_append,List.map_cons,List.map_nil];simp only[go_sem, ↓reduceIte,Nat.reduceEqDiff,Nat.reduceAdd,Nat.reduceSub,Nat.reduceLeDiff,reduceCtorEq,eN],by(try dsimp only);omega,by simp;omega⟩)
  ·(try((repeat(revert hN;revert N;apply Pn.out));refine wk (tw @a7 (tw @a0 (tw @a5 (tw @a6 (tw @ag (tw @td (tw @hk (tw @w5 (tw @h0 (tw @lF @fS.eq_1)))))))))) ?_;(repeat(refine Pn.mk ?_;intro N hN))))
   exact cG (sd (tw @a7 (tw @a0 (tw @a5 @fS.eq_1)))) (⟨o,l,sd @a6,sd @ag,by(try dsimp only);omega,by omega⟩)
 ·(try((repeat(revert hN;revert N;apply Pn.out));refine wk (tw @a7 (tw @a0 (tw @a5 (tw @a6 (tw @hk @fS.eq_1))))) ?_;(repeat(refine Pn.mk ?_;intro N hN))))
  have tC:gE st_a.get 6 (.own o 0 l.length)=some (.sl (l.map eN)):=fJ ag rfl fun b=>Om _ 4 b
  exact⟨_,rfl,_,by simp only[go_sem, ↓reduceIte,Nat.reduceEqDiff,Nat.reduceAdd,Nat.reduceSub,Nat.reduceLeDiff,reduceCtorEq,fj];exact tC,l,rfl,by omega⟩
theorem Cu (v1 v2:Int) (l1 l2:List Nat) (h1:l1.length<=1048576) (h2:l2.length<=1048576):
  mE Tryz.prog 195 [.int .i64 v1,.sl (l1.map eN),.int .i64 v2,.sl (l2.map eN)] fun r=>∃b,r=.bool b/\(v1<v2->b=true)/\(v2<v1->b=false):=by
 refine mE.body eI rfl fun hl n0=>?_
 clear hl
 have ret:∀{t:Nat} {env:Env} {σ:ar} {b:Bool} {x:Ex},(x=.ret∨x=.normal)->env t=.bool b->((v1<v2->b=true)/\(v2<v1->b=false))->kR [.tmp t] (fun r0 σ'=>∃r',gE σ'.get 6 r0=some r'/\∃b,r'=.bool b/\(v1<v2->b=true)/\(v2<v1->b=false)) x env σ:=by
  intro t env σ b x hx he hb
  have:∃vs,fA env σ.get [.tmp t]=some vs/\∃r',gE σ.get 6 (fj vs)=some r'/\∃b,r'=.bool b/\(v1<v2->b=true)/\(v2<v1->b=false):=⟨[env t],rfl,.bool b,by rw[he];exact fo _ _ _,b,rfl,hb⟩
  rcases hx with rfl|rfl
  ·exact this
  ·exact this
 have m1:(l1.map eN).length=l1.length:=by simp
 have m2:(l2.map eN).length=l2.length:=by simp
 by_cases hv:v1=v2
 ·have hd:decide (v1=v2)=true:=decide_eq_true hv
  by_cases FJ:(l1.length:Int)=(l2.length:Int)
  ·have oy:decide ((l1.length:Int)=(l2.length:Int))=true:=decide_eq_true FJ
   have Rk:decide (l1.length=l2.length)=true:=decide_eq_true (by omega)
   (try((repeat(revert hN;revert N;apply Pn.out));refine wk (tw @hd (tw @oy (tw @Rk (tw @m1 @m2)))) ?_;(repeat(refine Pn.mk ?_;intro N hN))))
   refine aW (fun n env st=>∃k:Nat,n=(l1.length)-k/\k<=(l1.length)/\env 9=.int .i64 (k:Int)) (l1.length) ⟨0,by omega,by omega,sl @Nat.zero_add⟩ ?_
   rintro n_a env_a st_a ⟨k,rfl,ale,a9⟩ dJ
   have a1:=dJ 1 (by kernel_rfl);have a3:=dJ 3 (by kernel_rfl)
   simp only[go_sem, ↓reduceIte,Nat.reduceEqDiff,Nat.reduceAdd,Nat.reduceSub,Nat.reduceLeDiff,reduceCtorEq]at a1 a3
   clear dJ
   by_cases hk:(k:Int)<(l1.length:Int)
   ·have cG:∀{e:Env},(e 9=.int .i64 (IntKind.i64.wrap ((k:Int)+1)))->∃m0,m0<(l1.length)-k/\∃k:Nat,m0=(l1.length)-k/\k<=(l1.length)/\e 9=.int .i64 (k:Int):=fun x1=>⟨_,by omega,k+1,rfl,by omega,(by rw[x1,aB (by omega)])⟩
    have g1:(l1.map eN)[k]? =some (eN (l1.getD k 0)):=getD_map eN (by omega)
    have g2:(l2.map eN)[k]? =some (eN (l2.getD k 0)):=getD_map eN (by omega)
    rw[eN]at g1 g2
    by_cases he:((l1.getD k 0:Nat):Int)=((l2.getD k 0:Nat):Int)
    ·have Rl:decide (((l1.getD k 0:Nat):Int)=((l2.getD k 0:Nat):Int))=true:=decide_eq_true he
     have UM:decide (l1.getD k 0=l2.getD k 0)=true:=decide_eq_true (by omega)
     (try((repeat(revert hN;revert N;apply Pn.out));refine wk (tw @a9 (tw @a1 (tw @a3 (tw @hk (tw @m1 (tw @g1 (tw @g2 (tw @Rl @UM)))))))) ?_;(repeat(refine Pn.mk ?_;intro N hN))))
     exact cG (sd (tw @a9 (tw @a1 @a3)))
    ·have Rl:decide (((l1.getD k 0:Nat):Int)=((l2.getD k 0:Nat):Int))=false:=decide_eq_false he
     have UM:decide (l1.getD k 0=l2.getD k 0)=false:=decide_eq_false (by omega)
     (try((repeat(revert hN;revert N;apply Pn.out));refine wk (tw @a9 (tw @a1 (tw @a3 (tw @hk (tw @m1 (tw @g1 (tw @g2 (tw @Rl @UM)))))))) ?_;(repeat(refine Pn.mk ?_;intro N hN))))
     exact ret (.inl rfl) (by simp only[go_sem, ↓reduceIte,Nat.reduceEqDiff,Nat.reduceAdd,Nat.reduceSub,Nat.reduceLeDiff,reduceCtorEq];rfl) ⟨fun h=>by omega,fun h=>by omega⟩
   ·(try((repeat(revert hN;revert N;apply Pn.out));refine wk (tw @a9 (tw @a1 (tw @a3 (tw @hk @m1)))) ?_;(repeat(refine Pn.mk ?_;intro N hN))))
    exact ret (b:=false) (.inl rfl) (sd @Nat.zero_add) ⟨fun h=>by omega,fun h=>by omega⟩
  ·have oy:decide ((l1.length:Int)=(l2.length:Int))=false:=decide_eq_false FJ
   have Rk:decide (l1.length=l2.length)=false:=decide_eq_false (by omega)
   (try((repeat(revert hN;revert N;apply Pn.out));refine wk (tw @hd (tw @oy (tw @Rk (tw @m1 @m2)))) ?_;(repeat(refine Pn.mk ?_;intro N hN))))
   exact ret (.inl rfl) (by simp only[go_sem, ↓reduceIte,Nat.reduceEqDiff,Nat.reduceAdd,Nat.reduceSub,Nat.reduceLeDiff,reduceCtorEq];rfl) ⟨fun h=>by omega,fun h=>by omega⟩
 ·have hd:decide (v1=v2)=false:=decide_eq_false hv
  (try((repeat(revert hN;revert N;apply Pn.out));refine wk @hd ?_;(repeat(refine Pn.mk ?_;intro N hN))))
  exact ret (b:=decide (v1<v2)) (.inl rfl) (sd @Nat.zero_add) ⟨fun h=>decide_eq_true h,fun h=>decide_eq_false (by omega)⟩
def v8 (bs:List PB) (cnt:Nat) (js:Int) (k:Nat):Prop:=(k=1/\js= -1)∨(0<=js/\(∀z,1<=z->z<k->∀S:Nat->Bool,S 0=true->S z=false->js<=jk S bs)/\∃S:Nat->Bool,S 0=true/\(∃z,z<cnt/\S z=false)/\js=jk S bs)
theorem ke.nn {bs:List PB} {val:Int} {S:Nat->Bool} (dK:∀e,e<bs.length->0<=(cE bs e).s/\(cE bs e).s<=4) (h:val=jk S bs):0<=val:=by
 rw[h,wD]
 have:=sU (f:=fun _=>0) (g:=fun i=>if S (cE bs i).a=S (cE bs i).b then 0 else(cE bs i).s) (n:=bs.length) fun i hi=>by
  have:=dK i hi
  split<;>omega
 rw[j7 fun _ _=>rfl]at this
 exact this
theorem v8.done {bs:List PB} {cnt:Nat} {js:Int} (hc:2<=cnt) (h:v8 bs cnt js cnt) (t:Int):t<=js↔kV cnt bs t:=by
 rcases h with⟨h,_⟩|⟨_,h1,S,h2,⟨z,hz,lH⟩,h3⟩
 ·omega
 ·constructor
  ·intro ht S h0 ⟨y,hy,hy2⟩
   have:y≠0:=by rintro rfl;rw[h0]at hy2;cases hy2
   have:=h1 y (by omega) hy S h0 hy2
   omega
  ·intro hH
   rw[h3];exact hH S h2 ⟨z,hz,lH⟩
theorem Ar (cnt:Nat) (h2:2<=cnt) (hn:cnt<=1048576) (bs:List PB) (ok:nS cnt bs) (qC:bs.length<=1048576) (dK:∀e,e<bs.length->0<=(cE bs e).s/\(cE bs e).s<=4):
  uf Tryz.prog 126 [.int .i64 cnt,.sl (bs.map az)] fun r=>∃js p,r=.gO [.int .i64 js,p]/\∀t:Int,t<=js↔kV cnt bs t:=by
 refine uf.body eI rfl fun hl σ=>?_
 clear hl
 (try((repeat(revert hN;revert N;apply Pn.out));refine wk @Nat.zero_add ?_;(repeat(refine Pn.mk ?_;intro N hN))))
 have z0:∀(g:Rows) (id:Id),g id=some ⟨true,1,[]⟩->V.fz (dP g) 6 (.own id 0 0)=some (.sl (([]:List Nat).map eN))/\V.fz g 5 (.own id 0 0)=some (.sl (([]:List Nat).map eN)):=fun g id h=>by
  have h':dP g id=some ⟨true,1,[]⟩:=by simp[dP,h]
  constructor
  ·rw[gV];simp only[h',if_true];rw[if_pos (by simp)];simp[pj]
  ·rw[gV];simp only[h,if_true];rw[if_pos (by simp)];simp[pj]
 refine aW (fun m env st=>∃(k:Nat) (js:Int) (l:List Nat) (p:AV),m=cnt-k/\1<=k/\k<=cnt/\env 8=.int .i64 (k:Int)/\env 6=.int .i64 js/\env 7=p/\V.fz (dP st.get) 6 p=some (.sl (l.map eN))/\V.fz st.get 5 p=some (.sl (l.map eN))/\l.length<=cnt/\v8 bs cnt js k) (cnt-1) ⟨1,-1,[],.own ⟨126002000,σ.next+1+1⟩ 0 0,rfl,by omega,by omega,by(simp only[go_sem, ↓reduceIte,Nat.reduceEqDiff,Nat.reduceAdd,Nat.reduceSub,Nat.reduceLeDiff,reduceCtorEq])<;>rfl,by(simp only[go_sem, ↓reduceIte,Nat.reduceEqDiff,Nat.reduceAdd,Nat.reduceSub,Nat.reduceLeDiff,reduceCtorEq])<;>rfl,by(simp only[go_sem, ↓reduceIte,Nat.reduceEqDiff,Nat.reduceAdd,Nat.reduceSub,Nat.reduceLeDiff,reduceCtorEq])<;>rfl,(z0 _ _ (sd @Nat.zero_add)).1,(z0 _ _ (sd @Nat.zero_add)).2,by simp,.inl ⟨rfl,rfl⟩⟩ ?_
 rintro m env_b st_b ⟨k,js,l,p,rfl,xY,wY,b8,b6,b7,Bo,lH,hl,hB⟩ gu
 have b0:=gu 0 (by kernel_rfl)
 have b1:=gu 1 (by kernel_rfl)
 simp only[go_sem, ↓reduceIte,Nat.reduceEqDiff,Nat.reduceAdd,Nat.reduceSub,Nat.reduceLeDiff,reduceCtorEq]at b0 b1
 clear gu z0
 by_cases hk:(k:Int)<(cnt:Int)
 ·have fE:k<cnt:=by omega
  have hFl:=G6 cnt hn bs ok qC dK 0 k (by omega) fE (by omega)
  rw[show(((0:Nat):Int))=0 from rfl]at hFl
  (try((repeat(revert hN;revert N;apply Pn.out));refine wk (tw @b0 (tw @b1 (tw @b6 (tw @b7 (tw @b8 @hk))))) ?_;(repeat(refine Pn.mk ?_;intro N hN))))
  refine .inr (aJ _ _ _ _ _ (fun r σ1 hq=>?_) (hFl.x mixed))
  obtain⟨⟨f,val,rfl,hf,S,OG,OH,SX⟩,rfl⟩:=hq
  refine hN _ _ ?_
  clear hN N
  have L8:=xJ dK hf.le
  have so:=ke.nn (val:=val) dK SX
  (try((repeat(revert hN;revert N;apply Pn.out));refine wk (tw @b0 (tw @b1 (tw @b6 (tw @b7 @b8)))) ?_;(repeat(refine Pn.mk ?_;intro N hN))))
  refine .inr (aJ _ _ _ _ _ (fun r σ1 hq=>?_) ((G7 cnt hn bs ok qC f L8 k fE).x mixed (by simp only[ai,aq,aV,aI,Option.map_some])))
  obtain⟨⟨l',rfl,Lf⟩,rfl⟩:=hq
  refine hN _ _ ?_
  clear hN N
  have hw:IntKind.i64.wrap ((k:Int)+1)=((k+1:Nat):Int):=aB (by omega)
  have Sq:(∀z,1<=z->z<k->∀S:Nat->Bool,S 0=true->S z=false->val<=jk S bs)->v8 bs cnt val (k+1):=fun h=>.inr ⟨so,fun z Bo lH S' h0 h1=>by
   by_cases uB:z=k
   ·subst uB;exact hf.bound h0 h1
   ·exact h z Bo (by omega) S' h0 h1,S,OG,⟨k,fE,OH⟩,SX⟩
  by_cases ki:js<0
  ·have B6:k=1:=by
    rcases hB with⟨h,_⟩|⟨h,_⟩
    ·exact h
    ·omega
   (try((repeat(revert hN;revert N;apply Pn.out));refine wk (tw @b0 (tw @b1 (tw @b6 (tw @b7 (tw @b8 (tw @ki @hw)))))) ?_;(repeat(refine Pn.mk ?_;intro N hN))))
   refine⟨_,?_,k+1,val,l',.sl (l'.map eN),rfl,by omega,by omega,sd (tw @b8 @hw),sd @Nat.zero_add,sd @Nat.zero_add,cz _ _ _,cz _ _ _,Lf,Sq fun z h1 h2=>by omega⟩
   omega
  ·have B6:(∀z,1<=z->z<k->∀S:Nat->Bool,S 0=true->S z=false->js<=jk S bs)/\∃S:Nat->Bool,S 0=true/\(∃z,z<cnt/\S z=false)/\js=jk S bs:=by
    rcases hB with⟨_,h⟩|⟨_,h⟩
    ·omega
    ·exact h
   (try((repeat(revert hN;revert N;apply Pn.out));refine wk (tw @b0 (tw @b1 (tw @b6 (tw @b7 (tw @b8 (tw @ki @hw)))))) ?_;(repeat(refine Pn.mk ?_;intro N hN))))
   refine .inr (aJ _ _ _ _ _ (fun r σ1 hq=>?_) ((Cu val js l' l (by omega) (by omega)).x mixed (by simp only[ai,aq,cz,aI,Bo,Option.map_some])))
   obtain⟨⟨b,rfl,K5,GJ⟩,rfl⟩:=hq
   refine hN _ _ ?_
   clear hN N
   cases b with
   |true=>
    have Vy:val<=js:=by
     rcases Int.lt_or_le js val with h|h
     ·exact absurd (GJ h) (by simp)
     ·exact h
    (try((repeat(revert hN;revert N;apply Pn.out));refine wk (tw @b0 (tw @b1 (tw @b6 (tw @b7 (tw @b8 @hw))))) ?_;(repeat(refine Pn.mk ?_;intro N hN))))
    refine⟨_,?_,k+1,val,l',.sl (l'.map eN),rfl,by omega,by omega,sd (tw @b8 @hw),sd @Nat.zero_add,sd @Nat.zero_add,cz _ _ _,cz _ _ _,Lf,Sq fun z h1 h2 S' h3 h4=>by have:=B6.1 z h1 h2 S' h3 h4;omega⟩
    omega
   |false=>
    have Vy:js<=val:=by
     rcases Int.lt_or_le val js with h|h
     ·exact absurd (K5 h) (by simp)
     ·exact h
    (try((repeat(revert hN;revert N;apply Pn.out));refine wk (tw @b0 (tw @b1 (tw @b6 (tw @b7 (tw @b8 @hw))))) ?_;(repeat(refine Pn.mk ?_;intro N hN))))
    refine⟨_,?_,k+1,js,l,p,rfl,by omega,by omega,sd (tw @b8 @hw),sd @b6,sd @b7,Bo,lH,hl,.inr ⟨by omega,fun z h1 h2 S' h3 h4=>?_,B6.2⟩⟩
    ·omega
    ·by_cases uB:z=k
     ·subst uB;have:=hf.bound h3 h4;omega
     ·exact B6.1 z h1 (by omega) S' h3 h4
 ·have mC:k=cnt:=by omega
  (try((repeat(revert hN;revert N;apply Pn.out));refine wk (tw @b0 (tw @b1 (tw @b6 (tw @b7 (tw @b8 @hk))))) ?_;(repeat(refine Pn.mk ?_;intro N hN))))
  exact⟨[.int .i64 js,p],sd @Nat.zero_add,.gO [.int .i64 js,.sl (l.map eN)],by simp only[fj,bH,ai,aq,lH,aI,Option.map_some],js,_,rfl,v8.done h2 (mC▸hB)⟩
theorem MS {s:aw} (hS:iF s) (a d:Int):tZ s (dy (dz s a) d)<=4:=by
 have hF:=hS.form
 have fB:dy (dz s a) d=0∨(0<=dy (dz s a) d/\dy (dz s a) d<=s.ay.length):=by
  unfold dy dz
  rw[List.getD_eq_getElem?_getD,List.getD_eq_getElem?_getD]
  rcases ht:s.ae[a.toNat]? with _|t
  ·exact .inl (by simp[AE])
  ·have RP:=List.mem_of_getElem? ht
   simp only[Option.getD_some]
   rcases hg:t.bx[d.toNat]? with _|g
   ·exact .inl rfl
   ·exact .inr (hF.wS t RP g (List.mem_of_getElem? hg))
 unfold tZ
 by_cases h0:dy (dz s a) d=0
 ·rw[if_pos h0];omega
 ·rw[if_neg h0]
  have hk:(dy (dz s a) d-1).toNat<s.ay.length:=by omega
  have:=ez (hS.SM _ hk).2.1
  unfold qo at this
  unfold qY
  omega
theorem BG {s:aw} (hS:iF s) (a d b:Int):ib s a d b<=4:=by
 unfold ib
 split
 ·exact MS hS a d
 ·omega
theorem Gp {s:aw} {l:List ad} (hS:iF s) {i:Nat} (hi:i<l.length) {d:Int}:∀b∈nw s l i d,b.a<l.length/\b.b<l.length/\0<=b.s/\b.s<=4:=by
 intro b hb
 unfold nw at hb
 split at hb
 ·rename_i h
  simp only[List.mem_singleton]at hb
  subst hb
  exact⟨hi,(kO h.1).1,by simp only;omega,BG hS ..⟩
 ·cases hb
theorem yP {s:aw} {l:List ad} (hS:iF s):∀b∈cP s l,b.a<l.length/\b.b<l.length/\0<=b.s/\b.s<=4:=by
 intro b hb
 simp only[cP,gT,gj,List.mem_flatMap,List.mem_range]at hb
 obtain⟨i,hi,j,_,hb⟩:=hb
 exact Gp hS hi b hb
theorem qK {s:aw} {l:List ad} (hF:jK l):(cP s l).length<=1000:=by
 have:=um s l l.length
 have:=hF.oJ
 rw[cP];omega
theorem Ir {bs:List PB} {e:Nat} (h:e<bs.length):cE bs e∈bs:=by
 rw[cE,List.getD_eq_getElem?_getD,List.getElem?_eq_getElem h];exact List.getElem_mem h
theorem GR {n:Nat} {bs:List PB} {t:Int} (h:n<2):kV n bs t:=fun S h0 ⟨y,hy,hf⟩=>by
 have:y=0:=by omega
 subst this;rw[h0]at hf;cases hf
def iG (s:aw) (l:List ad) (t:Int):Nat:=(leads l.length (eE (aM t (cP s l)))).length
noncomputable def oh (s:aw) (l:List ad) (t:Int):Bool:=@decide (pV l.length (cP s l) t) (Classical.propDecidable _)
def tt (s:aw) (l:List ad) (t:Int):Int:=if 64<iG s l t then 4 else 0
theorem nf {s:aw} {l:List ad} {t:Int} {p:Prop} [Decidable p] (h:p↔pV l.length (cP s l) t):decide p=oh s l t:=by
 letI:=Classical.propDecidable (pV l.length (cP s l) t)
 unfold oh
 by_cases hp:p
 ·rw[decide_eq_true hp];exact(decide_eq_true (h.1 hp)).symm
 ·rw[decide_eq_false hp];exact(decide_eq_false fun k=>hp (h.2 k)).symm
theorem Cw (s:aw) (l:List ad) (t:Int) (hS:iF s) (hA:jc s l):aj Tryz.prog 168 [.dn (ab s),.dn [.sl (l.map aa)],.int .i64 t] (.gO [.bool (oh s l t),.int .i64 (tt s l t)]):=by
 refine aj.body eI rfl fun hl n0=>?_
 clear hl
 have hb:=yP (l:=l) hS
 have qC:=qK (s:=s) hA.1
 have Jc:=hA.1.oJ
 have xW:=Ek s l hS.form hA
 have Li:=Cv l.length (by omega) (cP s l) (fun b h=>⟨(hb b h).1,(hb b h).2.1⟩) (by omega) t
 have hL:=uE (aM t (cP s l))
 have fB:=EP hL (fun b h=>⟨(hb b h).1,(hb b h).2.1⟩)
 have hlen:=(nH (eE (aM t (cP s l))) (cP s l)).2
 have nz:=jY l.length (eE (aM t (cP s l)))
 have fV:(l.map aa).length=l.length:=by simp
 by_cases uY:(64:Int)<(iG s l t:Int)
 ·have u7:64<iG s l t:=by omega
  have hd:oh s l t=false:=(nf (p:=False) ⟨False.elim,fun h=>by have:=h.1;unfold iG at u7;omega⟩).symm.trans (by simp)
  rw[iG]at uY
  (repeat(first|((repeat(revert hN;revert N;apply Pn.out));refine wk (tw @ab.eq_1 (tw @uY @fV)) ?_;(repeat(refine Pn.mk ?_;intro N hN)))|((try apply Or.inl);refine⟨_,aj.x (xW) (sd (tw @ab.eq_1 (tw @uY @fV))),?_⟩;refine hN _ _ ?_;clear hN N)|((try apply Or.inl);refine⟨_,aj.x (Li) (sd (tw @ab.eq_1 (tw @uY @fV))),?_⟩;refine hN _ _ ?_;clear hN N)))
  exact jC (.inl rfl) (r1:=.bool false) (r2:=.int .i64 4) (sd @Nat.zero_add) (sd @Nat.zero_add) (by rw[hd,tt,if_pos u7];simp only[eY,bD,cF,fo,eQ,Option.map_some])
 have u7:¬64<iG s l t:=by omega
 have hf:tt s l t=0:=by rw[tt,if_neg u7]
 by_cases h2:(iG s l t:Int)<2
 ·have hd:oh s l t=true:=(nf (p:=True) ⟨fun _=>⟨by unfold iG at u7;omega,GR (by unfold iG at h2;omega)⟩,fun _=>trivial⟩).symm.trans (by simp)
  rw[iG]at uY h2
  (repeat(first|((repeat(revert hN;revert N;apply Pn.out));refine wk (tw @ab.eq_1 (tw @uY (tw @h2 @fV))) ?_;(repeat(refine Pn.mk ?_;intro N hN)))|((try apply Or.inl);refine⟨_,aj.x (xW) (sd (tw @ab.eq_1 (tw @uY (tw @h2 @fV)))),?_⟩;refine hN _ _ ?_;clear hN N)|((try apply Or.inl);refine⟨_,aj.x (Li) (sd (tw @ab.eq_1 (tw @uY (tw @h2 @fV)))),?_⟩;refine hN _ _ ?_;clear hN N)))
  exact jC (.inl rfl) (r1:=.bool true) (r2:=.int .i64 0) (sd @Nat.zero_add) (sd @Nat.zero_add) (by rw[hd,hf];simp only[eY,bD,cF,fo,eQ,Option.map_some])
 have Pe:=Ar (iG s l t) (by omega) (by unfold iG;omega) (e9 (eE (aM t (cP s l))) (cP s l)) (fun e he=>by have:=fB _ (Ir he);exact⟨this.1,this.2.1,this.2.2.1⟩) (by omega) (fun e he=>by
  obtain⟨_,_,_,c,hc,dx⟩:=fB _ (Ir he)
  rw[dx];have:=hb c hc;omega)
 rw[iG]at uY h2 Pe
 (repeat(first|((repeat(revert hN;revert N;apply Pn.out));refine wk (tw @ab.eq_1 (tw @uY (tw @h2 @fV))) ?_;(repeat(refine Pn.mk ?_;intro N hN)))|((try apply Or.inl);refine⟨_,aj.x (xW) (sd (tw @ab.eq_1 (tw @uY (tw @h2 @fV)))),?_⟩;refine hN _ _ ?_;clear hN N)|((try apply Or.inl);refine⟨_,aj.x (Li) (sd (tw @ab.eq_1 (tw @uY (tw @h2 @fV)))),?_⟩;refine hN _ _ ?_;clear hN N)))
 refine .inr (aJ _ _ _ _ _ (fun r σ1 hq=>?_) (Pe.x mixed))
 obtain⟨⟨js,p,rfl,Rf⟩,rfl⟩:=hq
 refine hN _ _ ?_
 clear hN N
 (try((repeat(revert hN;revert N;apply Pn.out));refine wk @Nat.zero_add ?_;(repeat(refine Pn.mk ?_;intro N hN))))
 exact jC (.inl rfl) (r1:=.bool (decide (t<=js))) (r2:=.int .i64 0) (sd @Nat.zero_add) (sd @Nat.zero_add) (by
  rw[hf,nf (s:=s) (l:=l) (t:=t) (p:=t<=js) ((Rf t).trans (D8.trans ⟨fun h=>⟨by unfold iG at u7;omega,h⟩,fun h=>h.2⟩))]
  simp only[eY,bD,cF,fo,eQ,Option.map_some])
theorem tM (t:Int):aj Tryz.prog 123 [.int .i64 t] (.bool (jf t 1 16)):=by
 refine aj.body eI rfl fun hl n0=>?_
 clear hl
 have h:=l6 t 1 16
 (repeat(first|((repeat(revert hN;revert N;apply Pn.out));refine wk @Nat.zero_add ?_;(repeat(refine Pn.mk ?_;intro N hN)))|((try apply Or.inl);refine⟨_,aj.x (h) (sd @Nat.zero_add),?_⟩;refine hN _ _ ?_;clear hN N)))
 exact aU (b:=jf t 1 16) (.inl rfl) (sd @Nat.zero_add) rfl
structure Bv (s:ax):Prop where
 set:iF s.aD
 rJ:jc s.aD s.aX.ae
 some:1<=s.aX.ae.length
 HH:jf s.aA 1 16=true
 holds:pV s.aX.ae.length (cP s.aD s.aX.ae) s.aA
noncomputable def lv (s:ax):Bool:=@decide (Bv s) (Classical.propDecidable _)
theorem ko {s:ax}:lv s=true↔Bv s:=by simp[lv]
theorem kd {s:ax} (h:¬Bv s):false=lv s:=by simp[lv,h]
theorem C0 {s:ax} (h:Bv s):true=lv s:=by simp[lv,h]
theorem qi {s:aw} {l:List ad} {t:Int}:oh s l t=true↔pV l.length (cP s l) t:=by simp[oh]
theorem Mj (s:ax) (hn:gF s.aD) (hg:s.aD.ay.length<=1048576) (ht:s.aD.ae.length<=1048576):aj Tryz.prog 94 [.dn (au s)] (.bool (lv s)):=by
 refine aj.body eI rfl fun hl n0=>?_
 clear hl
 have h1:=(Mi s.aD hn hg ht).cut mixed (.ptr _ [.sl (s.aX.ae.map aa),.int .i64 s.aA] .nil)
 by_cases hS:iF s.aD
 ·rw[mW.2 hS]at h1
  have h2:=(Ap s.aD s.aX.ae).cut mixed (.ptr _ [.sl (s.aX.ae.map aa),.int .i64 s.aA] (.ptr _ [.int .i64 s.aA] .nil))
  by_cases hA:jc s.aD s.aX.ae
  ·rw[gi.2 hA]at h2
   by_cases h0:(s.aX.ae.length:Int)=0
   ·have hd:decide ((s.aX.ae.length:Int)=0)=true:=decide_eq_true h0
    have lJ:false=lv s:=kd fun h=>by have:=h.some;omega
    generalize fV:(s.aX.ae.map aa).length=len at *
    (repeat(first|((repeat(revert hN;revert N;apply Pn.out));refine wk (tw @au.eq_1 (tw @ab.eq_1 @hd)) ?_;(repeat(refine Pn.mk ?_;intro N hN)))|((try apply Or.inl);refine⟨_,aj.x (h1) (sd (tw @au.eq_1 (tw @ab.eq_1 @hd))),?_⟩;refine hN _ _ ?_;clear hN N)|((try apply Or.inl);refine⟨_,aj.x (h2) (sd (tw @au.eq_1 (tw @ab.eq_1 @hd))),?_⟩;refine hN _ _ ?_;clear hN N)))
    exact aU (b:=false) (.inl rfl) (sd @Nat.zero_add) lJ
   ·have hd:decide ((s.aX.ae.length:Int)=0)=false:=decide_eq_false h0
    have h3:=tM s.aA
    cases hT:jf s.aA 1 16
    ·rw[hT]at h3
     (repeat(first|((repeat(revert hN;revert N;apply Pn.out));refine wk (tw @au.eq_1 (tw @ab.eq_1 @hd)) ?_;(repeat(refine Pn.mk ?_;intro N hN)))|((try apply Or.inl);refine⟨_,aj.x (h1) (sd (tw @au.eq_1 (tw @ab.eq_1 @hd))),?_⟩;refine hN _ _ ?_;clear hN N)|((try apply Or.inl);refine⟨_,aj.x (h2) (sd (tw @au.eq_1 (tw @ab.eq_1 @hd))),?_⟩;refine hN _ _ ?_;clear hN N)|((try apply Or.inl);refine⟨_,aj.x (h3) (sd (tw @au.eq_1 (tw @ab.eq_1 @hd))),?_⟩;refine hN _ _ ?_;clear hN N)))
     exact aU (b:=false) (.inl rfl) (sd @Nat.zero_add) (kd fun h=>by have:=h.HH;rw[hT]at this;cases this)
    ·rw[hT]at h3
     have h4:=(Cw s.aD s.aX.ae s.aA hS hA).cut mixed (.ptr _ [.sl (s.aX.ae.map aa),.int .i64 s.aA] (.ptr _ [.int .i64 s.aA] (.same _ .nil)))
     cases hB:oh s.aD s.aX.ae s.aA
     ·rw[hB]at h4
      (repeat(first|((repeat(revert hN;revert N;apply Pn.out));refine wk (tw @au.eq_1 (tw @ab.eq_1 @hd)) ?_;(repeat(refine Pn.mk ?_;intro N hN)))|((try apply Or.inl);refine⟨_,aj.x (h1) (sd (tw @au.eq_1 (tw @ab.eq_1 @hd))),?_⟩;refine hN _ _ ?_;clear hN N)|((try apply Or.inl);refine⟨_,aj.x (h2) (sd (tw @au.eq_1 (tw @ab.eq_1 @hd))),?_⟩;refine hN _ _ ?_;clear hN N)|((try apply Or.inl);refine⟨_,aj.x (h3) (sd (tw @au.eq_1 (tw @ab.eq_1 @hd))),?_⟩;refine hN _ _ ?_;clear hN N)|((try apply Or.inl);refine⟨_,aj.x (h4) (sd (tw @au.eq_1 (tw @ab.eq_1 @hd))),?_⟩;refine hN _ _ ?_;clear hN N)))
      exact aU (b:=false) (.inl rfl) (sd @Nat.zero_add) (kd fun h=>by have:=qi.2 h.holds;rw[hB]at this;cases this)
     ·have hP:=qi.1 hB
      have hf:tt s.aD s.aX.ae s.aA=0:=by
       have:=hP.1
       rw[tt,if_neg (by unfold iG;omega)]
      rw[hB,hf]at h4
      (repeat(first|((repeat(revert hN;revert N;apply Pn.out));refine wk (tw @au.eq_1 (tw @ab.eq_1 @hd)) ?_;(repeat(refine Pn.mk ?_;intro N hN)))|((try apply Or.inl);refine⟨_,aj.x (h1) (sd (tw @au.eq_1 (tw @ab.eq_1 @hd))),?_⟩;refine hN _ _ ?_;clear hN N)|((try apply Or.inl);refine⟨_,aj.x (h2) (sd (tw @au.eq_1 (tw @ab.eq_1 @hd))),?_⟩;refine hN _ _ ?_;clear hN N)|((try apply Or.inl);refine⟨_,aj.x (h3) (sd (tw @au.eq_1 (tw @ab.eq_1 @hd))),?_⟩;refine hN _ _ ?_;clear hN N)|((try apply Or.inl);refine⟨_,aj.x (h4) (sd (tw @au.eq_1 (tw @ab.eq_1 @hd))),?_⟩;refine hN _ _ ?_;clear hN N)))
      exact aU (b:=true) (.inl rfl) (sd @Nat.zero_add) (C0 ⟨hS,hA,by omega,hT,hP⟩)
  ·have hb:kM s.aD s.aX.ae=false:=Bool.eq_false_iff.2 fun h=>hA (gi.1 h)
   rw[hb]at h2
   (repeat(first|((repeat(revert hN;revert N;apply Pn.out));refine wk (tw @au.eq_1 @ab.eq_1) ?_;(repeat(refine Pn.mk ?_;intro N hN)))|((try apply Or.inl);refine⟨_,aj.x (h1) (sd (tw @au.eq_1 @ab.eq_1)),?_⟩;refine hN _ _ ?_;clear hN N)|((try apply Or.inl);refine⟨_,aj.x (h2) (sd (tw @au.eq_1 @ab.eq_1)),?_⟩;refine hN _ _ ?_;clear hN N)))
   exact aU (b:=false) (.inl rfl) (sd @Nat.zero_add) (kd fun h=>hA h.rJ)
 ·have hb:rK s.aD=false:=Bool.eq_false_iff.2 fun h=>hS (mW.1 h)
  rw[hb]at h1
  (repeat(first|((repeat(revert hN;revert N;apply Pn.out));refine wk (tw @au.eq_1 @ab.eq_1) ?_;(repeat(refine Pn.mk ?_;intro N hN)))|((try apply Or.inl);refine⟨_,aj.x (h1) (sd (tw @au.eq_1 @ab.eq_1)),?_⟩;refine hN _ _ ?_;clear hN N)))
  exact aU (b:=false) (.inl rfl) (sd @Nat.zero_add) (kd fun h=>hS h.set)
theorem MR {s:aw} (hS:iF s) (a d:Int):0<=tZ s (dy (dz s a) d):=by
 have hF:=hS.form
 have fB:dy (dz s a) d=0∨(0<=dy (dz s a) d/\dy (dz s a) d<=s.ay.length):=by
  unfold dy dz
  rw[List.getD_eq_getElem?_getD,List.getD_eq_getElem?_getD]
  rcases ht:s.ae[a.toNat]? with _|t
  ·exact .inl (by simp[AE])
  ·have RP:=List.mem_of_getElem? ht
   simp only[Option.getD_some]
   rcases hg:t.bx[d.toNat]? with _|g
   ·exact .inl rfl
   ·exact .inr (hF.wS t RP g (List.mem_of_getElem? hg))
 unfold tZ
 by_cases h0:dy (dz s a) d=0
 ·rw[if_pos h0];omega
 ·rw[if_neg h0]
  have hk:(dy (dz s a) d-1).toNat<s.ay.length:=by omega
  have:=ez (hS.SM _ hk).2.1
  unfold qo at this
  unfold qY
  omega
theorem wo {s:aw} (hS:iF s) (a d b:Int):0<=ib s a d b/\ib s a d b<=4:=by
 refine⟨?_,BG hS a d b⟩
 unfold ib
 split
 ·exact MR hS a d
 ·omega
def dZ (s:aw) (f:aH->Int) (p:aH) (t:Int):Nat->Int
 |0=>0
 |d+1=>dZ s f p t d+if 0<=f (dB p d)then ib s t d (f (dB p d))else 0
def uk (s:aw) (f:aH->Int) (p:aH) (t:Int):Int:=dZ s f p t 4
theorem lS {s:aw} (hS:iF s) (f:aH->Int) (p:aH) (t:Int):∀d,0<=dZ s f p t d/\dZ s f p t d<=4*(d:Int)
 |0=>⟨Int.le_refl _,Int.le_refl _⟩
 |d+1=>by
  have:=lS hS f p t d
  have hb:=wo hS t d (f (dB p d))
  simp only[dZ]
  split<;>omega
theorem BC {s:aw} {l:List ad} (hA:jc s l) {p:aH} (h:0<=gw l p):eO s (gw l p)=true:=by
 unfold gw at h ⊢
 split at h
 ·rename_i h0
  rw[if_pos h0]
  exact hA.2 _ (gM (kO h0).1)
 ·omega
theorem Aq (s:aw) (hS:iF s) (l:List ad) (hA:jc s l) (p:aH) (hx:iB p.fb) (hy:iB p.eV) (t:Int) (ht:eO s t=true):aj Tryz.prog 242 [.dn (ab s),.dn [.sl (l.map aa)],.agg (ah p),.int .i64 t] (.int .i64 (uk s (gw l) p t)):=by
 refine aj.body eI rfl fun hl n0=>?_
 clear hl
 have hR:=hA.1.Dm
 have GH:l.length<=1048576:=by have:=hA.1.oJ;omega
 (try((repeat(revert hN;revert N;apply Pn.out));refine wk @ah.eq_1 ?_;(repeat(refine Pn.mk ?_;intro N hN))))
 refine aW (fun n env st=>∃k:Nat,n=(4)-k/\k<=(4)/\env 10=.int .i64 (k:Int)/\env 9=.int .i64 (dZ s (gw l) p t k)/\st.get ⟨242000000,n0⟩=some ⟨true,2,[ah p]⟩) (4) ⟨0,by omega,by omega,sl @ah.eq_1,sl @ah.eq_1,sl @ah.eq_1⟩ ?_
 rintro n_a env_a st_a ⟨k,rfl,ale,yK,a9,ag0⟩ dJ
 have a0:=dJ 0 (by kernel_rfl);have a1:=dJ 1 (by kernel_rfl);have a3:=dJ 3 (by kernel_rfl);have a6:=dJ 6 (by kernel_rfl)
 simp only[go_sem, ↓reduceIte,Nat.reduceEqDiff,Nat.reduceAdd,Nat.reduceSub,Nat.reduceLeDiff,reduceCtorEq,ah]at a0 a1 a3 a6
 clear dJ
 by_cases hk:(k:Int)<4
 ·have cG:∀{e:Env} {gg:Rows},(e 10=.int .i64 (IntKind.i64.wrap ((k:Int)+1)))->(e 9=.int .i64 (dZ s (gw l) p t (k+1)))->(gg ⟨242000000,n0⟩=some ⟨true,2,[ah p]⟩)->∃m0,m0<(4)-k/\∃k:Nat,m0=(4)-k/\k<=(4)/\e 10=.int .i64 (k:Int)/\e 9=.int .i64 (dZ s (gw l) p t k)/\gg ⟨242000000,n0⟩=some ⟨true,2,[ah p]⟩:=fun x1 x2 x3=>⟨_,by omega,k+1,rfl,by omega,(by rw[x1,aB (by omega)]),x2,x3⟩
  have dK:=zl p k (lf (by omega)) hx hy
  have FF:=FV l (dB p k) hR GH
  have fB:=lS hS (gw l) p t k
  by_cases h0:0<=gw l (dB p k)
  ·have xW:=zm s hS.form t k (gw l (dB p k)) ht (BC hA h0) (lf (by omega))
   have fU:=wo hS t k (gw l (dB p k))
   have hw:IntKind.i64.wrap (dZ s (gw l) p t k+ib s t k (gw l (dB p k)))=dZ s (gw l) p t (k+1):=by
    rw[bz (by omega),dZ,if_pos h0]
   (repeat(first|((repeat(revert hN;revert N;apply Pn.out));refine wk (tw @yK (tw @a9 (tw @ag0 (tw @a0 (tw @a1 (tw @a3 (tw @a6 (tw @hk (tw @h0 @ah.eq_1))))))))) ?_;(repeat(refine Pn.mk ?_;intro N hN)))|((try apply Or.inl);refine⟨_,aj.x (dK) (sd (tw @yK (tw @a9 (tw @ag0 (tw @a0 (tw @a1 (tw @a3 (tw @a6 (tw @hk (tw @h0 @ah.eq_1)))))))))),?_⟩;refine hN _ _ ?_;clear hN N)|((try apply Or.inl);refine⟨_,aj.x (FF) (sd (tw @yK (tw @a9 (tw @ag0 (tw @a0 (tw @a1 (tw @a3 (tw @a6 (tw @hk (tw @h0 @ah.eq_1)))))))))),?_⟩;refine hN _ _ ?_;clear hN N)|((try apply Or.inl);refine⟨_,aj.x (xW) (sd (tw @yK (tw @a9 (tw @ag0 (tw @a0 (tw @a1 (tw @a3 (tw @a6 (tw @hk (tw @h0 @ah.eq_1)))))))))),?_⟩;refine hN _ _ ?_;clear hN N)))
   refine cG ?_ ?_ ?_
   all_goals simp only[go_sem, ↓reduceIte,Nat.reduceEqDiff,Nat.reduceAdd,Nat.reduceSub,Nat.reduceLeDiff,reduceCtorEq,yK,a9,ag0,a0,a1,a3,a6,hw,ah]
  ·have hw:dZ s (gw l) p t (k+1)=dZ s (gw l) p t k:=by rw[dZ,if_neg h0,Int.add_zero]
   (repeat(first|((repeat(revert hN;revert N;apply Pn.out));refine wk (tw @yK (tw @a9 (tw @ag0 (tw @a0 (tw @a1 (tw @a3 (tw @a6 (tw @hk (tw @h0 @ah.eq_1))))))))) ?_;(repeat(refine Pn.mk ?_;intro N hN)))|((try apply Or.inl);refine⟨_,aj.x (dK) (sd (tw @yK (tw @a9 (tw @ag0 (tw @a0 (tw @a1 (tw @a3 (tw @a6 (tw @hk (tw @h0 @ah.eq_1)))))))))),?_⟩;refine hN _ _ ?_;clear hN N)|((try apply Or.inl);refine⟨_,aj.x (FF) (sd (tw @yK (tw @a9 (tw @ag0 (tw @a0 (tw @a1 (tw @a3 (tw @a6 (tw @hk (tw @h0 @ah.eq_1)))))))))),?_⟩;refine hN _ _ ?_;clear hN N)))
   refine cG ?_ ?_ ?_
   all_goals simp only[go_sem, ↓reduceIte,Nat.reduceEqDiff,Nat.reduceAdd,Nat.reduceSub,Nat.reduceLeDiff,reduceCtorEq,yK,a9,ag0,a0,a1,a3,a6,hw,ah]
 ·(try((repeat(revert hN;revert N;apply Pn.out));refine wk (tw @yK (tw @a9 (tw @ag0 (tw @a0 (tw @a1 (tw @a3 (tw @a6 @hk))))))) ?_;(repeat(refine Pn.mk ?_;intro N hN))))
  exact cr (b:=dZ s (gw l) p t k) (.inl rfl) (sd (tw @yK (tw @a9 (tw @ag0 (tw @a0 (tw @a1 (tw @a3 @a6))))))) (by rw[show k=4 by omega];rfl)
def fa (la lb:List ad):Bool:=la.all fun t=>decide (gw lb t.aP=t.aT)
theorem l7 (la lb:List ad) (hR:oj lb) (GH:lb.length<=1048576) (h81:la.length<=1048576):aj Tryz.prog 170 [.dn [.sl (la.map aa)],.dn [.sl (lb.map aa)]] (.bool (fa la lb)):=by
 refine aj.body eI rfl fun hl n0=>?_
 clear hl
 (try((repeat(revert hN;revert N;apply Pn.out));refine wk @Nat.zero_add ?_;(repeat(refine Pn.mk ?_;intro N hN))))
 refine aW (fun n env st=>∃k:Nat,n=(la.length)-k/\k<=(la.length)/\env 5=.int .i64 (k:Int)/\(∀j:Nat,j<k->gw lb (aL la j).aP=(aL la j).aT)) (la.length) ⟨0,by omega,by omega,sl @Nat.zero_add,fun _ h=>absurd h (Nat.not_lt_zero _)⟩ ?_
 rintro n_a env_a st_a ⟨k,rfl,ale,a5,mv⟩ dJ
 have a0:=dJ 0 (by kernel_rfl);have a1:=dJ 1 (by kernel_rfl)
 simp only[go_sem, ↓reduceIte,Nat.reduceEqDiff,Nat.reduceAdd,Nat.reduceSub,Nat.reduceLeDiff,reduceCtorEq]at a0 a1
 clear dJ
 by_cases hk:(k:Int)<(la.length:Int)
 ·have cG:∀{e:Env},(e 5=.int .i64 (IntKind.i64.wrap ((k:Int)+1)))->(gw lb (aL la k).aP=(aL la k).aT)->∃m0,m0<(la.length)-k/\∃k:Nat,m0=(la.length)-k/\k<=(la.length)/\e 5=.int .i64 (k:Int)/\(∀j:Nat,j<k->gw lb (aL la j).aP=(aL la j).aT):=fun x1 x2=>⟨_,by omega,k+1,rfl,by omega,(by rw[x1,aB (by omega)]),(all_succ mv x2)⟩
  have fE:k<la.length:=by omega
  have eT:=fC fE
  have FF:=FV lb (aL la k).aP hR GH
  by_cases h0:gw lb (aL la k).aP=(aL la k).aT
  ·have hd:decide (gw lb (aL la k).aP=(aL la k).aT)=true:=decide_eq_true h0
   (repeat(first|((repeat(revert hN;revert N;apply Pn.out));refine wk (tw @a5 (tw @a0 (tw @a1 (tw @hk (tw @eT (tw @hd (tw @aa.eq_1 @ah.eq_1))))))) ?_;(repeat(refine Pn.mk ?_;intro N hN)))|((try apply Or.inl);refine⟨_,aj.x (FF) (sd (tw @a5 (tw @a0 (tw @a1 (tw @hk (tw @eT (tw @hd (tw @aa.eq_1 @ah.eq_1)))))))),?_⟩;refine hN _ _ ?_;clear hN N)))
   exact cG (sd (tw @a5 (tw @a0 @a1))) (h0)
  ·have hd:decide (gw lb (aL la k).aP=(aL la k).aT)=false:=decide_eq_false h0
   (repeat(first|((repeat(revert hN;revert N;apply Pn.out));refine wk (tw @a5 (tw @a0 (tw @a1 (tw @hk (tw @eT (tw @hd (tw @aa.eq_1 @ah.eq_1))))))) ?_;(repeat(refine Pn.mk ?_;intro N hN)))|((try apply Or.inl);refine⟨_,aj.x (FF) (sd (tw @a5 (tw @a0 (tw @a1 (tw @hk (tw @eT (tw @hd (tw @aa.eq_1 @ah.eq_1)))))))),?_⟩;refine hN _ _ ?_;clear hN N)))
   exact aU (b:=false) (.inl rfl) (sd @Nat.zero_add) (List.all_eq_false.2 ⟨_,gM fE,by rw[hd];simp⟩).symm
 ·(try((repeat(revert hN;revert N;apply Pn.out));refine wk (tw @a5 (tw @a0 (tw @a1 @hk))) ?_;(repeat(refine Pn.mk ?_;intro N hN))))
  exact aU (b:=true) (.inl rfl) (sd @Nat.zero_add) (List.all_eq_true.2 fun t ht=>by
   obtain⟨j,hj,rfl⟩:=List.getElem_of_mem ht
   have:=mv j (by omega)
   rw[fm hj]at this
   exact decide_eq_true this).symm
noncomputable def yd (s:ax) (l:List ad):Bool:=lv s&&kM s.aD l
theorem BA {s:ax} {l:List ad}:yd s l=true↔Bv s/\jc s.aD l:=by simp[yd,ko,gi]
theorem KE {s:aw} {k:Nat} (h:k<s.ae.length):eO s k=true:=by
 unfold eO;exact lf (by omega)
theorem Iq {s:aw} {l:List ad} (hA:jc s l) (p:aH):gw l p<0↔eG l p<0:=by
 constructor
 ·intro h
  rcases Int.lt_or_le (eG l p) 0 with h0|h0
  ·exact h0
  ·exfalso
   obtain⟨h1,_⟩:=kO h0
   have h2:=(ez (hA.2 _ (gM h1))).1
   rw[gw,if_pos h0]at h
   omega
 ·intro h
  rw[gw,if_neg (by omega)];omega
abbrev mP:MK:=⟨true,[.tI,.tI]⟩
theorem CB (p:aH):∀(ts:List ad) (i:Nat),gn mP (ah p) (ts.map aa) i=some (if qv ts p<ts.length then some (i+qv ts p)else none)
 |[],i=>by simp[gn,qv]
 |t::ts,i=>by
  have e:e6 mP.ts (ah p) ((aa t).take mP.ks)=some (decide (p=t.aP)):=by
   have h:(p=t.aP)↔(p.fb=t.aP.fb/\p.eV=t.aP.eV):=⟨fun h=>by rw[h];exact⟨rfl,rfl⟩,fun h=>EE h.1 h.2⟩
   simp[MK.ks,ah,aa,e6,fY,h]
  have ih:=CB p ts (i+1)
  rw[List.map_cons]
  unfold gn
  rw[e]
  by_cases h:p=t.aP
  ·rw[decide_eq_true h]
   have h0:qv (t::ts) p=0:=by simp[qv,List.findIdx_cons,h]
   simp[h0]
  ·rw[decide_eq_false h]
   have h0:qv (t::ts) p=qv ts p+1:=by
    simp[qv,List.findIdx_cons,Ne.symm h]
   simp only[ih,h0,List.length_cons,Nat.add_lt_add_iff_right]
   congr 1
   split<;>simp;omega
theorem zr (ts:List ad) (p:aH):fR mP (.agg [.int .i64 p.fb,.int .i64 p.eV]) (ts.map aa)=some (if 0<=eG ts p then some (eG ts p).toNat else none):=by
 have h:=CB p ts 0
 unfold fR
 rw[if_pos ⟨rfl,rfl,rfl⟩]
 show gn mP (ah p) _ 0= _
 rw[h]
 unfold eG
 split<;>simp
theorem Hf {ts:List ad} {p:aH} (h:0<=eG ts p):fR mP (.agg [.int .i64 p.fb,.int .i64 p.eV]) (ts.map aa)=some (some (eG ts p).toNat):=by rw[zr,if_pos h]
theorem rF {ts:List ad} {p:aH} (h:eG ts p<0):fR mP (.agg [.int .i64 p.fb,.int .i64 p.eV]) (ts.map aa)=some none:=by rw[zr,if_neg (by omega)]
structure Db (g:Rows) (n:Nat) (c T O:Id) (s:ax) (ts:List ad):Prop where
 row:∃b,g c=some ⟨b,6,[[.sl (s.aD.ay.map cj),.sl (s.aD.ae.map bG),.sl (s.aX.ae.map aa),.int .i64 s.aA,.map T mP,.map O mP]]⟩
 tl:∃b,g T=some ⟨b,mP.qd,ts.map aa⟩
 cv:c.bW<n
 tv:T.bW<n
 ov:O.bW<n
theorem Db.ro {g:Rows} {n:Nat} {c T O:Id} {s:ax} {ts:List ad} (h:Db g n c T O s ts):Db (V.ro g) n c T O s ts:=by
 obtain⟨b,h1⟩:=h.row
 obtain⟨b2,h2⟩:=h.tl
 exact⟨⟨false,by simp[V.ro,h1]⟩,⟨false,by simp[V.ro,h2]⟩,h.cv,h.tv,h.ov⟩
theorem Db.frame {g g':Rows} {n n':Nat} {c T O:Id} {s:ax} {ts:List ad} (h:Db g n c T O s ts) (hn:n<=n') (hc:g' c=g c) (hT:g' T=g T):Db g' n' c T O s ts:=
 ⟨by rw[hc];exact h.row,by rw[hT];exact h.tl,Nat.lt_of_lt_of_le h.cv hn,Nat.lt_of_lt_of_le h.tv hn,Nat.lt_of_lt_of_le h.ov hn⟩
theorem TX {σ:ar} {c T O:Id} {s:ax} {ts:List ad} (h:Db σ.get σ.next c T O s ts) (p:aH):Call Tryz.prog 281 [.ptr c 0 0,.agg (ah p)] σ (fun r _=>r=.int .i64 (gw ts p)):=by
 refine eW eI rfl fun nB=>?_
 clear nB
 obtain⟨b,h1⟩:=h.row
 obtain⟨b2,h2⟩:=h.tl
 have v1:=dv h.cv
 have v2:=dv h.tv
 by_cases h0:0<=eG ts p
 ·have hm:=Hf h0
  have hg:=fC (kO h0).1
  have ho:(some (eG ts p).toNat).isSome=true:=rfl
  (try((repeat(revert hN;revert N;apply Pn.out));refine wk (tw @h1 (tw @h2 (tw @v1 (tw @v2 (tw @hm (tw @hg (tw @ho (tw @ah.eq_1 @aa.eq_1)))))))) ?_;(repeat(refine Pn.mk ?_;intro N hN))))
  exact ft (.inl rfl) (vs:=[.int .i64 (aL ts (eG ts p).toNat).aT]) (sd @Nat.zero_add) (by rw[gw,if_pos h0];rfl)
 ·have hm:=rF (ts:=ts) (p:=p) (by omega)
  have ho:(none:Option Nat).isSome=false:=rfl
  (try((repeat(revert hN;revert N;apply Pn.out));refine wk (tw @h1 (tw @h2 (tw @v1 (tw @v2 (tw @hm (tw @ho @ah.eq_1)))))) ?_;(repeat(refine Pn.mk ?_;intro N hN))))
  exact ft (.inl rfl) (vs:=[.int .i64 (-1)]) (sd @Nat.zero_add) (by rw[gw,if_neg h0];rfl)
theorem N4 {σ:ar} {c T O:Id} {s:ax} {ts:List ad} (h:Db σ.get σ.next c T O s ts) (p:aH):gC (Call Tryz.prog) 281 [.ptr c 0 0,.agg (ah p)] σ (fun r=>r=.int .i64 (gw ts p)):=by
 unfold gC PC
 exact Or.inl (aJ _ _ _ _ _ (fun r σ' hr=>⟨_,by rw[hr];exact aI _ _ _ _,rfl⟩) (TX (σ:=⟨V.ro σ.get,σ.next⟩) h.ro p))
theorem Gm {σ:ar} (s:aw) (hS:iF s) (F:aH->Int) (hF:∀q,0<=F q->eO s (F q)=true) (p:aH) (hx:iB p.fb) (hy:iB p.eV) (t:Int) (ht:eO s t=true) (f:Nat) (first:List AV)
  (FF:∀σ':ar,σ.next<=σ'.next->(∀x:Id,x.bW<σ.next->σ'.get x=σ.get x)->∀q,gC (Call Tryz.prog) f (first++[.agg (ah q)]) σ' (fun r=>r=.int .i64 (F q))):
  Call Tryz.prog 249 [.agg (ab s),.agg (ah p),.int .i64 t,.uG f first] σ (fun r _=>r=.int .i64 (uk s F p t)):=by
 refine eW eI rfl fun nB=>?_
 clear nB
 (try((repeat(revert hN;revert N;apply Pn.out));refine wk (tw @ah.eq_1 @ab.eq_1) ?_;(repeat(refine Pn.mk ?_;intro N hN))))
 refine aW (fun n env st=>∃k:Nat,n=(4)-k/\k<=(4)/\env 12=.int .i64 (k:Int)/\env 9=.int .i64 (dZ s F p t k)/\st.get ⟨249000000,σ.next⟩=some ⟨true,2,[ab s]⟩/\st.get ⟨249000001,σ.next⟩=some ⟨true,2,[ah p]⟩/\(σ.next<st.next/\∀x:Id,x.bW<σ.next->st.get x=σ.get x)) (4) ⟨0,by omega,by omega,sl (tw @ah.eq_1 @ab.eq_1),sl (tw @ah.eq_1 @ab.eq_1),sl (tw @ah.eq_1 @ab.eq_1),sl (tw @ah.eq_1 @ab.eq_1),⟨by(try dsimp only);omega,fun x hx=>by
  have:=dv hx
  simp only[go_sem, ↓reduceIte,Nat.reduceEqDiff,Nat.reduceAdd,Nat.reduceSub,Nat.reduceLeDiff,reduceCtorEq,this]⟩⟩ ?_
 rintro n_a env_a st_a ⟨k,rfl,ale,a12,a9,ag0,ag1,me⟩ dJ
 have a2:=dJ 2 (by kernel_rfl);have a3:=dJ 3 (by kernel_rfl);have a4:=dJ 4 (by kernel_rfl);have a5:=dJ 5 (by kernel_rfl)
 simp only[go_sem, ↓reduceIte,Nat.reduceEqDiff,Nat.reduceAdd,Nat.reduceSub,Nat.reduceLeDiff,reduceCtorEq,ah,ab]at a2 a3 a4 a5
 clear dJ
 obtain⟨an,dJ⟩:=me
 by_cases hk:(k:Int)<4
 ·have cG:∀{e:Env} {gg:Rows} {nx:Nat},(e 12=.int .i64 (IntKind.i64.wrap ((k:Int)+1)))->(e 9=.int .i64 (dZ s F p t (k+1)))->(gg ⟨249000000,σ.next⟩=some ⟨true,2,[ab s]⟩)->(gg ⟨249000001,σ.next⟩=some ⟨true,2,[ah p]⟩)->(σ.next<nx/\∀x:Id,x.bW<σ.next->gg x=σ.get x)->∃m0,m0<(4)-k/\∃k:Nat,m0=(4)-k/\k<=(4)/\e 12=.int .i64 (k:Int)/\e 9=.int .i64 (dZ s F p t k)/\gg ⟨249000000,σ.next⟩=some ⟨true,2,[ab s]⟩/\gg ⟨249000001,σ.next⟩=some ⟨true,2,[ah p]⟩/\(σ.next<nx/\∀x:Id,x.bW<σ.next->gg x=σ.get x):=fun x1 x2 x3 x4 x5=>⟨_,by omega,k+1,rfl,by omega,(by rw[x1,aB (by omega)]),x2,x3,x4,x5⟩
  have dK:=EV p k (lf (by omega)) hx hy
  have fB:=lS hS F p t k
  (repeat(first|((repeat(revert hN;revert N;apply Pn.out));refine wk (tw @a12 (tw @a9 (tw @ag0 (tw @ag1 (tw @a2 (tw @a3 (tw @a4 (tw @a5 (tw @hk @ah.eq_1))))))))) ?_;(repeat(refine Pn.mk ?_;intro N hN)))|((try apply Or.inl);refine⟨_,aj.x (dK) (sd (tw @a12 (tw @a9 (tw @ag0 (tw @ag1 (tw @a2 (tw @a3 (tw @a4 (tw @a5 (tw @hk @ah.eq_1)))))))))),?_⟩;refine hN _ _ ?_;clear hN N)))
  refine .inl ⟨_,FF _ (by(try dsimp only);omega) (fun x hx=>sd (dJ x hx)) (dB p k),?_⟩
  refine hN _ _ ?_
  clear hN N
  by_cases h0:0<=F (dB p k)
  ·have xW:=Iy s hS.form t k (F (dB p k)) ht (hF _ h0) (lf (by omega))
   have fU:=wo hS t k (F (dB p k))
   have hw:IntKind.i64.wrap (dZ s F p t k+ib s t k (F (dB p k)))=dZ s F p t (k+1):=by
    rw[bz (by omega),dZ,if_pos h0]
   rw[ab]at xW
   (repeat(first|((repeat(revert hN;revert N;apply Pn.out));refine wk (tw @a12 (tw @a9 (tw @ag0 (tw @ag1 (tw @a2 (tw @a3 (tw @a4 (tw @a5 (tw @h0 @ab.eq_1))))))))) ?_;(repeat(refine Pn.mk ?_;intro N hN)))|((try apply Or.inl);refine⟨_,aj.x (xW) (sd (tw @a12 (tw @a9 (tw @ag0 (tw @ag1 (tw @a2 (tw @a3 (tw @a4 (tw @a5 (tw @h0 @ab.eq_1)))))))))),?_⟩;refine hN _ _ ?_;clear hN N)))
   refine cG ?_ ?_ ?_ ?_ (⟨by(try dsimp only);omega,fun x hx=>by
    have h1:=dJ x hx
    simp only[go_sem, ↓reduceIte,Nat.reduceEqDiff,Nat.reduceAdd,Nat.reduceSub,Nat.reduceLeDiff,reduceCtorEq,h1]⟩)
   all_goals simp only[go_sem, ↓reduceIte,Nat.reduceEqDiff,Nat.reduceAdd,Nat.reduceSub,Nat.reduceLeDiff,reduceCtorEq,a12,a9,ag0,ag1,a2,a3,a4,a5,hw,ah,ab]
  ·have hw:dZ s F p t (k+1)=dZ s F p t k:=by rw[dZ,if_neg h0,Int.add_zero]
   (try((repeat(revert hN;revert N;apply Pn.out));refine wk (tw @a12 (tw @a9 (tw @ag0 (tw @ag1 (tw @a2 (tw @a3 (tw @a4 (tw @a5 @h0)))))))) ?_;(repeat(refine Pn.mk ?_;intro N hN))))
   refine cG ?_ ?_ ?_ ?_ (⟨by(try dsimp only);omega,fun x hx=>by
    have h1:=dJ x hx
    simp only[go_sem, ↓reduceIte,Nat.reduceEqDiff,Nat.reduceAdd,Nat.reduceSub,Nat.reduceLeDiff,reduceCtorEq,h1]⟩)
   all_goals simp only[go_sem, ↓reduceIte,Nat.reduceEqDiff,Nat.reduceAdd,Nat.reduceSub,Nat.reduceLeDiff,reduceCtorEq,a12,a9,ag0,ag1,a2,a3,a4,a5,hw,ah,ab]
 ·(try((repeat(revert hN;revert N;apply Pn.out));refine wk (tw @a12 (tw @a9 (tw @ag0 (tw @ag1 (tw @a2 (tw @a3 (tw @a4 (tw @a5 @hk)))))))) ?_;(repeat(refine Pn.mk ?_;intro N hN))))
  exact ft (.inl rfl) (vs:=[.int .i64 (dZ s F p t k)]) (sd (tw @a12 (tw @a9 (tw @ag0 (tw @ag1 (tw @a2 (tw @a3 (tw @a4 @a5)))))))) (by rw[show k=4 by omega];rfl)
noncomputable def jH (s:ax) (ts:List ad) (p:aH) (t:Int):Bool:=CO p&&decide (gw ts p<0)&&decide (s.aA<=uk s.aD (gw ts) p t)
theorem Gn {σ:ar} {c T O:Id} {s:ax} {ts:List ad} (h:Db σ.get σ.next c T O s ts) (hS:iF s.aD) (hF:∀q,0<=gw ts q->eO s.aD (gw ts q)=true) (p:aH) (hx:iB p.fb) (hy:iB p.eV) (t:Int) (ht:eO s.aD t=true):
  gC (Call Tryz.prog) 249 [.agg (ab s.aD),.agg (ah p),.int .i64 t,.uG 281 [.ptr c 0 0]] σ (fun r=>r=.int .i64 (uk s.aD (gw ts) p t)):=by
 unfold gC PC
 exact Or.inl (aJ _ _ _ _ _ (fun r σ' hr=>⟨_,by rw[hr];exact aI _ _ _ _,rfl⟩) (Gm (σ:=⟨V.ro σ.get,σ.next⟩) s.aD hS (gw ts) hF p hx hy t ht _ _
  (fun σ' hn hk q=>N4 (h.ro.frame hn (hk _ h.cv) (hk _ h.tv)) q)))
theorem Oj {σ:ar} {c T O:Id} {s:ax} {ts:List ad} (h:Db σ.get σ.next c T O s ts) (hS:iF s.aD) (hF:∀q,0<=gw ts q->eO s.aD (gw ts q)=true) (p:aH) (t:Int) (ht:eO s.aD t=true):
  Call Tryz.prog 229 [.ptr c 0 0,.agg (ah p),.int .i64 t] σ (fun r _=>r=.bool (jH s ts p t)):=by
 refine eW eI rfl fun nB=>?_
 clear nB
 obtain⟨b,h1⟩:=h.row
 have v1:=dv h.cv
 have hw:=rX p
 have v2:=dv h.tv
 by_cases h0:CO p=true
 ·rw[h0]at hw
  obtain⟨hx,hy⟩:=tR h0
  by_cases h2:gw ts p<0
  ·(repeat(first|((repeat(revert hN;revert N;apply Pn.out));refine wk (tw @h1 (tw @v1 (tw @h2 @ah.eq_1))) ?_;(repeat(refine Pn.mk ?_;intro N hN)))|((try apply Or.inl);refine⟨_,aj.x (hw) (sd (tw @h1 (tw @v1 (tw @h2 @ah.eq_1)))),?_⟩;refine hN _ _ ?_;clear hN N)))
   refine⟨_,N4 (h.frame (by(try dsimp only);omega) (sd @v1) (sd @v2)) p,?_⟩
   refine hN _ _ ?_
   clear hN N
   (repeat(first|((repeat(revert hN;revert N;apply Pn.out));refine wk (tw @h1 (tw @v1 (tw @h2 (tw @ah.eq_1 @ab.eq_1)))) ?_;(repeat(refine Pn.mk ?_;intro N hN)))|((try apply Or.inl);refine⟨_,aj.x (hw) (sd (tw @h1 (tw @v1 (tw @h2 (tw @ah.eq_1 @ab.eq_1))))),?_⟩;refine hN _ _ ?_;clear hN N)))
   refine⟨_,Gn (h.frame (by(try dsimp only);omega) (sd @v1) (sd @v2)) hS hF p hx hy t ht,?_⟩
   refine hN _ _ ?_
   clear hN N
   have hb:=lS hS (gw ts) p t 4
   (repeat(first|((repeat(revert hN;revert N;apply Pn.out));refine wk (tw @h1 (tw @v1 (tw @h2 (tw @ah.eq_1 @ab.eq_1)))) ?_;(repeat(refine Pn.mk ?_;intro N hN)))|((try apply Or.inl);refine⟨_,aj.x (hw) (sd (tw @h1 (tw @v1 (tw @h2 (tw @ah.eq_1 @ab.eq_1))))),?_⟩;refine hN _ _ ?_;clear hN N)))
   exact ft (.inl rfl) (vs:=[.bool (decide (s.aA<=uk s.aD (gw ts) p t))]) (sd @Nat.zero_add) (by rw[show jH s ts p t=decide (s.aA<=uk s.aD (gw ts) p t) by simp[jH,h0,h2]];rfl)
  ·(repeat(first|((repeat(revert hN;revert N;apply Pn.out));refine wk (tw @h1 (tw @v1 (tw @h2 @ah.eq_1))) ?_;(repeat(refine Pn.mk ?_;intro N hN)))|((try apply Or.inl);refine⟨_,aj.x (hw) (sd (tw @h1 (tw @v1 (tw @h2 @ah.eq_1)))),?_⟩;refine hN _ _ ?_;clear hN N)))
   refine⟨_,N4 (h.frame (by(try dsimp only);omega) (sd @v1) (sd @v2)) p,?_⟩
   refine hN _ _ ?_
   clear hN N
   (repeat(first|((repeat(revert hN;revert N;apply Pn.out));refine wk (tw @h1 (tw @v1 (tw @h2 @ah.eq_1))) ?_;(repeat(refine Pn.mk ?_;intro N hN)))|((try apply Or.inl);refine⟨_,aj.x (hw) (sd (tw @h1 (tw @v1 (tw @h2 @ah.eq_1)))),?_⟩;refine hN _ _ ?_;clear hN N)))
   exact ft (.inl rfl) (vs:=[.bool false]) (sd @Nat.zero_add) (by rw[show jH s ts p t=false by simp[jH,h2]];rfl)
 ·rw[Bool.not_eq_true]at h0
  rw[h0]at hw
  (repeat(first|((repeat(revert hN;revert N;apply Pn.out));refine wk (tw @h1 (tw @v1 @ah.eq_1)) ?_;(repeat(refine Pn.mk ?_;intro N hN)))|((try apply Or.inl);refine⟨_,aj.x (hw) (sd (tw @h1 (tw @v1 @ah.eq_1))),?_⟩;refine hN _ _ ?_;clear hN N)))
  exact ft (.inl rfl) (vs:=[.bool false]) (sd @Nat.zero_add) (by rw[show jH s ts p t=false by simp[jH,h0]];rfl)
def OW (rows:List (List AV)):Prop:=∀r∈rows,∃(x y:Int) (v:AV),r=[.int .i64 x,.int .i64 y,v]
theorem F1 (x y:Int):∀(rows:List (List AV)) (i:Nat),OW rows->∃fi,gn mP [.int .i64 x,.int .i64 y] rows i=some fi
 |[],i,_=>⟨none,by simp[gn]⟩
 |r::rs,i,h=>by
  obtain⟨fi,hf⟩:=F1 x y rs (i+1) fun r hr=>h r (by simp[hr])
  obtain⟨x',y',v,rfl⟩:=h r (by simp)
  unfold gn
  have e:e6 mP.ts [.int .i64 x,.int .i64 y] (([.int .i64 x',.int .i64 y',v]:List AV).take mP.ks)=some (decide (x=x')&&decide (y=y')):=by
   simp[MK.ks,e6,fY]
  rw[e]
  cases decide (x=x')&&decide (y=y')
  ·exact⟨fi,hf⟩
  ·exact⟨some i,rfl⟩
theorem CN {rows:List (List AV)} (h:OW rows) (x y:Int):∃fi,fR mP (.agg [.int .i64 x,.int .i64 y]) rows=some fi:=by
 unfold fR
 rw[if_pos ⟨rfl,rfl,rfl⟩]
 exact F1 x y rows 0 h
theorem Pu {rows:List (List AV)} (h:OW rows) (x y:Int) (v:AV) (fi:Option Nat):OW (dR rows [.int .i64 x,.int .i64 y,v] fi):=by
 intro r hr
 cases fi with
 |none=>
  rcases List.mem_append.1 (show r∈rows++[_]from hr)with h1|h1
  ·exact h r h1
  ·simp at h1;exact⟨x,y,v,h1⟩
 |some i=>
  rcases List.mem_or_eq_of_mem_set (show r∈rows.set i _ from hr)with h1|h1
  ·exact h r h1
  ·exact⟨x,y,v,h1⟩
theorem J5 {rows:List (List AV)} (h:OW rows) (fi:Option Nat):OW (dO rows fi):=by
 intro r hr
 cases fi with
 |none=>exact h r (by simpa[dO]using hr)
 |some i=>exact h r (List.mem_of_mem_eraseIdx (by simpa[dO]using hr))
def iR (σ:ar) (O:Id) (g:Rows) (n:Nat):Prop:=σ.next<=n/\(∀x:Id,x.bW<σ.next->x≠O->g x=σ.get x)/\∃rows,g O=some ⟨true,mP.qd,rows⟩/\OW rows
theorem iR.xV {σ:ar} {g:Rows} {n:Nat} {c T O:Id} {s:ax} {ts:List ad} (h:Db σ.get σ.next c T O s ts) (hc:c≠O) (hT:T≠O) (k:iR σ O g n):Db g n c T O s ts:=
 h.frame k.1 (k.2.1 _ h.cv hc) (k.2.1 _ h.tv hT)
theorem iR.trans {a b:ar} {O:Id} {g:Rows} {n:Nat} (h:iR a O b.get b.next) (k:iR b O g n):iR a O g n:=
 ⟨Nat.le_trans h.1 k.1,fun x hx hO=>(k.2.1 x (Nat.lt_of_lt_of_le hx h.1) hO).trans (h.2.1 x hx hO),k.2.2⟩
theorem iR.frame {a:ar} {O:Id} {g g':Rows} {n n' m:Nat} (h:iR a O g n) (ha:a.next<=m) (ho:O.bW<m) (hn:n<=n') (hf:∀x:Id,x.bW<m->g' x=g x):iR a O g' n':=by
 refine⟨Nat.le_trans h.1 hn,fun x hx hO=>(hf x (Nat.lt_of_lt_of_le hx ha)).trans (h.2.1 x hx hO),?_⟩
 obtain⟨rows,h1,h2⟩:=h.2.2
 exact⟨rows,(hf O ho).trans h1,h2⟩
theorem iR.write {a:ar} {O:Id} {g g':Rows} {n n':Nat} (h:iR a O g n) (hn:n<=n') (hf:∀x:Id,x.bW<a.next->x≠O->g' x=g x) {rows:List (List AV)} (ho:g' O=some ⟨true,mP.qd,rows⟩) (hw:OW rows):iR a O g' n':=
 ⟨Nat.le_trans h.1 hn,fun x hx hO=>(hf x hx hO).trans (h.2.1 x hx hO),rows,ho,hw⟩
theorem IU {σ:ar} {c T O:Id} {s:ax} {ts:List ad} (h:Db σ.get σ.next c T O s ts) (hS:iF s.aD) (hF:∀q,0<=gw ts q->eO s.aD (gw ts q)=true) (p:aH) (t:Int) (ht:eO s.aD t=true):
  gC (Call Tryz.prog) 229 [.ptr c 0 0,.agg (ah p),.int .i64 t] σ (fun r=>r=.bool (jH s ts p t)):=by
 unfold gC PC
 exact Or.inl (aJ _ _ _ _ _ (fun r σ' hr=>⟨_,by rw[hr];exact bh _ _ _,rfl⟩) (Oj (σ:=⟨V.ro σ.get,σ.next⟩) h.ro hS hF p t ht))
theorem sw {σ:ar} {c T O:Id} {s:ax} {ts:List ad} (h:Db σ.get σ.next c T O s ts) (hc:c≠O) (hT:T≠O) (hO:∃rows,σ.get O=some ⟨true,mP.qd,rows⟩/\OW rows) (hS:iF s.aD) (hF:∀q,0<=gw ts q->eO s.aD (gw ts q)=true) (p:aH) (hx:iB p.fb) (hy:iB p.eV):
  Call Tryz.prog 151 [.ptr c 0 0,.agg (ah p)] σ (fun r σ'=>r=.gO []/\iR σ O σ'.get σ'.next):=by
 refine eW eI rfl fun nB=>?_
 clear nB
 have Pc:=hS.KF
 have h0:iR σ O σ.get σ.next:=⟨Nat.le_refl _,fun _ _ _=>rfl,hO⟩
 (try((repeat(revert hN;revert N;apply Pn.out));refine wk @ah.eq_1 ?_;(repeat(refine Pn.mk ?_;intro N hN))))
 refine aW (fun n env st=>∃k:Nat,n=(4)-k/\k<=(4)/\env 8=.int .i64 (k:Int)/\st.get ⟨151000000,σ.next⟩=some ⟨true,2,[ah p]⟩/\(σ.next<st.next/\iR σ O st.get st.next)) (4) ⟨0,by omega,by omega,sl @ah.eq_1,sl @ah.eq_1,⟨by(try dsimp only);omega,h0.frame (Nat.le_refl _) h.ov (by(try dsimp only);omega) fun x hx=>by
  have:=dv hx
  simp only[go_sem, ↓reduceIte,Nat.reduceEqDiff,Nat.reduceAdd,Nat.reduceSub,Nat.reduceLeDiff,reduceCtorEq,this]⟩⟩ ?_
 rintro n_a env_a st_a ⟨k,rfl,ale,a8,ag0,me⟩ dJ
 have a0:=dJ 0 (by kernel_rfl);have a3:=dJ 3 (by kernel_rfl)
 simp only[go_sem, ↓reduceIte,Nat.reduceEqDiff,Nat.reduceAdd,Nat.reduceSub,Nat.reduceLeDiff,reduceCtorEq,ah]at a0 a3
 clear dJ
 obtain⟨an,ak⟩:=me
 have ha:=ak.xV h hc hT
 by_cases hk:(k:Int)<4
 ·have cG:∀{e:Env} {gg:Rows} {nx:Nat},(e 8=.int .i64 (IntKind.i64.wrap ((k:Int)+1)))->(gg ⟨151000000,σ.next⟩=some ⟨true,2,[ah p]⟩)->(σ.next<nx/\iR σ O gg nx)->∃m0,m0<(4)-k/\∃k:Nat,m0=(4)-k/\k<=(4)/\e 8=.int .i64 (k:Int)/\gg ⟨151000000,σ.next⟩=some ⟨true,2,[ah p]⟩/\(σ.next<nx/\iR σ O gg nx):=fun x1 x2 x3=>⟨_,by omega,k+1,rfl,by omega,(by rw[x1,aB (by omega)]),x2,x3⟩
  have dK:=EV p k (lf (by omega)) hx hy
  obtain⟨b,h1⟩:=ha.row
  have v1:=dv ha.cv
  (repeat(first|((repeat(revert hN;revert N;apply Pn.out));refine wk (tw @a8 (tw @ag0 (tw @a0 (tw @a3 (tw @hk (tw @h1 (tw @v1 @ah.eq_1))))))) ?_;(repeat(refine Pn.mk ?_;intro N hN)))|((try apply Or.inl);refine⟨_,aj.x (dK) (sd (tw @a8 (tw @ag0 (tw @a0 (tw @a3 (tw @hk (tw @h1 (tw @v1 @ah.eq_1)))))))),?_⟩;refine hN _ _ ?_;clear hN N)))
  refine aW (fun n env st=>∃t:Nat,n=(s.aD.ae.length)-t/\t<=(s.aD.ae.length)/\env 21=.int .i64 (t:Int)/\st.get ⟨151000000,σ.next⟩=some ⟨true,2,[ah p]⟩/\st.get ⟨151004003,st_a.next+1+1⟩=some ⟨true,2,[ah (dB p k)]⟩/\(st_a.next+3<=st.next/\iR σ O st.get st.next/\(env 6=.cC∨∃(o:Id) (n:Nat) (rows:List (List AV)),env 6=.own o 0 n/\st.get o=some ⟨true,1,rows⟩/\rows.length=n/\0<n/\n<=t/\st_a.next+3<=o.bW/\o.bW<st.next))) (s.aD.ae.length) ⟨0,by omega,by omega,sl (tw @a8 (tw @ag0 (tw @a0 (tw @a3 @ah.eq_1)))),sl (tw @a8 (tw @ag0 (tw @a0 (tw @a3 @ah.eq_1)))),sl (tw @a8 (tw @ag0 (tw @a0 (tw @a3 @ah.eq_1)))),⟨by(try dsimp only);omega,ak.frame ak.1 ha.ov (by(try dsimp only);omega) fun x hx=>(by
   have:=dv hx
   simp only[go_sem, ↓reduceIte,Nat.reduceEqDiff,Nat.reduceAdd,Nat.reduceSub,Nat.reduceLeDiff,reduceCtorEq,this]),.inl (sd @Nat.zero_add)⟩⟩ ?_
  rintro n_b env_b st_b ⟨t,rfl,ble,b21,bg0,bg1,bI0⟩ gu
  have b0:=gu 0 (by kernel_rfl);have b3:=gu 3 (by kernel_rfl);have b5:=gu 5 (by kernel_rfl);have b8:=gu 8 (by kernel_rfl);have HS:=gu 20 (by kernel_rfl)
  simp only[go_sem, ↓reduceIte,Nat.reduceEqDiff,Nat.reduceAdd,Nat.reduceSub,Nat.reduceLeDiff,reduceCtorEq,a8,ag0,a0,a3,ah]at b0 b3 b5 b8 HS
  clear gu
  obtain⟨bn,bk,b6⟩:=bI0
  have OJ:=bk.xV h hc hT
  obtain⟨b2,h2⟩:=OJ.row
  have v2:=dv OJ.cv
  have vt:=dv (i:=⟨151000000,σ.next⟩) (n:=st_b.next) (by(try dsimp only);omega)
  have vq:=dv (i:=⟨151004003,st_a.next+1+1⟩) (n:=st_b.next) (by(try dsimp only);omega)
  by_cases ht:(t:Int)<(s.aD.ae.length:Int)
  ·have gp:∀{e:Env} {gg:Rows} {nx:Nat},(e 21=.int .i64 (IntKind.i64.wrap ((t:Int)+1)))->(gg ⟨151000000,σ.next⟩=some ⟨true,2,[ah p]⟩)->(gg ⟨151004003,st_a.next+1+1⟩=some ⟨true,2,[ah (dB p k)]⟩)->(st_a.next+3<=nx/\iR σ O gg nx/\(e 6=.cC∨∃(o:Id) (n:Nat) (rows:List (List AV)),e 6=.own o 0 n/\gg o=some ⟨true,1,rows⟩/\rows.length=n/\0<n/\n<=(t+1)/\st_a.next+3<=o.bW/\o.bW<nx))->∃m0,m0<(s.aD.ae.length)-t/\∃t:Nat,m0=(s.aD.ae.length)-t/\t<=(s.aD.ae.length)/\e 21=.int .i64 (t:Int)/\gg ⟨151000000,σ.next⟩=some ⟨true,2,[ah p]⟩/\gg ⟨151004003,st_a.next+1+1⟩=some ⟨true,2,[ah (dB p k)]⟩/\(st_a.next+3<=nx/\iR σ O gg nx/\(e 6=.cC∨∃(o:Id) (n:Nat) (rows:List (List AV)),e 6=.own o 0 n/\gg o=some ⟨true,1,rows⟩/\rows.length=n/\0<n/\n<=t/\st_a.next+3<=o.bW/\o.bW<nx)):=fun x1 x2 x3 x4=>⟨_,by omega,t+1,rfl,by omega,(by rw[x1,aB (by omega)]),x2,x3,x4⟩
   have RQ:t<s.aD.ae.length:=by omega
   (try((repeat(revert hN;revert N;apply Pn.out));refine wk (tw @b21 (tw @bg0 (tw @bg1 (tw @b0 (tw @b3 (tw @b5 (tw @b8 (tw @HS (tw @ht (tw @h2 (tw @v2 (tw @vt (tw @vq @ah.eq_1))))))))))))) ?_;(repeat(refine Pn.mk ?_;intro N hN))))
   refine .inl ⟨_,IU (OJ.frame (by(try dsimp only);omega) (sd @v2) (by(have:=dv OJ.tv);simp only[go_sem, ↓reduceIte,Nat.reduceEqDiff,Nat.reduceAdd,Nat.reduceSub,Nat.reduceLeDiff,reduceCtorEq,this])) hS hF (dB p k) t (KE RQ),?_⟩
   refine hN _ _ ?_
   clear hN N
   have jV:∀x:Id,x.bW<st_b.next->x≠⟨151010002,st_b.next+1+1+1⟩:=fun x hx h=>by rw[h]at hx;(try dsimp only at hx);omega
   cases hb:jH s ts (dB p k) t
   ·(try((repeat(revert hN;revert N;apply Pn.out));refine wk (tw @b21 (tw @bg0 (tw @bg1 (tw @b0 (tw @b3 (tw @b5 (tw @b8 (tw @HS @hb)))))))) ?_;(repeat(refine Pn.mk ?_;intro N hN))))
    refine gp ?_ ?_ ?_ (by(try dsimp only);exact⟨by omega,bk.frame bk.1 OJ.ov (by omega) (fun x hx=>by
      have h1:=dv (i:=x) (n:=st_b.next) (by omega)
      simp only[go_sem, ↓reduceIte,Nat.reduceEqDiff,Nat.reduceAdd,Nat.reduceSub,Nat.reduceLeDiff,reduceCtorEq,h1]),by
     rcases b6 with h|⟨o,n,rows,h1,h2,h3,h4,h5,h6,h7⟩
     ·exact .inl (sd @h)
     ·have h8:=dv h7
      exact .inr ⟨o,n,rows,sd @h1,sd (tw @h2 @h8),h3,h4,by omega,h6,by omega⟩⟩)
    all_goals simp only[go_sem, ↓reduceIte,Nat.reduceEqDiff,Nat.reduceAdd,Nat.reduceSub,Nat.reduceLeDiff,reduceCtorEq,b21,bg0,bg1,b0,b3,b5,b8,HS,ah,vt,vq]
   ·rcases b6 with b6|⟨o,n,rows,b6,bo,o3,o4,o5,o6,o7⟩
    ·(try((repeat(revert hN;revert N;apply Pn.out));refine wk (tw @b21 (tw @bg0 (tw @bg1 (tw @b0 (tw @b3 (tw @b5 (tw @b8 (tw @HS (tw @b6 @hb))))))))) ?_;(repeat(refine Pn.mk ?_;intro N hN))))
     refine gp ?_ ?_ ?_ (by(try dsimp only);exact⟨by omega,bk.frame (m:=st_a.next) ak.1 ha.ov (by omega) (fun x hx=>by
      have h1:=dv (i:=x) (n:=st_b.next) (by omega)
      simp only[go_sem, ↓reduceIte,Nat.reduceEqDiff,Nat.reduceAdd,Nat.reduceSub,Nat.reduceLeDiff,reduceCtorEq,h1]),.inr ⟨⟨151010003,st_b.next+1+1+1⟩,1,[[.int .i64 t]],sl @Nat.zero_add,sd @Nat.zero_add,rfl,by omega,by omega,by(try dsimp only);omega,by(try dsimp only);omega⟩⟩)
     all_goals simp only[go_sem, ↓reduceIte,Nat.reduceEqDiff,Nat.reduceAdd,Nat.reduceSub,Nat.reduceLeDiff,reduceCtorEq,b21,bg0,bg1,b0,b3,b5,b8,HS,ah,vt,vq]
    ·subst o3
     have e1:rows.length<=16777215:=by omega
     have vo:=dv o7
     have vto:=cH (a:=⟨151000000,σ.next⟩) (b:=o) (by(try dsimp only);omega)
     have vqo:=cH (a:=⟨151004003,st_a.next+1+1⟩) (b:=o) (by(try dsimp only);omega)
     (try((repeat(revert hN;revert N;apply Pn.out));refine wk (tw @b21 (tw @bg0 (tw @bg1 (tw @b0 (tw @b3 (tw @b5 (tw @b8 (tw @HS (tw @b6 (tw @bo (tw @hb (tw @e1 @vo)))))))))))) ?_;(repeat(refine Pn.mk ?_;intro N hN))))
     refine gp ?_ ?_ ?_ (by(try dsimp only);exact⟨by omega,bk.frame (m:=st_a.next) ak.1 ha.ov (by omega) (fun x hx=>by
      have h1:=dv (i:=x) (n:=st_b.next) (by omega)
      have h2:=cH (a:=x) (b:=o) (by omega)
      simp only[go_sem, ↓reduceIte,Nat.reduceEqDiff,Nat.reduceAdd,Nat.reduceSub,Nat.reduceLeDiff,reduceCtorEq,h1,h2]),.inr ⟨⟨151010003,st_b.next+1+1+1⟩,rows.length+1,rows++[[.int .i64 t]],sl @Nat.zero_add,sd @Nat.zero_add,by simp,by omega,by omega,by(try dsimp only);omega,by(try dsimp only);omega⟩⟩)
     all_goals simp only[go_sem, ↓reduceIte,Nat.reduceEqDiff,Nat.reduceAdd,Nat.reduceSub,Nat.reduceLeDiff,reduceCtorEq,b21,bg0,bg1,b0,b3,b5,b8,HS,ah,vt,vq,vto,vqo]
  ·obtain⟨rows,hg,Vm⟩:=bk.2.2
   have vo:=dv OJ.ov
   obtain⟨fi,GN⟩:=CN Vm (dB p k).fb (dB p k).eV
   have hq:((⟨151000000,σ.next⟩:Id)=O)=False:=(cH (a:=O) (b:=⟨151000000,σ.next⟩) (by have:=h.ov;(try dsimp only);omega)).2
   rcases b6 with b6|⟨o,n,NJ,b6,bo,o3,o4,o5,o6,o7⟩
   ·have d0:decide ((0:Int)<((0:Nat):Int))=false:=rfl
    (try((repeat(revert hN;revert N;apply Pn.out));refine wk (tw @b21 (tw @bg0 (tw @bg1 (tw @b0 (tw @b3 (tw @b5 (tw @b8 (tw @HS (tw @b6 (tw @ht (tw @h2 (tw @v2 (tw @vt (tw @vq (tw @vo (tw @hg (tw @GN (tw @ah.eq_1 @d0)))))))))))))))))) ?_;(repeat(refine Pn.mk ?_;intro N hN))))
    refine cG ?_ ?_ (by(try dsimp only);exact⟨by omega,bk.write (by omega) (fun x hx ND=>by
     have h1:=dv (i:=x) (n:=st_b.next) (by omega)
     have h2:(x=O)=False:=eq_false ND
     simp only[go_sem, ↓reduceIte,Nat.reduceEqDiff,Nat.reduceAdd,Nat.reduceSub,Nat.reduceLeDiff,reduceCtorEq,h1,h2]) (sl @Nat.zero_add) (J5 Vm _)⟩)
    all_goals simp only[go_sem, ↓reduceIte,Nat.reduceEqDiff,Nat.reduceAdd,Nat.reduceSub,Nat.reduceLeDiff,reduceCtorEq,a8,ag0,a0,a3,b21,bg0,bg1,b0,b3,b5,b8,HS,ah,vt,vo,hq]
   ·have d1:decide ((0:Int)<(n:Int))=true:=decide_eq_true (by omega)
    (try((repeat(revert hN;revert N;apply Pn.out));refine wk (tw @b21 (tw @bg0 (tw @bg1 (tw @b0 (tw @b3 (tw @b5 (tw @b8 (tw @HS (tw @b6 (tw @ht (tw @h2 (tw @v2 (tw @vt (tw @vq (tw @vo (tw @hg (tw @GN (tw @ah.eq_1 @d1)))))))))))))))))) ?_;(repeat(refine Pn.mk ?_;intro N hN))))
    refine cG ?_ ?_ (by(try dsimp only);exact⟨by omega,bk.write (by omega) (fun x hx ND=>by
     have h1:=dv (i:=x) (n:=st_b.next) (by omega)
     have h2:(x=O)=False:=eq_false ND
     simp only[go_sem, ↓reduceIte,Nat.reduceEqDiff,Nat.reduceAdd,Nat.reduceSub,Nat.reduceLeDiff,reduceCtorEq,h1,h2]) (sl @Nat.zero_add) (Pu Vm _ _ _ _)⟩)
    all_goals simp only[go_sem, ↓reduceIte,Nat.reduceEqDiff,Nat.reduceAdd,Nat.reduceSub,Nat.reduceLeDiff,reduceCtorEq,a8,ag0,a0,a3,b21,bg0,bg1,b0,b3,b5,b8,HS,ah,vt,vo,hq]
 ·(try((repeat(revert hN;revert N;apply Pn.out));refine wk (tw @a8 (tw @ag0 (tw @a0 (tw @a3 @hk)))) ?_;(repeat(refine Pn.mk ?_;intro N hN))))
  exact ft (.inr rfl) (vs:=[]) rfl ⟨rfl,ak.frame ak.1 ha.ov (by(try dsimp only);omega) (fun x hx=>rfl)⟩
structure mc (g:Rows) (n:Nat) (c T O:Id) (s:ax) (ts:List ad):Prop where
 row:g c=some ⟨true,6,[[.sl (s.aD.ay.map cj),.sl (s.aD.ae.map bG),.sl (s.aX.ae.map aa),.int .i64 s.aA,.map T mP,.map O mP]]⟩
 tl:g T=some ⟨true,mP.qd,ts.map aa⟩
 op:∃rows,g O=some ⟨true,mP.qd,rows⟩/\OW rows
 cv:c.bW<n
 tv:T.bW<n
 ov:O.bW<n
 cT:c≠T
 cO:c≠O
 TO:T≠O
theorem mc.xV {g:Rows} {n:Nat} {c T O:Id} {s:ax} {ts:List ad} (h:mc g n c T O s ts):Db g n c T O s ts:=⟨⟨_,h.row⟩,⟨_,h.tl⟩,h.cv,h.tv,h.ov⟩
theorem mc.look {σ:ar} {g:Rows} {n:Nat} {c T O:Id} {s:ax} {ts:List ad} (h:mc σ.get σ.next c T O s ts) (k:iR σ O g n):mc g n c T O s ts:=
 ⟨(k.2.1 _ h.cv h.cO).trans h.row,(k.2.1 _ h.tv h.TO).trans h.tl,k.2.2,Nat.lt_of_lt_of_le h.cv k.1,Nat.lt_of_lt_of_le h.tv k.1,Nat.lt_of_lt_of_le h.ov k.1,h.cT,h.cO,h.TO⟩
theorem mc.frame {g g':Rows} {n n':Nat} {c T O:Id} {s:ax} {ts:List ad} (h:mc g n c T O s ts) (hn:n<=n') (hf:∀x:Id,x.bW<n->g' x=g x):mc g' n' c T O s ts:=
 ⟨(hf _ h.cv).trans h.row,(hf _ h.tv).trans h.tl,by rw[hf _ h.ov];exact h.op,Nat.lt_of_lt_of_le h.cv hn,Nat.lt_of_lt_of_le h.tv hn,Nat.lt_of_lt_of_le h.ov hn,h.cT,h.cO,h.TO⟩
def TQ (σ:ar) (s:ax) (ts:List ad) (r:AV) (σ':ar):Prop:=
 ∃c T O:Id,r=.ptr c 0 0/\mc σ'.get σ'.next c T O s ts/\σ.next<=c.bW/\σ.next<=T.bW/\σ.next<=O.bW/\σ.next<=σ'.next/\∀x:Id,x.bW<σ.next->σ'.get x=σ.get x
theorem Ck {l:List ad} {p:aH}:eG l p<0↔∀t∈l,t.aP≠p:=by
 unfold eG qv
 by_cases h:(l.findIdx fun c=>decide (c.aP=p))<l.length
 ·rw[if_pos h]
  obtain⟨t,ht,h2⟩:=List.findIdx_lt_length.1 h
  exact⟨fun h=>by omega,fun h=>absurd (by simpa using h2) (h t ht)⟩
 ·rw[if_neg h]
  exact⟨fun _ t ht e=>h (List.findIdx_lt_length.2 ⟨t,ht,by simp[e]⟩),fun _=>by omega⟩
theorem KC {l:List ad} (h:oj l) {k:Nat} (hk:k<l.length):eG (l.take k) (aL l k).aP<0:=by
 rw[Ck]
 intro t ht e
 obtain⟨j,hj,rfl⟩:=List.getElem_of_mem ht
 have Ld:j<k:=by rw[List.length_take]at hj;omega
 have:=h j k Ld hk
 rw[List.getElem_take]at e
 have e2:aL l j=l[j]'(by omega):=by unfold aL;rw[List.getD_eq_getElem?_getD,List.getElem?_eq_getElem (by omega)];rfl
 rw[e2,e]at this
 simp[jR]at this
theorem MU {l:List ad} {k:Nat} (hk:k<l.length):(l.take k).map aa++[[.int .i64 (aL l k).aP.fb,.int .i64 (aL l k).aP.eV,.int .i64 (aL l k).aT]]=(l.take (k+1)).map aa:=by
 have e2:aL l k=l[k]:=by unfold aL;rw[List.getD_eq_getElem?_getD,List.getElem?_eq_getElem hk];rfl
 rw[List.take_succ_eq_append_getElem hk,List.map_append,e2]
 rfl
theorem iF.Na {s:aw} {l:List ad} (hA:jc s l):∀q,0<=gw l q->eO s (gw l q)=true:=fun _ h=>BC hA h
theorem AD (s:ax) (hS:iF s.aD) (l:List ad) (hA:jc s.aD l) (σ:ar):Call Tryz.prog 83 [.agg (au s),.agg [.sl (l.map aa)]] σ (TQ σ s l):=by
 refine eW eI rfl fun nB=>?_
 clear nB
 have Jc:=hA.1.oJ
 (try((repeat(revert hN;revert N;apply Pn.out));refine wk @au.eq_1 ?_;(repeat(refine Pn.mk ?_;intro N hN))))
 refine aW (fun n env st=>∃k:Nat,n=(l.length)-k/\k<=(l.length)/\env 18=.int .i64 (k:Int)/\st.get ⟨83001004,σ.next+1⟩=some ⟨true,6,[[.sl (s.aD.ay.map cj),.sl (s.aD.ae.map bG),.sl (s.aX.ae.map aa),.int .i64 s.aA,.map ⟨83001001,σ.next+1⟩ mP,.map ⟨83001002,σ.next+1⟩ mP]]⟩/\st.get ⟨83001001,σ.next+1⟩=some ⟨true,mP.qd,(l.take k).map aa⟩/\st.get ⟨83001002,σ.next+1⟩=some ⟨true,mP.qd,[]⟩/\st.get ⟨83000001,σ.next⟩=some ⟨true,1,[[.sl (l.map aa)]]⟩/\(σ.next+3<=st.next/\∀x:Id,x.bW<σ.next->st.get x=σ.get x)) (l.length) ⟨0,by omega,by omega,sl @Nat.zero_add,sl @Nat.zero_add,sl @Nat.zero_add,sl @Nat.zero_add,sl @Nat.zero_add,⟨by(try dsimp only);omega,fun x hx=>by
  have:=dv hx
  simp only[go_sem, ↓reduceIte,Nat.reduceEqDiff,Nat.reduceAdd,Nat.reduceSub,Nat.reduceLeDiff,reduceCtorEq,this]⟩⟩ ?_
 rintro n_a env_a st_a ⟨k,rfl,ale,a18,ag0,ag1,ag2,ag3,me⟩ dJ
 have a3:=dJ 3 (by kernel_rfl);have a5:=dJ 5 (by kernel_rfl);have Qe:=dJ 16 (by kernel_rfl);have a17:=dJ 17 (by kernel_rfl)
 simp only[go_sem, ↓reduceIte,Nat.reduceEqDiff,Nat.reduceAdd,Nat.reduceSub,Nat.reduceLeDiff,reduceCtorEq]at a3 a5 Qe a17
 clear dJ
 obtain⟨an,dJ⟩:=me
 have v1:=dv (i:=⟨83001004,σ.next+1⟩) (n:=st_a.next) (by(try dsimp only);omega)
 have v2:=dv (i:=⟨83001001,σ.next+1⟩) (n:=st_a.next) (by(try dsimp only);omega)
 have v3:=dv (i:=⟨83001002,σ.next+1⟩) (n:=st_a.next) (by(try dsimp only);omega)
 have v4:=dv (i:=⟨83000001,σ.next⟩) (n:=st_a.next) (by(try dsimp only);omega)
 by_cases hk:(k:Int)<(l.length:Int)
 ·have cG:∀{e:Env} {gg:Rows} {nx:Nat},(e 18=.int .i64 (IntKind.i64.wrap ((k:Int)+1)))->(gg ⟨83001004,σ.next+1⟩=some ⟨true,6,[[.sl (s.aD.ay.map cj),.sl (s.aD.ae.map bG),.sl (s.aX.ae.map aa),.int .i64 s.aA,.map ⟨83001001,σ.next+1⟩ mP,.map ⟨83001002,σ.next+1⟩ mP]]⟩)->(gg ⟨83001001,σ.next+1⟩=some ⟨true,mP.qd,(l.take (k+1)).map aa⟩)->(gg ⟨83001002,σ.next+1⟩=some ⟨true,mP.qd,[]⟩)->(gg ⟨83000001,σ.next⟩=some ⟨true,1,[[.sl (l.map aa)]]⟩)->(σ.next+3<=nx/\∀x:Id,x.bW<σ.next->gg x=σ.get x)->∃m0,m0<(l.length)-k/\∃k:Nat,m0=(l.length)-k/\k<=(l.length)/\e 18=.int .i64 (k:Int)/\gg ⟨83001004,σ.next+1⟩=some ⟨true,6,[[.sl (s.aD.ay.map cj),.sl (s.aD.ae.map bG),.sl (s.aX.ae.map aa),.int .i64 s.aA,.map ⟨83001001,σ.next+1⟩ mP,.map ⟨83001002,σ.next+1⟩ mP]]⟩/\gg ⟨83001001,σ.next+1⟩=some ⟨true,mP.qd,(l.take k).map aa⟩/\gg ⟨83001002,σ.next+1⟩=some ⟨true,mP.qd,[]⟩/\gg ⟨83000001,σ.next⟩=some ⟨true,1,[[.sl (l.map aa)]]⟩/\(σ.next+3<=nx/\∀x:Id,x.bW<σ.next->gg x=σ.get x):=fun x1 x2 x3 x4 x5 x6=>⟨_,by omega,k+1,rfl,by omega,(by rw[x1,aB (by omega)]),x2,x3,x4,x5,x6⟩
  have fE:k<l.length:=by omega
  have hg:=fC fE
  have hm:=rF (KC hA.1.Dm fE)
  have rh:=MU fE
  (try((repeat(revert hN;revert N;apply Pn.out));refine wk (tw @a18 (tw @ag0 (tw @ag1 (tw @ag2 (tw @ag3 (tw @a3 (tw @a5 (tw @Qe (tw @a17 (tw @hk (tw @hg (tw @hm (tw @v1 (tw @v2 (tw @v3 (tw @v4 @aa.eq_1)))))))))))))))) ?_;(repeat(refine Pn.mk ?_;intro N hN))))
  refine cG ?_ ?_ ?_ ?_ ?_ (by(try dsimp only);exact⟨by omega,fun x hx=>by
   have h1:=dv (i:=x) (n:=st_a.next) (by omega)
   have h2:=cH (a:=x) (b:=⟨83001001,σ.next+1⟩) (by(try dsimp only);omega)
   have h3:=dJ x hx
   simp only[go_sem, ↓reduceIte,Nat.reduceEqDiff,Nat.reduceAdd,Nat.reduceSub,Nat.reduceLeDiff,reduceCtorEq,h1,h2,h3]⟩)
  all_goals simp only[go_sem, ↓reduceIte,Nat.reduceEqDiff,Nat.reduceAdd,Nat.reduceSub,Nat.reduceLeDiff,reduceCtorEq,a18,ag0,ag1,ag2,ag3,a3,a5,Qe,a17,aa,v1,v2,v3,v4,rh]
 ·have mC:k=l.length:=by omega
  subst mC
  have oF:l.take l.length=l:=List.take_length
  (try((repeat(revert hN;revert N;apply Pn.out));refine wk (tw @a18 (tw @ag0 (tw @ag1 (tw @ag2 (tw @ag3 (tw @a3 (tw @a5 (tw @Qe (tw @a17 (tw @hk (tw @v1 (tw @v2 (tw @v3 @v4))))))))))))) ?_;(repeat(refine Pn.mk ?_;intro N hN))))
  refine aW (fun n env st=>∃j:Nat,n=(l.length)-j/\j<=(l.length)/\env 34=.int .i64 (j:Int)/\(σ.next+3<=st.next/\mc st.get st.next ⟨83001004,σ.next+1⟩ ⟨83001001,σ.next+1⟩ ⟨83001002,σ.next+1⟩ s l/\∀x:Id,x.bW<σ.next->st.get x=σ.get x)) (l.length) ⟨0,by omega,by omega,sl (tw @a18 (tw @ag0 (tw @ag1 (tw @ag2 (tw @ag3 (tw @a3 (tw @a5 (tw @Qe @a17)))))))),by(try dsimp only);exact⟨by omega,⟨sd @ag0,sd (tw @ag1 @oF),⟨[],sd @ag2,by intro r hr;cases hr⟩,by(try dsimp only);omega,by(try dsimp only);omega,by(try dsimp only);omega,(by intro e;injection e with e1 e2;revert e1;decide),(by intro e;injection e with e1 e2;revert e1;decide),(by intro e;injection e with e1 e2;revert e1;decide)⟩,fun x hx=>by
   have h3:=dJ x hx
   simp only[go_sem, ↓reduceIte,Nat.reduceEqDiff,Nat.reduceAdd,Nat.reduceSub,Nat.reduceLeDiff,reduceCtorEq,h3]⟩⟩ ?_
  rintro n_b env_b st_b ⟨j,rfl,ble,b34,bI0⟩ gu
  have b5:=gu 5 (by kernel_rfl);have uj:=gu 32 (by kernel_rfl);have uR:=gu 33 (by kernel_rfl)
  simp only[go_sem, ↓reduceIte,Nat.reduceEqDiff,Nat.reduceAdd,Nat.reduceSub,Nat.reduceLeDiff,reduceCtorEq,a18,ag0,ag1,ag2,ag3,a3,a5,Qe,a17]at b5 uj uR
  clear gu
  obtain⟨bn,bC,gu⟩:=bI0
  by_cases hj:(j:Int)<(l.length:Int)
  ·have gp:∀{e:Env} {gg:Rows} {nx:Nat},(e 34=.int .i64 (IntKind.i64.wrap ((j:Int)+1)))->(σ.next+3<=nx/\mc gg nx ⟨83001004,σ.next+1⟩ ⟨83001001,σ.next+1⟩ ⟨83001002,σ.next+1⟩ s l/\∀x:Id,x.bW<σ.next->gg x=σ.get x)->∃m0,m0<(l.length)-j/\∃j:Nat,m0=(l.length)-j/\j<=(l.length)/\e 34=.int .i64 (j:Int)/\(σ.next+3<=nx/\mc gg nx ⟨83001004,σ.next+1⟩ ⟨83001001,σ.next+1⟩ ⟨83001002,σ.next+1⟩ s l/\∀x:Id,x.bW<σ.next->gg x=σ.get x):=fun x1 x2=>⟨_,by omega,j+1,rfl,by omega,(by rw[x1,aB (by omega)]),x2⟩
   have iW:j<l.length:=by omega
   have hg:=fC iW
   have RI:=tR (hA.1.pt iW)
   (try((repeat(revert hN;revert N;apply Pn.out));refine wk (tw @b34 (tw @b5 (tw @uj (tw @uR (tw @hj (tw @hg @aa.eq_1)))))) ?_;(repeat(refine Pn.mk ?_;intro N hN))))
   have Q4:mc (bt (bt st_b.get ⟨83009002,st_b.next+1⟩ ⟨true,3,[[.int .i64 0,.int .i64 0,.int .i64 0]]⟩) ⟨83009002,st_b.next+1⟩ ⟨true,3,[[.int .i64 (aL l j).aP.fb,.int .i64 (aL l j).aP.eV,.int .i64 (aL l j).aT]]⟩) (st_b.next+1+1+1) ⟨83001004,σ.next+1⟩ ⟨83001001,σ.next+1⟩ ⟨83001002,σ.next+1⟩ s l:=bC.frame (by omega) fun x hx=>by
    have h1:=dv hx
    simp only[go_sem, ↓reduceIte,Nat.reduceEqDiff,Nat.reduceAdd,Nat.reduceSub,Nat.reduceLeDiff,reduceCtorEq,h1]
   refine .inr (aJ _ _ _ _ _ (fun r σ1 hq=>?_) (sw (σ:=⟨bt (bt st_b.get ⟨83009002,st_b.next+1⟩ ⟨true,3,[[.int .i64 0,.int .i64 0,.int .i64 0]]⟩) ⟨83009002,st_b.next+1⟩ ⟨true,3,[[.int .i64 (aL l j).aP.fb,.int .i64 (aL l j).aP.eV,.int .i64 (aL l j).aT]]⟩,st_b.next+1+1+1⟩) Q4.xV Q4.cO Q4.TO Q4.op hS (iF.Na hA) (aL l j).aP RI.1 RI.2))
   obtain⟨g1,x1⟩:=σ1
   obtain⟨rfl,hL⟩:=hq
   (try dsimp only at hL)
   have I0:=Q4.look hL
   have SR:=hL.1
   have hLf:=hL.2.1
   (try dsimp only at SR hLf)
   refine hN _ _ ?_
   clear hN N
   (try((repeat(revert hN;revert N;apply Pn.out));refine wk (tw @b34 (tw @b5 (tw @uj @uR))) ?_;(repeat(refine Pn.mk ?_;intro N hN))))
   exact gp (sd (tw @b34 (tw @b5 (tw @uj @uR)))) (by(try dsimp only);exact⟨by omega,I0.frame (by omega) (fun x hx=>rfl),fun x hx=>by
    have h1:=dv (i:=x) (n:=st_b.next) (by omega)
    have h2:=hLf x (by omega) (fun e=>by rw[e]at hx;(try dsimp only at hx);omega)
    have h3:=gu x hx
    simp only[h2]
    simp only[go_sem, ↓reduceIte,Nat.reduceEqDiff,Nat.reduceAdd,Nat.reduceSub,Nat.reduceLeDiff,reduceCtorEq,h1,h3]⟩)
  ·(try((repeat(revert hN;revert N;apply Pn.out));refine wk (tw @b34 (tw @b5 (tw @uj (tw @uR @hj)))) ?_;(repeat(refine Pn.mk ?_;intro N hN))))
   exact ft (.inl rfl) (vs:=[.ptr ⟨83001004,σ.next+1⟩ 0 0]) (sd @Nat.zero_add) ⟨_,_,_,rfl,bC.frame (by(try dsimp only);omega) (fun x hx=>rfl),by(try dsimp only);omega,by(try dsimp only);omega,by(try dsimp only);omega,by(try dsimp only);omega,gu⟩
end Go.Proofs.YtgoljkjaameagaaGreat.V

namespace Go.Proofs.YtgoljkjaameagaaGreat.V
open Go.RowKit
def iK:List ad->ad->List ad
 |[],q=>[q]
 |x::r,q=>if jR q.aP x.aP=true then q::x::r else x::iK r q
theorem pr {q x:ad}:∀{l:List ad},x∈iK l q↔x=q∨x∈l
 |[]=>by simp[iK]
 |y::r=>by
  have ih:=@pr q x r
  rw[iK]
  split
  ·simp
  ·simp only[List.mem_cons,ih]
   constructor
   ·rintro(h|h|h)<;>simp[h]
   ·rintro(h|h|h)<;>simp[h]
theorem pH (q:ad):∀l:List ad,(iK l q).length=l.length+1
 |[]=>rfl
 |y::r=>by
  have ih:=pH q r
  rw[iK]
  split
  ·simp
  ·simp[ih]
theorem sK {l:List ad}:oj l↔l.Pairwise fun a b=>jR a.aP b.aP=true:=by
 rw[List.pairwise_iff_getElem]
 constructor
 ·intro h i j hi hj D7
  have:=h i j D7 hj
  rwa [fm hi,fm hj]at this
 ·intro h i j D7 hj
  have:=h i j (by omega) hj D7
  rwa [fm (by omega),fm hj]
theorem l5 {l:List ad} {p:aH}:eG l p<0↔∀t∈l,t.aP≠p:=Ck
theorem J9 {q:ad}:∀{l:List ad},oj l->eG l q.aP<0->oj (iK l q):=by
 intro l
 rw[sK,sK,l5]
 induction l with
 |nil=>intro _ _;exact List.pairwise_singleton _ _
 |cons y r ih=>
  intro h hn
  obtain⟨h1,h2⟩:=List.pairwise_cons.1 h
  rw[iK]
  split
  ·rename_i hl
   refine List.pairwise_cons.2 ⟨fun x hx=>?_,h⟩
   rcases List.mem_cons.1 hx with rfl|hx
   ·exact hl
   ·exact jZ hl (h1 x hx)
  ·rename_i hl
   rw[Bool.not_eq_true]at hl
   refine List.pairwise_cons.2 ⟨fun x hx=>?_,ih h2 fun t ht=>hn t (by simp[ht])⟩
   rcases pr.1 hx with rfl|hx
   ·exact FY hl fun e=>hn y (by simp) e.symm
   ·exact h1 x hx
theorem jW (x:ad) (r:List ad) (p:aH):gw (x::r) p=if x.aP=p then x.aT else gw r p:=by
 unfold gw eG qv
 rw[List.findIdx_cons]
 by_cases h:x.aP=p
 ·simp[h,aL]
 ·simp only[h,decide_false,cond_false,List.length_cons,Nat.add_lt_add_iff_right,if_false]
  by_cases hl:(r.findIdx fun c=>decide (c.aP=p))<r.length
  ·rw[if_pos hl,if_pos hl,if_pos (by omega),if_pos (by omega)]
   simp[aL]
  ·rw[if_neg hl,if_neg hl];rfl
theorem BB {q:ad} (p:aH):∀{l:List ad},(∀t∈l,t.aP≠q.aP)->gw (iK l q) p=if q.aP=p then q.aT else gw l p
 |[],_=>by rw[iK,jW]
 |x::r,h=>by
  have ih:=@BB q p r fun t ht=>h t (by simp[ht])
  rw[iK]
  split
  ·rw[jW]
  ·rw[jW,ih,jW]
   by_cases h1:x.aP=p
   ·have h2:q.aP≠p:=fun e=>h x (by simp) (h1.trans e.symm)
    rw[if_pos h1,if_neg h2,if_pos h1]
   ·rw[if_neg h1,if_neg h1]
theorem zR {q:ad} (p:aH):∀{l:List ad},(∀t∈l,t.aP≠q.aP)->gw (l++[q]) p=if q.aP=p then q.aT else gw l p
 |[],_=>by rw[List.nil_append,jW]
 |x::r,h=>by
  have ih:=@zR q p r fun t ht=>h t (by simp[ht])
  rw[List.cons_append,jW,ih,jW]
  by_cases h1:x.aP=p
  ·have h2:q.aP≠p:=fun e=>h x (by simp) (h1.trans e.symm)
   rw[if_pos h1,if_neg h2,if_pos h1]
  ·rw[if_neg h1,if_neg h1]
theorem zw {α:Type} [DecidableEq α]:∀{xs ys:List α},xs.Nodup->(∀x∈xs,x∈ys)->xs.length<=ys.length
 |[],_,_,_=>Nat.zero_le _
 |x::xs,ys,hn,h=>by
  obtain⟨h1,h2⟩:=List.nodup_cons.1 hn
  have hx:=h x (by simp)
  have:=@zw α _ xs (ys.erase x) h2 fun y hy=>(List.mem_erase_of_ne fun e=>h1 (by rw[<-e];exact hy)).2 (h y (by simp[hy]))
  rw[List.length_erase_of_mem hx]at this
  have:=List.length_pos_of_mem hx
  rw[List.length_cons];omega
theorem Ht {l:List ad} (h:oj l):l.Nodup:=by
 rw[sK]at h
 refine List.Pairwise.imp (fun {a b} re e=>?_) h
 rw[e,nC]at re;cases re
abbrev iO:=List ad×List ad
noncomputable def jy (s:ax) (st:iO) (x:ad):iO:=if jH s st.2 x.aP x.aT=true then(st.1++[x],iK st.2 x)else st
noncomputable def gH (s:ax) (l:List ad) (st:iO):iO:=l.foldl (jy s) st
noncomputable def w8 (s:ax) (l:List ad):Nat->iO->iO
 |0,st=>st
 |n+1,st=>if (gH s l st).1.length=st.1.length then gH s l st else w8 s l n (gH s l st)
noncomputable def kP (s:ax) (l:List ad):iO:=w8 s l (l.length+1) ([],s.aX.ae)
def ph (l now:List ad):Nat:=(l.filter fun x=>decide (eG now x.aP<0)).length
theorem filter_lt {α:Type} {p q:α->Bool} (hpq:∀x,q x=true->p x=true) {x:α} (hp:p x=true) (hq:q x=false):∀{l:List α},x∈l->(l.filter q).length<(l.filter p).length:=by
 have le:∀l:List α,(l.filter q).length<=(l.filter p).length:=fun l=>by
  induction l with
  |nil=>exact Nat.le_refl _
  |cons y r ih=>
   rw[List.filter_cons,List.filter_cons]
   cases h1:q y
   ·cases h2:p y<;>simp<;>omega
   ·rw[hpq y h1];simp;omega
 intro l hl
 induction l with
 |nil=>cases hl
 |cons y r ih=>
  rcases List.mem_cons.1 hl with rfl|hl
  ·have:=le r
   rw[List.filter_cons,List.filter_cons,hp,hq];simp;omega
  ·have:=ih hl
   rw[List.filter_cons,List.filter_cons]
   cases h1:q y
   ·cases h2:p y<;>simp<;>omega
   ·rw[hpq y h1];simp;omega
structure oO (s:ax) (l:List ad) (st:iO):Prop where
 Dm:oj st.2
 sub:∀x∈st.2,x∈l
 done:∀x∈st.1,x∈l
 len:st.2.length=s.aX.ae.length+st.1.length
theorem oO.oJ {s:ax} {l:List ad} {st:iO} (h:oO s l st):st.2.length<=l.length:=by
 classical
 exact zw (Ht h.Dm) h.sub
theorem oO.N3 {s:ax} {l:List ad} {st:iO} (h:oO s l st) (hA:jc s.aD l):jc s.aD st.2:=by
 refine⟨⟨Nat.le_trans h.oJ hA.1.oJ,fun i hi=>?_⟩,fun t ht=>hA.2 t (h.sub t ht)⟩
 obtain⟨j,hj,im⟩:=List.getElem_of_mem (h.sub _ (gM hi))
 have h1:=hA.1.ok j hj
 rw[Fj,fm hj,im]at h1
 exact⟨h1.1,h1.2.1,fun h0=>h.Dm _ _ (by omega) hi⟩
theorem pf {s:ax} {l:List ad} (hA:jc s.aD l) {now:List ad} (hs:∀x∈now,x∈l) {p:aH} {t:Int} (h:jH s now p t=true):eG now p<0:=by
 rcases Int.lt_or_le (eG now p) 0 with h0|h0
 ·exact h0
 ·exfalso
  obtain⟨h1,_⟩:=kO h0
  have h2:=(ez (hA.2 _ (hs _ (gM h1)))).1
  simp[jH,gw,h0]at h
  omega
theorem oO.step {s:ax} {l:List ad} {st:iO} (h:oO s l st) (hA:jc s.aD l) {x:ad} (hx:x∈l):oO s l (jy s st x):=by
 unfold jy
 split
 ·rename_i hf
  have h0:=pf hA h.sub hf
  exact⟨J9 h.Dm h0,fun y hy=>by rcases pr.1 hy with rfl|hy;exact hx;exact h.sub y hy,fun y hy=>by
   rcases List.mem_append.1 hy with hy|hy
   ·exact h.done y hy
   ·rw[List.mem_singleton.1 hy];exact hx,by rw[pH,List.length_append,List.length_singleton,h.len];omega⟩
 ·exact h
theorem GD {s:ax} {l:List ad} {st:iO} (h:oO s l st) (hA:jc s.aD l) {x:ad} (hx:x∈l):ph l (jy s st x).2+(jy s st x).1.length<=ph l st.2+st.1.length:=by
 unfold jy
 split
 ·rename_i hf
  have h0:=pf hA h.sub hf
  have:ph l (iK st.2 x)<ph l st.2:=filter_lt (x:=x) (fun y hy=>by
   simp only[decide_eq_true_eq,l5]at hy ⊢
   exact fun t ht=>hy t (pr.2 (.inr ht))) (by simpa using h0) (by
   simp only[decide_eq_false_iff_not,l5]
   exact fun h=>h x (pr.2 (.inl rfl)) rfl) hx
  simp only[List.length_append,List.length_singleton]
  omega
 ·exact Nat.le_refl _
noncomputable def fQ (s:ax) (l:List ad) (st:iO) (i:Nat):iO:=(l.take i).foldl (jy s) st
theorem rn (s:ax) (l:List ad) (st:iO) {i:Nat} (hi:i<l.length):fQ s l st (i+1)=jy s (fQ s l st i) (aL l i):=by
 unfold fQ
 rw[List.take_succ_eq_append_getElem hi,List.foldl_append,fm hi];rfl
theorem p7 (s:ax) (l:List ad) (st:iO):fQ s l st l.length=gH s l st:=by rw[fQ,List.take_length];rfl
theorem xR {s:ax} {l:List ad} {st:iO} (h:oO s l st) (hA:jc s.aD l):∀i,i<=l.length->oO s l (fQ s l st i)/\ph l (fQ s l st i).2+(fQ s l st i).1.length<=ph l st.2+st.1.length/\st.1.length<=(fQ s l st i).1.length
 |0,_=>by simp[fQ];exact h
 |i+1,hi=>by
  obtain⟨h1,h2,h3⟩:=xR h hA i (by omega)
  rw[rn s l st hi]
  refine⟨h1.step hA (gM hi),Nat.le_trans (GD h1 hA (gM hi)) h2,Nat.le_trans h3 ?_⟩
  unfold jy
  split
  ·simp
  ·exact Nat.le_refl _
theorem FD (l now:List ad):ph l now<=l.length:=List.length_filter_le _ _
structure Bw (s:ax):Prop where
 set:iF s.aD
 rJ:jc s.aD s.aX.ae
 some:1<=s.aX.ae.length
 HH:jf s.aA 1 16=true
theorem Bv.w {s:ax} (h:Bv s):Bw s:=⟨h.set,h.rJ,h.some,h.HH⟩
theorem tK {s:ax} {l:List ad} (hP:Bw s) (hA:jc s.aD l) (hW:fa s.aX.ae l=true):oO s l ([],s.aX.ae):=by
 refine⟨hP.rJ.1.Dm,fun x hx=>?_,fun x hx=>by(cases hx),rfl⟩
 unfold fa at hW
 rw[List.all_eq_true]at hW
 have h1:=of_decide_eq_true (hW x hx)
 have h2:=(ez (hP.rJ.2 x hx)).1
 have h0:0<=eG l x.aP:=by
  rcases Int.lt_or_le (eG l x.aP) 0 with h0|h0
  ·rw[gw,if_neg (by omega)]at h1;omega
  ·exact h0
 obtain⟨h3,h4⟩:=kO h0
 rw[gw,if_pos h0]at h1
 have:x=aL l (eG l x.aP).toNat:=by
  cases vP:aL l (eG l x.aP).toNat with
  |mk a t=>rw[vP]at h1 h4;cases x;simp_all
 rw[this];exact gM h3
theorem zi {s:ax} {l:List ad} {st:iO} (h:oO s l st) (hA:jc s.aD l) {n:Nat} (hn:ph l st.2<n):
  ((gH s l st).1.length=st.1.length->w8 s l n st=gH s l st)/\
  ((gH s l st).1.length≠st.1.length->∃m,n=m+1/\w8 s l n st=w8 s l m (gH s l st)/\ph l (gH s l st).2<m):=by
 obtain⟨m,rfl⟩:∃m,n=m+1:=⟨n-1,by omega⟩
 obtain⟨h1,h2,h3⟩:=xR h hA l.length (Nat.le_refl _)
 rw[p7]at h1 h2 h3
 refine⟨fun e=>by rw[w8,if_pos e],fun e=>⟨m,rfl,by rw[w8,if_neg e],by omega⟩⟩
end Go.Proofs.YtgoljkjaameagaaGreat.V

namespace Go.Proofs.YtgoljkjaameagaaGreat.V
open Go.RowKit
attribute [local irreducible] dL wpOps gC Call
attribute [local go_sem] aO fM eS ga fZ cU upd cD K.av cR AV.cells AV.cell rowOf rowsOf part ld rowAt bt cw dG ei iu bK dm eB fY e6 dt ep di dh dV dW bU bd cZ bQ db da ek er eo cY ck dj ej bP aQ dd cJ iq br cN bV aZ dr bc dH AV.undef bF bJ dX eh dR dO cK eA eC cI ev eu dc de List.getD_cons_zero List.getD_cons_succ List.getD_nil List.all_cons List.all_nil Bool.and_true Bool.true_and Bool.and_self Bool.not_true Bool.not_false Option.map_some Option.map_none Option.bind_some Option.bind_none List.length_cons List.length_nil List.take_succ_cons List.take_zero List.take_nil List.drop_succ_cons List.drop_zero List.drop_nil List.head?_cons List.map_cons List.map_nil List.getElem?_cons_zero List.getElem?_cons_succ List.cons_append List.nil_append List.append_nil List.length_map List.set_cons_zero List.set_cons_succ Nat.reduceMul eq_self Int.toNat_natCast Int.natCast_nonneg and_self true_and and_true decide_true decide_false Bool.false_eq_true Nat.zero_add Nat.add_zero List.contains_cons List.contains_nil Bool.or_false Bool.false_or beq_self_eq_true Nat.reduceBEq ne_eq not_true_eq_false not_false_eq_true Id.mk.injEq false_and and_false Nat.reduceLT Int.reduceLE Int.reduceLT Int.reduceToNat Int.reduceNeg Int.reduceAdd Nat.le_refl List.length_append beq_true beq_false Bool.not_eq_eq_eq_not or_false false_or dP ai aq aI bh bE cz aY bl aV bf cW bH
theorem Ng (g:Rows) (n:Nat) (x:ad):ef g (n+1) (aa x)=some (aa x):=by simp[aa,bD,cF,eQ]
def NU (n:Nat) (L:List ad) (r:AV) (σ':ar):Prop:=∃o:Id,r=.agg [.own o 0 L.length]/\σ'.get o=some ⟨true,3,L.map aa⟩/\n<=o.bW/\o.bW<σ'.next
theorem NU.val {f:Nat} {args eH:List AV} {L:List ad} {σ:ar} (h:∀n,Call Tryz.prog f eH ⟨fun _=>none,n⟩ (NU n L)) (hv:cV (dP σ.get) 6 args=some eH):Call Tryz.prog f args σ (fun r σ'=>NU σ.next L r σ'/\Kept σ σ'):=by
 refine Br mixed hv (aJ _ _ _ _ _ (fun r σ' hq=>?_) (yH mixed (h σ.next)))
 obtain⟨⟨o,rfl,h2,h3,h4⟩,hn⟩:=hq
 refine⟨[o],rfl,fun i hi=>?_,⟨o,rfl,(sW (by simp)).trans h2,h3,h4⟩,hn,fun j hj=>ql fun hc=>?_⟩
 ·rw[List.mem_singleton.1 hi]
  exact⟨_,h2,rfl,fun cs dx a ha=>by
   obtain⟨x,_,rfl⟩:=List.mem_map.1 dx
   simp[aa]at ha
   rcases ha with rfl|rfl|rfl<;>rfl⟩
 ·rw[List.mem_singleton.1 hc]at hj;omega
theorem JH (l:List ad) (hl:l.length<=1048576) (n0:Nat):Call Tryz.prog 96 [.dn [.sl (l.map aa)]] ⟨fun _=>none,n0⟩ (NU n0 l):=by
 refine eW eI rfl fun nB=>?_
 clear nB
 have LX:(l.map aa).length<=16777216:=by simp;omega
 have dE:(l.map aa).all (fun c=>c.length==3&&c.all AV.cell)=true:=all_map fun x=>⟨rfl,rfl⟩
 have FJ:(l.map aa).length=l.length:=by simp
 generalize po:l.map aa=rows at LX dE FJ
 (try((repeat(revert hN;revert N;apply Pn.out));refine wk (tw @LX @dE) ?_;(repeat(refine Pn.mk ?_;intro N hN))))
 exact ft (.inl rfl) (vs:=[.agg [.own ⟨96001005,n0+1⟩ 0 rows.length]]) (sd @Nat.zero_add) ⟨⟨96001005,n0+1⟩,by rw[FJ];rfl,by rw[po];simp only[go_sem, ↓reduceIte,Nat.reduceEqDiff,Nat.reduceAdd,Nat.reduceSub,Nat.reduceLeDiff,reduceCtorEq],by(try dsimp only);omega,by(try dsimp only);omega⟩
def uW (q:ad) (l:List ad):Bool:=l.any fun x=>jR q.aP x.aP
theorem CP {q:ad}:∀{l:List ad},uW q l=false->iK l q=l++[q]
 |[],_=>rfl
 |x::l,h=>by
  unfold uW at h
  rw[List.any_cons,Bool.or_eq_false_iff]at h
  rw[iK,if_neg (by rw[h.1];simp),CP h.2];rfl
theorem zC {q y:ad}:∀{l:List ad},uW q l=true->iK (l++[y]) q=iK l q++[y]
 |x::l,h=>by
  unfold uW at h
  rw[List.any_cons]at h
  rw[List.cons_append,iK,iK]
  cases hx:jR q.aP x.aP
  ·rw[hx,Bool.false_or]at h
   rw[if_neg (by simp),if_neg (by simp),zC h];rfl
  ·simp
theorem zA {q y:ad}:∀{l:List ad},uW q l=false->jR q.aP y.aP=true->iK (l++[y]) q=l++[q]++[y]
 |[],_,hy=>by simp[iK,hy]
 |x::l,h,hy=>by
  unfold uW at h
  rw[List.any_cons,Bool.or_eq_false_iff]at h
  rw[List.cons_append,iK,if_neg (by rw[h.1];simp),zA h.2 hy];rfl
def ji (q:ad) (l:List ad):List ad:=if uW q l=true then iK l q else l
theorem wH (q:ad) (l:List ad) (y:ad):uW q (l++[y])=(uW q l||jR q.aP y.aP):=by simp[uW]
theorem Hk (q:ad) (l:List ad):(ji q l).length<=l.length+1:=by
 unfold ji
 split
 ·rw[pH];omega
 ·omega
theorem J4 {q y:ad} {l:List ad} (h:uW q l=true∨jR q.aP y.aP=false):ji q (l++[y])=ji q l++[y]:=by
 unfold ji
 rw[wH]
 cases hd:uW q l
 ·rw[hd]at h
  have h2:jR q.aP y.aP=false:=by rcases h with h|h;cases h;exact h
  simp[h2]
 ·simp[zC hd]
theorem J3 {q y:ad} {l:List ad} (h:uW q l=false) (hy:jR q.aP y.aP=true):ji q (l++[y])=ji q l++[q]++[y]:=by
 unfold ji
 rw[wH,h,hy]
 simp[zA h hy]
def TN (m:Nat) (L:List ad) (v:AV) (g:Rows) (n:Nat):Prop:=(L=[]/\v=.cC)∨∃o:Id,v=.own o 0 L.length/\g o=some ⟨true,3,L.map aa⟩/\m<=o.bW/\o.bW<n
theorem KD {l:List ad} {k:Nat} (hk:k<l.length):l.take (k+1)=l.take k++[aL l k]:=by rw[List.take_succ_eq_append_getElem hk,fm hk]
theorem sE (L:List ad) (q:ad):(L++[q]).map aa=L.map aa++[[.int .i64 q.aP.fb,.int .i64 q.aP.eV,.int .i64 q.aT]]:=by rw[List.map_append];rfl
theorem iU (L:List ad) (q:ad):(L++[q]).length=L.length+1:=by rw[List.length_append];rfl
theorem JI (l:List ad) (hl:l.length<=1048576) (p:aH) (t:Int) (n0:Nat):Call Tryz.prog 162 [.dn [.sl (l.map aa)],.agg (ah p),.int .i64 t] ⟨fun _=>none,n0⟩ (NU n0 (iK l ⟨p,t⟩)):=by
 refine eW eI rfl fun nB=>?_
 clear nB
 obtain⟨q,hq⟩:∃q:ad,q=⟨p,t⟩:=⟨_,rfl⟩
 (try((repeat(revert hN;revert N;apply Pn.out));refine wk @ah.eq_1 ?_;(repeat(refine Pn.mk ?_;intro N hN))))
 refine aW (fun n env st=>∃i:Nat,n=(l.length)-i/\i<=(l.length)/\env 9=.int .i64 (i:Int)/\env 8=.bool (uW q (l.take i))/\st.get ⟨162000000,n0⟩=some ⟨true,2,[ah p]⟩/\st.get ⟨162000001,n0⟩=some ⟨true,1,[[.cC]]⟩/\(n0+2<=st.next/\∃v,st.get ⟨162001001,n0+1⟩=some ⟨true,1,[[v]]⟩/\TN (n0+2) (ji q (l.take i)) v st.get st.next)) (l.length) ⟨0,by omega,by omega,sl @ah.eq_1,sl @ah.eq_1,sl @ah.eq_1,sl @ah.eq_1,by(try dsimp only);exact⟨by omega,.cC,sd @Nat.zero_add,.inl ⟨rfl,rfl⟩⟩⟩ ?_
 rintro n_a env_a st_a ⟨i,rfl,ale,a9,a8,ag0,ag1,me⟩ dJ
 have a0:=dJ 0 (by kernel_rfl);have a2:=dJ 2 (by kernel_rfl);have a4:=dJ 4 (by kernel_rfl);have a6:=dJ 6 (by kernel_rfl);have a7:=dJ 7 (by kernel_rfl)
 simp only[go_sem, ↓reduceIte,Nat.reduceEqDiff,Nat.reduceAdd,Nat.reduceSub,Nat.reduceLeDiff,reduceCtorEq,ah]at a0 a2 a4 a6 a7
 clear dJ
 obtain⟨an,v,av,aG⟩:=me
 have vA:=dv (i:=⟨162000000,n0⟩) (n:=st_a.next) (by(try dsimp only);omega)
 have vB:=dv (i:=⟨162000001,n0⟩) (n:=st_a.next) (by(try dsimp only);omega)
 have vC:=dv (i:=⟨162001001,n0+1⟩) (n:=st_a.next) (by(try dsimp only);omega)
 have L0:=Hk q (l.take i)
 rw[List.length_take]at L0
 by_cases hi:(i:Int)<(l.length:Int)
 ·have cG:∀{e:Env} {gg:Rows} {nx:Nat},(e 9=.int .i64 (IntKind.i64.wrap ((i:Int)+1)))->(e 8=.bool (uW q (l.take (i+1))))->(gg ⟨162000000,n0⟩=some ⟨true,2,[ah p]⟩)->(gg ⟨162000001,n0⟩=some ⟨true,1,[[.cC]]⟩)->(n0+2<=nx/\∃v,gg ⟨162001001,n0+1⟩=some ⟨true,1,[[v]]⟩/\TN (n0+2) (ji q (l.take (i+1))) v gg nx)->∃m0,m0<(l.length)-i/\∃i:Nat,m0=(l.length)-i/\i<=(l.length)/\e 9=.int .i64 (i:Int)/\e 8=.bool (uW q (l.take i))/\gg ⟨162000000,n0⟩=some ⟨true,2,[ah p]⟩/\gg ⟨162000001,n0⟩=some ⟨true,1,[[.cC]]⟩/\(n0+2<=nx/\∃v,gg ⟨162001001,n0+1⟩=some ⟨true,1,[[v]]⟩/\TN (n0+2) (ji q (l.take i)) v gg nx):=fun x1 x2 x3 x4 x5=>⟨_,by omega,i+1,rfl,by omega,(by rw[x1,aB (by omega)]),x2,x3,x4,x5⟩
  have fB:i<l.length:=by omega
  have kh:=fC fB
  have dY:=oP p (aL l i).aP
  have oF:=KD fB
  have Vo:jR q.aP (aL l i).aP=jR p (aL l i).aP:=by rw[hq]
  have lF:(l.map aa).length=l.length:=by simp
  have K8:=wH q (l.take i) (aL l i)
  rw[<-oF,Vo]at K8
  rw[ah,ah]at dY
  by_cases hc:uW q (l.take i)=true∨jR p (aL l i).aP=false
  ·have lG:=J4 (q:=q) (y:=aL l i) (l:=l.take i) (by rw[Vo];exact hc)
   rw[<-oF]at lG
   generalize ji q (l.take i)=L at aG lG L0
   have yp:=iU L (aL l i)
   have sk:=sE L (aL l i)
   have oy:uW q (l.take (i+1))=uW q (l.take i):=by
    rw[K8]
    rcases hc with h|h<;>rw[h]<;>simp
   rcases aG with⟨hL,rfl⟩|⟨o,rfl,ao,aon,aov⟩
   ·subst hL
    cases hd:uW q (l.take i)
    ·have h2:jR p (aL l i).aP=false:=by rcases hc with h|h;rw[hd]at h;cases h;exact h
     rw[h2]at dY
     rw[hd]at a8 oy
     (repeat(first|((repeat(revert hN;revert N;apply Pn.out));refine wk (tw @a9 (tw @a8 (tw @ag0 (tw @ag1 (tw @a0 (tw @a2 (tw @a4 (tw @a6 (tw @a7 (tw @hi (tw @kh (tw @vA (tw @vB (tw @vC (tw @av (tw @lF (tw @ah.eq_1 @aa.eq_1))))))))))))))))) ?_;(repeat(refine Pn.mk ?_;intro N hN)))|((try apply Or.inl);refine⟨_,aj.x (dY) (sd (tw @a9 (tw @a8 (tw @ag0 (tw @ag1 (tw @a0 (tw @a2 (tw @a4 (tw @a6 (tw @a7 (tw @hi (tw @kh (tw @vA (tw @vB (tw @vC (tw @av (tw @lF (tw @ah.eq_1 @aa.eq_1)))))))))))))))))),?_⟩;refine hN _ _ ?_;clear hN N)))
     refine cG ?_ ?_ ?_ ?_ (by(try dsimp only);exact⟨by omega,_,sl @Nat.zero_add,.inr ⟨⟨162009010,st_a.next+1+1⟩,by rw[lG,yp]<;>(simp only[go_sem, ↓reduceIte,Nat.reduceEqDiff,Nat.reduceAdd,Nat.reduceSub,Nat.reduceLeDiff,reduceCtorEq]<;>rfl),by rw[lG,sk]<;>(simp only[go_sem, ↓reduceIte,Nat.reduceEqDiff,Nat.reduceAdd,Nat.reduceSub,Nat.reduceLeDiff,reduceCtorEq]<;>rfl),by(try dsimp only);omega,by(try dsimp only);omega⟩⟩)
     all_goals simp only[go_sem, ↓reduceIte,Nat.reduceEqDiff,Nat.reduceAdd,Nat.reduceSub,Nat.reduceLeDiff,reduceCtorEq,a9,a8,ag0,ag1,a0,a2,a4,a6,a7,oy,vA,vB,vC,ah]
    ·rw[hd]at a8 oy
     (try((repeat(revert hN;revert N;apply Pn.out));refine wk (tw @a9 (tw @a8 (tw @ag0 (tw @ag1 (tw @a0 (tw @a2 (tw @a4 (tw @a6 (tw @a7 (tw @hi (tw @kh (tw @vA (tw @vB (tw @vC (tw @av (tw @lF (tw @ah.eq_1 @aa.eq_1))))))))))))))))) ?_;(repeat(refine Pn.mk ?_;intro N hN))))
     refine cG ?_ ?_ ?_ ?_ (by(try dsimp only);exact⟨by omega,_,sl @Nat.zero_add,.inr ⟨⟨162009010,st_a.next+1+1⟩,by rw[lG,yp]<;>(simp only[go_sem, ↓reduceIte,Nat.reduceEqDiff,Nat.reduceAdd,Nat.reduceSub,Nat.reduceLeDiff,reduceCtorEq]<;>rfl),by rw[lG,sk]<;>(simp only[go_sem, ↓reduceIte,Nat.reduceEqDiff,Nat.reduceAdd,Nat.reduceSub,Nat.reduceLeDiff,reduceCtorEq]<;>rfl),by(try dsimp only);omega,by(try dsimp only);omega⟩⟩)
     all_goals simp only[go_sem, ↓reduceIte,Nat.reduceEqDiff,Nat.reduceAdd,Nat.reduceSub,Nat.reduceLeDiff,reduceCtorEq,a9,a8,ag0,ag1,a0,a2,a4,a6,a7,oy,vA,vB,vC,ah]
   ·have vo:=dv aov
    have oA:=cH (a:=⟨162000000,n0⟩) (b:=o) (by(try dsimp only);omega)
    have oB:=cH (a:=⟨162000001,n0⟩) (b:=o) (by(try dsimp only);omega)
    have oC:=cH (a:=⟨162001001,n0+1⟩) (b:=o) (by(try dsimp only);omega)
    have Nl:(L.map aa).length=L.length:=by simp
    have Nk:L.length<=16777215:=by omega
    cases hd:uW q (l.take i)
    ·have h2:jR p (aL l i).aP=false:=by rcases hc with h|h;rw[hd]at h;cases h;exact h
     rw[h2]at dY
     rw[hd]at a8 oy
     (repeat(first|((repeat(revert hN;revert N;apply Pn.out));refine wk (tw @a9 (tw @a8 (tw @ag0 (tw @ag1 (tw @a0 (tw @a2 (tw @a4 (tw @a6 (tw @a7 (tw @hi (tw @kh (tw @vA (tw @vB (tw @vC (tw @vo (tw @oA (tw @oB (tw @oC (tw @ao (tw @av (tw @lF (tw @Nl (tw @Nk (tw @ah.eq_1 @aa.eq_1)))))))))))))))))))))))) ?_;(repeat(refine Pn.mk ?_;intro N hN)))|((try apply Or.inl);refine⟨_,aj.x (dY) (sd (tw @a9 (tw @a8 (tw @ag0 (tw @ag1 (tw @a0 (tw @a2 (tw @a4 (tw @a6 (tw @a7 (tw @hi (tw @kh (tw @vA (tw @vB (tw @vC (tw @vo (tw @oA (tw @oB (tw @oC (tw @ao (tw @av (tw @lF (tw @Nl (tw @Nk (tw @ah.eq_1 @aa.eq_1))))))))))))))))))))))))),?_⟩;refine hN _ _ ?_;clear hN N)))
     refine cG ?_ ?_ ?_ ?_ (by(try dsimp only);exact⟨by omega,_,sl @Nat.zero_add,.inr ⟨⟨162009010,st_a.next+1+1⟩,by rw[lG,yp]<;>(simp only[go_sem, ↓reduceIte,Nat.reduceEqDiff,Nat.reduceAdd,Nat.reduceSub,Nat.reduceLeDiff,reduceCtorEq]<;>rfl),by rw[lG,sk]<;>(simp only[go_sem, ↓reduceIte,Nat.reduceEqDiff,Nat.reduceAdd,Nat.reduceSub,Nat.reduceLeDiff,reduceCtorEq]<;>rfl),by(try dsimp only);omega,by(try dsimp only);omega⟩⟩)
     all_goals simp only[go_sem, ↓reduceIte,Nat.reduceEqDiff,Nat.reduceAdd,Nat.reduceSub,Nat.reduceLeDiff,reduceCtorEq,a9,a8,ag0,ag1,a0,a2,a4,a6,a7,oy,vA,vB,vC,oA,oB,oC,ah]
    ·rw[hd]at a8 oy
     (try((repeat(revert hN;revert N;apply Pn.out));refine wk (tw @a9 (tw @a8 (tw @ag0 (tw @ag1 (tw @a0 (tw @a2 (tw @a4 (tw @a6 (tw @a7 (tw @hi (tw @kh (tw @vA (tw @vB (tw @vC (tw @vo (tw @oA (tw @oB (tw @oC (tw @ao (tw @av (tw @lF (tw @Nl (tw @Nk (tw @ah.eq_1 @aa.eq_1)))))))))))))))))))))))) ?_;(repeat(refine Pn.mk ?_;intro N hN))))
     refine cG ?_ ?_ ?_ ?_ (by(try dsimp only);exact⟨by omega,_,sl @Nat.zero_add,.inr ⟨⟨162009010,st_a.next+1+1⟩,by rw[lG,yp]<;>(simp only[go_sem, ↓reduceIte,Nat.reduceEqDiff,Nat.reduceAdd,Nat.reduceSub,Nat.reduceLeDiff,reduceCtorEq]<;>rfl),by rw[lG,sk]<;>(simp only[go_sem, ↓reduceIte,Nat.reduceEqDiff,Nat.reduceAdd,Nat.reduceSub,Nat.reduceLeDiff,reduceCtorEq]<;>rfl),by(try dsimp only);omega,by(try dsimp only);omega⟩⟩)
     all_goals simp only[go_sem, ↓reduceIte,Nat.reduceEqDiff,Nat.reduceAdd,Nat.reduceSub,Nat.reduceLeDiff,reduceCtorEq,a9,a8,ag0,ag1,a0,a2,a4,a6,a7,oy,vA,vB,vC,oA,oB,oC,ah]
  ·have hd:uW q (l.take i)=false:=by
    cases h:uW q (l.take i)
    ·rfl
    ·exact absurd (.inl h) hc
   have h2:jR p (aL l i).aP=true:=by
    cases h:jR p (aL l i).aP
    ·exact absurd (.inr h) hc
    ·rfl
   have lG:=J3 (q:=q) (y:=aL l i) hd (by rw[Vo];exact h2)
   rw[<-oF]at lG
   have oy:uW q (l.take (i+1))=true:=by rw[K8,h2];simp
   rw[hd]at a8
   rw[h2]at dY
   have Tq:aa q=[.int .i64 p.fb,.int .i64 p.eV,.int .i64 t]:=by rw[hq];rfl
   generalize ji q (l.take i)=L at aG lG L0
   have yp:=iU (L++[q]) (aL l i)
   have sk:=sE (L++[q]) (aL l i)
   have Ve:=iU L q
   have Vf:(L++[q]).map aa=L.map aa++[[.int .i64 p.fb,.int .i64 p.eV,.int .i64 t]]:=by rw[List.map_append,List.map_singleton,Tq]
   rw[Ve]at yp
   rw[Vf]at sk
   rcases aG with⟨hL,rfl⟩|⟨o,rfl,ao,aon,aov⟩
   ·subst hL
    (repeat(first|((repeat(revert hN;revert N;apply Pn.out));refine wk (tw @a9 (tw @a8 (tw @ag0 (tw @ag1 (tw @a0 (tw @a2 (tw @a4 (tw @a6 (tw @a7 (tw @hi (tw @kh (tw @vA (tw @vB (tw @vC (tw @av (tw @lF (tw @ah.eq_1 @aa.eq_1))))))))))))))))) ?_;(repeat(refine Pn.mk ?_;intro N hN)))|((try apply Or.inl);refine⟨_,aj.x (dY) (sd (tw @a9 (tw @a8 (tw @ag0 (tw @ag1 (tw @a0 (tw @a2 (tw @a4 (tw @a6 (tw @a7 (tw @hi (tw @kh (tw @vA (tw @vB (tw @vC (tw @av (tw @lF (tw @ah.eq_1 @aa.eq_1)))))))))))))))))),?_⟩;refine hN _ _ ?_;clear hN N)))
    refine cG ?_ ?_ ?_ ?_ (by(try dsimp only);exact⟨by omega,_,sl @Nat.zero_add,.inr ⟨⟨162009010,st_a.next+1+1+1+1⟩,by rw[lG,yp]<;>(simp only[go_sem, ↓reduceIte,Nat.reduceEqDiff,Nat.reduceAdd,Nat.reduceSub,Nat.reduceLeDiff,reduceCtorEq]<;>rfl),by rw[lG,sk]<;>(simp only[go_sem, ↓reduceIte,Nat.reduceEqDiff,Nat.reduceAdd,Nat.reduceSub,Nat.reduceLeDiff,reduceCtorEq]<;>rfl),by(try dsimp only);omega,by(try dsimp only);omega⟩⟩)
    all_goals simp only[go_sem, ↓reduceIte,Nat.reduceEqDiff,Nat.reduceAdd,Nat.reduceSub,Nat.reduceLeDiff,reduceCtorEq,a9,a8,ag0,ag1,a0,a2,a4,a6,a7,oy,vA,vB,vC,ah]
   ·have vo:=dv aov
    have oA:=cH (a:=⟨162000000,n0⟩) (b:=o) (by(try dsimp only);omega)
    have oB:=cH (a:=⟨162000001,n0⟩) (b:=o) (by(try dsimp only);omega)
    have oC:=cH (a:=⟨162001001,n0+1⟩) (b:=o) (by(try dsimp only);omega)
    have Nl:(L.map aa).length=L.length:=by simp
    have Nk:L.length<=16777214:=by omega
    have Q7:L.length<=16777215:=by omega
    (repeat(first|((repeat(revert hN;revert N;apply Pn.out));refine wk (tw @a9 (tw @a8 (tw @ag0 (tw @ag1 (tw @a0 (tw @a2 (tw @a4 (tw @a6 (tw @a7 (tw @hi (tw @kh (tw @vA (tw @vB (tw @vC (tw @vo (tw @oA (tw @oB (tw @oC (tw @ao (tw @av (tw @lF (tw @Nl (tw @Nk (tw @Q7 (tw @ah.eq_1 @aa.eq_1))))))))))))))))))))))))) ?_;(repeat(refine Pn.mk ?_;intro N hN)))|((try apply Or.inl);refine⟨_,aj.x (dY) (sd (tw @a9 (tw @a8 (tw @ag0 (tw @ag1 (tw @a0 (tw @a2 (tw @a4 (tw @a6 (tw @a7 (tw @hi (tw @kh (tw @vA (tw @vB (tw @vC (tw @vo (tw @oA (tw @oB (tw @oC (tw @ao (tw @av (tw @lF (tw @Nl (tw @Nk (tw @Q7 (tw @ah.eq_1 @aa.eq_1)))))))))))))))))))))))))),?_⟩;refine hN _ _ ?_;clear hN N)))
    refine cG ?_ ?_ ?_ ?_ (by(try dsimp only);exact⟨by omega,_,sl @Nat.zero_add,.inr ⟨⟨162009010,st_a.next+1+1+1+1⟩,by rw[lG,yp]<;>(simp only[go_sem, ↓reduceIte,Nat.reduceEqDiff,Nat.reduceAdd,Nat.reduceSub,Nat.reduceLeDiff,reduceCtorEq]<;>rfl),by rw[lG,sk]<;>(simp only[go_sem, ↓reduceIte,Nat.reduceEqDiff,Nat.reduceAdd,Nat.reduceSub,Nat.reduceLeDiff,reduceCtorEq]<;>rfl),by(try dsimp only);omega,by(try dsimp only);omega⟩⟩)
    all_goals simp only[go_sem, ↓reduceIte,Nat.reduceEqDiff,Nat.reduceAdd,Nat.reduceSub,Nat.reduceLeDiff,reduceCtorEq,a9,a8,ag0,ag1,a0,a2,a4,a6,a7,oy,vA,vB,vC,oA,oB,oC,ah]
 ·have lV:i=l.length:=by omega
  subst lV
  rw[List.take_length]at a8 aG L0
  cases hd:uW q l
  ·rw[hd]at a8
   have lG:iK l ⟨p,t⟩=ji q l++[q]:=by rw[<-hq,CP hd,ji,hd];simp
   have Tq:aa q=[.int .i64 p.fb,.int .i64 p.eV,.int .i64 t]:=by rw[hq];rfl
   generalize ji q l=L at aG L0 lG
   have yp:=iU L q
   have sk:(L++[q]).map aa=L.map aa++[[.int .i64 p.fb,.int .i64 p.eV,.int .i64 t]]:=by rw[List.map_append,List.map_singleton,Tq]
   rcases aG with⟨hL,rfl⟩|⟨o,rfl,ao,aon,aov⟩
   ·subst hL
    (try((repeat(revert hN;revert N;apply Pn.out));refine wk (tw @a9 (tw @a8 (tw @ag0 (tw @ag1 (tw @a0 (tw @a2 (tw @a4 (tw @a6 (tw @a7 (tw @hi (tw @vA (tw @vB (tw @vC (tw @av (tw @ah.eq_1 @aa.eq_1))))))))))))))) ?_;(repeat(refine Pn.mk ?_;intro N hN))))
    exact ft (.inl rfl) (vs:=[.agg [.own ⟨162011006,st_a.next+1+1⟩ 0 1]]) (sd (tw @a9 (tw @a8 (tw @ag0 (tw @ag1 (tw @a0 (tw @a2 (tw @a4 (tw @a6 (tw @a7 @vB)))))))))) ⟨⟨162011006,st_a.next+1+1⟩,by rw[lG];rfl,by rw[lG];simp only[go_sem, ↓reduceIte,Nat.reduceEqDiff,Nat.reduceAdd,Nat.reduceSub,Nat.reduceLeDiff,reduceCtorEq,vB];rw[Tq],by(try dsimp only);omega,by(try dsimp only);omega⟩
   ·have vo:=dv aov
    have oA:=cH (a:=⟨162000000,n0⟩) (b:=o) (by(try dsimp only);omega)
    have oB:=cH (a:=⟨162000001,n0⟩) (b:=o) (by(try dsimp only);omega)
    have oC:=cH (a:=⟨162001001,n0+1⟩) (b:=o) (by(try dsimp only);omega)
    have Nl:(L.map aa).length=L.length:=by simp
    have Nk:L.length<=16777215:=by omega
    (try((repeat(revert hN;revert N;apply Pn.out));refine wk (tw @a9 (tw @a8 (tw @ag0 (tw @ag1 (tw @a0 (tw @a2 (tw @a4 (tw @a6 (tw @a7 (tw @hi (tw @vA (tw @vB (tw @vC (tw @vo (tw @oA (tw @oB (tw @oC (tw @ao (tw @av (tw @Nl (tw @Nk (tw @ah.eq_1 @aa.eq_1)))))))))))))))))))))) ?_;(repeat(refine Pn.mk ?_;intro N hN))))
    exact ft (.inl rfl) (vs:=[.agg [.own ⟨162011006,st_a.next+1+1⟩ 0 (L.length+1)]]) (sd (tw @a9 (tw @a8 (tw @ag0 (tw @ag1 (tw @a0 (tw @a2 (tw @a4 (tw @a6 (tw @a7 @vB)))))))))) ⟨⟨162011006,st_a.next+1+1⟩,by rw[lG,yp];rfl,by rw[lG,sk];simp only[go_sem, ↓reduceIte,Nat.reduceEqDiff,Nat.reduceAdd,Nat.reduceSub,Nat.reduceLeDiff,reduceCtorEq,vB],by(try dsimp only);omega,by(try dsimp only);omega⟩
  ·rw[hd]at a8
   have lG:iK l ⟨p,t⟩=ji q l:=by rw[<-hq,ji,hd];simp
   have kF:0<(ji q l).length:=by rw[<-lG,pH];omega
   generalize ji q l=L at aG L0 kF lG
   rcases aG with⟨hL,rfl⟩|⟨o,rfl,ao,aon,aov⟩
   ·subst hL;cases kF
   ·have vo:=dv aov
    have oB:=cH (a:=⟨162000001,n0⟩) (b:=o) (by(try dsimp only);omega)
    (try((repeat(revert hN;revert N;apply Pn.out));refine wk (tw @a9 (tw @a8 (tw @ag0 (tw @ag1 (tw @a0 (tw @a2 (tw @a4 (tw @a6 (tw @a7 (tw @hi (tw @vA (tw @vB (tw @vC (tw @vo (tw @ao (tw @av (tw @ah.eq_1 @aa.eq_1))))))))))))))))) ?_;(repeat(refine Pn.mk ?_;intro N hN))))
    exact ft (.inl rfl) (vs:=[.agg [.own o 0 L.length]]) (sd (tw @a9 (tw @a8 (tw @ag0 (tw @ag1 (tw @a0 (tw @a2 (tw @a4 (tw @a6 (tw @a7 @vB)))))))))) ⟨o,by rw[lG];rfl,by rw[lG];simp only[go_sem, ↓reduceIte,Nat.reduceEqDiff,Nat.reduceAdd,Nat.reduceSub,Nat.reduceLeDiff,reduceCtorEq,vB,oB,ao],by(try dsimp only);omega,by(try dsimp only);omega⟩
theorem JK (s:ax) (hP:Bw s) (l:List ad) (hA:jc s.aD l) (p:aH) (t:Int) (ht:eO s.aD t=true):aj Tryz.prog 171 [.dn (au s),.dn [.sl (l.map aa)],.agg [.int .i64 p.fb,.int .i64 p.eV,.int .i64 t]] (.bool (jH s l p t)):=by
 refine aj.body eI rfl fun nB n0=>?_
 clear nB
 have h1:=xb p
 have h2:=(xc s.aD t).cut mixed (.ptr _ [.sl (s.aX.ae.map aa),.int .i64 s.aA] (.same _ .nil))
 have h3:=rC l p hA.1.Dm (by have:=hA.1.oJ;omega)
 rw[ht]at h2
 by_cases h0:CO p=true
 ·rw[h0]at h1
  obtain⟨hx,hy⟩:=tR h0
  by_cases hi:eG l p<0
  ·have h4:=(Aq s.aD hP.set l hA p hx hy t ht).cut mixed (.ptr _ [.sl (s.aX.ae.map aa),.int .i64 s.aA] (.same _ (.same _ (.same _ .nil))))
   have e:jH s l p t=decide (s.aA<=uk s.aD (gw l) p t):=by simp[jH,h0,(Iq hA p).2 hi]
   rw[e]
   (repeat(first|((repeat(revert hN;revert N;apply Pn.out));refine wk (tw @au.eq_1 (tw @ab.eq_1 (tw @ah.eq_1 @hi))) ?_;(repeat(refine Pn.mk ?_;intro N hN)))|((try apply Or.inl);refine⟨_,aj.x (h1) (sd (tw @au.eq_1 (tw @ab.eq_1 (tw @ah.eq_1 @hi)))),?_⟩;refine hN _ _ ?_;clear hN N)|((try apply Or.inl);refine⟨_,aj.x (h2) (sd (tw @au.eq_1 (tw @ab.eq_1 (tw @ah.eq_1 @hi)))),?_⟩;refine hN _ _ ?_;clear hN N)|((try apply Or.inl);refine⟨_,aj.x (h3) (sd (tw @au.eq_1 (tw @ab.eq_1 (tw @ah.eq_1 @hi)))),?_⟩;refine hN _ _ ?_;clear hN N)|((try apply Or.inl);refine⟨_,aj.x (h4) (sd (tw @au.eq_1 (tw @ab.eq_1 (tw @ah.eq_1 @hi)))),?_⟩;refine hN _ _ ?_;clear hN N)))
   exact aU (b:=decide (s.aA<=uk s.aD (gw l) p t)) (.inl rfl) (sd @Nat.zero_add) rfl
  ·have e:jH s l p t=false:=by
    have:¬gw l p<0:=fun h=>hi ((Iq hA p).1 h)
    simp[jH,this]
   rw[e]
   (repeat(first|((repeat(revert hN;revert N;apply Pn.out));refine wk (tw @au.eq_1 (tw @ab.eq_1 (tw @ah.eq_1 @hi))) ?_;(repeat(refine Pn.mk ?_;intro N hN)))|((try apply Or.inl);refine⟨_,aj.x (h1) (sd (tw @au.eq_1 (tw @ab.eq_1 (tw @ah.eq_1 @hi)))),?_⟩;refine hN _ _ ?_;clear hN N)|((try apply Or.inl);refine⟨_,aj.x (h2) (sd (tw @au.eq_1 (tw @ab.eq_1 (tw @ah.eq_1 @hi)))),?_⟩;refine hN _ _ ?_;clear hN N)|((try apply Or.inl);refine⟨_,aj.x (h3) (sd (tw @au.eq_1 (tw @ab.eq_1 (tw @ah.eq_1 @hi)))),?_⟩;refine hN _ _ ?_;clear hN N)))
   exact aU (b:=false) (.inl rfl) (sd @Nat.zero_add) rfl
 ·rw[Bool.not_eq_true]at h0
  rw[h0]at h1
  have e:jH s l p t=false:=by simp[jH,h0]
  rw[e]
  (repeat(first|((repeat(revert hN;revert N;apply Pn.out));refine wk (tw @au.eq_1 (tw @ab.eq_1 @ah.eq_1)) ?_;(repeat(refine Pn.mk ?_;intro N hN)))|((try apply Or.inl);refine⟨_,aj.x (h1) (sd (tw @au.eq_1 (tw @ab.eq_1 @ah.eq_1))),?_⟩;refine hN _ _ ?_;clear hN N)))
  exact aU (b:=false) (.inl rfl) (sd @Nat.zero_add) rfl
theorem F2 {g:Rows} {X o:Id} {L:List ad} (hX:g X=some ⟨true,1,[[.own o 0 L.length]]⟩) (ho:g o=some ⟨true,3,L.map aa⟩):fz (dP g) 6 (.ptr X 0 0)=some (.dn [.sl (L.map aa)]):=by
 have h1:fz (dP g) 5 (.own o 0 L.length)=some (.sl (L.map aa)):=gy (e:=aa) (sz:=3) (by simp[dP,ho]) rfl fun x=>by simp[aa,ai,aq,aI]
 exact wP (n:=5) (sz:=1) (rows:=[[.own o 0 L.length]]) (cs:=[.own o 0 L.length]) (by simp[dP,hX]) rfl (by simp[ai,aq,h1])
def TP (X:Id) (st:iO) (e7:AV) (g:Rows) (n:Nat):Prop:=∃o u:Id,g X=some ⟨true,1,[[.own o 0 st.2.length]]⟩/\g o=some ⟨true,3,st.2.map aa⟩/\e7=.own u 0 st.1.length/\g u=some ⟨true,3,st.1.map aa⟩/\o.bW<u.bW/\X.bW<u.bW/\u.bW<n/\o≠X
theorem TP.frame {X:Id} {st:iO} {e7 Nc:AV} {g g':Rows} {n n':Nat} (h:TP X st e7 g n) (he:Nc=e7) (hn:n<=n') (hf:∀x:Id,x.bW<n->g' x=g x):TP X st Nc g' n':=by
 obtain⟨o,u,h1,h2,h3,h4,h5,h6,h7,h8⟩:=h
 exact⟨o,u,(hf X (by omega)).trans h1,(hf o (by omega)).trans h2,he.trans h3,(hf u h7).trans h4,h5,h6,by omega,h8⟩
theorem uD {s:ax} {st:iO} {x:ad} (h:jH s st.2 x.aP x.aT=true):jy s st x=(st.1++[x],iK st.2 x):=if_pos h
theorem w9 {s:ax} {st:iO} {x:ad} (h:jH s st.2 x.aP x.aT=false):jy s st x=st:=if_neg (by rw[h];simp)
def TD (ps:List aH) (i:Nat):aH:=ps.getD i ⟨0,0⟩
theorem Ka {ps:List aH} {i:Nat} (h:i<ps.length):TD ps i=ps[i]:=by simp[TD,List.getD_eq_getElem?_getD,h]
def QM (ps:List aH):Prop:=ps.Pairwise fun a b=>jR a b=true
theorem QM.at_ {ps:List aH} (h:QM ps) {i j:Nat} (D7:i<j) (hj:j<ps.length):jR (TD ps i) (TD ps j)=true:=by
 rw[Ka hj,Ka (by omega)]
 exact List.pairwise_iff_getElem.1 h i j (by omega) hj D7
end Go.Proofs.YtgoljkjaameagaaGreat.V

namespace Go.Proofs.YtgoljkjaameagaaGreat.V
open Go.RowKit Go.Shelf Go.Lib Go.Sort
instance:Inhabited aH:=⟨⟨0,0⟩⟩
variable {P:Program} {w:World} {D:Nat->Prop} {ι:Names}
theorem Kb {vs:Array Value} (h:fu P w D ι [] vs):vs= #[]:=Array.eq_empty_of_size_eq_zero h.1
theorem zE {a:AV} {r:List AV} {vs:Array Value} (h:fu P w D ι (a::r) vs):∃u us,vs=(u::us).toArray/\cL P w D ι a u/\fu P w D ι r us.toArray:=by
 obtain⟨h1,h2⟩:=h
 obtain⟨l⟩:=vs
 cases l with
 |nil=>simp at h1
 |cons u us=>
  obtain⟨u',hu,hr⟩:=h2 0 a rfl
  simp at hu;subst hu
  exact⟨u,us,rfl,hr,by simpa using h1,fun j b hj=>by
   obtain⟨v,hv,lW⟩:=h2 (j+1) b (by simpa using hj)
   exact⟨v,by simpa using hv,lW⟩⟩
end Go.Proofs.YtgoljkjaameagaaGreat.V

namespace Go.Proofs
open Go.Shelf
def Tryz.ER:Go.Shelf.Ren:=⟨fun|6=>185|15=>209|14=>250|28=>271|29=>272|20=>289|21=>290|22=>291|23=>292|24=>293|25=>294|26=>295|27=>296|46=>324|47=>307|48=>308|49=>325|50=>326|57=>336|n=>n,fun|22=>40|24=>171|25=>244|3=>3|39=>273|0=>0|53=>333|55=>335|4=>4|46=>327|45=>326|50=>223|5=>5|9=>9|66=>360|70=>364|76=>382|77=>383|n=>n,fun|n=>n⟩
theorem Tryz.Kq:Go.Proofs.SlLaysF0.n6 Tryz.prog Tryz.ER:={
 mixed:=by kernel_rfl
 f6:=⟨Tryz.f185.name,by decide,Tryz.func185.trans (congrArg some (by kernel_rfl))⟩
 f14:=⟨Tryz.f250.name,by decide,Tryz.func250.trans (congrArg some (by kernel_rfl))⟩
 f15:=Tryz.func209.trans (congrArg some (by kernel_rfl))
 f20:=⟨Tryz.f289.name,by decide,Tryz.func289.trans (congrArg some (by kernel_rfl))⟩
 f21:=⟨Tryz.f290.name,by decide,Tryz.func290.trans (congrArg some (by kernel_rfl))⟩
 f22:=⟨Tryz.f291.name,by decide,Tryz.func291.trans (congrArg some (by kernel_rfl))⟩
 f23:=⟨Tryz.f292.name,by decide,Tryz.func292.trans (congrArg some (by kernel_rfl))⟩
 f24:=⟨Tryz.f293.name,by decide,Tryz.func293.trans (congrArg some (by kernel_rfl))⟩
 f25:=⟨Tryz.f294.name,by decide,Tryz.func294.trans (congrArg some (by kernel_rfl))⟩
 f26:=⟨Tryz.f295.name,by decide,Tryz.func295.trans (congrArg some (by kernel_rfl))⟩
 f27:=⟨Tryz.f296.name,by decide,Tryz.func296.trans (congrArg some (by kernel_rfl))⟩
 f28:=Tryz.func271.trans (congrArg some (by kernel_rfl))
 f29:=Tryz.func272.trans (congrArg some (by kernel_rfl))
 f46:=⟨Tryz.f324.name,by decide,Tryz.func324.trans (congrArg some (by kernel_rfl))⟩
 f47:=Tryz.func307.trans (congrArg some (by kernel_rfl))
 f48:=Tryz.func308.trans (congrArg some (by kernel_rfl))
 f49:=⟨Tryz.f325.name,by decide,Tryz.func325.trans (congrArg some (by kernel_rfl))⟩
 f50:=⟨Tryz.f326.name,by decide,Tryz.func326.trans (congrArg some (by kernel_rfl))⟩
 f57:=⟨Tryz.f336.name,by decide,Tryz.func336.trans (congrArg some (by kernel_rfl))⟩
 t0:=Tryz.underlying0
 a0:=Tryz.isAgg0
 z0:=Tryz.sizeOf0
 v0:=Tryz.zeroValue0
 t3:=Tryz.underlying3
 a3:=Tryz.isAgg3
 z3:=Tryz.sizeOf3
 v3:=Tryz.zeroValue3
 t4:=Tryz.underlying4
 a4:=Tryz.isAgg4
 z4:=Tryz.sizeOf4
 v4:=Tryz.zeroValue4
 t5:=Tryz.underlying5
 a5:=Tryz.isAgg5
 z5:=Tryz.sizeOf5
 v5:=Tryz.zeroValue5
 t9:=Tryz.underlying9
 a9:=Tryz.isAgg9
 z9:=Tryz.sizeOf9
 v9:=Tryz.zeroValue9
 t22:=Tryz.underlying40
 a22:=Tryz.isAgg40
 z22:=Tryz.sizeOf40
 v22:=Tryz.zeroValue40
 t25:=Tryz.underlying244
 a25:=Tryz.isAgg244
 z25:=Tryz.sizeOf244
 v25:=Tryz.zeroValue244
 t39:=Tryz.underlying273
 a39:=Tryz.isAgg273
 z39:=Tryz.sizeOf273
 v39:=Tryz.zeroValue273
 t45:=Tryz.underlying326
 a45:=Tryz.isAgg326
 z45:=Tryz.sizeOf326
 v45:=Tryz.zeroValue326
 t46:=Tryz.underlying327
 a46:=Tryz.isAgg327
 z46:=Tryz.sizeOf327
 v46:=Tryz.zeroValue327
 t50:=Tryz.underlying223
 a50:=Tryz.isAgg223
 z50:=Tryz.sizeOf223
 v50:=Tryz.zeroValue223
 t53:=Tryz.underlying333
 a53:=Tryz.isAgg333
 z53:=Tryz.sizeOf333
 v53:=Tryz.zeroValue333
 t55:=Tryz.underlying335
 a55:=Tryz.isAgg335
 z55:=Tryz.sizeOf335
 v55:=Tryz.zeroValue335
 t66:=Tryz.underlying360
 a66:=Tryz.isAgg360
 z66:=Tryz.sizeOf360
 v66:=Tryz.zeroValue360
 t70:=Tryz.underlying364
 a70:=Tryz.isAgg364
 z70:=Tryz.sizeOf364
 v70:=Tryz.zeroValue364
 t76:=Tryz.underlying382
 a76:=Tryz.isAgg382
 z76:=Tryz.sizeOf382
 v76:=Tryz.zeroValue382
 t77:=Tryz.underlying383
 a77:=Tryz.isAgg383
 z77:=Tryz.sizeOf383
 v77:=Tryz.zeroValue383}
end Go.Proofs

namespace Go.Proofs.YtgoljkjaameagaaGreat.V
open Go.RowKit Go.Shelf Go.Lib Go.Sort
theorem BN (w:World) (a b:Int):Calls Tryz.prog 210 #[.int .i64 a,.int .i64 b] w fun e w'=>e=.returned (.int .i64 (r8 a b))/\w=w':=by
 go_enter Tryz.func210,Tryz.ntmps210
 go_wp2_with go_in
 all_goals
  go_ret
  exact⟨F4 (by unfold r8;split<;>(try split)<;>omega),rfl⟩
theorem My (w:World) (a b:Int) (g:Nat) (ha:w.cell? ⟨g,0,none⟩=some (.int .i64 a)) (hb:w.cell? ⟨g,1,none⟩=some (.int .i64 b)):Calls Tryz.prog 233 #[.slice (some ⟨g,0,none⟩) 2 2] w fun e w'=>e=.returned (.int .i64 (Mz a b))/\w=w':=by
 go_enter Tryz.func233,Tryz.ntmps233
 go_wp2_with fail
 go_loop [8] (fun i=>∃k:Nat,k<=2/\i=.int .i64 k/\Hid ((1<=k->a=0)/\(2<=k->b=0))) (fun i=>2-(intOf i).toNat)
 case atStart=>exact⟨0,by omega,rfl,Lib.hid ⟨fun h=>by omega,fun h=>by omega⟩⟩
 case round=>
  obtain⟨k,hk,rfl,hz⟩:=hrel
  have h3:k=0∨k=1∨k=2:=by omega
  rcases h3 with rfl|rfl|rfl
  ·go_wp2_with fail
   ·rename_i h
    go_ret
    exact⟨F4 (by unfold Mz;simp_all),rfl⟩
   ·rename_i h
    go_round
    case rel=>exact⟨1,by omega,rfl,Lib.hid ⟨fun _=>by simpa using h,fun h=>by omega⟩⟩
    case measure=>simp[intOf]
  ·have h0:=hz.out.1 (by omega)
   replace h0:=Lib.hid h0
   go_wp2_with fail
   ·go_ret
    exact⟨F4 (by unfold Mz;rw[if_pos h0.out]),rfl⟩
   ·rename_i h
    go_round
    case rel=>exact⟨2,by omega,rfl,Lib.hid ⟨fun _=>h0.out,fun _=>by simpa using h⟩⟩
    case measure=>simp[intOf]
  ·have h0:=Lib.hid (hz.out.1 (by omega))
   have h1:=Lib.hid (hz.out.2 (by omega))
   go_wp2_with fail
   go_ret
   exact⟨F4 (by unfold Mz;rw[if_pos h0.out,h1.out]),rfl⟩
def Grown (w w':World):Prop:=∃(q:Nat) (os:Array Obj),w'=Go.Sort.grow (w.drewN q) os
theorem Grown.refl (w:World):Grown w w:=⟨0, #[],by rw[grow_empty];rfl⟩
theorem Grown.alloc {w w':World} (h:Grown w w') (o:Obj):Grown w (w'.alloc o):=by
 obtain⟨q,os,rfl⟩:=h
 exact⟨q,os++ #[o],by rw[alloc_eq_grow,grow_grow]⟩
theorem Grown.drew {w w':World} (h:Grown w w'):Grown w w'.drew:=by
 obtain⟨q,os,rfl⟩:=h
 exact⟨q+1,os,by rw[drew_grow];rfl⟩
theorem Grown.dN {w w':World} (h:Grown w w') (n:Nat):Grown w (w'.drewN n):=by
 obtain⟨q,os,rfl⟩:=h
 exact⟨q+n,os,by
  show Go.Sort.grow ((w.drewN q).drewN n) os=Go.Sort.grow (w.drewN (q+n)) os
  simp[World.drewN,Nat.add_assoc]⟩
theorem uU (w:World) (a b:aH):Calls Tryz.prog 154 #[.agg #[.int .i64 a.fb,.int .i64 a.eV],.agg #[.int .i64 b.fb,.int .i64 b.eV]] w fun e w'=>e=.returned (.int .i64 (r9 a b))/\Grown w w':=by
 go_enter Tryz.func154,Tryz.ntmps154
 go_wp2_with fail
 go_region_held3 (fun w'=>w'.cell? ⟨w.heap.size,0,none⟩=some (.int .i64 a.fb)/\w'.cell? ⟨w.heap.size,1,none⟩=some (.int .i64 a.eV)/\
   w'.cell? ⟨w.heap.size+1,0,none⟩=some (.int .i64 b.fb)/\w'.cell? ⟨w.heap.size+1,1,none⟩=some (.int .i64 b.eV))
  (first|go_keep)
  (first|(go_at_call 210;refine(BN _ _ _).mono ?_;rintro e w' ⟨rfl,rfl⟩)|(go_at_call 233;refine(My _ (r8 a.eV b.eV) (r8 a.fb b.fb) _ (by simp[go_sem]) (by simp[go_sem])).mono ?_;rintro e w' ⟨rfl,rfl⟩))
 go_wp2_with fail
 go_ret
 refine⟨rfl,?_⟩
 repeat(first|(with_reducible exact Grown.refl _)|(refine Grown.alloc ?_ _)|(refine Grown.drew ?_)|(refine Grown.dN ?_ _))
end Go.Proofs.YtgoljkjaameagaaGreat.V
