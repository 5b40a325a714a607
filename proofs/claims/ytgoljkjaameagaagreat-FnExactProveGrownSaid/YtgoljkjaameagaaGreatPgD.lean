/- Groups, by the reference. -/
import Derived.Test.YtgoljkjaameagaaGreatPgC
import Derived.Test.YtgoljkjaameagaaGreatPgB
set_option linter.unusedVariables false
set_option linter.unusedSimpArgs false
set_option maxRecDepth 100000
set_option maxHeartbeats 16000000
namespace Go.Proofs.YtgoljkjaameagaaGreat.V
open Go.RowKit
attribute [local irreducible] dI wpOps gy Call
attribute [local go_sem] aM fG eQ fZ fY cQ upd cC K.av cP AV.cells AV.cell rowOf rowsOf part ld rowAt bt cu dE ee ik bJ dh ew fX eX dp ej dd dc dQ dR bQ bf cW bP cY cX eh ek ei cV b4 de ef bK aP da cG ij bw cK bU aY dn bc dF AV.undef bF bI dS ec dM dK cH ev eA cF ep eo cZ db List.getD_cons_zero List.getD_cons_succ List.getD_nil List.all_cons List.all_nil Bool.and_true Bool.true_and Bool.and_self Bool.not_true Bool.not_false Option.map_some Option.map_none Option.bind_some Option.bind_none List.length_cons List.length_nil List.take_succ_cons List.take_zero List.take_nil List.drop_succ_cons List.drop_zero List.drop_nil List.head?_cons List.map_cons List.map_nil List.getElem?_cons_zero List.getElem?_cons_succ List.cons_append List.nil_append List.append_nil List.length_map List.set_cons_zero List.set_cons_succ Nat.reduceMul eq_self Int.toNat_natCast Int.natCast_nonneg and_self true_and and_true decide_true decide_false Bool.false_eq_true Nat.zero_add Nat.add_zero List.contains_cons List.contains_nil Bool.or_false Bool.false_or beq_self_eq_true Nat.reduceBEq ne_eq not_true_eq_false not_false_eq_true Id.mk.injEq false_and and_false Nat.reduceLT Int.reduceLE Int.reduceLT Int.reduceToNat Int.reduceNeg Int.reduceAdd Nat.le_refl List.length_append beq_true beq_false Bool.not_eq_eq_eq_not or_false false_or dJ ai aj aD bp bE cq aT bd aX bj cR bG
theorem Cg (a b:Nat):aq Tryz.prog 192 [.int .i64 a,.int .i64 b] (.int .i64 (min a b:Nat)):=by
 refine aq.body dX rfl fun hl n0=>?_
 clear hl
 by_cases h:(a:Int)<(b:Int)
 ·(try((repeat(revert hN;revert N;apply Pn.out));refine wk @h ?_;(repeat(refine Pn.mk ?_;intro N hN))))
  exact bW (b:=(a:Int)) (.inl rfl) (sd @Nat.zero_add) (by omega)
 ·(try((repeat(revert hN;revert N;apply Pn.out));refine wk @h ?_;(repeat(refine Pn.mk ?_;intro N hN))))
  exact bW (b:=(b:Int)) (.inl rfl) (sd @Nat.zero_add) (by omega)
theorem Cf (a b:Nat):aq Tryz.prog 191 [.int .i64 a,.int .i64 b] (.int .i64 (max a b:Nat)):=by
 refine aq.body dX rfl fun hl n0=>?_
 clear hl
 by_cases h:(b:Int)<(a:Int)
 ·(try((repeat(revert hN;revert N;apply Pn.out));refine wk @h ?_;(repeat(refine Pn.mk ?_;intro N hN))))
  exact bW (b:=(a:Int)) (.inl rfl) (sd @Nat.zero_add) (by omega)
 ·(try((repeat(revert hN;revert N;apply Pn.out));refine wk @h ?_;(repeat(refine Pn.mk ?_;intro N hN))))
  exact bW (b:=(b:Int)) (.inl rfl) (sd @Nat.zero_add) (by omega)
def dG (f:Nat->Nat) (n:Nat):List (List AV):=(List.range n).map fun i=>eN (f i)
theorem gp (f:Nat->Nat) (n:Nat):(dG f n).length=n:=by simp[dG]
theorem ft {f:Nat->Nat} {n i:Nat} (h:i<n):(dG f n)[i]? =some (eN (f i)):=by simp[dG,h]
theorem ib {f g:Nat->Nat} {n:Nat} (h:∀i,i<n->f i=g i):dG f n=dG g n:=List.map_congr_left fun i hi=>by rw[h i (List.mem_range.1 hi)]
theorem p4 {f g:Nat->Nat} {n k v:Nat} (hk:k<n) (hv:g k=v) (h:∀i,i<n->i≠k->g i=f i):(dG f n).set k (eN v)=dG g n:=by
 refine List.ext_getElem? fun i=>?_
 rw[List.getElem?_set]
 by_cases hi:k=i
 ·subst hi
  rw[if_pos rfl,gp,if_pos hk,ft hk,hv]
 ·rw[if_neg hi]
  by_cases fw:i<n
  ·rw[ft fw,ft fw,h i fw (fun h=>hi h.symm)]
  ·rw[List.getElem?_eq_none (by rw[gp];omega),List.getElem?_eq_none (by rw[gp];omega)]
theorem Ci (cnt:Nat) (hn:cnt<=1048576) (bs:List PB) (hb:∀b∈bs,b.a<cnt/\b.b<cnt) (ql:bs.length<=1048576):aq Tryz.prog 125 [.int .i64 cnt,.sl (bs.map ay)] (.sl ((fy cnt (eD bs)).map A9)):=by
 refine aq.body dX rfl fun hl n0=>?_
 clear hl
 (try((repeat(revert hN;revert N;apply Pn.out));refine wk @Nat.zero_add ?_;(repeat(refine Pn.mk ?_;intro N hN))))
 refine aU (fun n env st=>∃k:Nat,n=(cnt)-k/\k<=(cnt)/\env 6=.int .i64 (k:Int)/\(∃o:Id,env 5=.own o 0 k/\st.get o=some ⟨true,1,dG id k⟩/\o.ck<st.next)) (cnt) ⟨0,by omega,by omega,sl @Nat.zero_add,⟨⟨125001000,n0+1⟩,sd @Nat.zero_add,by simp only[go_sem, ↓reduceIte,Nat.reduceEqDiff,Nat.reduceAdd,Nat.reduceSub,Nat.reduceLeDiff,reduceCtorEq];rfl,by(try dsimp only);omega⟩⟩ ?_
 rintro n_a env_a st_a ⟨k,rfl,ale,a6,lZ⟩ dC
 have a0:=dC 0 (by kernel_rfl);have a1:=dC 1 (by kernel_rfl)
 simp only[go_sem, ↓reduceIte,Nat.reduceEqDiff,Nat.reduceAdd,Nat.reduceSub,Nat.reduceLeDiff,reduceCtorEq]at a0 a1
 clear dC
 obtain⟨o,a5,ag,vk⟩:=lZ
 have tl:=gp id k
 have sP:=dr vk
 by_cases hk:(k:Int)<(cnt:Int)
 ·have cD:∀{e:Env} {gg:Rows} {nx:Nat},(e 6=.int .i64 (IntKind.i64.wrap ((k:Int)+1)))->(∃o:Id,e 5=.own o 0 (k+1)/\gg o=some ⟨true,1,dG id (k+1)⟩/\o.ck<nx)->∃m0,m0<(cnt)-k/\∃k:Nat,m0=(cnt)-k/\k<=(cnt)/\e 6=.int .i64 (k:Int)/\(∃o:Id,e 5=.own o 0 k/\gg o=some ⟨true,1,dG id k⟩/\o.ck<nx):=fun x1 x2=>⟨_,by omega,k+1,rfl,by omega,(by rw[x1,aA (by omega)]),x2⟩
  have fA:k<cnt:=by omega
  have e1:k+1<=16777216:=by omega
  have tg:dG id k++[[.int .i64 (k:Int)]]=dG id (k+1):=by simp[dG,List.range_succ,eN]
  (try((repeat(revert hN;revert N;apply Pn.out));refine wk (tw @a6 (tw @a0 (tw @a1 (tw @a5 (tw @ag (tw @sP (tw @hk (tw @tl (tw @e1 @tg))))))))) ?_;(repeat(refine Pn.mk ?_;intro N hN))))
  exact cD (sd (tw @a6 (tw @a0 @a1))) (⟨⟨125005003,st_a.next+1⟩,sd @Nat.zero_add,sd @tg,by(try dsimp only);omega⟩)
 have mh:k=cnt:=by omega
 subst mh
 have Vc:st_a.get o=some ⟨true,1,dG (eD (bs.take 0)) k⟩:=ag
 clear ag
 (try((repeat(revert hN;revert N;apply Pn.out));refine wk (tw @a6 (tw @a0 (tw @a1 @hk))) ?_;(repeat(refine Pn.mk ?_;intro N hN))))
 refine aU (fun n env st=>∃j:Nat,n=(bs.length)-j/\j<=(bs.length)/\env 7=.int .i64 (j:Int)/\st.get o=some ⟨true,1,dG (eD (bs.take j)) k⟩/\(o.ck<st.next)) (bs.length) ⟨0,by omega,by omega,sl (tw @a6 (tw @a0 (tw @a1 (tw @a5 @Vc)))),sl (tw @a6 (tw @a0 (tw @a1 (tw @a5 @Vc)))),(by(try dsimp only);omega)⟩ ?_
 rintro n_b env_b st_b ⟨j,rfl,ble,b7,bg0,bI0⟩ gh
 have b0:=gh 0 (by kernel_rfl);have b1:=gh 1 (by kernel_rfl);have b5:=gh 5 (by kernel_rfl)
 simp only[go_sem, ↓reduceIte,Nat.reduceEqDiff,Nat.reduceAdd,Nat.reduceSub,Nat.reduceLeDiff,reduceCtorEq,a6,a0,a1,a5,Vc]at b0 b1 b5
 clear gh
 by_cases hj:(j:Int)<(bs.length:Int)
 ·have gn:∀{e:Env} {gg:Rows} {nx:Nat},(e 7=.int .i64 (IntKind.i64.wrap ((j:Int)+1)))->(gg o=some ⟨true,1,dG (eD (bs.take (j+1))) k⟩)->(o.ck<nx)->∃m0,m0<(bs.length)-j/\∃j:Nat,m0=(bs.length)-j/\j<=(bs.length)/\e 7=.int .i64 (j:Int)/\gg o=some ⟨true,1,dG (eD (bs.take j)) k⟩/\(o.ck<nx):=fun x1 x2 x3=>⟨_,by omega,j+1,rfl,by omega,(by rw[x1,aA (by omega)]),x2,x3⟩
  have iL:j<bs.length:=by omega
  have HN:(bs.map ay)[j]? =some (ay bs[j]):=by simp[iL]
  have Nc:=hb _ (List.getElem_mem iL)
  have oh:bs.take (j+1)=bs.take j++[bs[j]]:=List.take_succ_eq_append_getElem iL
  have lO:eD (bs.take (j+1))=eP (eD (bs.take j)) bs[j]:=by rw[oh,wR]
  generalize eD (bs.take j)=L at *
  generalize bs[j]=b at *
  have hA:=ft (f:=L) Nc.1
  have hB:=ft (f:=L) Nc.2
  have SU:=Cg (L b.a) (L b.b)
  have SV:=Cf (L b.a) (L b.b)
  have tl:=gp L k
  have gM:(b.a:Int)<(k:Int):=by omega
  have fR:(b.b:Int)<(k:Int):=by omega
  (try((repeat(revert hN;revert N;apply Pn.out));refine wk (tw @b7 (tw @bg0 (tw @b0 (tw @b1 (tw @b5 (tw @hj (tw @HN (tw @ay.eq_1 (tw @hA (tw @hB (tw @gM (tw @fR (tw @tl @eN.eq_1))))))))))))) ?_;(repeat(refine Pn.mk ?_;intro N hN))))
  refine aU (fun n env st=>∃i:Nat,n=(k)-i/\i<=(k)/\env 10=.int .i64 (i:Int)/\st.get o=some ⟨true,1,dG (fun x=>if x<i then eP L b x else L x) k⟩/\(o.ck<st.next)) (k) ⟨0,by omega,by omega,sl (tw @b7 (tw @bg0 (tw @b0 (tw @b1 (tw @b5 @Nat.not_lt_zero))))),sl (tw @b7 (tw @bg0 (tw @b0 (tw @b1 (tw @b5 @Nat.not_lt_zero))))),(by(try dsimp only);omega)⟩ ?_
  rintro n_c env_c st_c ⟨i,rfl,cle,jF,cg0,cI0⟩ cfr
  have c0:=cfr 0 (by kernel_rfl);have c1:=cfr 1 (by kernel_rfl);have c5:=cfr 5 (by kernel_rfl);have c7:=cfr 7 (by kernel_rfl);have c8:=cfr 8 (by kernel_rfl);have c9:=cfr 9 (by kernel_rfl)
  simp only[go_sem, ↓reduceIte,Nat.reduceEqDiff,Nat.reduceAdd,Nat.reduceSub,Nat.reduceLeDiff,reduceCtorEq,b7,bg0,b0,b1,b5,Nat.not_lt_zero]at c0 c1 c5 c7 c8 c9
  clear cfr
  have hC:=ft (f:=fun x=>if x<i then eP L b x else L x) (n:=k) (i:=i)
  have tc:=gp (fun x=>if x<i then eP L b x else L x) k
  by_cases hi:(i:Int)<(k:Int)
  ·have im:∀{e:Env} {gg:Rows} {nx:Nat},(e 10=.int .i64 (IntKind.i64.wrap ((i:Int)+1)))->(gg o=some ⟨true,1,dG (fun x=>if x<(i+1)then eP L b x else L x) k⟩)->(o.ck<nx)->∃m0,m0<(k)-i/\∃i:Nat,m0=(k)-i/\i<=(k)/\e 10=.int .i64 (i:Int)/\gg o=some ⟨true,1,dG (fun x=>if x<i then eP L b x else L x) k⟩/\(o.ck<nx):=fun x1 x2 x3=>⟨_,by omega,i+1,rfl,by omega,(by rw[x1,aA (by omega)]),x2,x3⟩
   have fw:i<k:=by omega
   replace hC:=hC fw
   rw[if_neg (Nat.lt_irrefl i)]at hC
   by_cases he:L i=max (L b.a) (L b.b)
   ·have ve:decide ((L i:Int)=((max (L b.a) (L b.b):Nat):Int))=true:=decide_eq_true (by rw[he])
    have eE:(dG (fun x=>if x<i then eP L b x else L x) k).set i (eN (min (L b.a) (L b.b)))=dG (fun x=>if x<i+1 then eP L b x else L x) k:=p4 fw (by rw[if_pos (by omega),eP,if_pos he]) fun x hx Db=>by
     by_cases h:x<i
     ·rw[if_pos h,if_pos (by omega)]
     ·rw[if_neg h,if_neg (by omega)]
    rw[eN]at eE hC
    (repeat(first|((repeat(revert hN;revert N;apply Pn.out));refine wk (tw @jF (tw @cg0 (tw @c0 (tw @c1 (tw @c5 (tw @c7 (tw @c8 (tw @c9 (tw @hi (tw @hC (tw @tc (tw @ve @eE)))))))))))) ?_;(repeat(refine Pn.mk ?_;intro N hN)))|((try apply Or.inl);refine⟨_,aq.x (SU) (sd (tw @jF (tw @cg0 (tw @c0 (tw @c1 (tw @c5 (tw @c7 (tw @c8 (tw @c9 (tw @hi (tw @hC (tw @tc (tw @ve @eE))))))))))))),?_⟩;refine hN _ _ ?_;clear hN N)|((try apply Or.inl);refine⟨_,aq.x (SV) (sd (tw @jF (tw @cg0 (tw @c0 (tw @c1 (tw @c5 (tw @c7 (tw @c8 (tw @c9 (tw @hi (tw @hC (tw @tc (tw @ve @eE))))))))))))),?_⟩;refine hN _ _ ?_;clear hN N)))
    refine im ?_ ?_ (by(try dsimp only);omega)
    all_goals simp only[go_sem, ↓reduceIte,Nat.reduceEqDiff,Nat.reduceAdd,Nat.reduceSub,Nat.reduceLeDiff,reduceCtorEq,jF,cg0,c0,c1,c5,c7,c8,c9]
   ·have ve:decide ((L i:Int)=((max (L b.a) (L b.b):Nat):Int))=false:=decide_eq_false fun h=>he (by omega)
    have mC:dG (fun x=>if x<i then eP L b x else L x) k=dG (fun x=>if x<i+1 then eP L b x else L x) k:=ib fun x hx=>by
     by_cases h:x<i
     ·rw[if_pos h,if_pos (by omega)]
     ·by_cases Db:x=i
      ·subst Db;rw[if_neg h,if_pos (by omega),eP,if_neg he]
      ·rw[if_neg h,if_neg (by omega)]
    rw[eN]at hC
    (repeat(first|((repeat(revert hN;revert N;apply Pn.out));refine wk (tw @jF (tw @cg0 (tw @c0 (tw @c1 (tw @c5 (tw @c7 (tw @c8 (tw @c9 (tw @hi (tw @hC (tw @tc @ve))))))))))) ?_;(repeat(refine Pn.mk ?_;intro N hN)))|((try apply Or.inl);refine⟨_,aq.x (SU) (sd (tw @jF (tw @cg0 (tw @c0 (tw @c1 (tw @c5 (tw @c7 (tw @c8 (tw @c9 (tw @hi (tw @hC (tw @tc @ve)))))))))))),?_⟩;refine hN _ _ ?_;clear hN N)|((try apply Or.inl);refine⟨_,aq.x (SV) (sd (tw @jF (tw @cg0 (tw @c0 (tw @c1 (tw @c5 (tw @c7 (tw @c8 (tw @c9 (tw @hi (tw @hC (tw @tc @ve)))))))))))),?_⟩;refine hN _ _ ?_;clear hN N)))
    rw[mC]at cg0
    refine im ?_ ?_ (by(try dsimp only);omega)
    all_goals simp only[go_sem, ↓reduceIte,Nat.reduceEqDiff,Nat.reduceAdd,Nat.reduceSub,Nat.reduceLeDiff,reduceCtorEq,jF,cg0,c0,c1,c5,c7,c8,c9]
  ·have yO:i=k:=by omega
   subst yO
   have dD:dG (fun x=>if x<i then eP L b x else L x) i=dG (eP L b) i:=ib fun x hx=>if_pos hx
   rw[dD]at cg0
   rw[<-lO]at cg0
   (try((repeat(revert hN;revert N;apply Pn.out));refine wk (tw @jF (tw @cg0 (tw @c0 (tw @c1 (tw @c5 (tw @c7 (tw @c8 (tw @c9 (tw @hi @tc))))))))) ?_;(repeat(refine Pn.mk ?_;intro N hN))))
   refine gn ?_ ?_ (by(try dsimp only);omega)
   all_goals simp only[go_sem, ↓reduceIte,Nat.reduceEqDiff,Nat.reduceAdd,Nat.reduceSub,Nat.reduceLeDiff,reduceCtorEq,b7,bg0,b0,b1,b5,jF,cg0,c0,c1,c5,c7,c8,c9]
 have ig:j=bs.length:=by omega
 subst ig
 rw[List.take_length]at bg0
 have hL:=uh bs
 generalize eD bs=L at *
 have tl:=gp L k
 (try((repeat(revert hN;revert N;apply Pn.out));refine wk (tw @b7 (tw @bg0 (tw @b0 (tw @b1 (tw @b5 @hj))))) ?_;(repeat(refine Pn.mk ?_;intro N hN))))
 have Vd:o.ck<st_b.next:=bI0
 refine aU (fun n env st=>∃i:Nat,n=(k)-i/\i<=(k)/\env 12=.int .i64 (i:Int)/\st.get o=some ⟨true,1,dG L k⟩/\(∃oo rows ids,env 11=.own oo 0 rows.length/\st.get oo=some ⟨true,1,rows⟩/\eI P9 st.get rows ((leads i L).map (members k L)) ids/\(∀x∈oo::ids,st_b.next<=x.ck/\x.ck<st.next)/\st_b.next<=st.next/\oo∉ids)) (k) ⟨0,by omega,by omega,sl (tw @b7 (tw @bg0 (tw @b0 (tw @b1 (tw @b5 (dr Vd)))))),sl (tw @b7 (tw @bg0 (tw @b0 (tw @b1 (tw @b5 (dr Vd)))))),⟨⟨125016000,st_b.next+1⟩,[],[],by(simp only[go_sem, ↓reduceIte,Nat.reduceEqDiff,Nat.reduceAdd,Nat.reduceSub,Nat.reduceLeDiff,reduceCtorEq])<;>rfl,sd @Nat.zero_add,.nil,fun x hx=>by rw[List.mem_singleton.1 hx];(try dsimp only);omega,by(try dsimp only);omega,by simp⟩⟩ ?_
 rintro n_d env_d st_d ⟨i,rfl,dle,d12,dg0,dI0⟩ dfr
 have d0:=dfr 0 (by kernel_rfl);have d5:=dfr 5 (by kernel_rfl)
 simp only[go_sem, ↓reduceIte,Nat.reduceEqDiff,Nat.reduceAdd,Nat.reduceSub,Nat.reduceLeDiff,reduceCtorEq,b7,bg0,b0,b1,b5,dr Vd]at d0 d5
 clear dfr
 obtain⟨oo,rows,ids,d11,dg,hR,oj,hle,rU⟩:=dI0
 have tg:=gS i L
 have sO:=hR.len
 by_cases hi:(i:Int)<(k:Int)
 ·have uk:∀{e:Env} {gg:Rows} {nx:Nat},(e 12=.int .i64 (IntKind.i64.wrap ((i:Int)+1)))->(gg o=some ⟨true,1,dG L k⟩)->(∃oo rows ids,e 11=.own oo 0 rows.length/\gg oo=some ⟨true,1,rows⟩/\eI P9 gg rows ((leads (i+1) L).map (members k L)) ids/\(∀x∈oo::ids,st_b.next<=x.ck/\x.ck<nx)/\st_b.next<=nx/\oo∉ids)->∃m0,m0<(k)-i/\∃i:Nat,m0=(k)-i/\i<=(k)/\e 12=.int .i64 (i:Int)/\gg o=some ⟨true,1,dG L k⟩/\(∃oo rows ids,e 11=.own oo 0 rows.length/\gg oo=some ⟨true,1,rows⟩/\eI P9 gg rows ((leads i L).map (members k L)) ids/\(∀x∈oo::ids,st_b.next<=x.ck/\x.ck<nx)/\st_b.next<=nx/\oo∉ids):=fun x1 x2 x3=>⟨_,by omega,i+1,rfl,by omega,(by rw[x1,aA (by omega)]),x2,x3⟩
  have fw:i<k:=by omega
  have hC:=ft (f:=L) fw
  have qf:=dr (i:=o) (n:=st_d.next) (by omega)
  have RN:=dr (i:=oo) (n:=st_d.next) (oj oo (by simp)).2
  by_cases he:L i=i
  ·rw[if_pos he]at tg
   have ve:decide ((L i:Int)=(i:Int))=true:=decide_eq_true (by rw[he])
   rw[eN]at hC
   (try((repeat(revert hN;revert N;apply Pn.out));refine wk (tw @d12 (tw @dg0 (tw @d0 (tw @d5 (tw @d11 (tw @dg (tw @hi (tw @hC (tw @tl (tw @ve (tw @qf @RN))))))))))) ?_;(repeat(refine Pn.mk ?_;intro N hN))))
   refine aU (fun n env st=>∃m:Nat,n=((k-i))-m/\m<=((k-i))/\env 14=(.int .i64 ((i+m:Nat):Int))/\(∃pp:Id,env 13=.own pp 0 (members (i+m) L i).length/\st.get pp=some ⟨true,1,(members (i+m) L i).map eN⟩/\st_d.next<=pp.ck/\pp.ck<st.next/\(∀x:Id,x.ck<st_d.next->st.get x=st_d.get x)/\st_d.next<=st.next)) ((k-i)) ⟨0,by omega,by omega,sl (tw @d12 (tw @dg0 (tw @d0 (tw @d5 @d11)))),⟨⟨125021000,st_d.next+1+1⟩,by rw[show members (i+0) L i=[]from nu hL (Nat.le_refl i)];(simp only[go_sem, ↓reduceIte,Nat.reduceEqDiff,Nat.reduceAdd,Nat.reduceSub,Nat.reduceLeDiff,reduceCtorEq])<;>rfl,by rw[show members (i+0) L i=[]from nu hL (Nat.le_refl i)];(simp only[go_sem, ↓reduceIte,Nat.reduceEqDiff,Nat.reduceAdd,Nat.reduceSub,Nat.reduceLeDiff,reduceCtorEq])<;>rfl,by(try dsimp only);omega,by(try dsimp only);omega,fun x hx=>sd (dr hx),by(try dsimp only);omega⟩⟩ ?_
   rintro n_f env_f st_f ⟨m,rfl,fle,f14,fI0⟩ ffr
   have f0:=ffr 0 (by kernel_rfl);have f5:=ffr 5 (by kernel_rfl);have f11:=ffr 11 (by kernel_rfl);have f12:=ffr 12 (by kernel_rfl)
   simp only[go_sem, ↓reduceIte,Nat.reduceEqDiff,Nat.reduceAdd,Nat.reduceSub,Nat.reduceLeDiff,reduceCtorEq,d12,dg0,d0,d5,d11]at f0 f5 f11 f12
   clear ffr
   obtain⟨pp,f13,fg,OV,Je,jG,qO⟩:=fI0
   have rS:st_f.get o=some ⟨true,1,dG L k⟩:=(jG o (by omega)).trans dg0
   have UO:st_f.get oo=some ⟨true,1,rows⟩:=(jG oo (oj oo (by simp)).2).trans dg
   have Be:=dr Je
   have B6:=dr (i:=o) (n:=st_f.next) (by omega)
   have RP:=dr (i:=oo) (n:=st_f.next) (by have:=(oj oo (by simp)).2;omega)
   have OR:members (i+(m+1)) L i=members (i+m) L i++if L (i+m)=i then[i+m]else[]:=jB (i+m) L i
   have U0:(members (i+m) L i).length<=i+m:=by
    have:=List.length_filter_le (fun k=>L k==i) (List.range (i+m))
    simpa[members]using this
   have x1:=cz (a:=o) (b:=pp) (by omega)
   have x2:=cz (a:=oo) (b:=pp) (by have:=(oj oo (by simp)).2;omega)
   have x3:=cz (a:=o) (b:=oo) (by have:=(oj oo (by simp)).1;omega)
   by_cases hm:m<k-i
   ·have sa:∀{e:Env} {gg:Rows} {nx:Nat},(e 14=(.int .i64 ((i+(m+1):Nat):Int)))->(∃pp:Id,e 13=.own pp 0 (members (i+(m+1)) L i).length/\gg pp=some ⟨true,1,(members (i+(m+1)) L i).map eN⟩/\st_d.next<=pp.ck/\pp.ck<nx/\(∀x:Id,x.ck<st_d.next->gg x=st_d.get x)/\st_d.next<=nx)->∃m0,m0<((k-i))-m/\∃m:Nat,m0=((k-i))-m/\m<=((k-i))/\e 14=(.int .i64 ((i+m:Nat):Int))/\(∃pp:Id,e 13=.own pp 0 (members (i+m) L i).length/\gg pp=some ⟨true,1,(members (i+m) L i).map eN⟩/\st_d.next<=pp.ck/\pp.ck<nx/\(∀x:Id,x.ck<st_d.next->gg x=st_d.get x)/\st_d.next<=nx):=fun x1 x2=>⟨_,by omega,m+1,rfl,by omega,x1,x2⟩
    have Rw:((i+m:Nat):Int)<(k:Int):=by omega
    have Ud:=ft (f:=L) (show i+m<k by omega)
    have hw:IntKind.i64.wrap (((i+m:Nat):Int)+1)=((i+(m+1):Nat):Int):=by rw[bz (by omega)];omega
    rw[eN]at Ud
    by_cases hq:L (i+m)=i
    ·have od:decide ((L (i+m):Int)=(i:Int))=true:=decide_eq_true (by rw[hq])
     rw[if_pos hq]at OR
     have e1:(members (i+m) L i).length+1<=16777216:=by omega
     have lL:((members (i+m) L i).map eN).length=(members (i+m) L i).length:=by simp
     (try((repeat(revert hN;revert N;apply Pn.out));refine wk (tw @f14 (tw @f0 (tw @f5 (tw @f11 (tw @f12 (tw @f13 (tw @fg (tw @rS (tw @Rw (tw @Ud (tw @tl (tw @od (tw @Be (tw @B6 (tw @x1 (tw @e1 @lL)))))))))))))))) ?_;(repeat(refine Pn.mk ?_;intro N hN))))
     exact sa (sd (tw @f14 (tw @f0 (tw @f5 (tw @f11 (tw @f12 (tw @rS (tw @hw (tw @B6 @x1))))))))) (⟨⟨125026003,st_f.next+1+1⟩,by rw[OR,List.length_append];simp only[go_sem, ↓reduceIte,Nat.reduceEqDiff,Nat.reduceAdd,Nat.reduceSub,Nat.reduceLeDiff,reduceCtorEq,List.length_cons,List.length_nil],by rw[OR,List.map_append,List.map_cons,List.map_nil];simp only[go_sem, ↓reduceIte,Nat.reduceEqDiff,Nat.reduceAdd,Nat.reduceSub,Nat.reduceLeDiff,reduceCtorEq,eN],by(try dsimp only);omega,by(try dsimp only);omega,fun x hx=>by
      have y1:=jG x hx
      have y2:=cz (a:=x) (b:=pp) (by omega)
      simp only[go_sem, ↓reduceIte,Nat.reduceEqDiff,Nat.reduceAdd,Nat.reduceSub,Nat.reduceLeDiff,reduceCtorEq,dr (show x.ck<st_f.next by omega),y1,y2],by(try dsimp only);omega⟩)
    ·have od:decide ((L (i+m):Int)=(i:Int))=false:=decide_eq_false fun h=>hq (by omega)
     rw[if_neg hq,List.append_nil]at OR
     (try((repeat(revert hN;revert N;apply Pn.out));refine wk (tw @f14 (tw @f0 (tw @f5 (tw @f11 (tw @f12 (tw @f13 (tw @fg (tw @rS (tw @Rw (tw @Ud (tw @tl (tw @od (tw @Be (tw @B6 @x1)))))))))))))) ?_;(repeat(refine Pn.mk ?_;intro N hN))))
     exact sa (sd (tw @f14 (tw @f0 (tw @f5 (tw @f11 (tw @f12 (tw @rS @hw))))))) (⟨pp,by rw[OR];simp only[go_sem, ↓reduceIte,Nat.reduceEqDiff,Nat.reduceAdd,Nat.reduceSub,Nat.reduceLeDiff,reduceCtorEq,f13],by rw[OR];simp only[go_sem, ↓reduceIte,Nat.reduceEqDiff,Nat.reduceAdd,Nat.reduceSub,Nat.reduceLeDiff,reduceCtorEq,fg],OV,by(try dsimp only);omega,jG,by(try dsimp only);omega⟩)
   ·have hmk:i+m=k:=by omega
    have Rw:¬((i+m:Nat):Int)<(k:Int):=by omega
    rw[hmk]at f13 fg U0
    have e1:rows.length+1<=16777216:=by
     have:=jW i L
     rw[sO,List.length_map];omega
    (try((repeat(revert hN;revert N;apply Pn.out));refine wk (tw @f14 (tw @f0 (tw @f5 (tw @f11 (tw @f12 (tw @f13 (tw @fg (tw @rS (tw @UO (tw @Rw (tw @Be (tw @B6 (tw @RP (tw @x1 (tw @x2 @e1))))))))))))))) ?_;(repeat(refine Pn.mk ?_;intro N hN))))
    refine uk ?_ ?_ (⟨⟨125027003,st_f.next+1⟩,rows++[[.own pp 0 (members k L i).length]],ids++[pp],by rw[List.length_append];simp only[go_sem, ↓reduceIte,Nat.reduceEqDiff,Nat.reduceAdd,Nat.reduceSub,Nat.reduceLeDiff,reduceCtorEq,List.length_cons,List.length_nil],sd @Nat.zero_add,by
      rw[tg,List.map_append]
      refine(hR.frame Mf fun x hx=>?_).app (.one ⟨pp,rfl,?_,rfl⟩)
      ·have h1:=oj x (by simp[hx])
       have y1:=jG x h1.2
       have y2:=cz (a:=x) (b:=pp) (by omega)
       have y3:(x=oo)=False:=by
        simp only[eq_iff_iff,iff_false]
        rintro rfl
        exact rU hx
       simp only[go_sem, ↓reduceIte,Nat.reduceEqDiff,Nat.reduceAdd,Nat.reduceSub,Nat.reduceLeDiff,reduceCtorEq,dr (show x.ck<st_f.next by omega),y1,y2,y3]
      ·simp only[go_sem, ↓reduceIte,Nat.reduceEqDiff,Nat.reduceAdd,Nat.reduceSub,Nat.reduceLeDiff,reduceCtorEq,Be,x2,fg],fun x hx=>by
      rcases List.mem_cons.1 hx with rfl|hx
      ·(try dsimp only);omega
      ·rcases List.mem_append.1 hx with hx|hx
       ·have:=oj x (by simp[hx]);(try dsimp only);omega
       ·rw[List.mem_singleton.1 hx];(try dsimp only);omega,by(try dsimp only);omega,fun hc=>by
      rcases List.mem_append.1 hc with hc|hc
      ·have:=(oj _ (List.mem_cons_of_mem _ hc)).2;(try dsimp only at this);omega
      ·have:=List.mem_singleton.1 hc;rw[<-this]at Je;(try dsimp only at Je);omega⟩)
    all_goals simp only[go_sem, ↓reduceIte,Nat.reduceEqDiff,Nat.reduceAdd,Nat.reduceSub,Nat.reduceLeDiff,reduceCtorEq,f14,f0,f5,f11,f12,rS,B6,x3]
  ·rw[if_neg he,List.append_nil]at tg
   have ve:decide ((L i:Int)=(i:Int))=false:=decide_eq_false fun h=>he (by omega)
   rw[eN]at hC
   (try((repeat(revert hN;revert N;apply Pn.out));refine wk (tw @d12 (tw @dg0 (tw @d0 (tw @d5 (tw @d11 (tw @dg (tw @hi (tw @hC (tw @tl (tw @ve (tw @qf @RN))))))))))) ?_;(repeat(refine Pn.mk ?_;intro N hN))))
   refine uk ?_ ?_ (⟨oo,rows,ids,sd @d11,sd @dg,by rw[tg];exact hR,fun x hx=>by have:=oj x hx;(try dsimp only);omega,by(try dsimp only);omega,rU⟩)
   all_goals simp only[go_sem, ↓reduceIte,Nat.reduceEqDiff,Nat.reduceAdd,Nat.reduceSub,Nat.reduceLeDiff,reduceCtorEq,d12,dg0,d0,d5]
 ·have yO:i=k:=by omega
  (try((repeat(revert hN;revert N;apply Pn.out));refine wk (tw @d12 (tw @dg0 (tw @d0 (tw @d5 (tw @d11 (tw @dg @hi)))))) ?_;(repeat(refine Pn.mk ?_;intro N hN))))
  refine xj (.inl rfl) (by simp only[go_sem, ↓reduceIte,Nat.reduceEqDiff,Nat.reduceAdd,Nat.reduceSub,Nat.reduceLeDiff,reduceCtorEq];rfl) ?_
  rw[uZ dg (by simp) (rows':=(fy k L).map A9) (by rw[List.drop_zero,List.take_of_length_le (Nat.le_refl _)];rw[yO]at hR;exact JF 3 hR)]
theorem xC (n:Nat):List.replicate n [AV.int .i64 0]=dG (fun _=>0) n:=by
 refine List.ext_getElem? fun i=>?_
 by_cases h:i<n
 ·rw[ft h,List.getElem?_replicate,if_pos h];rfl
 ·rw[List.getElem?_eq_none (by simp;omega),List.getElem?_eq_none (by rw[gp];omega)]
def cU (cnt:Nat) (L:Nat->Nat) (i m:Nat):Nat->Nat:=fun x=>if cj L x<i then cj L x else if x∈(members cnt L ((leads cnt L).getD i 0)).take m then i else 0
theorem o8 (cnt:Nat) (L:Nat->Nat):cU cnt L 0 0=fun _=>0:=by funext x;simp[cU]
theorem uu (t:Int) (bs:List PB) (k:Nat) (h:k<bs.length):aL t (bs.take (k+1))=aL t (bs.take k)++if t<=(bs[k]).s then[bs[k]]else[]:=by
 unfold aL
 rw[List.take_succ_eq_append_getElem h,List.filter_append]
 congr 1
 by_cases h:t<=bs[k].s<;>simp[h]
theorem xt {t:Int} {bs:List PB} {b:PB} (h:b∈aL t bs):b∈bs:=(List.mem_filter.1 h).1
theorem nB (t:Int) (bs:List PB):(aL t bs).length<=bs.length:=List.length_filter_le _ _
theorem Ck (cnt:Nat) (hn:cnt<=1048576) (bs:List PB) (hb:∀b∈bs,b.a<cnt/\b.b<cnt) (ql:bs.length<=1048576) (t:Int):aq Tryz.prog 240 [.int .i64 cnt,.sl (bs.map ay),.int .i64 t] (.gD [.int .i64 (leads cnt (eD (aL t bs))).length,.sl ((eY (eD (aL t bs)) bs).map ay)]):=by
 refine aq.body dX rfl fun hl n0=>?_
 clear hl
 (try((repeat(revert hN;revert N;apply Pn.out));refine wk @Nat.zero_add ?_;(repeat(refine Pn.mk ?_;intro N hN))))
 refine aU (fun n env st=>∃k:Nat,n=(bs.length)-k/\k<=(bs.length)/\env 9=.int .i64 (k:Int)/\(∃o:Id,env 8=.own o 0 (aL t (bs.take k)).length/\st.get o=some ⟨true,3,(aL t (bs.take k)).map ay⟩/\o.ck<st.next)) (bs.length) ⟨0,by omega,by omega,sl @Nat.zero_add,⟨⟨240001000,n0+1⟩,by(simp only[go_sem, ↓reduceIte,Nat.reduceEqDiff,Nat.reduceAdd,Nat.reduceSub,Nat.reduceLeDiff,reduceCtorEq])<;>rfl,by(simp only[go_sem, ↓reduceIte,Nat.reduceEqDiff,Nat.reduceAdd,Nat.reduceSub,Nat.reduceLeDiff,reduceCtorEq])<;>rfl,by(try dsimp only);omega⟩⟩ ?_
 rintro n_a env_a st_a ⟨k,rfl,ale,a9,lZ⟩ dC
 have a0:=dC 0 (by kernel_rfl);have a1:=dC 1 (by kernel_rfl);have a2:=dC 2 (by kernel_rfl)
 simp only[go_sem, ↓reduceIte,Nat.reduceEqDiff,Nat.reduceAdd,Nat.reduceSub,Nat.reduceLeDiff,reduceCtorEq]at a0 a1 a2
 clear dC
 obtain⟨o,a8,ag,vk⟩:=lZ
 have sP:=dr vk
 by_cases hk:(k:Int)<(bs.length:Int)
 ·have cD:∀{e:Env} {gg:Rows} {nx:Nat},(e 9=.int .i64 (IntKind.i64.wrap ((k:Int)+1)))->(∃o:Id,e 8=.own o 0 (aL t (bs.take (k+1))).length/\gg o=some ⟨true,3,(aL t (bs.take (k+1))).map ay⟩/\o.ck<nx)->∃m0,m0<(bs.length)-k/\∃k:Nat,m0=(bs.length)-k/\k<=(bs.length)/\e 9=.int .i64 (k:Int)/\(∃o:Id,e 8=.own o 0 (aL t (bs.take k)).length/\gg o=some ⟨true,3,(aL t (bs.take k)).map ay⟩/\o.ck<nx):=fun x1 x2=>⟨_,by omega,k+1,rfl,by omega,(by rw[x1,aA (by omega)]),x2⟩
  have fA:k<bs.length:=by omega
  have eR:(bs.map ay)[k]? =some (ay bs[k]):=by simp[fA]
  have hs:=uu t bs k fA
  have C9:=nB t (bs.take k)
  rw[List.length_take]at C9
  by_cases hc:t<=(bs[k]).s
  ·rw[if_pos hc]at hs
   have e1:(aL t (bs.take k)).length+1<=16777216:=by omega
   have lL:((aL t (bs.take k)).map ay).length=(aL t (bs.take k)).length:=by simp
   generalize bs[k]=b at *
   (try((repeat(revert hN;revert N;apply Pn.out));refine wk (tw @a9 (tw @a0 (tw @a1 (tw @a2 (tw @a8 (tw @ag (tw @sP (tw @hk (tw @eR (tw @hc (tw @e1 (tw @lL @ay.eq_1)))))))))))) ?_;(repeat(refine Pn.mk ?_;intro N hN))))
   exact cD (sd (tw @a9 (tw @a0 (tw @a1 @a2)))) (⟨⟨240006006,st_a.next+1+1⟩,by rw[hs,List.length_append];simp only[go_sem, ↓reduceIte,Nat.reduceEqDiff,Nat.reduceAdd,Nat.reduceSub,Nat.reduceLeDiff,reduceCtorEq,List.length_cons,List.length_nil],by rw[hs,List.map_append,List.map_cons,List.map_nil];simp only[go_sem, ↓reduceIte,Nat.reduceEqDiff,Nat.reduceAdd,Nat.reduceSub,Nat.reduceLeDiff,reduceCtorEq,ay],by(try dsimp only);omega⟩)
  ·rw[if_neg hc,List.append_nil]at hs
   generalize bs[k]=b at *
   (try((repeat(revert hN;revert N;apply Pn.out));refine wk (tw @a9 (tw @a0 (tw @a1 (tw @a2 (tw @a8 (tw @ag (tw @sP (tw @hk (tw @eR (tw @hc @ay.eq_1)))))))))) ?_;(repeat(refine Pn.mk ?_;intro N hN))))
   exact cD (sd (tw @a9 (tw @a0 (tw @a1 @a2)))) (⟨o,by rw[hs];simp only[go_sem, ↓reduceIte,Nat.reduceEqDiff,Nat.reduceAdd,Nat.reduceSub,Nat.reduceLeDiff,reduceCtorEq,a8],by rw[hs];simp only[go_sem, ↓reduceIte,Nat.reduceEqDiff,Nat.reduceAdd,Nat.reduceSub,Nat.reduceLeDiff,reduceCtorEq,ag],by(try dsimp only);omega⟩)
 have mh:k=bs.length:=by omega
 subst mh
 rw[List.take_length]at a8 ag
 have C6:=Ci cnt hn (aL t bs) (fun b h=>hb b (xt h)) (by have:=nB t bs;omega)
 have hL:=uh (aL t bs)
 have C5:fz (dJ st_a.get) 6 (.own o 0 (aL t bs).length)=some (.sl ((aL t bs).map ay)):=fM (sz:=3) (by simp[dJ,ag]) rfl fun b=>zW _ 4 b
 have UN:∀x,cJ (dJ st_a.get) 6 [.int .i64 x,.own o 0 (aL t bs).length]=some [.int .i64 x,.sl ((aL t bs).map ay)]:=fun x=>by simp only[ai,aj,aD,C5,Option.map_some]
 (try((repeat(revert hN;revert N;apply Pn.out));refine wk (tw @a9 (tw @a0 (tw @a1 (tw @a2 (tw @a8 @hk))))) ?_;(repeat(refine Pn.mk ?_;intro N hN))))
 refine .inl ⟨_,aq.x C6 (UN _),?_⟩
 refine hN _ _ ?_
 clear hN N
 generalize eD (aL t bs)=L at *
 have te:((fy cnt L).map A9).length=(leads cnt L).length:=by simp[fy]
 have Tl:=jW cnt L
 have jQ:(0:Int)<=(cnt:Int):=by omega
 have qm:(cnt:Int)<=((16777216:Nat):Int):=by omega
 have gN:List.replicate cnt [AV.int .i64 0]=dG (cU cnt L 0 0) cnt:=by rw[xC,o8]
 (try((repeat(revert hN;revert N;apply Pn.out));refine wk (tw @a9 (tw @a0 (tw @a1 (tw @a2 (tw @jQ (tw @qm @Int.le_refl)))))) ?_;(repeat(refine Pn.mk ?_;intro N hN))))
 refine aU (fun n env st=>∃i:Nat,n=((leads cnt L).length)-i/\i<=((leads cnt L).length)/\env 12=.int .i64 (i:Int)/\st.get ⟨240008001,st_a.next+1+1⟩=some ⟨true,1,dG (cU cnt L i 0) cnt⟩/\(st_a.next+1+1<st.next)) ((leads cnt L).length) ⟨0,by omega,by omega,sl (tw @a9 (tw @a0 (tw @a1 (tw @a2 @gN)))),sl (tw @a9 (tw @a0 (tw @a1 (tw @a2 @gN)))),(by(try dsimp only);omega)⟩ ?_
 rintro n_c env_c st_c ⟨i,rfl,cle,zM,cg0,cI0⟩ cfr
 have c1:=cfr 1 (by kernel_rfl);have jF:=cfr 10 (by kernel_rfl);have nW:=cfr 11 (by kernel_rfl)
 simp only[go_sem, ↓reduceIte,Nat.reduceEqDiff,Nat.reduceAdd,Nat.reduceSub,Nat.reduceLeDiff,reduceCtorEq,a9,a0,a1,a2,gN]at c1 jF nW
 clear cfr
 by_cases hi:(i:Int)<((leads cnt L).length:Int)
 ·have im:∀{e:Env} {gg:Rows} {nx:Nat},(e 12=.int .i64 (IntKind.i64.wrap ((i:Int)+1)))->(gg ⟨240008001,st_a.next+1+1⟩=some ⟨true,1,dG (cU cnt L (i+1) 0) cnt⟩)->(st_a.next+1+1<nx)->∃m0,m0<((leads cnt L).length)-i/\∃i:Nat,m0=((leads cnt L).length)-i/\i<=((leads cnt L).length)/\e 12=.int .i64 (i:Int)/\gg ⟨240008001,st_a.next+1+1⟩=some ⟨true,1,dG (cU cnt L i 0) cnt⟩/\(st_a.next+1+1<nx):=fun x1 x2 x3=>⟨_,by omega,i+1,rfl,by omega,(by rw[x1,aA (by omega)]),x2,x3⟩
  have fw:i<(leads cnt L).length:=by omega
  have ke:((fy cnt L).map A9)[i]? =some (A9 (members cnt L (leads cnt L)[i])):=by simp[fy,fw]
  have vg:(leads cnt L).getD i 0=(leads cnt L)[i]:=by simp[List.getD_eq_getElem?_getD,fw]
  have lr:∀m,cU cnt L i m=fun x=>if cj L x<i then cj L x else if x∈(members cnt L (leads cnt L)[i]).take m then i else 0:=fun m=>by unfold cU;rw[vg]
  have rT:=fun x (hx:x<cnt)=>tr hL (n:=cnt) (k:=x) (i:=i) hx fw
  have mz:(members cnt L (leads cnt L)[i]).Nodup:=List.nodup_range.filter _
  have OQ:∀x∈members cnt L (leads cnt L)[i],x<cnt:=fun x hx=>(lS.1 hx).1
  have hMc:(members cnt L (leads cnt L)[i]).length<=cnt:=by
   have:=List.length_filter_le (fun k=>L k==(leads cnt L)[i]) (List.range cnt)
   simpa[members]using this
  generalize members cnt L (leads cnt L)[i]=M at *
  have C4:(M.map eN).length=M.length:=by simp
  (try((repeat(revert hN;revert N;apply Pn.out));refine wk (tw @zM (tw @cg0 (tw @c1 (tw @jF (tw @nW (tw @hi @te)))))) ?_;(repeat(refine Pn.mk ?_;intro N hN))))
  refine aU (fun n env st=>∃m:Nat,n=(M.length)-m/\m<=(M.length)/\env 13=.int .i64 (m:Int)/\st.get ⟨240008001,st_a.next+1+1⟩=some ⟨true,1,dG (cU cnt L i m) cnt⟩/\(st_a.next+1+1<st.next)) (M.length) ⟨0,by omega,by omega,sl (tw @zM (tw @cg0 (tw @c1 (tw @jF @nW)))),sl (tw @zM (tw @cg0 (tw @c1 (tw @jF @nW)))),(by(try dsimp only);omega)⟩ ?_
  rintro n_d env_d st_d ⟨m,rfl,dle,d13,dg0,dI0⟩ dfr
  have d1:=dfr 1 (by kernel_rfl);have d10:=dfr 10 (by kernel_rfl);have d11:=dfr 11 (by kernel_rfl);have d12:=dfr 12 (by kernel_rfl)
  simp only[go_sem, ↓reduceIte,Nat.reduceEqDiff,Nat.reduceAdd,Nat.reduceSub,Nat.reduceLeDiff,reduceCtorEq,zM,cg0,c1,jF,nW]at d1 d10 d11 d12
  clear dfr
  have tl:=gp (cU cnt L i m) cnt
  by_cases hm:(m:Int)<(M.length:Int)
  ·have uk:∀{e:Env} {gg:Rows} {nx:Nat},(e 13=.int .i64 (IntKind.i64.wrap ((m:Int)+1)))->(gg ⟨240008001,st_a.next+1+1⟩=some ⟨true,1,dG (cU cnt L i (m+1)) cnt⟩)->(st_a.next+1+1<nx)->∃m0,m0<(M.length)-m/\∃m:Nat,m0=(M.length)-m/\m<=(M.length)/\e 13=.int .i64 (m:Int)/\gg ⟨240008001,st_a.next+1+1⟩=some ⟨true,1,dG (cU cnt L i m) cnt⟩/\(st_a.next+1+1<nx):=fun x1 x2 x3=>⟨_,by omega,m+1,rfl,by omega,(by rw[x1,aA (by omega)]),x2,x3⟩
   have Ae:m<M.length:=by omega
   have wH:(M.map eN)[m]? =some (eN M[m]):=by simp[Ae]
   have wM:=OQ _ (List.getElem_mem Ae)
   have Db:(M[m]:Int)<(cnt:Int):=by omega
   have Da:=ft (f:=cU cnt L i m) wM
   have eE:(dG (cU cnt L i m) cnt).set M[m] (eN i)=dG (cU cnt L i (m+1)) cnt:=p4 wM (by
    have h1:=(rT _ wM).1 (List.getElem_mem Ae)
    rw[lr]
    simp only[]
    rw[if_neg (by omega),if_pos (by rw[List.take_succ_eq_append_getElem Ae];exact List.mem_append_right _ (List.mem_singleton.2 rfl))]) fun x hx gZ=>by
    rw[lr,lr]
    simp only[]
    rw[List.take_succ_eq_append_getElem Ae]
    simp only[List.mem_append,List.mem_singleton,gZ,or_false]
   rw[eN]at eE Da
   generalize M[m]=xm at *
   (try((repeat(revert hN;revert N;apply Pn.out));refine wk (tw @d13 (tw @dg0 (tw @d1 (tw @d10 (tw @d11 (tw @d12 (tw @hm (tw @hi (tw @ke (tw @te (tw @wH (tw @C4 (tw @Db (tw @Da (tw @tl (tw @eE (tw @A9.eq_1 @eN.eq_1))))))))))))))))) ?_;(repeat(refine Pn.mk ?_;intro N hN))))
   refine uk ?_ ?_ (by(try dsimp only);omega)
   all_goals simp only[go_sem, ↓reduceIte,Nat.reduceEqDiff,Nat.reduceAdd,Nat.reduceSub,Nat.reduceLeDiff,reduceCtorEq,d13,dg0,d1,d10,d11,d12,eE]
  ·have lL:m=M.length:=by omega
   subst lL
   have qO:dG (cU cnt L i M.length) cnt=dG (cU cnt L (i+1) 0) cnt:=ib fun x hx=>by
    rw[lr,List.take_length]
    simp only[cU,List.take_zero,List.not_mem_nil,if_false]
    have h1:=rT x hx
    by_cases h2:cj L x<i
    ·rw[if_pos h2,if_pos (by omega)]
    ·rw[if_neg h2]
     by_cases h3:x∈M
     ·rw[if_pos h3,if_pos (by have:=h1.1 h3;omega),h1.1 h3]
     ·rw[if_neg h3,if_neg fun h4=>h3 (h1.2 (by omega))]
   (try((repeat(revert hN;revert N;apply Pn.out));refine wk (tw @d13 (tw @dg0 (tw @d1 (tw @d10 (tw @d11 (tw @d12 (tw @hm (tw @hi (tw @ke (tw @te (tw @C4 @A9.eq_1))))))))))) ?_;(repeat(refine Pn.mk ?_;intro N hN))))
   refine im ?_ ?_ (by(try dsimp only);omega)
   all_goals simp only[go_sem, ↓reduceIte,Nat.reduceEqDiff,Nat.reduceAdd,Nat.reduceSub,Nat.reduceLeDiff,reduceCtorEq,zM,cg0,c1,jF,nW,d13,dg0,d1,d10,d11,d12,qO]
 have lK:i=(leads cnt L).length:=by omega
 subst lK
 have rU:dG (cU cnt L (leads cnt L).length 0) cnt=dG (cj L) cnt:=ib fun x hx=>by rw[cU,if_pos (kh hL hx)]
 rw[rU]at cg0
 have tl:=gp (cj L) cnt
 (try((repeat(revert hN;revert N;apply Pn.out));refine wk (tw @zM (tw @cg0 (tw @c1 (tw @jF (tw @nW (tw @hi @te)))))) ?_;(repeat(refine Pn.mk ?_;intro N hN))))
 have S8:st_a.next+1+1<st_c.next:=cI0
 refine aU (fun n env st=>∃j:Nat,n=(bs.length)-j/\j<=(bs.length)/\env 15=.int .i64 (j:Int)/\st.get ⟨240008001,st_a.next+1+1⟩=some ⟨true,1,dG (cj L) cnt⟩/\(∃p:Id,env 14=.own p 0 (eY L (bs.take j)).length/\st.get p=some ⟨true,3,(eY L (bs.take j)).map ay⟩/\st_c.next<=p.ck/\p.ck<st.next)) (bs.length) ⟨0,by omega,by omega,sl (tw @zM (tw @cg0 (tw @c1 (tw @jF @nW)))),sl (tw @zM (tw @cg0 (tw @c1 (tw @jF @nW)))),⟨⟨240016000,st_c.next+1⟩,by(simp only[go_sem, ↓reduceIte,Nat.reduceEqDiff,Nat.reduceAdd,Nat.reduceSub,Nat.reduceLeDiff,reduceCtorEq])<;>rfl,by(simp only[go_sem, ↓reduceIte,Nat.reduceEqDiff,Nat.reduceAdd,Nat.reduceSub,Nat.reduceLeDiff,reduceCtorEq])<;>rfl,by(try dsimp only);omega,by(try dsimp only);omega⟩⟩ ?_
 rintro n_f env_f st_f ⟨j,rfl,fle,f15,fg0,fI0⟩ ffr
 have f1:=ffr 1 (by kernel_rfl);have f10:=ffr 10 (by kernel_rfl);have f11:=ffr 11 (by kernel_rfl)
 simp only[go_sem, ↓reduceIte,Nat.reduceEqDiff,Nat.reduceAdd,Nat.reduceSub,Nat.reduceLeDiff,reduceCtorEq,zM,cg0,c1,jF,nW]at f1 f10 f11
 clear ffr
 obtain⟨p,f14,fg,OV,Je⟩:=fI0
 have x1:=cz (a:=⟨240008001,st_a.next+1+1⟩) (b:=p) (by(try dsimp only);omega)
 have Be:=dr Je
 have hvn:st_a.next+1+1<st_f.next:=by omega
 have Jo:=dr (i:=⟨240008001,st_a.next+1+1⟩) (n:=st_f.next) hvn
 have C9:=(nA L (bs.take j)).2
 rw[List.length_take]at C9
 by_cases hj:(j:Int)<(bs.length:Int)
 ·have sa:∀{e:Env} {gg:Rows} {nx:Nat},(e 15=.int .i64 (IntKind.i64.wrap ((j:Int)+1)))->(gg ⟨240008001,st_a.next+1+1⟩=some ⟨true,1,dG (cj L) cnt⟩)->(∃p:Id,e 14=.own p 0 (eY L (bs.take (j+1))).length/\gg p=some ⟨true,3,(eY L (bs.take (j+1))).map ay⟩/\st_c.next<=p.ck/\p.ck<nx)->∃m0,m0<(bs.length)-j/\∃j:Nat,m0=(bs.length)-j/\j<=(bs.length)/\e 15=.int .i64 (j:Int)/\gg ⟨240008001,st_a.next+1+1⟩=some ⟨true,1,dG (cj L) cnt⟩/\(∃p:Id,e 14=.own p 0 (eY L (bs.take j)).length/\gg p=some ⟨true,3,(eY L (bs.take j)).map ay⟩/\st_c.next<=p.ck/\p.ck<nx):=fun x1 x2 x3=>⟨_,by omega,j+1,rfl,by omega,(by rw[x1,aA (by omega)]),x2,x3⟩
  have iL:j<bs.length:=by omega
  have HN:(bs.map ay)[j]? =some (ay bs[j]):=by simp[iL]
  have Nc:=hb _ (List.getElem_mem iL)
  have hs:=AG L (bs.take j) bs[j]
  rw[<-List.take_succ_eq_append_getElem iL]at hs
  generalize bs[j]=b at *
  have hA:=ft (f:=cj L) Nc.1
  have hB:=ft (f:=cj L) Nc.2
  have gM:(b.a:Int)<(cnt:Int):=by omega
  have fR:(b.b:Int)<(cnt:Int):=by omega
  have SU:=Cg (cj L b.a) (cj L b.b)
  have SV:=Cf (cj L b.a) (cj L b.b)
  rw[eN]at hA hB
  by_cases he:cj L b.a=cj L b.b
  ·rw[if_pos he,List.append_nil]at hs
   have ve:decide ((cj L b.a:Int)=(cj L b.b:Int))=true:=decide_eq_true (by rw[he])
   (try((repeat(revert hN;revert N;apply Pn.out));refine wk (tw @f15 (tw @fg0 (tw @f1 (tw @f10 (tw @f11 (tw @f14 (tw @fg (tw @hj (tw @HN (tw @hA (tw @hB (tw @gM (tw @fR (tw @tl (tw @ve (tw @x1 (tw @Be @ay.eq_1))))))))))))))))) ?_;(repeat(refine Pn.mk ?_;intro N hN))))
   refine sa ?_ ?_ (⟨p,by rw[hs];simp only[go_sem, ↓reduceIte,Nat.reduceEqDiff,Nat.reduceAdd,Nat.reduceSub,Nat.reduceLeDiff,reduceCtorEq,f14],by rw[hs];simp only[go_sem, ↓reduceIte,Nat.reduceEqDiff,Nat.reduceAdd,Nat.reduceSub,Nat.reduceLeDiff,reduceCtorEq,fg],OV,by(try dsimp only);omega⟩)
   all_goals simp only[go_sem, ↓reduceIte,Nat.reduceEqDiff,Nat.reduceAdd,Nat.reduceSub,Nat.reduceLeDiff,reduceCtorEq,f15,fg0,f1,f10,f11]
  ·rw[if_neg he]at hs
   have ve:decide ((cj L b.a:Int)=(cj L b.b:Int))=false:=decide_eq_false fun h=>he (by omega)
   have e1:(eY L (bs.take j)).length+1<=16777216:=by omega
   have lL:((eY L (bs.take j)).map ay).length=(eY L (bs.take j)).length:=by simp
   (repeat(first|((repeat(revert hN;revert N;apply Pn.out));refine wk (tw @f15 (tw @fg0 (tw @f1 (tw @f10 (tw @f11 (tw @f14 (tw @fg (tw @hj (tw @HN (tw @hA (tw @hB (tw @gM (tw @fR (tw @tl (tw @ve (tw @x1 (tw @Be (tw @Jo (tw @e1 (tw @lL @ay.eq_1)))))))))))))))))))) ?_;(repeat(refine Pn.mk ?_;intro N hN)))|((try apply Or.inl);refine⟨_,aq.x (SU) (sd (tw @f15 (tw @fg0 (tw @f1 (tw @f10 (tw @f11 (tw @f14 (tw @fg (tw @hj (tw @HN (tw @hA (tw @hB (tw @gM (tw @fR (tw @tl (tw @ve (tw @x1 (tw @Be (tw @Jo (tw @e1 (tw @lL @ay.eq_1))))))))))))))))))))),?_⟩;refine hN _ _ ?_;clear hN N)|((try apply Or.inl);refine⟨_,aq.x (SV) (sd (tw @f15 (tw @fg0 (tw @f1 (tw @f10 (tw @f11 (tw @f14 (tw @fg (tw @hj (tw @HN (tw @hA (tw @hB (tw @gM (tw @fR (tw @tl (tw @ve (tw @x1 (tw @Be (tw @Jo (tw @e1 (tw @lL @ay.eq_1))))))))))))))))))))),?_⟩;refine hN _ _ ?_;clear hN N)))
   refine sa ?_ ?_ (⟨⟨240023014,st_f.next+1+1+1+1⟩,by rw[hs,List.length_append];simp only[go_sem, ↓reduceIte,Nat.reduceEqDiff,Nat.reduceAdd,Nat.reduceSub,Nat.reduceLeDiff,reduceCtorEq,List.length_cons,List.length_nil],by rw[hs,List.map_append,List.map_cons,List.map_nil];simp only[go_sem, ↓reduceIte,Nat.reduceEqDiff,Nat.reduceAdd,Nat.reduceSub,Nat.reduceLeDiff,reduceCtorEq,ay],by(try dsimp only);omega,by(try dsimp only);omega⟩)
   all_goals simp only[go_sem, ↓reduceIte,Nat.reduceEqDiff,Nat.reduceAdd,Nat.reduceSub,Nat.reduceLeDiff,reduceCtorEq,f15,fg0,f1,f10,f11,x1,Jo]
 ·have ig:j=bs.length:=by omega
  subst ig
  rw[List.take_length]at f14 fg
  (try((repeat(revert hN;revert N;apply Pn.out));refine wk (tw @f15 (tw @fg0 (tw @f1 (tw @f10 (tw @f11 (tw @f14 (tw @hj @te))))))) ?_;(repeat(refine Pn.mk ?_;intro N hN))))
  refine jC (.inl rfl) (r1:=.int .i64 ((leads cnt L).length:Int)) (sd @Nat.zero_add) (by simp only[go_sem, ↓reduceIte,Nat.reduceEqDiff,Nat.reduceAdd,Nat.reduceSub,Nat.reduceLeDiff,reduceCtorEq];rfl) ?_
  have h1:gC st_f.get 5 (.own p 0 (eY L bs).length)=some (.sl ((eY L bs).map ay)):=fj (sz:=3) fg rfl fun b=>uW _ 3 b
  simp only[eS,bB,cw,eG,h1,Option.map_some]
end Go.Proofs.YtgoljkjaameagaaGreat.V

namespace Go.Proofs.YtgoljkjaameagaaGreat.V
def E0 (bs:List PB) (e v:Nat):Prop:=(cE bs e).a=v∨(cE bs e).b=v
def jb (bs:List PB) (m v:Nat):List Nat:=(List.range m).filter fun i=>(cE bs i).a==v||(cE bs i).b==v
theorem rZ {bs:List PB} {m v e:Nat}:e∈jb bs m v↔e<m/\E0 bs e v:=by simp[jb,E0]
theorem GO (bs:List PB) (m v:Nat):jb bs (m+1) v=jb bs m v++if (cE bs m).a=v∨(cE bs m).b=v then[m]else[]:=by
 unfold jb
 rw[List.range_succ,List.filter_append]
 congr 1
 by_cases h:(cE bs m).a=v<;>by_cases h2:(cE bs m).b=v<;>simp[h,h2]
theorem rY (bs:List PB) (m v:Nat):(jb bs m v).length<=m:=by
 have:=List.length_filter_le (fun i=>(cE bs i).a==v||(cE bs i).b==v) (List.range m)
 simpa[jb]using this
def nF (cnt:Nat) (bs:List PB):Prop:=∀e,e<bs.length->(cE bs e).a<cnt/\(cE bs e).b<cnt/\(cE bs e).a≠(cE bs e).b
theorem pb {cnt:Nat} {bs:List PB} (h:nF cnt bs) {e v:Nat} (he:e<bs.length):cm bs e v<cnt:=by
 have:=h e he;unfold cm;split;exact this.2.1;exact this.1
theorem JS {cnt:Nat} {bs:List PB} (h:nF cnt bs) {e v:Nat} (he:e<bs.length) (hi:E0 bs e v):cm bs e v≠v:=by
 have h1:=(h e he).2.2
 unfold cm
 split
 ·rename_i ha;rw[<-ha];exact fun h=>h1 h.symm
 ·rename_i ha;rcases hi with hi|hi
  ·exact absurd hi ha
  ·rw[<-hi];exact h1
theorem zh {bs:List PB} {e v:Nat}:E0 bs e (cm bs e v):=by
 unfold cm E0;split
 ·exact .inr rfl
 ·exact .inl rfl
theorem pc {cnt:Nat} {bs:List PB} (h:nF cnt bs) {e v:Nat} (he:e<bs.length) (hi:E0 bs e v):cm bs e (cm bs e v)=v:=by
 have h1:=(h e he).2.2
 unfold cm
 by_cases ha:(cE bs e).a=v
 ·rw[if_pos ha,if_neg h1];exact ha
 ·rw[if_neg ha,if_pos rfl]
  rcases hi with hi|hi
  ·exact absurd hi ha
  ·exact hi
structure zF (cnt:Nat) (bs:List PB) (f:Nat->Int) (y:Nat) (out:Nat->Int):Prop where
 lo:∀v,v<cnt->-1<=out v/\out v<=cnt
 first:out y=0
 zero:∀v,v<cnt->out v=0->v=y
 down:∀v,v<cnt->0<out v->∃e,e<bs.length/\E0 bs e v/\0<fF bs f e v/\out (cm bs e v)=out v-1
 shut:∀e v,e<bs.length->E0 bs e v->0<=out (cm bs e v)->0<fF bs f e v->0<=out v
structure A5 (cnt:Nat) (bs:List PB) (f:Nat->Int) (y:Nat) (out:Nat->Int) (Q:List Nat) (i:Nat):Prop where
 nd:Q.Nodup
 lt:∀x∈Q,x<cnt
 iff:∀v,v<cnt->(0<=out v↔v∈Q)
 lo:∀v,v<cnt->-1<=out v
 first:out y=0
 up:∀j (h:j<Q.length),out Q[j]<=j
 zero:∀v,v<cnt->out v=0->v=y
 down:∀v,v<cnt->0<out v->∃e,e<bs.length/\E0 bs e v/\0<fF bs f e v/\out (cm bs e v)=out v-1
 shut:∀j (h:j<Q.length),j<i->∀e,e<bs.length->E0 bs e Q[j]->0<fF bs f e (cm bs e Q[j])->0<=out (cm bs e Q[j])
section
variable {cnt:Nat} {bs:List PB} {f:Nat->Int} {y:Nat} {out:Nat->Int} {Q:List Nat} {i:Nat}
theorem A5.start (hy:y<cnt):A5 cnt bs f y (fun v=>if v=y then 0 else -1) [y] 0 where
 nd:=by simp
 lt:=fun x hx=>by rw[List.mem_singleton.1 hx];exact hy
 iff:=fun v _=>by
  by_cases h:v=y<;>simp[h]
 lo:=fun v _=>by split<;>omega
 first:=if_pos rfl
 up:=fun j h=>by
  have:j=0:=by simp at h;omega
  subst this;simp
 zero:=fun v _ h=>by
  by_cases hv:v=y
  ·exact hv
  ·rw[if_neg hv]at h;omega
 down:=fun v _ h=>by
  by_cases hv:v=y
  ·rw[if_pos hv]at h;omega
  ·rw[if_neg hv]at h;omega
 shut:=fun j h hj=>by omega
theorem A5.len (h:A5 cnt bs f y out Q i):Q.length<=cnt:=o9 cnt Q h.nd h.lt
theorem A5.visit (h:A5 cnt bs f y out Q i) (ok:nF cnt bs) (hi:i<Q.length) {e:Nat} (he:e<bs.length) (qd:E0 bs e Q[i]) (kf:out (cm bs e Q[i])<0) (fV:0<fF bs f e (cm bs e Q[i])):
  A5 cnt bs f y (fun v=>if v=cm bs e Q[i]then out Q[i]+1 else out v) (Q++[cm bs e Q[i]]) i:=by
 have Np:0<=out Q[i]:=(h.iff _ (h.lt _ (List.getElem_mem hi))).2 (List.getElem_mem hi)
 have hq:=pb ok (v:=Q[i]) he
 have gZ:=JS ok he qd
 have To:=pc ok he qd
 have U6:cm bs e Q[i]∉Q:=fun hm=>by have:=(h.iff _ hq).2 hm;omega
 have lr:=h.up i hi
 generalize hw:cm bs e Q[i]=w at *
 have qT:∀v,0<=out v->(if v=w then out Q[i]+1 else out v)=out v:=fun v hv=>by
  rw[if_neg];rintro rfl;omega
 have mono:∀v,0<=out v->0<=(if v=w then out Q[i]+1 else out v):=fun v hv=>by rw[qT v hv];exact hv
 refine⟨?_,?_,?_,?_,?_,?_,?_,?_,?_⟩
 ·rw[List.nodup_append]
  exact⟨h.nd,by simp,fun a ha b hb=>by rw[List.mem_singleton.1 hb];rintro rfl;exact U6 ha⟩
 ·intro x hx
  rcases List.mem_append.1 hx with hx|hx
  ·exact h.lt x hx
  ·rw[List.mem_singleton.1 hx];exact hq
 ·intro v hv
  by_cases HU:v=w
  ·subst HU;simp;omega
  ·rw[if_neg HU,h.iff v hv];simp[HU]
 ·intro v hv
  by_cases HU:v=w
  ·rw[if_pos HU];omega
  ·rw[if_neg HU];exact h.lo v hv
 ·rw[qT y (by rw[h.first];exact Int.le_refl _)];exact h.first
 ·intro j hj
  by_cases ig:j<Q.length
  ·rw[List.getElem_append_left ig,qT _ ((h.iff _ (h.lt _ (List.getElem_mem ig))).2 (List.getElem_mem ig))]
   exact h.up j ig
  ·have LN:j=Q.length:=by simp at hj;omega
   subst LN
   simp
   omega
 ·intro v hv h0
  by_cases HU:v=w
  ·rw[if_pos HU]at h0;omega
  ·rw[if_neg HU]at h0;exact h.zero v hv h0
 ·intro v hv h0
  by_cases HU:v=w
  ·subst HU
   rw[if_pos rfl]
   refine⟨e,he,by rw[<-hw];exact zh,fV,?_⟩
   rw[To,qT _ Np];omega
  ·rw[if_neg HU]at h0 ⊢
   obtain⟨e',h1,h2,h3,h4⟩:=h.down v hv h0
   exact⟨e',h1,h2,h3,by rw[qT _ (by omega)];exact h4⟩
 ·intro j hj mV e' LH Nh hr
  have ig:j<Q.length:=by omega
  rw[List.getElem_append_left ig]at Nh hr ⊢
  exact mono _ (h.shut j ig mV e' LH Nh hr)
theorem A5.next (h:A5 cnt bs f y out Q i) (hi:i<Q.length) (hs:∀e∈jb bs bs.length Q[i],0<fF bs f e (cm bs e Q[i])->0<=out (cm bs e Q[i])):A5 cnt bs f y out Q (i+1):=
 ⟨h.nd,h.lt,h.iff,h.lo,h.first,h.up,h.zero,h.down,fun j hj mV e he qd hr=>by
  by_cases LN:j=i
  ·subst LN;exact hs e (rZ.2 ⟨he,qd⟩) hr
  ·exact h.shut j hj (by omega) e he qd hr⟩
theorem A5.done (h:A5 cnt bs f y out Q i) (ok:nF cnt bs) (hi:Q.length<=i):zF cnt bs f y out where
 lo:=fun v hv=>⟨h.lo v hv,by
  by_cases h0:0<=out v
  ·obtain⟨j,hj,rfl⟩:=List.getElem_of_mem ((h.iff v hv).1 h0)
   have:=h.up j hj
   have:=h.len
   omega
  ·omega⟩
 first:=h.first
 zero:=h.zero
 down:=h.down
 shut:=fun e v he qd h0 hr=>by
  obtain⟨j,hj,Qk⟩:=List.getElem_of_mem ((h.iff _ (pb ok he)).1 h0)
  have h2:=h.shut j hj (by omega) e he (by rw[Qk];exact zh)
  rw[Qk,pc ok he qd]at h2
  exact h2 hr
end
end Go.Proofs.YtgoljkjaameagaaGreat.V

namespace Go.Proofs.YtgoljkjaameagaaGreat.V
open Go.RowKit
attribute [local irreducible] dI wpOps gy Call
attribute [local go_sem] aM fG eQ fZ fY cQ upd cC K.av cP AV.cells AV.cell rowOf rowsOf part ld rowAt bt cu dE ee ik bJ dh ew fX eX dp ej dd dc dQ dR bQ bf cW bP cY cX eh ek ei cV b4 de ef bK aP da cG ij bw cK bU aY dn bc dF AV.undef bF bI dS ec dM dK cH ev eA cF ep eo cZ db List.getD_cons_zero List.getD_cons_succ List.getD_nil List.all_cons List.all_nil Bool.and_true Bool.true_and Bool.and_self Bool.not_true Bool.not_false Option.map_some Option.map_none Option.bind_some Option.bind_none List.length_cons List.length_nil List.take_succ_cons List.take_zero List.take_nil List.drop_succ_cons List.drop_zero List.drop_nil List.head?_cons List.map_cons List.map_nil List.getElem?_cons_zero List.getElem?_cons_succ List.cons_append List.nil_append List.append_nil List.length_map List.set_cons_zero List.set_cons_succ Nat.reduceMul eq_self Int.toNat_natCast Int.natCast_nonneg and_self true_and and_true decide_true decide_false Bool.false_eq_true Nat.zero_add Nat.add_zero List.contains_cons List.contains_nil Bool.or_false Bool.false_or beq_self_eq_true Nat.reduceBEq ne_eq not_true_eq_false not_false_eq_true Id.mk.injEq false_and and_false Nat.reduceLT Int.reduceLE Int.reduceLT Int.reduceToNat Int.reduceNeg Int.reduceAdd Nat.le_refl List.length_append beq_true beq_false Bool.not_eq_eq_eq_not or_false false_or dJ ai aj aD bp bE cq aT bd aX bj cR bG
def mj (P:Program) (f:Nat) (args:List AV) (R:AV->Prop):Prop:=∀n:Nat,Call P f args ⟨fun _=>none,n⟩ fun r0 σ'=>∃r',gC σ'.get 6 r0=some r'/\R r'
theorem aq.r {P:Program} {f:Nat} {args:List AV} {r:AV} (h:aq P f args r):mj P f args (fun r'=>r'=r):=h
theorem Gu {P:Program} {f:Nat} {args eu:List AV} {g:Rows} {n:Nat} {R:AV->Prop} (hv:cJ (dJ g) 6 args=some eu) (h:Sound P f eu ⟨fun _=>none,n⟩ fun r0 σ'=>∃r',gC σ'.get 6 r0=some r'/\R r'):Sound P f args ⟨g,n⟩ fun r σ'=>R r/\σ'=⟨g,n⟩:=by
 intro hs D ι w vs S U A
 refine(yk (g0:=g) (K:=R) ⟨eu,hv,h⟩ (fun _ _ h=>h) S U A).mono ?_
 rintro e w' ⟨r,D',u,rfl,hR,T,S',hr⟩
 exact⟨r,g,n,D',ι,u,rfl,⟨hR,rfl⟩,T,S',U,Nat.le_refl _,hr⟩
theorem mj.x {P:Program} (hm:P.follows .mixedOrders=true) {f:Nat} {args eu:List AV} {R:AV->Prop} (h:mj P f eu R) {σ:ar} (hv:cJ (dJ σ.get) 6 args=some eu):Call P f args σ fun r σ'=>R r/\σ'=σ:=
 gP (Gu hv (gr hm (h σ.next)))
theorem mj.body {P:Program} {f:Nat} {args:List AV} {R:AV->Prop} {nt na:Nat} {body:VC} {res:List nT} (hf:me P f=some ⟨nt,na,body,res⟩) (ha:na=args.length) (h:(∀a∈args,eH a)->∀n:Nat,dI (Call P) body (kJ res fun r0 σ'=>∃r',gC σ'.get 6 r0=some r'/\R r') (cC args) ⟨fun _=>none,n⟩):mj P f args R:=fun n=>ml hf ha fun hl=>h hl n
def dW (f:Nat->Int) (n:Nat):List (List AV):=(List.range n).map fun i=>bh (f i)
theorem dB (f:Nat->Int) (n:Nat):(dW f n).length=n:=by simp[dW]
theorem dO {f:Nat->Int} {n i:Nat} (h:i<n):(dW f n)[i]? =some (bh (f i)):=by simp[dW,h]
theorem lk {f g:Nat->Int} {n k:Nat} {v:Int} (hk:k<n) (hv:g k=v) (h:∀i,i<n->i≠k->g i=f i):(dW f n).set k (bh v)=dW g n:=by
 refine List.ext_getElem? fun i=>?_
 rw[List.getElem?_set]
 by_cases hi:k=i
 ·subst hi
  rw[if_pos rfl,dB,if_pos hk,dO hk,hv]
 ·rw[if_neg hi]
  by_cases fw:i<n
  ·rw[dO fw,dO fw,h i fw (fun h=>hi h.symm)]
  ·rw[List.getElem?_eq_none (by rw[dB];omega),List.getElem?_eq_none (by rw[dB];omega)]
theorem Hz (f:Nat->Int) (n:Nat):dW f (n+1)=dW f n++[bh (f n)]:=by simp[dW,List.range_succ]
theorem fzI (g:Rows) (n:Nat) (a:Int):cJ g (n+1) (bh a)=some (bh a):=by simp[bh,ai,aj,aD]
theorem T9 (g:Rows) (n:Nat) (a:Int):ez g (n+1) (bh a)=some (bh a):=by simp[bh,bB,cw,eG]
theorem Kr {g:Rows} {f:Nat->Int} {n m:Nat}:il g (m+1) (dW f n)=some (dW f n):=by
 have:dW f n=((List.range n).map f).map bh:=by simp[dW]
 rw[this];exact ua fun x=>T9 g m x
theorem AO {g:Rows} {f:Nat->Int} {n m:Nat}:eb g (m+1) (dW f n)=some (dW f n):=by
 have:dW f n=((List.range n).map f).map bh:=by simp[dW]
 rw[this];exact qI fun x=>fzI g m x
def PD (l:List Nat):AV:=if l=[]then .bl else .sl (l.map eN)
def qt (cnt:Nat) (bs:List PB) (m:Nat):List (List AV):=(List.range cnt).map fun v=>[PD (jb bs m v)]
theorem Dm {cnt:Nat} {bs:List PB} {m v:Nat} (h:v<cnt):(qt cnt bs m)[v]? =some [PD (jb bs m v)]:=by simp[qt,h]
def fQ (cnt:Nat) (bs:List PB) (f:Nat->Int):List AV:=[.int .i64 cnt,.sl (bs.map ay),.sl (qt cnt bs bs.length),.sl (dW f bs.length)]
theorem uQ {bs:List PB} {e:Nat} (h:e<bs.length):(bs.map ay)[e]? =some (ay (cE bs e)):=getD_map ay h
def Small (bs:List PB) (f:Nat->Int):Prop:=∀e,e<bs.length->(0<=(cE bs e).s/\(cE bs e).s<=4)/\-4<=f e/\f e<=4
theorem Kc (cnt:Nat) (bs:List PB) (f:Nat->Int) (hs:Small bs f) (e v:Nat) (he:e<bs.length):aq Tryz.prog 297 [.di (fQ cnt bs f),.int .i64 v,.int .i64 e] (.gD [.int .i64 (fF bs f e v),.int .i64 (cm bs e v)]):=by
 refine aq.body dX rfl fun hl n0=>?_
 clear hl
 have hb:=uQ he
 have hf:=dO (f:=f) he
 obtain⟨⟨s0,s1⟩,s2,s3⟩:=hs e he
 have w1:IntKind.i64.wrap ((cE bs e).s-f e)=(cE bs e).s-f e:=bz (by omega)
 have w2:IntKind.i64.wrap ((cE bs e).s+f e)=(cE bs e).s+f e:=bz (by omega)
 unfold fF cm
 generalize cE bs e=b at *
 by_cases h:b.a=v
 ·have hd:decide ((b.a:Int)=(v:Int))=true:=decide_eq_true (by rw[h])
  (try((repeat(revert hN;revert N;apply Pn.out));refine wk (tw @fQ.eq_1 (tw @hb (tw @hf (tw @ay.eq_1 (tw @bh.eq_1 (tw @hd (tw @w1 @w2))))))) ?_;(repeat(refine Pn.mk ?_;intro N hN))))
  refine jC (.inl rfl) (by simp only[go_sem, ↓reduceIte,Nat.reduceEqDiff,Nat.reduceAdd,Nat.reduceSub,Nat.reduceLeDiff,reduceCtorEq];rfl) (by simp only[go_sem, ↓reduceIte,Nat.reduceEqDiff,Nat.reduceAdd,Nat.reduceSub,Nat.reduceLeDiff,reduceCtorEq];rfl) ?_
  simp only[eS,bB,cw,eG,Option.map_some,if_pos h]
 ·have hd:decide ((b.a:Int)=(v:Int))=false:=decide_eq_false fun hc=>h (by omega)
  (try((repeat(revert hN;revert N;apply Pn.out));refine wk (tw @fQ.eq_1 (tw @hb (tw @hf (tw @ay.eq_1 (tw @bh.eq_1 (tw @hd (tw @w1 @w2))))))) ?_;(repeat(refine Pn.mk ?_;intro N hN))))
  refine jC (.inl rfl) (by simp only[go_sem, ↓reduceIte,Nat.reduceEqDiff,Nat.reduceAdd,Nat.reduceSub,Nat.reduceLeDiff,reduceCtorEq];rfl) (by simp only[go_sem, ↓reduceIte,Nat.reduceEqDiff,Nat.reduceAdd,Nat.reduceSub,Nat.reduceLeDiff,reduceCtorEq];rfl) ?_
  simp only[eS,bB,cw,eG,Option.map_some,if_neg h]
theorem FW (cnt:Nat) (hn:cnt<=1048576) (bs:List PB) (ok:nF cnt bs) (ql:bs.length<=1048576) (f:Nat->Int) (hs:Small bs f) (y:Nat) (hy:y<cnt):
  mj Tryz.prog 253 [.di (fQ cnt bs f),.int .i64 y] fun r=>∃out,r=.sl (dW out cnt)/\zF cnt bs f y out:=by
 refine mj.body dX rfl fun hl n0=>?_
 clear hl
 (try((repeat(revert hN;revert N;apply Pn.out));refine wk @fQ.eq_1 ?_;(repeat(refine Pn.mk ?_;intro N hN))))
 refine aU (fun n env st=>∃k:Nat,n=(cnt)-k/\k<=(cnt)/\env 6=.int .i64 (k:Int)/\(∃o:Id,env 5=.own o 0 k/\st.get o=some ⟨true,1,dW (fun _=>-1) k⟩/\o.ck<st.next)) (cnt) ⟨0,by omega,by omega,sl @fQ.eq_1,⟨⟨253001000,n0+1⟩,by(simp only[go_sem, ↓reduceIte,Nat.reduceEqDiff,Nat.reduceAdd,Nat.reduceSub,Nat.reduceLeDiff,reduceCtorEq])<;>rfl,by(simp only[go_sem, ↓reduceIte,Nat.reduceEqDiff,Nat.reduceAdd,Nat.reduceSub,Nat.reduceLeDiff,reduceCtorEq])<;>rfl,by(try dsimp only);omega⟩⟩ ?_
 rintro n_a env_a st_a ⟨k,rfl,ale,a6,lZ⟩ dC
 have a0:=dC 0 (by kernel_rfl);have a1:=dC 1 (by kernel_rfl)
 simp only[go_sem, ↓reduceIte,Nat.reduceEqDiff,Nat.reduceAdd,Nat.reduceSub,Nat.reduceLeDiff,reduceCtorEq,fQ]at a0 a1
 clear dC
 obtain⟨o,a5,ag,vk⟩:=lZ
 have tl:=dB (fun _=>-1) k
 have sP:=dr vk
 by_cases hk:(k:Int)<(cnt:Int)
 ·have cD:∀{e:Env} {gg:Rows} {nx:Nat},(e 6=.int .i64 (IntKind.i64.wrap ((k:Int)+1)))->(∃o:Id,e 5=.own o 0 (k+1)/\gg o=some ⟨true,1,dW (fun _=>-1) (k+1)⟩/\o.ck<nx)->∃m0,m0<(cnt)-k/\∃k:Nat,m0=(cnt)-k/\k<=(cnt)/\e 6=.int .i64 (k:Int)/\(∃o:Id,e 5=.own o 0 k/\gg o=some ⟨true,1,dW (fun _=>-1) k⟩/\o.ck<nx):=fun x1 x2=>⟨_,by omega,k+1,rfl,by omega,(by rw[x1,aA (by omega)]),x2⟩
  have e1:k+1<=16777216:=by omega
  have tg:dW (fun _=>-1) k++[[.int .i64 (-1)]]=dW (fun _=>-1) (k+1):=(Hz _ _).symm
  (try((repeat(revert hN;revert N;apply Pn.out));refine wk (tw @a6 (tw @a0 (tw @a1 (tw @a5 (tw @ag (tw @sP (tw @hk (tw @tl (tw @e1 (tw @tg @fQ.eq_1)))))))))) ?_;(repeat(refine Pn.mk ?_;intro N hN))))
  exact cD (sd (tw @a6 (tw @a0 (tw @a1 @fQ.eq_1)))) (⟨⟨253005002,st_a.next+1⟩,sd @Nat.zero_add,sd @tg,by(try dsimp only);omega⟩)
 have mh:k=cnt:=by omega
 subst mh
 have Tz:(y:Int)<(k:Int):=by omega
 have hym:=dO (f:=fun _=>-1) hy
 have B4:(dW (fun _=>-1) k).set y (bh 0)=dW (fun v=>if v=y then 0 else -1) k:=lk hy (if_pos rfl) fun i _ hi=>if_neg hi
 rw[bh]at B4 hym
 (try((repeat(revert hN;revert N;apply Pn.out));refine wk (tw @a6 (tw @a0 (tw @a1 (tw @a5 (tw @ag (tw @sP (tw @hk (tw @tl (tw @Tz (tw @hym (tw @B4 @fQ.eq_1))))))))))) ?_;(repeat(refine Pn.mk ?_;intro N hN))))
 refine aU (fun m env st=>∃(i:Nat) (out:Nat->Int) (Q:List Nat) (p:Id),m=k-i/\env 8=.int .i64 (i:Int)/\env 7=.own p 0 Q.length/\st.get p=some ⟨true,1,Q.map eN⟩/\st.get o=some ⟨true,1,dW out k⟩/\o.ck<p.ck/\p.ck<st.next/\A5 k bs f y out Q i/\i<=Q.length) k ⟨0,_,[y],⟨253007001,st_a.next+1+1⟩,by omega,by(simp only[go_sem, ↓reduceIte,Nat.reduceEqDiff,Nat.reduceAdd,Nat.reduceSub,Nat.reduceLeDiff,reduceCtorEq])<;>rfl,by(simp only[go_sem, ↓reduceIte,Nat.reduceEqDiff,Nat.reduceAdd,Nat.reduceSub,Nat.reduceLeDiff,reduceCtorEq])<;>rfl,by(simp only[go_sem, ↓reduceIte,Nat.reduceEqDiff,Nat.reduceAdd,Nat.reduceSub,Nat.reduceLeDiff,reduceCtorEq])<;>rfl,sd @sP,by(try dsimp only);omega,by(try dsimp only);omega,A5.start hy,by simp⟩ ?_
 rintro n env_b st_b ⟨i,out,Q,p,rfl,b8,b7,bgp,bgo,er,hpn,hB,hiq⟩ gh
 have b0:=gh 0 (by kernel_rfl)
 have b5:=gh 5 (by kernel_rfl)
 simp only[go_sem, ↓reduceIte,Nat.reduceEqDiff,Nat.reduceAdd,Nat.reduceSub,Nat.reduceLeDiff,reduceCtorEq,a6,a0,a1,a5,fQ]at b0 b5
 clear gh
 have hql:=hB.len
 have TE:=dB out k
 have hqm:(Q.map eN).length=Q.length:=by simp
 have Be:=dr hpn
 have qf:=dr (i:=o) (n:=st_b.next) (by omega)
 by_cases hi:(i:Int)<(Q.length:Int)
 ·have fw:i<Q.length:=by omega
  have ke:(Q.map eN)[i]? =some (eN Q[i]):=by simp[fw]
  have Np:=hB.lt _ (List.getElem_mem fw)
  obtain⟨vt,O9⟩:∃vt,vt=Q[i]:=⟨_,rfl⟩
  rw[<-O9]at ke Np
  have hA:=Dm (cnt:=k) (bs:=bs) (m:=bs.length) Np
  have L0:(vt:Int)<(k:Int):=by omega
  have lK:=rY bs bs.length vt
  have hme:∀x,x<(jb bs bs.length vt).length->(jb bs bs.length vt).getD x 0<bs.length/\E0 bs ((jb bs bs.length vt).getD x 0) vt:=fun x hx=>by
   rw[List.getD_eq_getElem?_getD,List.getElem?_eq_getElem hx]
   exact rZ.1 (List.getElem_mem hx)
  have Rx:∀e∈jb bs bs.length vt,∃x,x<(jb bs bs.length vt).length/\(jb bs bs.length vt).getD x 0=e:=fun e he=>by
   obtain⟨x,hx,rfl⟩:=List.getElem_of_mem he
   exact⟨x,hx,by rw[List.getD_eq_getElem?_getD,List.getElem?_eq_getElem hx];rfl⟩
  generalize hIn:jb bs bs.length vt=I at *
  unfold PD at hA
  by_cases LF:I=[]
  ·rw[if_pos LF]at hA
   have hI1:I.length=0:=by rw[LF];rfl
   (try((repeat(revert hN;revert N;apply Pn.out));refine wk (tw @b0 (tw @b5 (tw @b7 (tw @b8 (tw @bgp (tw @hi (tw @ke (tw @hqm (tw @eN.eq_1 @fQ.eq_1))))))))) ?_;(repeat(refine Pn.mk ?_;intro N hN))))
   refine aU (fun n env st=>∃x:Nat,n=(I.length)-x/\x<=(I.length)/\env 10=.int .i64 (x:Int)/\(∃(iQ:Nat->Int) (Q':List Nat) (p':Id),env 7=.own p' 0 Q'.length/\st.get p'=some ⟨true,1,Q'.map eN⟩/\st.get o=some ⟨true,1,dW iQ k⟩/\o.ck<p'.ck/\p'.ck<st.next/\A5 k bs f y iQ Q' i/\(∃h:i<Q'.length,Q'[i]=vt)/\(∀z,z<x->0<fF bs f (I.getD z 0) (cm bs (I.getD z 0) vt)->0<=iQ (cm bs (I.getD z 0) vt)))) (I.length) ⟨0,by omega,by omega,sl (tw @b0 (tw @b5 (tw @b8 @fQ.eq_1))),⟨out,Q,p,sd @b7,sd @bgp,sd @bgo,er,by(try dsimp only);omega,hB,⟨fw,O9.symm⟩,fun z hz=>by omega⟩⟩ ?_
   rintro n_c env_c st_c ⟨x,rfl,cle,jF,cI0⟩ cfr
   have c0:=cfr 0 (by kernel_rfl);have c5:=cfr 5 (by kernel_rfl);have c8:=cfr 8 (by kernel_rfl);have c9:=cfr 9 (by kernel_rfl)
   simp only[go_sem, ↓reduceIte,Nat.reduceEqDiff,Nat.reduceAdd,Nat.reduceSub,Nat.reduceLeDiff,reduceCtorEq,b0,b5,b8,fQ]at c0 c5 c8 c9
   clear cfr
   obtain⟨iQ,Q',p',c7,Iv,yz,DT,OX,dz,⟨xZ,qQ⟩,K7⟩:=cI0
   have Vk:=dz.len
   have PI:=dB iQ k
   have OY:(Q'.map eN).length=Q'.length:=by simp
   have Ah:=dr OX
   have mD:=dr (i:=o) (n:=st_c.next) (by omega)
   have x1:=cz DT
   have hx:¬(x:Int)<((0:Nat):Int):=by omega
   have hxe:x=I.length:=by omega
   have hw:IntKind.i64.wrap ((i:Int)+1)=((i+1:Nat):Int):=aA (by omega)
   (try((repeat(revert hN;revert N;apply Pn.out));refine wk (tw @jF (tw @c0 (tw @c5 (tw @c8 (tw @c9 (tw @c7 (tw @hx (tw @hA (tw @L0 @fQ.eq_1))))))))) ?_;(repeat(refine Pn.mk ?_;intro N hN))))
   refine⟨_,?_,i+1,iQ,Q',p',rfl,sd (tw @jF (tw @c0 (tw @c5 (tw @c8 (tw @c9 @hw))))),sd @c7,sd @Iv,sd @yz,DT,by(try dsimp only);omega,dz.next xZ fun e he hr=>?_,by omega⟩
   ·omega
   ·rw[qQ,hIn]at he
    rw[qQ]at hr ⊢
    obtain⟨z,hz,rfl⟩:=Rx e he
    exact K7 z (by omega) hr
  ·rw[if_neg LF]at hA
   have qL:(I.map eN).length=I.length:=by simp
   (try((repeat(revert hN;revert N;apply Pn.out));refine wk (tw @b0 (tw @b5 (tw @b7 (tw @b8 (tw @bgp (tw @hi (tw @ke (tw @hqm (tw @eN.eq_1 @fQ.eq_1))))))))) ?_;(repeat(refine Pn.mk ?_;intro N hN))))
   refine aU (fun n env st=>∃x:Nat,n=(I.length)-x/\x<=(I.length)/\env 10=.int .i64 (x:Int)/\(∃(iQ:Nat->Int) (Q':List Nat) (p':Id),env 7=.own p' 0 Q'.length/\st.get p'=some ⟨true,1,Q'.map eN⟩/\st.get o=some ⟨true,1,dW iQ k⟩/\o.ck<p'.ck/\p'.ck<st.next/\A5 k bs f y iQ Q' i/\(∃h:i<Q'.length,Q'[i]=vt)/\(∀z,z<x->0<fF bs f (I.getD z 0) (cm bs (I.getD z 0) vt)->0<=iQ (cm bs (I.getD z 0) vt)))) (I.length) ⟨0,by omega,by omega,sl (tw @b0 (tw @b5 (tw @b8 @fQ.eq_1))),⟨out,Q,p,sd @b7,sd @bgp,sd @bgo,er,by(try dsimp only);omega,hB,⟨fw,O9.symm⟩,fun z hz=>by omega⟩⟩ ?_
   rintro n_c env_c st_c ⟨x,rfl,cle,jF,cI0⟩ cfr
   have c0:=cfr 0 (by kernel_rfl);have c5:=cfr 5 (by kernel_rfl);have c8:=cfr 8 (by kernel_rfl);have c9:=cfr 9 (by kernel_rfl)
   simp only[go_sem, ↓reduceIte,Nat.reduceEqDiff,Nat.reduceAdd,Nat.reduceSub,Nat.reduceLeDiff,reduceCtorEq,b0,b5,b8,fQ]at c0 c5 c8 c9
   clear cfr
   obtain⟨iQ,Q',p',c7,Iv,yz,DT,OX,dz,⟨xZ,qQ⟩,K7⟩:=cI0
   have Vk:=dz.len
   have PI:=dB iQ k
   have OY:(Q'.map eN).length=Q'.length:=by simp
   have Ah:=dr OX
   have mD:=dr (i:=o) (n:=st_c.next) (by omega)
   have x1:=cz DT
   by_cases hx:(x:Int)<(I.length:Int)
   ·have im:∀{e:Env} {gg:Rows} {nx:Nat},(e 10=.int .i64 (IntKind.i64.wrap ((x:Int)+1)))->(∃(iQ:Nat->Int) (Q':List Nat) (p':Id),e 7=.own p' 0 Q'.length/\gg p'=some ⟨true,1,Q'.map eN⟩/\gg o=some ⟨true,1,dW iQ k⟩/\o.ck<p'.ck/\p'.ck<nx/\A5 k bs f y iQ Q' i/\(∃h:i<Q'.length,Q'[i]=vt)/\(∀z,z<(x+1)->0<fF bs f (I.getD z 0) (cm bs (I.getD z 0) vt)->0<=iQ (cm bs (I.getD z 0) vt)))->∃m0,m0<(I.length)-x/\∃x:Nat,m0=(I.length)-x/\x<=(I.length)/\e 10=.int .i64 (x:Int)/\(∃(iQ:Nat->Int) (Q':List Nat) (p':Id),e 7=.own p' 0 Q'.length/\gg p'=some ⟨true,1,Q'.map eN⟩/\gg o=some ⟨true,1,dW iQ k⟩/\o.ck<p'.ck/\p'.ck<nx/\A5 k bs f y iQ Q' i/\(∃h:i<Q'.length,Q'[i]=vt)/\(∀z,z<x->0<fF bs f (I.getD z 0) (cm bs (I.getD z 0) vt)->0<=iQ (cm bs (I.getD z 0) vt))):=fun x1 x2=>⟨_,by omega,x+1,rfl,by omega,(by rw[x1,aA (by omega)]),x2⟩
    have Qy:x<I.length:=by omega
    have Om:(I.map eN)[x]? =some (eN (I.getD x 0)):=getD_map eN Qy
    obtain⟨he,qd⟩:=hme x Qy
    obtain⟨e,Td⟩:∃e,e=I.getD x 0:=⟨_,rfl⟩
    rw[<-Td]at Om he qd
    have iN:=uQ he
    have hq:=pb ok (v:=vt) he
    have To:=pc ok he qd
    have O1:=Kc k bs f hs e (cm bs e vt) he
    have Rk:=ok e he
    have jq:IntKind.i64.wrap (((cE bs e).a:Int)+((cE bs e).b:Int))=((cE bs e).a:Int)+((cE bs e).b:Int):=bz (by omega)
    have jJ:IntKind.i64.wrap (((cE bs e).a:Int)+((cE bs e).b:Int)-(vt:Int))=(cm bs e vt:Int):=by
     rw[bz (by omega)]
     unfold cm
     rcases qd with h1|h1
     ·rw[if_pos h1];omega
     ·rw[if_neg fun h2=>Rk.2.2 (h2.trans h1.symm)];omega
    have Qr:(cm bs e vt:Int)<(k:Int):=by omega
    have OI:=dO (f:=iQ) hq
    have LK:=dO (f:=iQ) Np
    rw[fQ]at O1
    have lr:=dz.up i xZ
    rw[qQ]at lr
    have kq:=dz.lo vt Np
    have uJ:IntKind.i64.wrap (iQ vt+1)=iQ vt+1:=bz (by omega)
    rw[bh]at OI LK
    generalize xK:cE bs e=b at *
    by_cases kf:iQ (cm bs e vt)<0
    ·by_cases fV:0<fF bs f e (cm bs e vt)
     ·have hV:=dz.visit ok xZ (e:=e) he (by rw[qQ];exact qd) (by rw[qQ];exact kf) (by rw[qQ];exact fV)
      rw[qQ]at hV
      have eE:(dW iQ k).set (cm bs e vt) (bh (iQ vt+1))=dW (fun v=>if v=cm bs e vt then iQ vt+1 else iQ v) k:=lk hq (if_pos rfl) fun v _ hv=>if_neg hv
      rw[bh]at eE
      have e1:Q'.length+1<=16777216:=by omega
      (repeat(first|((repeat(revert hN;revert N;apply Pn.out));refine wk (tw @jF (tw @c0 (tw @c5 (tw @c8 (tw @c9 (tw @c7 (tw @Iv (tw @yz (tw @hx (tw @hA (tw @qL (tw @Om (tw @L0 (tw @iN (tw @jq (tw @jJ (tw @Qr (tw @OI (tw @LK (tw @kf (tw @fV (tw @uJ (tw @eE (tw @OY (tw @PI (tw @Ah (tw @mD (tw @x1 (tw @e1 (tw @eN.eq_1 (tw @ay.eq_1 @fQ.eq_1))))))))))))))))))))))))))))))) ?_;(repeat(refine Pn.mk ?_;intro N hN)))|((try apply Or.inl);refine⟨_,aq.x (O1) (sd (tw @jF (tw @c0 (tw @c5 (tw @c8 (tw @c9 (tw @c7 (tw @Iv (tw @yz (tw @hx (tw @hA (tw @qL (tw @Om (tw @L0 (tw @iN (tw @jq (tw @jJ (tw @Qr (tw @OI (tw @LK (tw @kf (tw @fV (tw @uJ (tw @eE (tw @OY (tw @PI (tw @Ah (tw @mD (tw @x1 (tw @e1 (tw @eN.eq_1 (tw @ay.eq_1 @fQ.eq_1)))))))))))))))))))))))))))))))),?_⟩;refine hN _ _ ?_;clear hN N)))
      exact im (sd (tw @jF (tw @c0 (tw @c5 (tw @c8 @c9))))) (⟨_,Q'++[cm bs e vt],⟨253020003,st_c.next+1+1+1+1+1+1⟩,by rw[List.length_append];simp only[go_sem, ↓reduceIte,Nat.reduceEqDiff,Nat.reduceAdd,Nat.reduceSub,Nat.reduceLeDiff,reduceCtorEq,List.length_cons,List.length_nil],by rw[List.map_append,List.map_cons,List.map_nil];simp only[go_sem, ↓reduceIte,Nat.reduceEqDiff,Nat.reduceAdd,Nat.reduceSub,Nat.reduceLeDiff,reduceCtorEq,eN],sd (tw @mD @x1),by(try dsimp only);omega,by(try dsimp only);omega,hV,⟨by simp;omega,by rw[List.getElem_append_left xZ];exact qQ⟩,fun z hz hr=>by
       by_cases RZ:z=x
       ·subst RZ
        rw[<-Td,if_pos rfl]
        have:=(dz.iff vt Np).2 (by rw[<-qQ];exact List.getElem_mem xZ)
        omega
       ·have:=K7 z (by omega) hr
        split
        ·have:=(dz.iff vt Np).2 (by rw[<-qQ];exact List.getElem_mem xZ)
         omega
        ·exact this⟩)
     ·(repeat(first|((repeat(revert hN;revert N;apply Pn.out));refine wk (tw @jF (tw @c0 (tw @c5 (tw @c8 (tw @c9 (tw @c7 (tw @Iv (tw @yz (tw @hx (tw @hA (tw @qL (tw @Om (tw @L0 (tw @iN (tw @jq (tw @jJ (tw @Qr (tw @OI (tw @kf (tw @fV (tw @PI (tw @Ah (tw @mD (tw @x1 (tw @eN.eq_1 (tw @ay.eq_1 @fQ.eq_1)))))))))))))))))))))))))) ?_;(repeat(refine Pn.mk ?_;intro N hN)))|((try apply Or.inl);refine⟨_,aq.x (O1) (sd (tw @jF (tw @c0 (tw @c5 (tw @c8 (tw @c9 (tw @c7 (tw @Iv (tw @yz (tw @hx (tw @hA (tw @qL (tw @Om (tw @L0 (tw @iN (tw @jq (tw @jJ (tw @Qr (tw @OI (tw @kf (tw @fV (tw @PI (tw @Ah (tw @mD (tw @x1 (tw @eN.eq_1 (tw @ay.eq_1 @fQ.eq_1))))))))))))))))))))))))))),?_⟩;refine hN _ _ ?_;clear hN N)))
      exact im (sd (tw @jF (tw @c0 (tw @c5 (tw @c8 @c9))))) (⟨iQ,Q',p',sd @c7,sd (tw @Iv @Ah),sd (tw @yz @mD),DT,by(try dsimp only);omega,dz,⟨xZ,qQ⟩,fun z hz hr=>by
       by_cases RZ:z=x
       ·subst RZ;rw[<-Td]at hr;exact absurd hr fV
       ·exact K7 z (by omega) hr⟩)
    ·(repeat(first|((repeat(revert hN;revert N;apply Pn.out));refine wk (tw @jF (tw @c0 (tw @c5 (tw @c8 (tw @c9 (tw @c7 (tw @Iv (tw @yz (tw @hx (tw @hA (tw @qL (tw @Om (tw @L0 (tw @iN (tw @jq (tw @jJ (tw @Qr (tw @OI (tw @kf (tw @PI (tw @Ah (tw @mD (tw @x1 (tw @eN.eq_1 (tw @ay.eq_1 @fQ.eq_1))))))))))))))))))))))))) ?_;(repeat(refine Pn.mk ?_;intro N hN)))|((try apply Or.inl);refine⟨_,aq.x (O1) (sd (tw @jF (tw @c0 (tw @c5 (tw @c8 (tw @c9 (tw @c7 (tw @Iv (tw @yz (tw @hx (tw @hA (tw @qL (tw @Om (tw @L0 (tw @iN (tw @jq (tw @jJ (tw @Qr (tw @OI (tw @kf (tw @PI (tw @Ah (tw @mD (tw @x1 (tw @eN.eq_1 (tw @ay.eq_1 @fQ.eq_1)))))))))))))))))))))))))),?_⟩;refine hN _ _ ?_;clear hN N)))
     exact im (sd (tw @jF (tw @c0 (tw @c5 (tw @c8 @c9))))) (⟨iQ,Q',p',sd @c7,sd (tw @Iv @Ah),sd (tw @yz @mD),DT,by(try dsimp only);omega,dz,⟨xZ,qQ⟩,fun z hz hr=>by
      by_cases RZ:z=x
      ·subst RZ;rw[<-Td];omega
      ·exact K7 z (by omega) hr⟩)
   ·have hxe:x=I.length:=by omega
    have hw:IntKind.i64.wrap ((i:Int)+1)=((i+1:Nat):Int):=aA (by omega)
    (try((repeat(revert hN;revert N;apply Pn.out));refine wk (tw @jF (tw @c0 (tw @c5 (tw @c8 (tw @c9 (tw @c7 (tw @hx (tw @hA (tw @qL (tw @L0 @fQ.eq_1)))))))))) ?_;(repeat(refine Pn.mk ?_;intro N hN))))
    refine⟨_,?_,i+1,iQ,Q',p',rfl,sd (tw @jF (tw @c0 (tw @c5 (tw @c8 (tw @c9 @hw))))),sd @c7,sd @Iv,sd @yz,DT,by(try dsimp only);omega,dz.next xZ fun e he hr=>?_,by omega⟩
    ·omega
    ·rw[qQ,hIn]at he
     rw[qQ]at hr ⊢
     obtain⟨z,hz,rfl⟩:=Rx e he
     exact K7 z (by omega) hr
 ·(try((repeat(revert hN;revert N;apply Pn.out));refine wk (tw @b0 (tw @b5 (tw @b7 (tw @b8 (tw @hi @fQ.eq_1))))) ?_;(repeat(refine Pn.mk ?_;intro N hN))))
  have tb:gC st_b.get 6 (.own o 0 k)=some (.sl (dW out k)):=uZ bgo (by rw[TE];omega) (by rw[List.drop_zero,List.take_of_length_le (by rw[TE];omega)];exact Kr)
  exact⟨_,rfl,_,by simp only[go_sem, ↓reduceIte,Nat.reduceEqDiff,Nat.reduceAdd,Nat.reduceSub,Nat.reduceLeDiff,reduceCtorEq,fa];exact tb,out,rfl,hB.done ok (by omega)⟩
end Go.Proofs.YtgoljkjaameagaaGreat.V

namespace Go.Proofs.YtgoljkjaameagaaGreat.V
open Go.RowKit
attribute [local irreducible] dI wpOps gy Call
attribute [local go_sem] aM fG eQ fZ fY cQ upd cC K.av cP AV.cells AV.cell rowOf rowsOf part ld rowAt bt cu dE ee ik bJ dh ew fX eX dp ej dd dc dQ dR bQ bf cW bP cY cX eh ek ei cV b4 de ef bK aP da cG ij bw cK bU aY dn bc dF AV.undef bF bI dS ec dM dK cH ev eA cF ep eo cZ db List.getD_cons_zero List.getD_cons_succ List.getD_nil List.all_cons List.all_nil Bool.and_true Bool.true_and Bool.and_self Bool.not_true Bool.not_false Option.map_some Option.map_none Option.bind_some Option.bind_none List.length_cons List.length_nil List.take_succ_cons List.take_zero List.take_nil List.drop_succ_cons List.drop_zero List.drop_nil List.head?_cons List.map_cons List.map_nil List.getElem?_cons_zero List.getElem?_cons_succ List.cons_append List.nil_append List.append_nil List.length_map List.set_cons_zero List.set_cons_succ eq_self Int.toNat_natCast Int.natCast_nonneg and_self true_and and_true decide_true decide_false Bool.false_eq_true Nat.zero_add Nat.add_zero List.contains_cons List.contains_nil Bool.or_false Bool.false_or beq_self_eq_true ne_eq not_true_eq_false not_false_eq_true Id.mk.injEq false_and and_false Nat.le_refl List.length_append beq_true beq_false Bool.not_eq_eq_eq_not or_false false_or dJ ai aj aD bp bE cq aT bd aX bj cR bG
def P8:C2 (List Nat):=fun g cs x ids=>(x=[]/\cs=[.bl]/\ids=[])∨∃id,cs=[.own id 0 x.length]/\0<x.length/\g id=some ⟨true,1,x.map eN⟩/\ids=[id]
theorem Nw:xO P8 1 where
 frame:=fun h hf=>by
  rcases h with h|⟨id,h1,h0,h2,h3⟩
  ·exact .inl h
  ·subst h3;exact .inr ⟨id,h1,h0,(hf id (by simp)).trans h2,rfl⟩
 len:=fun h=>by rcases h with⟨_,h,_⟩|⟨id,h,_⟩<;>subst h<;>rfl
 cell:=fun h=>by rcases h with⟨_,h,_⟩|⟨id,h,_⟩<;>subst h<;>rfl
 live:=fun h i hi=>by
  rcases h with⟨_,_,h⟩|⟨id,h1,h0,h2,h3⟩
  ·subst h;cases hi
  ·subst h3
   have:i=id:=by simpa using hi
   subst this
   exact⟨_,h2,rfl,by simp[r8]⟩
 small:=by simp[r8]
theorem Pg {g:Rows} {rows:List (List AV)} {xs:List (List Nat)} {ids:List Id} (n:Nat) (h:eI P8 g rows xs ids):eb (dJ g) (n+2) rows=some (xs.map fun l=>[PD l]):=
 h.fz (fun {cs x ids} h=>by
  rcases h with⟨h0,h1,_⟩|⟨id,h1,h0,h2,_⟩
  ·subst h0 h1;rw[ai,aj,aT];rfl
  ·have gZ:x≠[]:=by rintro rfl;simp at h0
   subst h1
   rw[ai,aj,fM (e:=eN) (sz:=1) (by simp[dJ,h2]) rfl fun a=>fzN _ n a]
   simp[PD,gZ])
theorem eI.Sf {α:Type} {R:C2 α} {sz:Nat} {g:Rows} {rows:List (List AV)} {xs:List α} {ids:List Id} (ok:xO R sz) (h:eI R g rows xs ids) (mz:ids.Nodup) (k:Nat) (hk:k<xs.length):
  ∃cs ic,rows[k]? =some cs/\R g cs xs[k] ic/\(∀i∈ic,i∈ids)/\∀(g':Rows) qk x' QB,R g' qk x' QB->(∀i∈ids,i∉ic->g' i=g i)->QB.Nodup->(∀i∈QB,i∉ids)->∃D5,eI R g' (rows.set k qk) (xs.set k x') D5/\D5.Nodup/\∀i∈D5,i∈QB∨i∈ids:=by
 obtain⟨r1,cs,r2,i1,ic,i2,rfl,rfl,rfl,h3,h4,h5⟩:=h.split k hk
 obtain⟨n1,n2,n3⟩:=List.nodup_append.1 mz
 obtain⟨nc,n5,n4⟩:=List.nodup_append.1 n2
 refine⟨cs,ic,by simp,h4,fun i hi=>by simp[hi],fun g' qk x' QB hR hf hn' kr=>⟨i1++(QB++i2),?_,?_,fun i hi=>?_⟩⟩
 ·have e:xs.set r1.length x'=xs.take r1.length++x'::xs.drop (r1.length+1):=by rw[List.set_eq_take_append_cons_drop,if_pos hk]
  have e2:(r1++cs::r2).set r1.length qk=r1++qk::r2:=by simp
  rw[e,e2]
  refine(h3.frame ok fun i hi=>hf i (by simp[hi]) fun hc=>n3 i hi i (by simp[hc]) rfl).app (.cons hR (h5.frame ok fun i hi=>hf i (by simp[hi]) fun hc=>n4 i hc i hi rfl))
 ·rw[List.nodup_append,List.nodup_append]
  refine⟨n1,⟨hn',n5,fun x hx y hy he=>?_⟩,fun x hx y hy he=>?_⟩
  ·subst he;exact kr x hx (by simp[hy])
  ·subst he
   rcases List.mem_append.1 hy with hy|hy
   ·exact kr x hy (by simp[hx])
   ·exact n3 x hx x (by simp[hy]) rfl
 ·rcases List.mem_append.1 hi with hi|hi
  ·exact .inr (by simp[hi])
  ·rcases List.mem_append.1 hi with hi|hi
   ·exact .inl hi
   ·exact .inr (by simp[hi])
def rm (A:Id) (lo:Nat) (L:List (List Nat)) (g:Rows) (nx:Nat):Prop:=∃rows ids,g A=some ⟨true,1,rows⟩/\eI P8 g rows L ids/\ids.Nodup/\∀i∈ids,lo<i.ck/\i.ck<nx
def bD (cnt:Nat) (bs:List PB) (A F:Id):List AV:=[.int .i64 cnt,.sl (bs.map ay),.own A 0 cnt,.own F 0 bs.length]
def ly (cnt:Nat) (bs:List PB) (m:Nat):List (List Nat):=(List.range cnt).map fun v=>jb bs m v
theorem jz (cnt:Nat) (bs:List PB) (m:Nat):(ly cnt bs m).length=cnt:=by simp[ly]
structure oy (cnt:Nat) (bs:List PB) (f:Nat->Int) (X A F:Id) (g:Rows) (nx:Nat):Prop where
 x:g X=some ⟨true,4,[bD cnt bs A F]⟩
 a:rm A F.ck (ly cnt bs bs.length) g nx
 f:g F=some ⟨true,1,dW f bs.length⟩
 xa:X.ck<A.ck
 af:A.ck<F.ck
 fn:F.ck<nx
theorem rm.fz {A:Id} {lo cnt:Nat} {bs:List PB} {m nx n:Nat} {g:Rows} (h:rm A lo (ly cnt bs m) g nx):V.fz (dJ g) (n+3) (.own A 0 cnt)=some (.sl (qt cnt bs m)):=by
 obtain⟨rows,ids,h1,h2,_,_⟩:=h
 have hl:=h2.len
 rw[jz]at hl
 rw[iA]
 simp only[dJ,h1,Option.map_some,if_true]
 rw[if_pos (by omega),List.drop_zero,List.take_of_length_le (by omega)]
 have:=Pg n h2
 rw[this]
 simp[ly,qt]
theorem oy.fz {cnt:Nat} {bs:List PB} {f:Nat->Int} {X A F:Id} {g:Rows} {nx:Nat} (h:oy cnt bs f X A F g nx):V.fz (dJ g) 6 (.ptr X 0 0)=some (.di (fQ cnt bs f)):=by
 have hF:dJ g F=some ⟨true,1,dW f bs.length⟩:=by simp[dJ,h.f]
 have hX:dJ g X=some ⟨true,4,[bD cnt bs A F]⟩:=by simp[dJ,h.x]
 have hf:V.fz (dJ g) 5 (.own F 0 bs.length)=some (.sl (dW f bs.length)):=by
  rw[iA]
  simp only[hF,if_true]
  rw[if_pos (by rw[dB];omega),List.drop_zero,List.take_of_length_le (by rw[dB];omega),AO];rfl
 have ha:=h.a.fz (n:=2)
 rw[bj]
 simp only[hX,if_true,List.getElem?_cons_zero,List.drop_zero,bD,ai,aj,aD,cq,ha,hf,Option.map_some,fQ]
theorem GN (cnt:Nat) (bs:List PB):ly cnt bs 0=List.replicate cnt []:=by
 refine List.ext_getElem? fun i=>?_
 simp only[ly,List.getElem?_map,List.getElem?_replicate]
 by_cases h:i<cnt
 ·rw[List.getElem?_range h,if_pos h];rfl
 ·rw[List.getElem?_eq_none (by simpa using h),if_neg h];rfl
theorem zq (g:Rows):∀n:Nat,eI P8 g (List.replicate n [.bl]) (List.replicate n []) []
 |0=>.nil
 |n+1=>.cons (i1:=[]) (.inl ⟨rfl,rfl,rfl⟩) (zq g n)
def yc (cnt:Nat) (bs:List PB) (m:Nat):List (List Nat):=(ly cnt bs m).set (cE bs m).a (jb bs m (cE bs m).a++[m])
theorem Ca {cnt:Nat} {bs:List PB} {m v:Nat} (hv:v<cnt) (gZ:(cE bs m).a≠v):(yc cnt bs m)[v]? =some (jb bs m v):=by
 unfold yc
 rw[List.getElem?_set_ne gZ]
 simp[ly,hv]
theorem GM {cnt:Nat} {bs:List PB} {m:Nat} (ha:(cE bs m).a<cnt) (hb:(cE bs m).b<cnt) (gZ:(cE bs m).a≠(cE bs m).b):(yc cnt bs m).set (cE bs m).b (jb bs m (cE bs m).b++[m])=ly cnt bs (m+1):=by
 refine List.ext_getElem? fun i=>?_
 by_cases hi:i<cnt
 ·have hr:(ly cnt bs (m+1))[i]? =some (jb bs (m+1) i):=by simp[ly,hi]
  rw[hr,GO]
  by_cases h1:(cE bs m).b=i
  ·rw[List.getElem?_set,if_pos h1,if_pos (by simp[yc,jz];omega),if_pos (.inr h1),h1]
  ·rw[List.getElem?_set_ne h1]
   by_cases h2:(cE bs m).a=i
   ·unfold yc
    rw[List.getElem?_set,if_pos h2,if_pos (by rw[jz];omega),if_pos (.inl h2),h2]
   ·rw[Ca hi h2,if_neg (fun h=>h.elim h2 h1),List.append_nil]
 ·rw[List.getElem?_eq_none (by simp[yc,jz];omega),List.getElem?_eq_none (by rw[jz];omega)]
theorem kS {α:Type} {l:List α} {k:Nat} {x:α} (h:l[k]? =some x) (hk:k<l.length):l[k]=x:=by
 rw[List.getElem?_eq_getElem hk]at h;exact Option.some.inj h
theorem FM {A K:Id} {lo Sb nx k j:Nat} {L:List (List Nat)} {La:List Nat} {g:Rows} {rows:List (List AV)} {ids:List Id} (hR:eI P8 g rows L ids) (mz:ids.Nodup) (oj:∀i∈ids,lo<i.ck/\i.ck<Sb) (hA:A.ck<=lo) (hL:L[k]? =some La) (hK1:Sb<=K.ck) (OB:K.ck<nx) (kq:lo<Sb):
  ∃cs,rows[k]? =some cs/\((La=[]/\cs=[.bl])∨∃id:Id,cs=[.own id 0 La.length]/\0<La.length/\g id=some ⟨true,1,La.map eN⟩/\id.ck<Sb/\lo<id.ck)/\
   ∀g':Rows,g' A=some ⟨true,1,rows.set k [.own K 0 (La.length+1)]⟩->g' K=some ⟨true,1,La.map eN++[[.int .i64 j]]⟩->(∀i:Id,i.ck<Sb->(i=A)=False->(∀id,cs=[.own id 0 La.length]->(i=id)=False)->g' i=g i)->rm A lo (L.set k (La++[j])) g' nx:=by
 have hk:k<L.length:=(List.getElem?_eq_some_iff.1 hL).1
 have Uo:=kS hL hk
 obtain⟨cs,ic,dt,Qh,Rr,wL⟩:=hR.Sf Nw mz k hk
 rw[Uo]at Qh
 refine⟨cs,dt,?_,fun g' h1 h2 h3=>?_⟩
 ·rcases Qh with⟨h1,h2,_⟩|⟨id,h1,h2,h3,h4⟩
  ·exact .inl ⟨h1,h2⟩
  ·subst h4
   have:=oj id (Rr id (by simp))
   exact .inr ⟨id,h1,h2,h3,this.2,this.1⟩
 ·obtain⟨D5,q1,q2,q3⟩:=wL g' [.own K 0 (La.length+1)] (La++[j]) [K] (.inr ⟨K,by simp,by simp,by rw[h2];simp[eN],rfl⟩) (fun i hi Qm=>by
   refine h3 i (oj i hi).2 ?_ fun id hid=>?_
   ·simp only[eq_iff_iff,iff_false];rintro rfl;have:=oj _ hi;omega
   ·simp only[eq_iff_iff,iff_false]
    rintro rfl
    rcases Qh with⟨_,h4,_⟩|⟨j6,h4,_,_,h5⟩
    ·rw[hid]at h4;cases h4
    ·rw[hid]at h4
     simp only[List.cons.injEq,AV.own.injEq,and_true]at h4
     rw[h5,h4]at Qm
     exact Qm (by simp)) (by simp) fun i hi hc=>by
   rw[List.mem_singleton.1 hi]at hc;have:=oj _ hc;omega
  refine⟨_,D5,h1,q1,q2,fun i hi=>?_⟩
  rcases q3 i hi with h|h
  ·rw[List.mem_singleton.1 h];omega
  ·have:=oj i h;omega
theorem MP {P:Program} {Q:Ex->Env->ar->Prop} {c:VC} {env:Env} {σ:ar} (I:Env->ar->Prop) (h2:∀e s,I e s->Q .normal e s) (h1:∀N':Env->ar->Prop,(∀e s,I e s->N' e s)->dI (Call P) c (dn N' Q) env σ):dI (Call P) c Q env σ:=by
 refine jE (fun _ _ _ _ h=>h) aC c _ _ env σ (fun x e s h=>?_) (h1 I fun _ _ h=>h)
 cases x with
 |normal=>exact h2 e s h
 |exit id=>exact h
 |ret=>exact h
end Go.Proofs.YtgoljkjaameagaaGreat.V

namespace Go.Proofs.YtgoljkjaameagaaGreat.V
open Go.RowKit
attribute [local irreducible] dI wpOps gy Call
attribute [local go_sem] aM fG eQ fZ fY cQ upd cC K.av cP AV.cells AV.cell rowOf rowsOf part ld rowAt bt cu dE ee ik bJ dh ew fX eX dp ej dd dc dQ dR bQ bf cW bP cY cX eh ek ei cV b4 de ef bK aP da cG ij bw cK bU aY dn bc dF AV.undef bF bI dS ec dM dK cH ev eA cF ep eo cZ db List.getD_cons_zero List.getD_cons_succ List.getD_nil List.all_cons List.all_nil Bool.and_true Bool.true_and Bool.and_self Bool.not_true Bool.not_false Option.map_some Option.map_none Option.bind_some Option.bind_none List.length_cons List.length_nil List.take_succ_cons List.take_zero List.take_nil List.drop_succ_cons List.drop_zero List.drop_nil List.head?_cons List.map_cons List.map_nil List.getElem?_cons_zero List.getElem?_cons_succ List.cons_append List.nil_append List.append_nil List.length_map List.set_cons_zero List.set_cons_succ Nat.reduceMul eq_self Int.toNat_natCast Int.natCast_nonneg and_self true_and and_true decide_true decide_false Bool.false_eq_true Nat.zero_add Nat.add_zero List.contains_cons List.contains_nil Bool.or_false Bool.false_or beq_self_eq_true Nat.reduceBEq ne_eq not_true_eq_false not_false_eq_true Id.mk.injEq false_and and_false Nat.reduceLT Int.reduceLE Int.reduceLT Int.reduceToNat Int.reduceNeg Int.reduceAdd Nat.le_refl List.length_append beq_true beq_false Bool.not_eq_eq_eq_not or_false false_or dJ ai aj aD bp bE cq aT bd aX bj cR bG
theorem Jy (cnt:Nat) (hn:cnt<=1048576) (bs:List PB) (ok:nF cnt bs) (ql:bs.length<=1048576) (σ:ar):
  Call Tryz.prog 251 [.int .i64 cnt,.sl (bs.map ay)] σ fun r σ'=>∃X A F,r=.ptr X 0 0/\σ.next<=X.ck/\oy cnt bs (fun _=>0) X A F σ'.get σ'.next:=by
 refine H0 NY rfl fun hl=>?_
 try simp only[q]
 clear hl
 have jQ:(0:Int)<=(cnt:Int):=by omega
 have qm:(cnt:Int)<=((16777216:Nat):Int):=by omega
 have Q7:(0:Int)<=(bs.length:Int):=by omega
 have KW:(bs.length:Int)<=((16777216:Nat):Int):=by omega
 have hz:List.replicate bs.length [AV.int .i64 0]=dW (fun _=>0) bs.length:=by
  refine List.ext_getElem? fun i=>?_
  by_cases h:i<bs.length
  ·rw[dO h,List.getElem?_replicate,if_pos h];rfl
  ·rw[List.getElem?_eq_none (by simp;omega),List.getElem?_eq_none (by rw[dB];omega)]
 (try((repeat(revert hN;revert N;apply Pn.out));refine wk (tw @jQ (tw @qm (tw @Q7 (tw @KW (tw @Int.le_refl @hz))))) ?_;(repeat(refine Pn.mk ?_;intro N hN))))
 obtain⟨X,hX⟩:∃X:Id,X=⟨251001003,σ.next+1⟩:=⟨_,rfl⟩
 obtain⟨A,hA⟩:∃X:Id,X=⟨251002002,σ.next+1+1⟩:=⟨_,rfl⟩
 obtain⟨F,hF⟩:∃X:Id,X=⟨251003003,σ.next+1+1+1⟩:=⟨_,rfl⟩
 have hXA:X.ck<A.ck:=by rw[hX,hA];(try dsimp only);omega
 have hAF:A.ck<F.ck:=by rw[hA,hF];(try dsimp only);omega
 have hXs:σ.next<=X.ck:=by rw[hX];(try dsimp only);omega
 refine aU (fun n env st=>∃j:Nat,n=(bs.length)-j/\j<=(bs.length)/\env 6=.int .i64 (j:Int)/\env 5=(.ptr X 0 0)/\st.get X=some ⟨true,4,[bD cnt bs A F]⟩/\st.get F=some ⟨true,1,dW (fun _=>0) bs.length⟩/\(rm A F.ck (ly cnt bs j) st.get st.next/\F.ck<st.next)) (bs.length) ⟨0,by omega,by omega,by(try simp only[go_sem, ↓reduceIte,Nat.reduceEqDiff,Nat.reduceAdd,Nat.reduceSub,Nat.reduceLeDiff,reduceCtorEq,hX,hF,hA,bD,hz]);try rfl,by(try simp only[go_sem, ↓reduceIte,Nat.reduceEqDiff,Nat.reduceAdd,Nat.reduceSub,Nat.reduceLeDiff,reduceCtorEq,hX,hF,hA,bD,hz]);try rfl,by(try simp only[go_sem, ↓reduceIte,Nat.reduceEqDiff,Nat.reduceAdd,Nat.reduceSub,Nat.reduceLeDiff,reduceCtorEq,hX,hF,hA,bD,hz]);try rfl,by(try simp only[go_sem, ↓reduceIte,Nat.reduceEqDiff,Nat.reduceAdd,Nat.reduceSub,Nat.reduceLeDiff,reduceCtorEq,hX,hF,hA,bD,hz]);try rfl,⟨⟨List.replicate cnt [.bl],[],by rw[hA];(simp only[go_sem, ↓reduceIte,Nat.reduceEqDiff,Nat.reduceAdd,Nat.reduceSub,Nat.reduceLeDiff,reduceCtorEq])<;>rfl,by rw[GN];exact zq _ _,List.nodup_nil,fun i hi=>by cases hi⟩,by rw[hF];(try dsimp only);omega⟩⟩ ?_
 rintro n_a env_a st_a ⟨j,rfl,ale,a6,a5,ag0,ag1,lZ⟩ dC
 have a0:=dC 0 (by kernel_rfl);have a1:=dC 1 (by kernel_rfl)
 simp only[go_sem, ↓reduceIte,Nat.reduceEqDiff,Nat.reduceAdd,Nat.reduceSub,Nat.reduceLeDiff,reduceCtorEq,hX,hF,hA,bD,hz]at a0 a1
 clear dC
 obtain⟨⟨rows,ids,ag,hR,mz,oj⟩,hFn⟩:=lZ
 have x1:=cz hXA
 have x2:=cz hAF
 have x3:=cz (a:=X) (b:=F) (by omega)
 have vX:=dr (i:=X) (n:=st_a.next) (by omega)
 have vA:=dr (i:=A) (n:=st_a.next) (by omega)
 have vF:=dr (i:=F) (n:=st_a.next) (by omega)
 by_cases hj:(j:Int)<(bs.length:Int)
 ·have cD:∀{e:Env} {gg:Rows} {nx:Nat},(e 6=.int .i64 (IntKind.i64.wrap ((j:Int)+1)))->(e 5=(.ptr X 0 0))->(gg X=some ⟨true,4,[bD cnt bs A F]⟩)->(gg F=some ⟨true,1,dW (fun _=>0) bs.length⟩)->(rm A F.ck (ly cnt bs (j+1)) gg nx/\F.ck<nx)->∃m0,m0<(bs.length)-j/\∃j:Nat,m0=(bs.length)-j/\j<=(bs.length)/\e 6=.int .i64 (j:Int)/\e 5=(.ptr X 0 0)/\gg X=some ⟨true,4,[bD cnt bs A F]⟩/\gg F=some ⟨true,1,dW (fun _=>0) bs.length⟩/\(rm A F.ck (ly cnt bs j) gg nx/\F.ck<nx):=fun x1 x2 x3 x4 x5=>⟨_,by omega,j+1,rfl,by omega,(by rw[x1,aA (by omega)]),x2,x3,x4,x5⟩
  have iL:j<bs.length:=by omega
  have iN:=uQ iL
  obtain⟨ha1,Q8,gZ⟩:=ok j iL
  have gM:((cE bs j).a:Int)<(cnt:Int):=by omega
  have fR:((cE bs j).b:Int)<(cnt:Int):=by omega
  have qO:=GM (m:=j) ha1 Q8 gZ
  have e1:=rY bs j (cE bs j).a
  have e2:=rY bs j (cE bs j).b
  have Rp:(yc cnt bs j)[(cE bs j).b]? =some (jb bs j (cE bs j).b):=Ca Q8 gZ
  have Ro:(ly cnt bs j)[(cE bs j).a]? =some (jb bs j (cE bs j).a):=by simp[ly,ha1]
  have Ub:yc cnt bs j=(ly cnt bs j).set (cE bs j).a (jb bs j (cE bs j).a++[j]):=rfl
  have S4:(yc cnt bs j).length=cnt:=by rw[Ub,List.length_set,jz]
  have jm:=hR.len
  rw[jz]at jm
  obtain⟨cs7,jx,IX,Jf⟩:=FM (A:=A) (K:=⟨251007022,st_a.next+1⟩) (nx:=st_a.next+1+1) (j:=j) hR mz oj (by omega) Ro (by(try dsimp only);omega) (by(try dsimp only);omega) hFn
  rw[<-Ub]at Jf
  obtain⟨c7,rfl⟩:∃c,cs7=[c]:=by
   rcases IX with⟨_,h⟩|⟨id,h,_⟩<;>exact⟨_,h⟩
  generalize jb bs j (cE bs j).a=La at *
  generalize jb bs j (cE bs j).b=Lb at *
  generalize cE bs j=b at *
  generalize yc cnt bs j=LA at *
  clear Ub
  (try((repeat(revert hN;revert N;apply Pn.out));refine wk (tw @a6 (tw @a5 (tw @ag0 (tw @ag1 (tw @a0 (tw @a1 (tw @hj (tw @iN (tw @ay.eq_1 (tw @ag (tw @jx (tw @gM (tw @fR (tw @jm (tw @x1 (tw @x2 (tw @x3 (tw @vX (tw @vA (tw @vF @bD.eq_1)))))))))))))))))))) ?_;(repeat(refine Pn.mk ?_;intro N hN))))
  refine KK (fun e s=>e 0=.int .i64 cnt/\e 1=.sl (bs.map ay)/\e 5=.ptr X 0 0/\e 6=.int .i64 j/\s.get X=some ⟨true,4,[bD cnt bs A F]⟩/\s.get F=some ⟨true,1,dW (fun _=>0) bs.length⟩/\rm A F.ck LA s.get s.next/\F.ck<s.next) ?_ ?_
  ·rintro e1 s1 ⟨m0,m1,m5,m6,mX,mF,⟨rows1,ids1,mg,mR,mnd,mver⟩,mn⟩
   refine hN _ _ ?_
   clear hN N
   have jn:=mR.len
   rw[S4]at jn
   have wX:=dr (i:=X) (n:=s1.next) (by omega)
   have wA:=dr (i:=A) (n:=s1.next) (by omega)
   have wF:=dr (i:=F) (n:=s1.next) (by omega)
   obtain⟨cs8,jy,IY,Jg⟩:=FM (A:=A) (K:=⟨251008022,s1.next⟩) (nx:=s1.next+1) (j:=j) mR mnd mver (by omega) Rp (by(try dsimp only);omega) (by(try dsimp only);omega) mn
   rw[qO]at Jg
   obtain⟨c8,rfl⟩:∃c,cs8=[c]:=by
    rcases IY with⟨_,h⟩|⟨id,h,_⟩<;>exact⟨_,h⟩
   (try((repeat(revert hN;revert N;apply Pn.out));refine wk (tw @m0 (tw @m1 (tw @m5 (tw @m6 (tw @mX (tw @mF (tw @hj (tw @iN (tw @ay.eq_1 (tw @mg (tw @jy (tw @gM (tw @fR (tw @jn (tw @x1 (tw @x2 (tw @x3 (tw @wX (tw @wA (tw @wF @bD.eq_1)))))))))))))))))))) ?_;(repeat(refine Pn.mk ?_;intro N hN))))
   refine MP (fun e s=>e 0=.int .i64 cnt/\e 1=.sl (bs.map ay)/\e 5=.ptr X 0 0/\e 6=.int .i64 j/\s.get X=some ⟨true,4,[bD cnt bs A F]⟩/\s.get F=some ⟨true,1,dW (fun _=>0) bs.length⟩/\rm A F.ck (ly cnt bs (j+1)) s.get s.next/\F.ck<s.next) ?_ ?_
   ·rintro e2 s2 ⟨p0,p1,p5,p6,pX,pF,pL,pn⟩
    simp only[dn,bc]
    refine hN _ _ ?_
    clear hN N
    (try((repeat(revert hN;revert N;apply Pn.out));refine wk (tw @p0 (tw @p1 (tw @p5 @p6))) ?_;(repeat(refine Pn.mk ?_;intro N hN))))
    refine cD ?_ ?_ ?_ ?_ (⟨by obtain⟨r,i,q1,q2,q3,q4⟩:=pL;exact⟨r,i,sd @q1,q2,q3,fun x hx=>by have:=q4 x hx;(try dsimp only);omega⟩,by(try dsimp only);omega⟩)
    all_goals simp only[go_sem, ↓reduceIte,Nat.reduceEqDiff,Nat.reduceAdd,Nat.reduceSub,Nat.reduceLeDiff,reduceCtorEq,p0,p1,p5,p6,pX,pF]
   ·intro N hN
    rcases IY with⟨OC,Ab⟩|⟨id,Ab,hLp,hid,LL,yN⟩
    ·simp only[List.cons.injEq,and_true]at Ab
     subst Ab
     subst OC
     refine fe ?_ ?_<;>(try((repeat(revert hN;revert N;apply Pn.out));refine wk (tw @m0 (tw @m1 (tw @m5 (tw @m6 (tw @mX (tw @mF (tw @hj (tw @iN (tw @ay.eq_1 (tw @mg (tw @jy (tw @gM (tw @fR (tw @jn (tw @x1 (tw @x2 (tw @x3 (tw @wX (tw @wA (tw @wF @bD.eq_1)))))))))))))))))))) ?_;(repeat(refine Pn.mk ?_;intro N hN))))<;>(try refine fe ?_ ?_)<;>(try((repeat(revert hN;revert N;apply Pn.out));refine wk (tw @m0 (tw @m1 (tw @m5 (tw @m6 (tw @mX (tw @mF (tw @hj (tw @iN (tw @ay.eq_1 (tw @mg (tw @jy (tw @gM (tw @fR (tw @jn (tw @x1 (tw @x2 (tw @x3 (tw @wX (tw @wA (tw @wF @bD.eq_1)))))))))))))))))))) ?_;(repeat(refine Pn.mk ?_;intro N hN))))<;>(try refine fe ?_ ?_)<;>(try((repeat(revert hN;revert N;apply Pn.out));refine wk (tw @m0 (tw @m1 (tw @m5 (tw @m6 (tw @mX (tw @mF (tw @hj (tw @iN (tw @ay.eq_1 (tw @mg (tw @jy (tw @gM (tw @fR (tw @jn (tw @x1 (tw @x2 (tw @x3 (tw @wX (tw @wA (tw @wF @bD.eq_1)))))))))))))))))))) ?_;(repeat(refine Pn.mk ?_;intro N hN))))<;>(try refine fe ?_ ?_)<;>(try((repeat(revert hN;revert N;apply Pn.out));refine wk (tw @m0 (tw @m1 (tw @m5 (tw @m6 (tw @mX (tw @mF (tw @hj (tw @iN (tw @ay.eq_1 (tw @mg (tw @jy (tw @gM (tw @fR (tw @jn (tw @x1 (tw @x2 (tw @x3 (tw @wX (tw @wA (tw @wF @bD.eq_1)))))))))))))))))))) ?_;(repeat(refine Pn.mk ?_;intro N hN))))<;>(try refine fe ?_ ?_)<;>(try((repeat(revert hN;revert N;apply Pn.out));refine wk (tw @m0 (tw @m1 (tw @m5 (tw @m6 (tw @mX (tw @mF (tw @hj (tw @iN (tw @ay.eq_1 (tw @mg (tw @jy (tw @gM (tw @fR (tw @jn (tw @x1 (tw @x2 (tw @x3 (tw @wX (tw @wA (tw @wF @bD.eq_1)))))))))))))))))))) ?_;(repeat(refine Pn.mk ?_;intro N hN))))<;>(try refine fe ?_ ?_)<;>(try((repeat(revert hN;revert N;apply Pn.out));refine wk (tw @m0 (tw @m1 (tw @m5 (tw @m6 (tw @mX (tw @mF (tw @hj (tw @iN (tw @ay.eq_1 (tw @mg (tw @jy (tw @gM (tw @fR (tw @jn (tw @x1 (tw @x2 (tw @x3 (tw @wX (tw @wA (tw @wF @bD.eq_1)))))))))))))))))))) ?_;(repeat(refine Pn.mk ?_;intro N hN))))
     all_goals
      refine⟨by simp only[go_sem, ↓reduceIte,Nat.reduceEqDiff,Nat.reduceAdd,Nat.reduceSub,Nat.reduceLeDiff,reduceCtorEq,m0,m1,m5,m6,mX,mF,hj,iN,ay,mg,jy,gM,fR,jn,x1,x2,x3,wX,wA,wF,bD],by simp only[go_sem, ↓reduceIte,Nat.reduceEqDiff,Nat.reduceAdd,Nat.reduceSub,Nat.reduceLeDiff,reduceCtorEq,m0,m1,m5,m6,mX,mF,hj,iN,ay,mg,jy,gM,fR,jn,x1,x2,x3,wX,wA,wF,bD],by simp only[go_sem, ↓reduceIte,Nat.reduceEqDiff,Nat.reduceAdd,Nat.reduceSub,Nat.reduceLeDiff,reduceCtorEq,m0,m1,m5,m6,mX,mF,hj,iN,ay,mg,jy,gM,fR,jn,x1,x2,x3,wX,wA,wF,bD],by simp only[go_sem, ↓reduceIte,Nat.reduceEqDiff,Nat.reduceAdd,Nat.reduceSub,Nat.reduceLeDiff,reduceCtorEq,m0,m1,m5,m6,mX,mF,hj,iN,ay,mg,jy,gM,fR,jn,x1,x2,x3,wX,wA,wF,bD],by simp only[go_sem, ↓reduceIte,Nat.reduceEqDiff,Nat.reduceAdd,Nat.reduceSub,Nat.reduceLeDiff,reduceCtorEq,m0,m1,m5,m6,mX,mF,hj,iN,ay,mg,jy,gM,fR,jn,x1,x2,x3,wX,wA,wF,bD],by simp only[go_sem, ↓reduceIte,Nat.reduceEqDiff,Nat.reduceAdd,Nat.reduceSub,Nat.reduceLeDiff,reduceCtorEq,m0,m1,m5,m6,mX,mF,hj,iN,ay,mg,jy,gM,fR,jn,x1,x2,x3,wX,wA,wF,bD],Jg _ (by simp only[go_sem, ↓reduceIte,Nat.reduceEqDiff,Nat.reduceAdd,Nat.reduceSub,Nat.reduceLeDiff,reduceCtorEq,m0,m1,m5,m6,mX,mF,hj,iN,ay,mg,jy,gM,fR,jn,x1,x2,x3,wX,wA,wF,bD,List.length_nil]) (by simp only[go_sem, ↓reduceIte,Nat.reduceEqDiff,Nat.reduceAdd,Nat.reduceSub,Nat.reduceLeDiff,reduceCtorEq,m0,m1,m5,m6,mX,mF,hj,iN,ay,mg,jy,gM,fR,jn,x1,x2,x3,wX,wA,wF,bD,List.map_nil,List.nil_append]) (fun i hi OK fw=>?_),by(try dsimp only);omega⟩
      clear fw
      simp only[go_sem, ↓reduceIte,Nat.reduceEqDiff,Nat.reduceAdd,Nat.reduceSub,Nat.reduceLeDiff,reduceCtorEq,wX,wA,wF,dr hi,OK]
    ·simp only[List.cons.injEq,and_true]at Ab
     subst Ab
     have sH:=dr LL
     have y1:=cz (a:=A) (b:=id) (by omega)
     have y2:=cz (a:=F) (b:=id) yN
     have y3:=cz (a:=X) (b:=id) (by omega)
     have e3:Lb.length+1<=16777216:=by omega
     have z1:(Lb.map eN).length=Lb.length:=by simp
     refine fe ?_ ?_<;>(try((repeat(revert hN;revert N;apply Pn.out));refine wk (tw @m0 (tw @m1 (tw @m5 (tw @m6 (tw @mX (tw @mF (tw @hj (tw @iN (tw @ay.eq_1 (tw @mg (tw @jy (tw @gM (tw @fR (tw @jn (tw @x1 (tw @x2 (tw @x3 (tw @wX (tw @wA (tw @wF (tw @bD.eq_1 (tw @hid (tw @sH (tw @y1 (tw @y2 (tw @y3 (tw @e3 @z1))))))))))))))))))))))))))) ?_;(repeat(refine Pn.mk ?_;intro N hN))))<;>(try refine fe ?_ ?_)<;>(try((repeat(revert hN;revert N;apply Pn.out));refine wk (tw @m0 (tw @m1 (tw @m5 (tw @m6 (tw @mX (tw @mF (tw @hj (tw @iN (tw @ay.eq_1 (tw @mg (tw @jy (tw @gM (tw @fR (tw @jn (tw @x1 (tw @x2 (tw @x3 (tw @wX (tw @wA (tw @wF (tw @bD.eq_1 (tw @hid (tw @sH (tw @y1 (tw @y2 (tw @y3 (tw @e3 @z1))))))))))))))))))))))))))) ?_;(repeat(refine Pn.mk ?_;intro N hN))))<;>(try refine fe ?_ ?_)<;>(try((repeat(revert hN;revert N;apply Pn.out));refine wk (tw @m0 (tw @m1 (tw @m5 (tw @m6 (tw @mX (tw @mF (tw @hj (tw @iN (tw @ay.eq_1 (tw @mg (tw @jy (tw @gM (tw @fR (tw @jn (tw @x1 (tw @x2 (tw @x3 (tw @wX (tw @wA (tw @wF (tw @bD.eq_1 (tw @hid (tw @sH (tw @y1 (tw @y2 (tw @y3 (tw @e3 @z1))))))))))))))))))))))))))) ?_;(repeat(refine Pn.mk ?_;intro N hN))))<;>(try refine fe ?_ ?_)<;>(try((repeat(revert hN;revert N;apply Pn.out));refine wk (tw @m0 (tw @m1 (tw @m5 (tw @m6 (tw @mX (tw @mF (tw @hj (tw @iN (tw @ay.eq_1 (tw @mg (tw @jy (tw @gM (tw @fR (tw @jn (tw @x1 (tw @x2 (tw @x3 (tw @wX (tw @wA (tw @wF (tw @bD.eq_1 (tw @hid (tw @sH (tw @y1 (tw @y2 (tw @y3 (tw @e3 @z1))))))))))))))))))))))))))) ?_;(repeat(refine Pn.mk ?_;intro N hN))))<;>(try refine fe ?_ ?_)<;>(try((repeat(revert hN;revert N;apply Pn.out));refine wk (tw @m0 (tw @m1 (tw @m5 (tw @m6 (tw @mX (tw @mF (tw @hj (tw @iN (tw @ay.eq_1 (tw @mg (tw @jy (tw @gM (tw @fR (tw @jn (tw @x1 (tw @x2 (tw @x3 (tw @wX (tw @wA (tw @wF (tw @bD.eq_1 (tw @hid (tw @sH (tw @y1 (tw @y2 (tw @y3 (tw @e3 @z1))))))))))))))))))))))))))) ?_;(repeat(refine Pn.mk ?_;intro N hN))))<;>(try refine fe ?_ ?_)<;>(try((repeat(revert hN;revert N;apply Pn.out));refine wk (tw @m0 (tw @m1 (tw @m5 (tw @m6 (tw @mX (tw @mF (tw @hj (tw @iN (tw @ay.eq_1 (tw @mg (tw @jy (tw @gM (tw @fR (tw @jn (tw @x1 (tw @x2 (tw @x3 (tw @wX (tw @wA (tw @wF (tw @bD.eq_1 (tw @hid (tw @sH (tw @y1 (tw @y2 (tw @y3 (tw @e3 @z1))))))))))))))))))))))))))) ?_;(repeat(refine Pn.mk ?_;intro N hN))))
     all_goals
      refine⟨by simp only[go_sem, ↓reduceIte,Nat.reduceEqDiff,Nat.reduceAdd,Nat.reduceSub,Nat.reduceLeDiff,reduceCtorEq,m0,m1,m5,m6,mX,mF,hj,iN,ay,mg,jy,gM,fR,jn,x1,x2,x3,wX,wA,wF,bD,hid,sH,y1,y2,y3,e3,z1],by simp only[go_sem, ↓reduceIte,Nat.reduceEqDiff,Nat.reduceAdd,Nat.reduceSub,Nat.reduceLeDiff,reduceCtorEq,m0,m1,m5,m6,mX,mF,hj,iN,ay,mg,jy,gM,fR,jn,x1,x2,x3,wX,wA,wF,bD,hid,sH,y1,y2,y3,e3,z1],by simp only[go_sem, ↓reduceIte,Nat.reduceEqDiff,Nat.reduceAdd,Nat.reduceSub,Nat.reduceLeDiff,reduceCtorEq,m0,m1,m5,m6,mX,mF,hj,iN,ay,mg,jy,gM,fR,jn,x1,x2,x3,wX,wA,wF,bD,hid,sH,y1,y2,y3,e3,z1],by simp only[go_sem, ↓reduceIte,Nat.reduceEqDiff,Nat.reduceAdd,Nat.reduceSub,Nat.reduceLeDiff,reduceCtorEq,m0,m1,m5,m6,mX,mF,hj,iN,ay,mg,jy,gM,fR,jn,x1,x2,x3,wX,wA,wF,bD,hid,sH,y1,y2,y3,e3,z1],by simp only[go_sem, ↓reduceIte,Nat.reduceEqDiff,Nat.reduceAdd,Nat.reduceSub,Nat.reduceLeDiff,reduceCtorEq,m0,m1,m5,m6,mX,mF,hj,iN,ay,mg,jy,gM,fR,jn,x1,x2,x3,wX,wA,wF,bD,hid,sH,y1,y2,y3,e3,z1],by simp only[go_sem, ↓reduceIte,Nat.reduceEqDiff,Nat.reduceAdd,Nat.reduceSub,Nat.reduceLeDiff,reduceCtorEq,m0,m1,m5,m6,mX,mF,hj,iN,ay,mg,jy,gM,fR,jn,x1,x2,x3,wX,wA,wF,bD,hid,sH,y1,y2,y3,e3,z1],Jg _ (by simp only[go_sem, ↓reduceIte,Nat.reduceEqDiff,Nat.reduceAdd,Nat.reduceSub,Nat.reduceLeDiff,reduceCtorEq,m0,m1,m5,m6,mX,mF,hj,iN,ay,mg,jy,gM,fR,jn,x1,x2,x3,wX,wA,wF,bD,hid,sH,y1,y2,y3,e3,z1,List.length_nil]) (by simp only[go_sem, ↓reduceIte,Nat.reduceEqDiff,Nat.reduceAdd,Nat.reduceSub,Nat.reduceLeDiff,reduceCtorEq,m0,m1,m5,m6,mX,mF,hj,iN,ay,mg,jy,gM,fR,jn,x1,x2,x3,wX,wA,wF,bD,hid,sH,y1,y2,y3,e3,z1,List.map_nil,List.nil_append]) (fun i hi OK fw=>?_),by(try dsimp only);omega⟩
      have gZ:=fw id rfl
      simp only[go_sem, ↓reduceIte,Nat.reduceEqDiff,Nat.reduceAdd,Nat.reduceSub,Nat.reduceLeDiff,reduceCtorEq,wX,wA,wF,dr hi,OK,gZ]
  ·intro N hN
   rcases IX with⟨OC,Ab⟩|⟨id,Ab,hLp,hid,LL,yN⟩
   ·simp only[List.cons.injEq,and_true]at Ab
    subst Ab
    subst OC
    refine fe ?_ ?_<;>(try((repeat(revert hN;revert N;apply Pn.out));refine wk (tw @a6 (tw @a5 (tw @ag0 (tw @ag1 (tw @a0 (tw @a1 (tw @hj (tw @iN (tw @ay.eq_1 (tw @ag (tw @jx (tw @gM (tw @fR (tw @jm (tw @x1 (tw @x2 (tw @x3 (tw @vX (tw @vA (tw @vF @bD.eq_1)))))))))))))))))))) ?_;(repeat(refine Pn.mk ?_;intro N hN))))<;>(try refine fe ?_ ?_)<;>(try((repeat(revert hN;revert N;apply Pn.out));refine wk (tw @a6 (tw @a5 (tw @ag0 (tw @ag1 (tw @a0 (tw @a1 (tw @hj (tw @iN (tw @ay.eq_1 (tw @ag (tw @jx (tw @gM (tw @fR (tw @jm (tw @x1 (tw @x2 (tw @x3 (tw @vX (tw @vA (tw @vF @bD.eq_1)))))))))))))))))))) ?_;(repeat(refine Pn.mk ?_;intro N hN))))<;>(try refine fe ?_ ?_)<;>(try((repeat(revert hN;revert N;apply Pn.out));refine wk (tw @a6 (tw @a5 (tw @ag0 (tw @ag1 (tw @a0 (tw @a1 (tw @hj (tw @iN (tw @ay.eq_1 (tw @ag (tw @jx (tw @gM (tw @fR (tw @jm (tw @x1 (tw @x2 (tw @x3 (tw @vX (tw @vA (tw @vF @bD.eq_1)))))))))))))))))))) ?_;(repeat(refine Pn.mk ?_;intro N hN))))<;>(try refine fe ?_ ?_)<;>(try((repeat(revert hN;revert N;apply Pn.out));refine wk (tw @a6 (tw @a5 (tw @ag0 (tw @ag1 (tw @a0 (tw @a1 (tw @hj (tw @iN (tw @ay.eq_1 (tw @ag (tw @jx (tw @gM (tw @fR (tw @jm (tw @x1 (tw @x2 (tw @x3 (tw @vX (tw @vA (tw @vF @bD.eq_1)))))))))))))))))))) ?_;(repeat(refine Pn.mk ?_;intro N hN))))<;>(try refine fe ?_ ?_)<;>(try((repeat(revert hN;revert N;apply Pn.out));refine wk (tw @a6 (tw @a5 (tw @ag0 (tw @ag1 (tw @a0 (tw @a1 (tw @hj (tw @iN (tw @ay.eq_1 (tw @ag (tw @jx (tw @gM (tw @fR (tw @jm (tw @x1 (tw @x2 (tw @x3 (tw @vX (tw @vA (tw @vF @bD.eq_1)))))))))))))))))))) ?_;(repeat(refine Pn.mk ?_;intro N hN))))<;>(try refine fe ?_ ?_)<;>(try((repeat(revert hN;revert N;apply Pn.out));refine wk (tw @a6 (tw @a5 (tw @ag0 (tw @ag1 (tw @a0 (tw @a1 (tw @hj (tw @iN (tw @ay.eq_1 (tw @ag (tw @jx (tw @gM (tw @fR (tw @jm (tw @x1 (tw @x2 (tw @x3 (tw @vX (tw @vA (tw @vF @bD.eq_1)))))))))))))))))))) ?_;(repeat(refine Pn.mk ?_;intro N hN))))
    all_goals
     refine⟨by simp only[go_sem, ↓reduceIte,Nat.reduceEqDiff,Nat.reduceAdd,Nat.reduceSub,Nat.reduceLeDiff,reduceCtorEq,a6,a5,ag0,ag1,a0,a1,hj,iN,ay,ag,jx,gM,fR,jm,x1,x2,x3,vX,vA,vF,bD],by simp only[go_sem, ↓reduceIte,Nat.reduceEqDiff,Nat.reduceAdd,Nat.reduceSub,Nat.reduceLeDiff,reduceCtorEq,a6,a5,ag0,ag1,a0,a1,hj,iN,ay,ag,jx,gM,fR,jm,x1,x2,x3,vX,vA,vF,bD],by simp only[go_sem, ↓reduceIte,Nat.reduceEqDiff,Nat.reduceAdd,Nat.reduceSub,Nat.reduceLeDiff,reduceCtorEq,a6,a5,ag0,ag1,a0,a1,hj,iN,ay,ag,jx,gM,fR,jm,x1,x2,x3,vX,vA,vF,bD],by simp only[go_sem, ↓reduceIte,Nat.reduceEqDiff,Nat.reduceAdd,Nat.reduceSub,Nat.reduceLeDiff,reduceCtorEq,a6,a5,ag0,ag1,a0,a1,hj,iN,ay,ag,jx,gM,fR,jm,x1,x2,x3,vX,vA,vF,bD],by simp only[go_sem, ↓reduceIte,Nat.reduceEqDiff,Nat.reduceAdd,Nat.reduceSub,Nat.reduceLeDiff,reduceCtorEq,a6,a5,ag0,ag1,a0,a1,hj,iN,ay,ag,jx,gM,fR,jm,x1,x2,x3,vX,vA,vF,bD],by simp only[go_sem, ↓reduceIte,Nat.reduceEqDiff,Nat.reduceAdd,Nat.reduceSub,Nat.reduceLeDiff,reduceCtorEq,a6,a5,ag0,ag1,a0,a1,hj,iN,ay,ag,jx,gM,fR,jm,x1,x2,x3,vX,vA,vF,bD],Jf _ (by simp only[go_sem, ↓reduceIte,Nat.reduceEqDiff,Nat.reduceAdd,Nat.reduceSub,Nat.reduceLeDiff,reduceCtorEq,a6,a5,ag0,ag1,a0,a1,hj,iN,ay,ag,jx,gM,fR,jm,x1,x2,x3,vX,vA,vF,bD,List.length_nil]) (by simp only[go_sem, ↓reduceIte,Nat.reduceEqDiff,Nat.reduceAdd,Nat.reduceSub,Nat.reduceLeDiff,reduceCtorEq,a6,a5,ag0,ag1,a0,a1,hj,iN,ay,ag,jx,gM,fR,jm,x1,x2,x3,vX,vA,vF,bD,List.map_nil,List.nil_append]) (fun i hi OK fw=>?_),by(try dsimp only);omega⟩
     clear fw
     simp only[go_sem, ↓reduceIte,Nat.reduceEqDiff,Nat.reduceAdd,Nat.reduceSub,Nat.reduceLeDiff,reduceCtorEq,vX,vA,vF,dr hi,OK]
   ·simp only[List.cons.injEq,and_true]at Ab
    subst Ab
    have sH:=dr LL
    have y1:=cz (a:=A) (b:=id) (by omega)
    have y2:=cz (a:=F) (b:=id) yN
    have y3:=cz (a:=X) (b:=id) (by omega)
    have e3:La.length+1<=16777216:=by omega
    have z1:(La.map eN).length=La.length:=by simp
    refine fe ?_ ?_<;>(try((repeat(revert hN;revert N;apply Pn.out));refine wk (tw @a6 (tw @a5 (tw @ag0 (tw @ag1 (tw @a0 (tw @a1 (tw @hj (tw @iN (tw @ay.eq_1 (tw @ag (tw @jx (tw @gM (tw @fR (tw @jm (tw @x1 (tw @x2 (tw @x3 (tw @vX (tw @vA (tw @vF (tw @bD.eq_1 (tw @hid (tw @sH (tw @y1 (tw @y2 (tw @y3 (tw @e3 @z1))))))))))))))))))))))))))) ?_;(repeat(refine Pn.mk ?_;intro N hN))))<;>(try refine fe ?_ ?_)<;>(try((repeat(revert hN;revert N;apply Pn.out));refine wk (tw @a6 (tw @a5 (tw @ag0 (tw @ag1 (tw @a0 (tw @a1 (tw @hj (tw @iN (tw @ay.eq_1 (tw @ag (tw @jx (tw @gM (tw @fR (tw @jm (tw @x1 (tw @x2 (tw @x3 (tw @vX (tw @vA (tw @vF (tw @bD.eq_1 (tw @hid (tw @sH (tw @y1 (tw @y2 (tw @y3 (tw @e3 @z1))))))))))))))))))))))))))) ?_;(repeat(refine Pn.mk ?_;intro N hN))))<;>(try refine fe ?_ ?_)<;>(try((repeat(revert hN;revert N;apply Pn.out));refine wk (tw @a6 (tw @a5 (tw @ag0 (tw @ag1 (tw @a0 (tw @a1 (tw @hj (tw @iN (tw @ay.eq_1 (tw @ag (tw @jx (tw @gM (tw @fR (tw @jm (tw @x1 (tw @x2 (tw @x3 (tw @vX (tw @vA (tw @vF (tw @bD.eq_1 (tw @hid (tw @sH (tw @y1 (tw @y2 (tw @y3 (tw @e3 @z1))))))))))))))))))))))))))) ?_;(repeat(refine Pn.mk ?_;intro N hN))))<;>(try refine fe ?_ ?_)<;>(try((repeat(revert hN;revert N;apply Pn.out));refine wk (tw @a6 (tw @a5 (tw @ag0 (tw @ag1 (tw @a0 (tw @a1 (tw @hj (tw @iN (tw @ay.eq_1 (tw @ag (tw @jx (tw @gM (tw @fR (tw @jm (tw @x1 (tw @x2 (tw @x3 (tw @vX (tw @vA (tw @vF (tw @bD.eq_1 (tw @hid (tw @sH (tw @y1 (tw @y2 (tw @y3 (tw @e3 @z1))))))))))))))))))))))))))) ?_;(repeat(refine Pn.mk ?_;intro N hN))))<;>(try refine fe ?_ ?_)<;>(try((repeat(revert hN;revert N;apply Pn.out));refine wk (tw @a6 (tw @a5 (tw @ag0 (tw @ag1 (tw @a0 (tw @a1 (tw @hj (tw @iN (tw @ay.eq_1 (tw @ag (tw @jx (tw @gM (tw @fR (tw @jm (tw @x1 (tw @x2 (tw @x3 (tw @vX (tw @vA (tw @vF (tw @bD.eq_1 (tw @hid (tw @sH (tw @y1 (tw @y2 (tw @y3 (tw @e3 @z1))))))))))))))))))))))))))) ?_;(repeat(refine Pn.mk ?_;intro N hN))))<;>(try refine fe ?_ ?_)<;>(try((repeat(revert hN;revert N;apply Pn.out));refine wk (tw @a6 (tw @a5 (tw @ag0 (tw @ag1 (tw @a0 (tw @a1 (tw @hj (tw @iN (tw @ay.eq_1 (tw @ag (tw @jx (tw @gM (tw @fR (tw @jm (tw @x1 (tw @x2 (tw @x3 (tw @vX (tw @vA (tw @vF (tw @bD.eq_1 (tw @hid (tw @sH (tw @y1 (tw @y2 (tw @y3 (tw @e3 @z1))))))))))))))))))))))))))) ?_;(repeat(refine Pn.mk ?_;intro N hN))))
    all_goals
     refine⟨by simp only[go_sem, ↓reduceIte,Nat.reduceEqDiff,Nat.reduceAdd,Nat.reduceSub,Nat.reduceLeDiff,reduceCtorEq,a6,a5,ag0,ag1,a0,a1,hj,iN,ay,ag,jx,gM,fR,jm,x1,x2,x3,vX,vA,vF,bD,hid,sH,y1,y2,y3,e3,z1],by simp only[go_sem, ↓reduceIte,Nat.reduceEqDiff,Nat.reduceAdd,Nat.reduceSub,Nat.reduceLeDiff,reduceCtorEq,a6,a5,ag0,ag1,a0,a1,hj,iN,ay,ag,jx,gM,fR,jm,x1,x2,x3,vX,vA,vF,bD,hid,sH,y1,y2,y3,e3,z1],by simp only[go_sem, ↓reduceIte,Nat.reduceEqDiff,Nat.reduceAdd,Nat.reduceSub,Nat.reduceLeDiff,reduceCtorEq,a6,a5,ag0,ag1,a0,a1,hj,iN,ay,ag,jx,gM,fR,jm,x1,x2,x3,vX,vA,vF,bD,hid,sH,y1,y2,y3,e3,z1],by simp only[go_sem, ↓reduceIte,Nat.reduceEqDiff,Nat.reduceAdd,Nat.reduceSub,Nat.reduceLeDiff,reduceCtorEq,a6,a5,ag0,ag1,a0,a1,hj,iN,ay,ag,jx,gM,fR,jm,x1,x2,x3,vX,vA,vF,bD,hid,sH,y1,y2,y3,e3,z1],by simp only[go_sem, ↓reduceIte,Nat.reduceEqDiff,Nat.reduceAdd,Nat.reduceSub,Nat.reduceLeDiff,reduceCtorEq,a6,a5,ag0,ag1,a0,a1,hj,iN,ay,ag,jx,gM,fR,jm,x1,x2,x3,vX,vA,vF,bD,hid,sH,y1,y2,y3,e3,z1],by simp only[go_sem, ↓reduceIte,Nat.reduceEqDiff,Nat.reduceAdd,Nat.reduceSub,Nat.reduceLeDiff,reduceCtorEq,a6,a5,ag0,ag1,a0,a1,hj,iN,ay,ag,jx,gM,fR,jm,x1,x2,x3,vX,vA,vF,bD,hid,sH,y1,y2,y3,e3,z1],Jf _ (by simp only[go_sem, ↓reduceIte,Nat.reduceEqDiff,Nat.reduceAdd,Nat.reduceSub,Nat.reduceLeDiff,reduceCtorEq,a6,a5,ag0,ag1,a0,a1,hj,iN,ay,ag,jx,gM,fR,jm,x1,x2,x3,vX,vA,vF,bD,hid,sH,y1,y2,y3,e3,z1,List.length_nil]) (by simp only[go_sem, ↓reduceIte,Nat.reduceEqDiff,Nat.reduceAdd,Nat.reduceSub,Nat.reduceLeDiff,reduceCtorEq,a6,a5,ag0,ag1,a0,a1,hj,iN,ay,ag,jx,gM,fR,jm,x1,x2,x3,vX,vA,vF,bD,hid,sH,y1,y2,y3,e3,z1,List.map_nil,List.nil_append]) (fun i hi OK fw=>?_),by(try dsimp only);omega⟩
     have gZ:=fw id rfl
     simp only[go_sem, ↓reduceIte,Nat.reduceEqDiff,Nat.reduceAdd,Nat.reduceSub,Nat.reduceLeDiff,reduceCtorEq,vX,vA,vF,dr hi,OK,gZ]
 ·have ig:j=bs.length:=by omega
  subst ig
  (try((repeat(revert hN;revert N;apply Pn.out));refine wk (tw @a6 (tw @a5 (tw @ag0 (tw @ag1 (tw @a0 (tw @a1 @hj)))))) ?_;(repeat(refine Pn.mk ?_;intro N hN))))
  exact e9 (.inl rfl) (by simp only[fu,iv,go_sem, ↓reduceIte,Nat.reduceEqDiff,Nat.reduceAdd,Nat.reduceSub,Nat.reduceLeDiff,reduceCtorEq];rfl) ⟨X,A,F,rfl,hXs,⟨ag0,⟨rows,ids,ag,hR,mz,fun x hx=>by have:=oj x hx;(try dsimp only);omega⟩,ag1,hXA,hAF,by(try dsimp only);omega⟩⟩
theorem rm.frame {A:Id} {lo nx vw:Nat} {L:List (List Nat)} {g g':Rows} (h:rm A lo L g nx) (hA:A.ck<nx) (hf:∀i:Id,i.ck<nx->lo<i.ck∨i=A->g' i=g i) (hn:nx<=vw):rm A lo L g' vw:=by
 obtain⟨rows,ids,h1,h2,h3,h4⟩:=h
 refine⟨rows,ids,(hf A hA (.inr rfl)).trans h1,h2.frame Nw fun i hi=>hf i (h4 i hi).2 (.inl (h4 i hi).1),h3,fun i hi=>?_⟩
 have:=h4 i hi;omega
theorem oy.frame {cnt:Nat} {bs:List PB} {f:Nat->Int} {X A F:Id} {g g':Rows} {nx vw:Nat} (h:oy cnt bs f X A F g nx) (hf:∀i:Id,i.ck<nx->g' i=g i) (hn:nx<=vw):oy cnt bs f X A F g' vw:=by
 have h1:=h.xa;have h2:=h.af;have h3:=h.fn
 exact⟨(hf X (by omega)).trans h.x,h.a.frame (by omega) (fun i hi _=>hf i hi) hn,(hf F h3).trans h.f,h1,h2,by omega⟩
theorem oy.QZ {cnt:Nat} {bs:List PB} {f f':Nat->Int} {X A F:Id} {g g':Rows} {nx vw:Nat} (h:oy cnt bs f X A F g nx) (hF:g' F=some ⟨true,1,dW f' bs.length⟩) (hf:∀i:Id,i.ck<nx->(i=F)=False->g' i=g i) (hn:nx<=vw):oy cnt bs f' X A F g' vw:=by
 have h1:=h.xa;have h2:=h.af;have h3:=h.fn
 refine⟨(hf X (by omega) (cz (by omega)).1).trans h.x,h.a.frame (by omega) (fun i hi kq=>hf i hi ?_) hn,hF,h1,h2,by omega⟩
 rcases kq with kq|rfl
 ·exact(cz kq).2
 ·exact(cz h2).1
theorem Ps (cnt:Nat) (bs:List PB) (f:Nat->Int) (hs:Small bs f) (e v:Nat) (he:e<bs.length) (X A F:Id) (σ:ar) (nx:Nat) (hS:oy cnt bs f X A F σ.get nx) (hn:nx<=σ.next):
  Call Tryz.prog 298 [.ptr X 0 0,.int .i64 v,.int .i64 e] σ fun r σ'=>oy cnt bs (uo bs f e v) X A F σ'.get nx/\σ.next<=σ'.next/\∀i:Id,(i=F)=False->σ'.get i=σ.get i:=by
 refine eL dX rfl fun hl=>?_
 clear hl
 have hX:=hS.x
 have hF:=hS.f
 have hb:=uQ he
 have Tf:=dO (f:=f) he
 have tl:=dB f bs.length
 obtain⟨⟨s0,s1⟩,s2,s3⟩:=hs e he
 have hei:(e:Int)<(bs.length:Int):=by omega
 have w1:IntKind.i64.wrap (f e+1)=f e+1:=bz (by omega)
 have w2:IntKind.i64.wrap (f e-1)=f e+-1:=by rw[bz (by omega)];omega
 rw[bh]at Tf
 unfold uo
 by_cases h:(cE bs e).a=v
 ·have eE:(dW f bs.length).set e (bh (f e+1))=dW (fun j=>f j+if j=e then(if (cE bs e).a=v then 1 else -1)else 0) bs.length:=lk he (by rw[if_pos rfl,if_pos h]) fun i _ hi=>by rw[if_neg hi,Int.add_zero]
  rw[bh]at eE
  generalize S7:cE bs e=b at *
  have hd:decide ((b.a:Int)=(v:Int))=true:=decide_eq_true (by rw[h])
  (try((repeat(revert hN;revert N;apply Pn.out));refine wk (tw @hX (tw @hF (tw @hb (tw @Tf (tw @tl (tw @hei (tw @w1 (tw @eE (tw @hd (tw @ay.eq_1 @bD.eq_1)))))))))) ?_;(repeat(refine Pn.mk ?_;intro N hN))))
  exact e9 (.inr rfl) (vs:=[]) rfl ⟨hS.QZ (sd @Nat.zero_add) (fun i hi gZ=>sd @gZ) (Nat.le_refl _),by(try dsimp only);omega,fun i gZ=>sd @gZ⟩
 ·have eE:(dW f bs.length).set e (bh (f e+-1))=dW (fun j=>f j+if j=e then(if (cE bs e).a=v then 1 else -1)else 0) bs.length:=lk he (by rw[if_pos rfl,if_neg h]) fun i _ hi=>by rw[if_neg hi,Int.add_zero]
  rw[bh]at eE
  generalize S7:cE bs e=b at *
  have hd:decide ((b.a:Int)=(v:Int))=false:=decide_eq_false fun hc=>h (by omega)
  (try((repeat(revert hN;revert N;apply Pn.out));refine wk (tw @hX (tw @hF (tw @hb (tw @Tf (tw @tl (tw @hei (tw @w2 (tw @eE (tw @hd (tw @ay.eq_1 @bD.eq_1)))))))))) ?_;(repeat(refine Pn.mk ?_;intro N hN))))
  exact e9 (.inr rfl) (vs:=[]) rfl ⟨hS.QZ (sd @Nat.zero_add) (fun i hi gZ=>sd @gZ) (Nat.le_refl _),by(try dsimp only);omega,fun i gZ=>sd @gZ⟩
structure oz (bs:List PB) (out:Nat->Int) (f f':Nat->Int) (x v:Nat):Prop where
 le:∀i,i<bs.length->f' i<=(cE bs i).s/\-(cE bs i).s<=f' i
 cut:∀S:Nat->Bool,Gi S bs f'=Gi S bs f+bi (S x)-bi (S v)
 zf:∀e,e<bs.length->out (cE bs e).a<=out v->out (cE bs e).b<=out v->f' e=f e
section
variable {cnt:Nat} {bs:List PB} {out:Nat->Int} {f f':Nat->Int} {x v y:Nat}
theorem oz.start (h:∀i,i<bs.length->f i<=(cE bs i).s/\-(cE bs i).s<=f i):oz bs out f f x x:=⟨h,fun S=>by omega,fun _ _ _ _=>rfl⟩
theorem oz.step (h:oz bs out f f' x v) {e:Nat} (he:e<bs.length) (hi:E0 bs e v) (hr:0<fF bs f' e v) (hd:out (cm bs e v)=out v-1):oz bs out f (uo bs f' e v) x (cm bs e v):=by
 refine⟨fun i lK=>?_,fun S=>?_,fun i lK ha hb=>?_⟩
 ·have h1:=h.le i lK
  unfold uo
  by_cases HP:i=e
  ·subst HP
   rw[if_pos rfl]
   unfold fF at hr
   split at hr<;>rename_i hc
   ·rw[if_pos hc];omega
   ·rw[if_neg hc];omega
  ·rw[if_neg HP];omega
 ·rw[Gj he hi,h.cut S];omega
 ·have HP:i≠e:=by
   rintro rfl
   rcases hi with hi|hi
   ·rw[hi]at ha;omega
   ·rw[hi]at hb;omega
  unfold uo
  rw[if_neg HP,Int.add_zero]
  exact h.zf i lK (by omega) (by omega)
theorem oz.goes (h:oz bs out f f' x v) (hs:zF cnt bs f y out) (hv:v<cnt) (h0:0<out v):∃e∈jb bs bs.length v,0<fF bs f' e v/\out (cm bs e v)=out v-1:=by
 obtain⟨e,h1,h2,h3,h4⟩:=hs.down v hv h0
 refine⟨e,rZ.2 ⟨h1,h2⟩,?_,h4⟩
 have hf:f' e=f e:=by
  refine h.zf e h1 ?_ ?_
  ·unfold cm at h4
   split at h4
   ·rename_i ha;rw[ha];exact Int.le_refl _
   ·omega
  ·unfold cm at h4
   rcases h2 with h2|h2
   ·rw[if_pos h2]at h4;omega
   ·rw[h2];exact Int.le_refl _
 unfold fF at h3 ⊢
 rw[hf];exact h3
theorem oz.done {val:Int} (h:oz bs out f f' x y) (hf:j9 bs f x y val):j9 bs f' x y (val+1):=
 ⟨h.le,fun S hx hy=>by rw[h.cut S,hf.cut S hx hy,hx,hy];simp[bi]⟩
theorem EI {val:Int} (hs:zF cnt bs f y out) (ok:nF cnt bs) (hf:j9 bs f x y val) (hx:out x<0):∃S:Nat->Bool,S x=true/\S y=false/\val=jk S bs:=by
 refine⟨fun v=>decide (out v<0),decide_eq_true hx,decide_eq_false (by rw[hs.first];omega),hf.full (decide_eq_true hx) (decide_eq_false (by rw[hs.first];omega)) fun i hi qM=>⟨fun h1 h2 hr=>?_,fun h1 h2 hr=>?_⟩⟩
 ·have Ol:=of_decide_eq_true h1
  have C3:=of_decide_eq_false h2
  have:=hs.shut i (cE bs i).a hi (.inl rfl) (by unfold cm;rw[if_pos rfl];omega) hr
  omega
 ·have Ol:=of_decide_eq_true h1
  have C3:=of_decide_eq_false h2
  have:=hs.shut i (cE bs i).b hi (.inr rfl) (by unfold cm;rw[if_neg qM];omega) hr
  omega
end
theorem xr {bs:List PB} {f:Nat->Int} (dH:∀e,e<bs.length->0<=(cE bs e).s/\(cE bs e).s<=4) (h:∀i,i<bs.length->f i<=(cE bs i).s/\-(cE bs i).s<=f i):Small bs f:=fun e he=>by
 have:=dH e he;have:=h e he;omega
theorem rm.at_ {A:Id} {lo nx v:Nat} {L:List (List Nat)} {l:List Nat} {g:Rows} (h:rm A lo L g nx) (hv:L[v]? =some l) (hl:0<l.length):∃(rows:List (List AV)) (id:Id),g A=some ⟨true,1,rows⟩/\rows.length=L.length/\rows[v]? =some [.own id 0 l.length]/\g id=some ⟨true,1,l.map eN⟩/\lo<id.ck/\id.ck<nx:=by
 obtain⟨rows,ids,h1,h2,h3,h4⟩:=h
 have hk:v<L.length:=(List.getElem?_eq_some_iff.1 hv).1
 obtain⟨cs,ic,dt,hR,Rr⟩:=h2.at_ v hk
 rw[kS hv hk]at hR
 rcases hR with⟨h5,_⟩|⟨id,rfl,_,h6,rfl⟩
 ·subst h5;simp at hl
 ·have:=h4 id (Rr id (by simp))
  exact⟨rows,id,h1,h2.len,dt,h6,this.1,this.2⟩
theorem Oj (cnt:Nat) (hn:cnt<=1048576) (bs:List PB) (ok:nF cnt bs) (ql:bs.length<=1048576) (dH:∀e,e<bs.length->0<=(cE bs e).s/\(cE bs e).s<=4) (f:Nat->Int) (x y:Nat) (hx:x<cnt) (hy:y<cnt) (RU:x≠y) (val:Int) (hf:j9 bs f x y val)
  (X A F:Id) (σ:ar) (nb:Nat) (hS:oy cnt bs f X A F σ.get nb) (qO:nb<=σ.next):
  Call Tryz.prog 252 [.ptr X 0 0,.int .i64 x,.int .i64 y] σ fun r σ'=>∃b f',r=.bool b/\oy cnt bs f' X A F σ'.get nb/\σ.next<=σ'.next/\(∀i:Id,i.ck<nb->(i=F)=False->σ'.get i=σ.get i)/\
   (b=false->f'=f/\∃S:Nat->Bool,S x=true/\S y=false/\val=jk S bs)/\(b=true->j9 bs f' x y (val+1)):=by
 refine eL dX rfl fun hl=>?_
 clear hl
 have Db:(x:Int)<(cnt:Int):=by omega
 have hz:∀(g:Rows),(∀i:Id,i.ck<nb->g i=σ.get i)->cJ (dJ g) 6 [.ptr X 0 0,.int .i64 (y:Int)]=some [.di (fQ cnt bs f),.int .i64 y]:=fun g hg=>by
  have:=(hS.frame hg (Nat.le_refl _)).fz
  simp only[ai,aj,this,aD,Option.map_some]
 (try((repeat(revert hN;revert N;apply Pn.out));refine wk @Nat.zero_add ?_;(repeat(refine Pn.mk ?_;intro N hN))))
 refine .inr (aC _ _ _ _ _ (fun r σ1 hq=>?_) ((FW cnt hn bs ok ql f (xr dH hf.le) y hy).x mixed (hz _ (fun i hi=>rfl))))
 obtain⟨⟨out,rfl,O4⟩,rfl⟩:=hq
 refine hN _ _ ?_
 clear hN N
 have hox:=dO (f:=out) hx
 have tl:=dB out cnt
 by_cases kf:out x<0
 ·(try((repeat(revert hN;revert N;apply Pn.out));refine wk (tw @hox (tw @kf (tw @Db (tw @tl @bh.eq_1)))) ?_;(repeat(refine Pn.mk ?_;intro N hN))))
  exact e9 (.inl rfl) (vs:=[.bool false]) (sd @Nat.zero_add) ⟨false,f,rfl,hS.frame (fun i hi=>rfl) (Nat.le_refl _),by(try dsimp only);omega,fun i _ _=>rfl,fun _=>⟨rfl,EI O4 ok hf kf⟩,fun h=>by cases h⟩
 (try((repeat(revert hN;revert N;apply Pn.out));refine wk (tw @hox (tw @kf (tw @Db (tw @tl @bh.eq_1)))) ?_;(repeat(refine Pn.mk ?_;intro N hN))))
 refine aU (fun m env st=>∃(v:Nat) (f':Nat->Int),m=(out v).toNat/\v<cnt/\0<=out v/\env 8=.int .i64 (v:Int)/\oz bs out f f' x v/\oy cnt bs f' X A F st.get nb/\(∀i:Id,i.ck<nb->(i=F)=False->st.get i=σ.get i)/\σ.next<=st.next) (out x).toNat ⟨x,f,rfl,hx,by omega,by(simp only[go_sem, ↓reduceIte,Nat.reduceEqDiff,Nat.reduceAdd,Nat.reduceSub,Nat.reduceLeDiff,reduceCtorEq]),oz.start hf.le,hS.frame (fun i hi=>rfl) (Nat.le_refl _),fun i _ _=>rfl,by(try dsimp only);omega⟩ ?_
 rintro m env_b st_b ⟨v,f',rfl,hv,sP,b8,hW,hN1,jG,hle⟩ gh
 have b0:=gh 0 (by kernel_rfl)
 have b2:=gh 2 (by kernel_rfl)
 have b7:=gh 7 (by kernel_rfl)
 simp only[go_sem, ↓reduceIte,Nat.reduceEqDiff,Nat.reduceAdd,Nat.reduceSub,Nat.reduceLeDiff,reduceCtorEq]at b0 b2 b7
 clear gh
 by_cases Tv:v=y
 ·have hd:decide ((v:Int)=(y:Int))=true:=decide_eq_true (by rw[Tv])
  subst Tv
  (try((repeat(revert hN;revert N;apply Pn.out));refine wk (tw @b0 (tw @b2 (tw @b7 (tw @b8 @hd)))) ?_;(repeat(refine Pn.mk ?_;intro N hN))))
  exact e9 (.inl rfl) (vs:=[.bool true]) (sd @Nat.zero_add) ⟨true,f',rfl,hN1,by(try dsimp only);omega,jG,fun h=>(by cases h),fun _=>hW.done hf⟩
 have hd:decide ((v:Int)=(y:Int))=false:=decide_eq_false fun h=>Tv (by omega)
 have Be:0<out v:=by
  have:=O4.zero v hv
  rcases Int.lt_or_eq_of_le sP with h|h
  ·exact h
  ·exact absurd (this h.symm) Tv
 have Nf:=hW.goes O4 hv Be
 have hIm:∀ed∈jb bs bs.length v,ed<bs.length/\E0 bs ed v:=fun ed h=>rZ.1 h
 have hIL:(ly cnt bs bs.length)[v]? =some (jb bs bs.length v):=by simp[ly,hv]
 have hIl:=rY bs bs.length v
 generalize jb bs bs.length v=I at *
 have hIp:0<I.length:=by
  obtain⟨ed,h,_⟩:=Nf
  exact List.length_pos_of_mem h
 obtain⟨rows,id,hgA,sO,lN,hid,hid1,hid2⟩:=hN1.a.at_ hIL hIp
 rw[jz]at sO
 have hgX:=hN1.x
 have DX:(v:Int)<(cnt:Int):=by omega
 have vk:=dO (f:=out) hv
 have jq:IntKind.i64.wrap (out v-1)=out v-1:=bz (by have:=O4.lo v hv;omega)
 have qL:(I.map eN).length=I.length:=by simp
 have LZ:=xr dH hW.le
 have lu:∀(g:Rows),(∀i:Id,i.ck<nb->g i=st_b.get i)->∀ed:Nat,cJ (dJ g) 6 [.ptr X 0 0,.int .i64 (v:Int),.int .i64 (ed:Int)]=some [.di (fQ cnt bs f'),.int .i64 v,.int .i64 ed]:=fun g hg ed=>by
  have:=(hN1.frame hg (Nat.le_refl _)).fz
  simp only[ai,aj,this,aD,Option.map_some]
 rw[bh]at vk
 (try((repeat(revert hN;revert N;apply Pn.out));refine wk (tw @b0 (tw @b2 (tw @b7 (tw @b8 @hd)))) ?_;(repeat(refine Pn.mk ?_;intro N hN))))
 refine aU (fun n env st=>∃k:Nat,n=(I.length)-k/\k<=(I.length)/\env 11=.int .i64 (k:Int)/\(∃(um Fa:Int),env 9=.int .i64 um/\env 10=.int .i64 Fa/\((um<0/\∀z,z<k->¬(0<fF bs f' (I.getD z 0) v/\out (cm bs (I.getD z 0) v)=out v-1))∨∃ed:Nat,ed∈I/\Fa=(ed:Int)/\um=(cm bs ed v:Int)/\0<fF bs f' ed v/\out (cm bs ed v)=out v-1))/\((∀i:Id,st.get i=st_b.get i)/\st_b.next<=st.next)) (I.length) ⟨0,by omega,by omega,sl (tw @b0 (tw @b2 (tw @b7 @b8))),⟨-1,0,by(simp only[go_sem, ↓reduceIte,Nat.reduceEqDiff,Nat.reduceAdd,Nat.reduceSub,Nat.reduceLeDiff,reduceCtorEq]),by(simp only[go_sem, ↓reduceIte,Nat.reduceEqDiff,Nat.reduceAdd,Nat.reduceSub,Nat.reduceLeDiff,reduceCtorEq]),.inl ⟨by omega,fun z hz=>by omega⟩⟩,⟨fun i=>rfl,by(try dsimp only);omega⟩⟩ ?_
 rintro n_c env_c st_c ⟨k,rfl,cle,nW,cI0,cI1⟩ cfr
 have c0:=cfr 0 (by kernel_rfl);have c2:=cfr 2 (by kernel_rfl);have c7:=cfr 7 (by kernel_rfl);have c8:=cfr 8 (by kernel_rfl)
 simp only[go_sem, ↓reduceIte,Nat.reduceEqDiff,Nat.reduceAdd,Nat.reduceSub,Nat.reduceLeDiff,reduceCtorEq,b0,b2,b7,b8]at c0 c2 c7 c8
 clear cfr
 obtain⟨um,Fa,c9,jF,IW⟩:=cI0
 obtain⟨mC,S8⟩:=cI1
 have DP:=(mC X).trans hgX
 have DO:=(mC A).trans hgA
 have Ac:=(mC id).trans hid
 by_cases hk:(k:Int)<(I.length:Int)
 ·have im:∀{e:Env} {gg:Rows} {nx:Nat},(e 11=.int .i64 (IntKind.i64.wrap ((k:Int)+1)))->(∃(um Fa:Int),e 9=.int .i64 um/\e 10=.int .i64 Fa/\((um<0/\∀z,z<(k+1)->¬(0<fF bs f' (I.getD z 0) v/\out (cm bs (I.getD z 0) v)=out v-1))∨∃ed:Nat,ed∈I/\Fa=(ed:Int)/\um=(cm bs ed v:Int)/\0<fF bs f' ed v/\out (cm bs ed v)=out v-1))->((∀i:Id,gg i=st_b.get i)/\st_b.next<=nx)->∃m0,m0<(I.length)-k/\∃k:Nat,m0=(I.length)-k/\k<=(I.length)/\e 11=.int .i64 (k:Int)/\(∃(um Fa:Int),e 9=.int .i64 um/\e 10=.int .i64 Fa/\((um<0/\∀z,z<k->¬(0<fF bs f' (I.getD z 0) v/\out (cm bs (I.getD z 0) v)=out v-1))∨∃ed:Nat,ed∈I/\Fa=(ed:Int)/\um=(cm bs ed v:Int)/\0<fF bs f' ed v/\out (cm bs ed v)=out v-1))/\((∀i:Id,gg i=st_b.get i)/\st_b.next<=nx):=fun x1 x2 x3=>⟨_,by omega,k+1,rfl,by omega,(by rw[x1,aA (by omega)]),x2,x3⟩
  have fA:k<I.length:=by omega
  have eR:(I.map eN)[k]? =some (eN (I.getD k 0)):=getD_map eN fA
  have tf:I.getD k 0∈I:=by rw[List.getD_eq_getElem?_getD,List.getElem?_eq_getElem fA];exact List.getElem_mem fA
  obtain⟨he,qd⟩:=hIm _ tf
  have O1:=Kc cnt bs f' LZ (I.getD k 0) v he
  have ue:=lu st_c.get (fun i _=>mC i) (I.getD k 0)
  have hq:=pb ok (v:=v) he
  have Qp:=dO (f:=out) hq
  obtain⟨ed,hed⟩:∃ed,ed=I.getD k 0:=⟨_,rfl⟩
  rw[<-hed]at eR he qd O1 ue hq Qp tf
  rw[bh]at Qp
  rw[eN]at eR
  (try((repeat(revert hN;revert N;apply Pn.out));refine wk (tw @nW (tw @c0 (tw @c2 (tw @c7 (tw @c8 (tw @c9 (tw @jF (tw @hk (tw @DP (tw @DO (tw @Ac (tw @lN (tw @sO (tw @DX (tw @eR (tw @qL @bD.eq_1)))))))))))))))) ?_;(repeat(refine Pn.mk ?_;intro N hN))))
  refine .inl ⟨_,aq.x O1 ue,?_⟩
  refine hN _ _ ?_
  clear hN N
  have stay:∀k',k'=k+1->(¬(0<fF bs f' ed v/\out (cm bs ed v)=out v-1))->((um<0/\∀z,z<k'->¬(0<fF bs f' (I.getD z 0) v/\out (cm bs (I.getD z 0) v)=out v-1))∨∃ed:Nat,ed∈I/\Fa=(ed:Int)/\um=(cm bs ed v:Int)/\0<fF bs f' ed v/\out (cm bs ed v)=out v-1):=fun k' GG lx=>by
   rcases IW with⟨h1,h2⟩|h
   ·refine .inl ⟨h1,fun z hz=>?_⟩
    by_cases DZ:z=k
    ·subst DZ;rw[<-hed];exact lx
    ·exact h2 z (by omega)
   ·exact .inr h
  by_cases hr:0<fF bs f' ed v
  ·by_cases KZ:out (cm bs ed v)=out v-1
   ·have od:decide (out (cm bs ed v)=out v-1)=true:=decide_eq_true KZ
    have found:∃QV:Nat,QV∈I/\(ed:Int)=(QV:Int)/\(cm bs ed v:Int)=(cm bs QV v:Int)/\0<fF bs f' QV v/\out (cm bs QV v)=out v-1:=⟨ed,tf,rfl,rfl,hr,KZ⟩
    by_cases HR:um<0
    ·(try((repeat(revert hN;revert N;apply Pn.out));refine wk (tw @nW (tw @c0 (tw @c2 (tw @c7 (tw @c8 (tw @c9 (tw @jF (tw @hk (tw @DP (tw @DO (tw @Ac (tw @lN (tw @sO (tw @DX (tw @eR (tw @qL (tw @hr (tw @Qp (tw @vk (tw @jq (tw @od (tw @HR @bD.eq_1)))))))))))))))))))))) ?_;(repeat(refine Pn.mk ?_;intro N hN))))
     exact im (sd (tw @nW (tw @c0 (tw @c2 (tw @c7 @c8))))) (⟨_,_,sd @Nat.zero_add,sd @Nat.zero_add,.inr found⟩) (⟨mC,by(try dsimp only);omega⟩)
    ·by_cases dU:(cm bs ed v:Int)<um
     ·(try((repeat(revert hN;revert N;apply Pn.out));refine wk (tw @nW (tw @c0 (tw @c2 (tw @c7 (tw @c8 (tw @c9 (tw @jF (tw @hk (tw @DP (tw @DO (tw @Ac (tw @lN (tw @sO (tw @DX (tw @eR (tw @qL (tw @hr (tw @Qp (tw @vk (tw @jq (tw @od (tw @HR (tw @dU @bD.eq_1))))))))))))))))))))))) ?_;(repeat(refine Pn.mk ?_;intro N hN))))
      exact im (sd (tw @nW (tw @c0 (tw @c2 (tw @c7 @c8))))) (⟨_,_,sd @Nat.zero_add,sd @Nat.zero_add,.inr found⟩) (⟨mC,by(try dsimp only);omega⟩)
     ·(try((repeat(revert hN;revert N;apply Pn.out));refine wk (tw @nW (tw @c0 (tw @c2 (tw @c7 (tw @c8 (tw @c9 (tw @jF (tw @hk (tw @DP (tw @DO (tw @Ac (tw @lN (tw @sO (tw @DX (tw @eR (tw @qL (tw @hr (tw @Qp (tw @vk (tw @jq (tw @od (tw @HR (tw @dU @bD.eq_1))))))))))))))))))))))) ?_;(repeat(refine Pn.mk ?_;intro N hN))))
      exact im (sd (tw @nW (tw @c0 (tw @c2 (tw @c7 @c8))))) (⟨um,Fa,sd @c9,sd @jF,by
       rcases IW with⟨h1,_⟩|h
       ·exact absurd h1 HR
       ·exact .inr h⟩) (⟨mC,by(try dsimp only);omega⟩)
   ·have od:decide (out (cm bs ed v)=out v-1)=false:=decide_eq_false KZ
    (try((repeat(revert hN;revert N;apply Pn.out));refine wk (tw @nW (tw @c0 (tw @c2 (tw @c7 (tw @c8 (tw @c9 (tw @jF (tw @hk (tw @DP (tw @DO (tw @Ac (tw @lN (tw @sO (tw @DX (tw @eR (tw @qL (tw @hr (tw @Qp (tw @vk (tw @jq (tw @od @bD.eq_1))))))))))))))))))))) ?_;(repeat(refine Pn.mk ?_;intro N hN))))
    exact im (sd (tw @nW (tw @c0 (tw @c2 (tw @c7 @c8))))) (⟨um,Fa,sd @c9,sd @jF,stay _ rfl fun h=>KZ h.2⟩) (⟨mC,by(try dsimp only);omega⟩)
  ·(try((repeat(revert hN;revert N;apply Pn.out));refine wk (tw @nW (tw @c0 (tw @c2 (tw @c7 (tw @c8 (tw @c9 (tw @jF (tw @hk (tw @DP (tw @DO (tw @Ac (tw @lN (tw @sO (tw @DX (tw @eR (tw @qL (tw @hr @bD.eq_1))))))))))))))))) ?_;(repeat(refine Pn.mk ?_;intro N hN))))
   exact im (sd (tw @nW (tw @c0 (tw @c2 (tw @c7 @c8))))) (⟨um,Fa,sd @c9,sd @jF,stay _ rfl fun h=>hr h.1⟩) (⟨mC,by(try dsimp only);omega⟩)
 ·have mh:k=I.length:=by omega
  have UM:∃ed:Nat,ed∈I/\Fa=(ed:Int)/\um=(cm bs ed v:Int)/\0<fF bs f' ed v/\out (cm bs ed v)=out v-1:=by
   rcases IW with⟨h1,h2⟩|h
   ·exfalso
    obtain⟨ed,he,hq⟩:=Nf
    obtain⟨z,hz,rfl⟩:=List.getElem_of_mem he
    refine h2 z (by omega) ?_
    rw[List.getD_eq_getElem?_getD,List.getElem?_eq_getElem hz];exact hq
   ·exact h
  obtain⟨ed,tf,rfl,rfl,hr,KZ⟩:=UM
  obtain⟨he,qd⟩:=hIm _ tf
  (try((repeat(revert hN;revert N;apply Pn.out));refine wk (tw @nW (tw @c0 (tw @c2 (tw @c7 (tw @c8 (tw @c9 (tw @jF (tw @hk (tw @DP (tw @DO (tw @Ac (tw @lN (tw @sO (tw @DX (tw @qL @bD.eq_1))))))))))))))) ?_;(repeat(refine Pn.mk ?_;intro N hN))))
  refine .inr (aC _ _ _ _ _ (fun r σ1 hq=>?_) (Ps cnt bs f' LZ ed v he X A F ⟨st_c.get,_⟩ nb (hN1.frame (fun i _=>mC i) (Nat.le_refl _)) (by(try dsimp only);omega)))
  obtain⟨SX,nr,I6⟩:=hq
  (try dsimp only at nr I6)
  refine hN _ _ ?_
  clear hN N
  (try((repeat(revert hN;revert N;apply Pn.out));refine wk (tw @nW (tw @c0 (tw @c2 (tw @c7 (tw @c8 @c9))))) ?_;(repeat(refine Pn.mk ?_;intro N hN))))
  refine⟨_,?_,cm bs ed v,uo bs f' ed v,rfl,pb ok he,by omega,sd @Nat.zero_add,hW.step he qd hr KZ,SX,fun i hi hF=>by rw[I6 i hF,mC i,jG i hi hF],by(try dsimp only);omega⟩
  omega
def tN (P:Program) (f:Nat) (args:List AV) (R:AV->Prop):Prop:=∀σ:ar,Call P f args ⟨V.ro σ.get,σ.next⟩ fun r0 σ'=>∃r',V.fz σ'.get 6 r0=some r'/\R r'
theorem DG {P:Program} {f:Nat} {args:List AV} {g:Rows} {n:Nat} {R:AV->Prop} (h:Sound P f args ⟨V.ro g,n⟩ fun r0 σ'=>∃r',V.fz σ'.get 6 r0=some r'/\R r'):Sound P f args ⟨g,n⟩ fun r σ'=>R r/\σ'=⟨g,n⟩:=by
 intro hs D ι w vs S U A
 refine(Bh (g0:=g) (K:=R) h (fun _ _ h=>h) S U A).mono ?_
 rintro e w' ⟨r,D',u,rfl,hR,T,S',hr⟩
 exact⟨r,g,n,D',ι,u,rfl,⟨hR,rfl⟩,T,S',U,Nat.le_refl _,hr⟩
theorem tN.x {P:Program} (hm:P.follows .mixedOrders=true) {f:Nat} {args:List AV} {R:AV->Prop} (h:tN P f args R) {σ:ar}:Call P f args σ fun r σ'=>R r/\σ'=σ:=
 gP (DG (gr hm (h σ)))
theorem tN.body {P:Program} {f:Nat} {args:List AV} {R:AV->Prop} {nt na:Nat} {body:VC} {res:List nT} (hf:me P f=some ⟨nt,na,body,res⟩) (ha:na=args.length) (h:(∀a∈args,eH a)->∀σ:ar,dI (Call P) body (kJ res fun r0 σ'=>∃r',V.fz σ'.get 6 r0=some r'/\R r') (cC args) ⟨V.ro σ.get,σ.next⟩):tN P f args R:=fun σ=>ml hf ha fun hl=>h hl σ
theorem Mg {g:Rows} {rows:List (List AV)} {xs:List (List Nat)} {ids:List Id} (n:Nat) (h:eI P8 g rows xs ids):eb g (n+2) rows=some (xs.map fun l=>[PD l]):=by
 induction h with
 |nil=>rw[eb];rfl
 |cons h1 _ ih=>
  rename_i x _ _ _ _ _
  rcases h1 with⟨h0,h1,_⟩|⟨id,h1,h0,h2,_⟩
  ·subst h0 h1;rw[eb,ih,ai,aj,aT];rfl
  ·have gZ:x≠[]:=by rintro rfl;simp at h0
   subst h1
   rw[eb,ih,ai,aj,fM (e:=eN) (sz:=1) h2 rfl fun a=>fzN _ n a]
   simp[PD,gZ]
theorem oy.fz0 {cnt:Nat} {bs:List PB} {f:Nat->Int} {X A F:Id} {g:Rows} {nx:Nat} (h:oy cnt bs f X A F g nx):V.fz g 5 (.ptr X 0 0)=some (.di (fQ cnt bs f)):=by
 have hf:V.fz g 4 (.own F 0 bs.length)=some (.sl (dW f bs.length)):=by
  rw[iA]
  simp only[h.f,if_true]
  rw[if_pos (by rw[dB];omega),List.drop_zero,List.take_of_length_le (by rw[dB];omega),AO];rfl
 have ha:V.fz g 4 (.own A 0 cnt)=some (.sl (qt cnt bs bs.length)):=by
  obtain⟨rows,ids,h1,h2,_,_⟩:=h.a
  have hl:=h2.len
  rw[jz]at hl
  rw[iA]
  simp only[h1,if_true]
  rw[if_pos (by omega),List.drop_zero,List.take_of_length_le (by omega),Mg 1 h2]
  simp[ly,qt]
 rw[bj]
 simp only[h.x,if_true,List.getElem?_cons_zero,List.drop_zero,bD,ai,aj,aD,cq,ha,hf,Option.map_some,fQ]
theorem Fb {S:Nat->Bool}:∀bs:List PB,(∀b∈bs,b.s<=4)->jk S bs<=4*bs.length
 |[],_=>by simp[jk]
 |b::bs,h=>by
  rw[s5]
  have:=Fb (S:=S) bs fun x hx=>h x (List.mem_cons_of_mem _ hx)
  have:=h b (by simp)
  simp only[List.length_cons]
  split<;>omega
theorem j9.zero {bs:List PB} {x y:Nat} (h:∀e,e<bs.length->0<=(cE bs e).s/\(cE bs e).s<=4):j9 bs (fun _=>0) x y 0:=
 ⟨fun i hi=>by have:=h i hi;omega,fun S _ _=>j4 fun i _=>by simp⟩
theorem Lk {bs:List PB} {b:PB} (h:b∈bs):∃e,e<bs.length/\cE bs e=b:=by
 obtain⟨e,he,rfl⟩:=List.getElem_of_mem h
 exact⟨e,he,by simp[cE,List.getD_eq_getElem?_getD,he]⟩
theorem GX (cnt:Nat) (hn:cnt<=1048576) (bs:List PB) (ok:nF cnt bs) (ql:bs.length<=1048576) (dH:∀e,e<bs.length->0<=(cE bs e).s/\(cE bs e).s<=4) (x y:Nat) (hx:x<cnt) (hy:y<cnt) (RU:x≠y):
  tN Tryz.prog 193 [.int .i64 cnt,.sl (bs.map ay),.int .i64 x,.int .i64 y] fun r=>∃f val,r=.gD [.di (fQ cnt bs f),.int .i64 val]/\j9 bs f x y val/\∃S:Nat->Bool,S x=true/\S y=false/\val=jk S bs:=by
 refine tN.body dX rfl fun hl σ=>?_
 clear hl
 (try((repeat(revert hN;revert N;apply Pn.out));refine wk @Nat.zero_add ?_;(repeat(refine Pn.mk ?_;intro N hN))))
 refine .inr (aC _ _ _ _ _ (fun r σ1 hq=>?_) (Jy cnt hn bs ok ql _))
 obtain⟨X,A,F,rfl,hX,hS⟩:=hq
 refine hN _ _ ?_
 clear hN N
 have hS0:∀f val,j9 bs f x y val->val<=jk (fun v=>decide (v=x)) bs:=fun f val hf=>hf.bound (decide_eq_true rfl) (decide_eq_false fun h=>RU h.symm)
 have htot:=Fb (S:=fun v=>decide (v=x)) bs fun b hb=>by
  obtain⟨e,he,rfl⟩:=Lk hb
  exact(dH e he).2
 generalize jk (fun v=>decide (v=x)) bs=T at *
 (try((repeat(revert hN;revert N;apply Pn.out));refine wk @Nat.zero_add ?_;(repeat(refine Pn.mk ?_;intro N hN))))
 refine aU (fun m env st=>∃(f:Nat->Int) (val:Int),m=(T-val).toNat/\0<=val/\env 10=.ptr X 0 0/\env 11=.int .i64 val/\j9 bs f x y val/\oy cnt bs f X A F st.get σ1.next/\σ1.next<=st.next) T.toNat ⟨_,0,by simp,by omega,by(simp only[go_sem, ↓reduceIte,Nat.reduceEqDiff,Nat.reduceAdd,Nat.reduceSub,Nat.reduceLeDiff,reduceCtorEq]),by(simp only[go_sem, ↓reduceIte,Nat.reduceEqDiff,Nat.reduceAdd,Nat.reduceSub,Nat.reduceLeDiff,reduceCtorEq]),j9.zero dH,hS.frame (fun i hi=>rfl) (Nat.le_refl _),by(try dsimp only);omega⟩ ?_
 rintro m env_b st_b ⟨f,val,rfl,sP,b10,b11,hf,hN1,hle⟩ gh
 have b2:=gh 2 (by kernel_rfl)
 have b3:=gh 3 (by kernel_rfl)
 simp only[go_sem, ↓reduceIte,Nat.reduceEqDiff,Nat.reduceAdd,Nat.reduceSub,Nat.reduceLeDiff,reduceCtorEq]at b2 b3
 clear gh
 (try((repeat(revert hN;revert N;apply Pn.out));refine wk (tw @b2 (tw @b3 @b10)) ?_;(repeat(refine Pn.mk ?_;intro N hN))))
 refine .inr (aC _ _ _ _ _ (fun r σ2 hq=>?_) (Oj cnt hn bs ok ql dH f x y hx hy RU val hf X A F ⟨st_b.get,_⟩ σ1.next hN1 (by(try dsimp only);omega)))
 obtain⟨b,f',rfl,SX,nr,_,lx,Vw⟩:=hq
 (try dsimp only at nr)
 refine hN _ _ ?_
 clear hN N
 cases b with
 |true=>
  have kI:=Vw rfl
  have KW:=hS0 _ _ hf
  have Gy:=hS0 _ _ kI
  have hw:IntKind.i64.wrap (val+1)=val+1:=bz (by omega)
  (try((repeat(revert hN;revert N;apply Pn.out));refine wk (tw @b10 (tw @b11 @hw)) ?_;(repeat(refine Pn.mk ?_;intro N hN))))
  exact⟨_,by omega,f',val+1,rfl,by omega,sd @b10,sd (tw @b11 @hw),kI,SX,by(try dsimp only);omega⟩
 |false=>
  obtain⟨rfl,S,h1,h2,h3⟩:=lx rfl
  (try((repeat(revert hN;revert N;apply Pn.out));refine wk (tw @b10 @b11) ?_;(repeat(refine Pn.mk ?_;intro N hN))))
  have hz:=SX.fz0
  exact⟨[.ptr X 0 0,.int .i64 val],sd @Nat.zero_add,.gD [.di (fQ cnt bs f'),.int .i64 val],by simp only[fa,bG,ai,aj,hz,aD,Option.map_some],f',val,rfl,hf,S,h1,h2,h3⟩
theorem GY (cnt:Nat) (hn:cnt<=1048576) (bs:List PB) (ok:nF cnt bs) (ql:bs.length<=1048576) (f:Nat->Int) (hs:Small bs f) (y:Nat) (hy:y<cnt):
  mj Tryz.prog 194 [.di (fQ cnt bs f),.int .i64 y] fun r=>∃l:List Nat,r=.sl (l.map eN)/\l.length<=cnt:=by
 refine mj.body dX rfl fun hl n0=>?_
 clear hl
 have hz:∀g:Rows,cJ (dJ g) 6 [.di (fQ cnt bs f),.int .i64 (y:Int)]=some [.di (fQ cnt bs f),.int .i64 y]:=fun g=>by simp only[ai,aj,aX,aD,Option.map_some]
 (try((repeat(revert hN;revert N;apply Pn.out));refine wk @Nat.zero_add ?_;(repeat(refine Pn.mk ?_;intro N hN))))
 refine .inr (aC _ _ _ _ _ (fun r σ1 hq=>?_) ((FW cnt hn bs ok ql f hs y hy).x mixed (hz _)))
 obtain⟨⟨out,rfl,O4⟩,rfl⟩:=hq
 refine hN _ _ ?_
 clear hN N
 (try((repeat(revert hN;revert N;apply Pn.out));refine wk @fQ.eq_1 ?_;(repeat(refine Pn.mk ?_;intro N hN))))
 refine aU (fun n env st=>∃k:Nat,n=(cnt)-k/\k<=(cnt)/\env 7=.int .i64 (k:Int)/\(∃(o:Id) (l:List Nat),env 6=.own o 0 l.length/\st.get o=some ⟨true,1,l.map eN⟩/\o.ck<st.next/\l.length<=k)) (cnt) ⟨0,by omega,by omega,sl @fQ.eq_1,⟨⟨194002000,n0+1+1+1⟩,[],by(simp only[go_sem, ↓reduceIte,Nat.reduceEqDiff,Nat.reduceAdd,Nat.reduceSub,Nat.reduceLeDiff,reduceCtorEq])<;>rfl,by(simp only[go_sem, ↓reduceIte,Nat.reduceEqDiff,Nat.reduceAdd,Nat.reduceSub,Nat.reduceLeDiff,reduceCtorEq])<;>rfl,by(try dsimp only);omega,by simp⟩⟩ ?_
 rintro n_a env_a st_a ⟨k,rfl,ale,a7,lZ⟩ dC
 have a0:=dC 0 (by kernel_rfl);have a5:=dC 5 (by kernel_rfl)
 simp only[go_sem, ↓reduceIte,Nat.reduceEqDiff,Nat.reduceAdd,Nat.reduceSub,Nat.reduceLeDiff,reduceCtorEq,fQ]at a0 a5
 clear dC
 obtain⟨o,l,a6,ag,vk,Fy⟩:=lZ
 have sP:=dr vk
 have lL:(l.map eN).length=l.length:=by simp
 by_cases hk:(k:Int)<(cnt:Int)
 ·have cD:∀{e:Env} {gg:Rows} {nx:Nat},(e 7=.int .i64 (IntKind.i64.wrap ((k:Int)+1)))->(∃(o:Id) (l:List Nat),e 6=.own o 0 l.length/\gg o=some ⟨true,1,l.map eN⟩/\o.ck<nx/\l.length<=(k+1))->∃m0,m0<(cnt)-k/\∃k:Nat,m0=(cnt)-k/\k<=(cnt)/\e 7=.int .i64 (k:Int)/\(∃(o:Id) (l:List Nat),e 6=.own o 0 l.length/\gg o=some ⟨true,1,l.map eN⟩/\o.ck<nx/\l.length<=k):=fun x1 x2=>⟨_,by omega,k+1,rfl,by omega,(by rw[x1,aA (by omega)]),x2⟩
  have wK:=dO (f:=out) (show k<cnt by omega)
  rw[bh]at wK
  have e1:l.length+1<=16777216:=by omega
  by_cases h0:0<=out k
  ·(try((repeat(revert hN;revert N;apply Pn.out));refine wk (tw @a7 (tw @a0 (tw @a5 (tw @a6 (tw @ag (tw @sP (tw @hk (tw @wK (tw @h0 (tw @e1 (tw @lL @fQ.eq_1))))))))))) ?_;(repeat(refine Pn.mk ?_;intro N hN))))
   exact cD (sd (tw @a7 (tw @a0 (tw @a5 @fQ.eq_1)))) (⟨⟨194007003,st_a.next+1+1⟩,l++[k],by rw[List.length_append];simp only[go_sem, ↓reduceIte,Nat.reduceEqDiff,Nat.reduceAdd,Nat.reduceSub,Nat.reduceLeDiff,reduceCtorEq,List.length_cons,List.length_nil],by rw[List.map_append,List.map_cons,List.map_nil];simp only[go_sem, ↓reduceIte,Nat.reduceEqDiff,Nat.reduceAdd,Nat.reduceSub,Nat.reduceLeDiff,reduceCtorEq,eN],by(try dsimp only);omega,by simp;omega⟩)
  ·(try((repeat(revert hN;revert N;apply Pn.out));refine wk (tw @a7 (tw @a0 (tw @a5 (tw @a6 (tw @ag (tw @sP (tw @hk (tw @wK (tw @h0 (tw @lL @fQ.eq_1)))))))))) ?_;(repeat(refine Pn.mk ?_;intro N hN))))
   exact cD (sd (tw @a7 (tw @a0 (tw @a5 @fQ.eq_1)))) (⟨o,l,sd @a6,sd @ag,by(try dsimp only);omega,by omega⟩)
 ·(try((repeat(revert hN;revert N;apply Pn.out));refine wk (tw @a7 (tw @a0 (tw @a5 (tw @a6 (tw @hk @fQ.eq_1))))) ?_;(repeat(refine Pn.mk ?_;intro N hN))))
  have tb:gC st_a.get 6 (.own o 0 l.length)=some (.sl (l.map eN)):=fj ag rfl fun b=>Og _ 4 b
  exact⟨_,rfl,_,by simp only[go_sem, ↓reduceIte,Nat.reduceEqDiff,Nat.reduceAdd,Nat.reduceSub,Nat.reduceLeDiff,reduceCtorEq,fa];exact tb,l,rfl,by omega⟩
theorem Cj (v1 v2:Int) (l1 l2:List Nat) (h1:l1.length<=1048576) (h2:l2.length<=1048576):
  mj Tryz.prog 195 [.int .i64 v1,.sl (l1.map eN),.int .i64 v2,.sl (l2.map eN)] fun r=>∃b,r=.bool b/\(v1<v2->b=true)/\(v2<v1->b=false):=by
 refine mj.body dX rfl fun hl n0=>?_
 clear hl
 have ret:∀{t:Nat} {env:Env} {σ:ar} {b:Bool} {x:Ex},(x=.ret∨x=.normal)->env t=.bool b->((v1<v2->b=true)/\(v2<v1->b=false))->kJ [.tmp t] (fun r0 σ'=>∃r',gC σ'.get 6 r0=some r'/\∃b,r'=.bool b/\(v1<v2->b=true)/\(v2<v1->b=false)) x env σ:=by
  intro t env σ b x hx he hb
  have:∃vs,fu env σ.get [.tmp t]=some vs/\∃r',gC σ.get 6 (fa vs)=some r'/\∃b,r'=.bool b/\(v1<v2->b=true)/\(v2<v1->b=false):=⟨[env t],rfl,.bool b,by rw[he];exact fK _ _ _,b,rfl,hb⟩
  rcases hx with rfl|rfl
  ·exact this
  ·exact this
 have m1:(l1.map eN).length=l1.length:=by simp
 have m2:(l2.map eN).length=l2.length:=by simp
 by_cases hv:v1=v2
 ·have hd:decide (v1=v2)=true:=decide_eq_true hv
  by_cases Fy:(l1.length:Int)=(l2.length:Int)
  ·have od:decide ((l1.length:Int)=(l2.length:Int))=true:=decide_eq_true Fy
   have Rg:decide (l1.length=l2.length)=true:=decide_eq_true (by omega)
   (try((repeat(revert hN;revert N;apply Pn.out));refine wk (tw @hd (tw @od (tw @Rg (tw @m1 @m2)))) ?_;(repeat(refine Pn.mk ?_;intro N hN))))
   refine aU (fun n env st=>∃k:Nat,n=(l1.length)-k/\k<=(l1.length)/\env 9=.int .i64 (k:Int)) (l1.length) ⟨0,by omega,by omega,sl @Nat.zero_add⟩ ?_
   rintro n_a env_a st_a ⟨k,rfl,ale,a9⟩ dC
   have a1:=dC 1 (by kernel_rfl);have a3:=dC 3 (by kernel_rfl)
   simp only[go_sem, ↓reduceIte,Nat.reduceEqDiff,Nat.reduceAdd,Nat.reduceSub,Nat.reduceLeDiff,reduceCtorEq]at a1 a3
   clear dC
   by_cases hk:(k:Int)<(l1.length:Int)
   ·have cD:∀{e:Env},(e 9=.int .i64 (IntKind.i64.wrap ((k:Int)+1)))->∃m0,m0<(l1.length)-k/\∃k:Nat,m0=(l1.length)-k/\k<=(l1.length)/\e 9=.int .i64 (k:Int):=fun x1=>⟨_,by omega,k+1,rfl,by omega,(by rw[x1,aA (by omega)])⟩
    have g1:(l1.map eN)[k]? =some (eN (l1.getD k 0)):=getD_map eN (by omega)
    have g2:(l2.map eN)[k]? =some (eN (l2.getD k 0)):=getD_map eN (by omega)
    rw[eN]at g1 g2
    by_cases he:((l1.getD k 0:Nat):Int)=((l2.getD k 0:Nat):Int)
    ·have Rh:decide (((l1.getD k 0:Nat):Int)=((l2.getD k 0:Nat):Int))=true:=decide_eq_true he
     have UG:decide (l1.getD k 0=l2.getD k 0)=true:=decide_eq_true (by omega)
     (try((repeat(revert hN;revert N;apply Pn.out));refine wk (tw @a9 (tw @a1 (tw @a3 (tw @hk (tw @m1 (tw @g1 (tw @g2 (tw @Rh @UG)))))))) ?_;(repeat(refine Pn.mk ?_;intro N hN))))
     exact cD (sd (tw @a9 (tw @a1 @a3)))
    ·have Rh:decide (((l1.getD k 0:Nat):Int)=((l2.getD k 0:Nat):Int))=false:=decide_eq_false he
     have UG:decide (l1.getD k 0=l2.getD k 0)=false:=decide_eq_false (by omega)
     (try((repeat(revert hN;revert N;apply Pn.out));refine wk (tw @a9 (tw @a1 (tw @a3 (tw @hk (tw @m1 (tw @g1 (tw @g2 (tw @Rh @UG)))))))) ?_;(repeat(refine Pn.mk ?_;intro N hN))))
     exact ret (.inl rfl) (by simp only[go_sem, ↓reduceIte,Nat.reduceEqDiff,Nat.reduceAdd,Nat.reduceSub,Nat.reduceLeDiff,reduceCtorEq];rfl) ⟨fun h=>by omega,fun h=>by omega⟩
   ·(try((repeat(revert hN;revert N;apply Pn.out));refine wk (tw @a9 (tw @a1 (tw @a3 (tw @hk @m1)))) ?_;(repeat(refine Pn.mk ?_;intro N hN))))
    exact ret (b:=false) (.inl rfl) (sd @Nat.zero_add) ⟨fun h=>by omega,fun h=>by omega⟩
  ·have od:decide ((l1.length:Int)=(l2.length:Int))=false:=decide_eq_false Fy
   have Rg:decide (l1.length=l2.length)=false:=decide_eq_false (by omega)
   (try((repeat(revert hN;revert N;apply Pn.out));refine wk (tw @hd (tw @od (tw @Rg (tw @m1 @m2)))) ?_;(repeat(refine Pn.mk ?_;intro N hN))))
   exact ret (.inl rfl) (by simp only[go_sem, ↓reduceIte,Nat.reduceEqDiff,Nat.reduceAdd,Nat.reduceSub,Nat.reduceLeDiff,reduceCtorEq];rfl) ⟨fun h=>by omega,fun h=>by omega⟩
 ·have hd:decide (v1=v2)=false:=decide_eq_false hv
  (try((repeat(revert hN;revert N;apply Pn.out));refine wk @hd ?_;(repeat(refine Pn.mk ?_;intro N hN))))
  exact ret (b:=decide (v1<v2)) (.inl rfl) (sd @Nat.zero_add) ⟨fun h=>decide_eq_true h,fun h=>decide_eq_false (by omega)⟩
def vI (bs:List PB) (cnt:Nat) (jt:Int) (k:Nat):Prop:=(k=1/\jt= -1)∨(0<=jt/\(∀z,1<=z->z<k->∀S:Nat->Bool,S 0=true->S z=false->jt<=jk S bs)/\∃S:Nat->Bool,S 0=true/\(∃z,z<cnt/\S z=false)/\jt=jk S bs)
theorem j9.nn {bs:List PB} {val:Int} {S:Nat->Bool} (dH:∀e,e<bs.length->0<=(cE bs e).s/\(cE bs e).s<=4) (h:val=jk S bs):0<=val:=by
 rw[h,v8]
 have:=su (f:=fun _=>0) (g:=fun i=>if S (cE bs i).a=S (cE bs i).b then 0 else(cE bs i).s) (n:=bs.length) fun i hi=>by
  have:=dH i hi
  split<;>omega
 rw[j4 fun _ _=>rfl]at this
 exact this
theorem vI.done {bs:List PB} {cnt:Nat} {jt:Int} (hc:2<=cnt) (h:vI bs cnt jt cnt) (t:Int):t<=jt↔kO cnt bs t:=by
 rcases h with⟨h,_⟩|⟨_,h1,S,h2,⟨z,hz,lu⟩,h3⟩
 ·omega
 ·constructor
  ·intro ht S h0 ⟨y,hy,hy2⟩
   have:y≠0:=by rintro rfl;rw[h0]at hy2;cases hy2
   have:=h1 y (by omega) hy S h0 hy2
   omega
  ·intro hH
   rw[h3];exact hH S h2 ⟨z,hz,lu⟩
theorem Al (cnt:Nat) (h2:2<=cnt) (hn:cnt<=1048576) (bs:List PB) (ok:nF cnt bs) (ql:bs.length<=1048576) (dH:∀e,e<bs.length->0<=(cE bs e).s/\(cE bs e).s<=4):
  tN Tryz.prog 126 [.int .i64 cnt,.sl (bs.map ay)] fun r=>∃jt p,r=.gD [.int .i64 jt,p]/\∀t:Int,t<=jt↔kO cnt bs t:=by
 refine tN.body dX rfl fun hl σ=>?_
 clear hl
 (try((repeat(revert hN;revert N;apply Pn.out));refine wk @Nat.zero_add ?_;(repeat(refine Pn.mk ?_;intro N hN))))
 have z0:∀(g:Rows) (id:Id),g id=some ⟨true,1,[]⟩->V.fz (dJ g) 6 (.own id 0 0)=some (.sl (([]:List Nat).map eN))/\V.fz g 5 (.own id 0 0)=some (.sl (([]:List Nat).map eN)):=fun g id h=>by
  have h':dJ g id=some ⟨true,1,[]⟩:=by simp[dJ,h]
  constructor
  ·rw[iA];simp only[h',if_true];rw[if_pos (by simp)];simp[oU]
  ·rw[iA];simp only[h,if_true];rw[if_pos (by simp)];simp[oU]
 refine aU (fun m env st=>∃(k:Nat) (jt:Int) (l:List Nat) (p:AV),m=cnt-k/\1<=k/\k<=cnt/\env 8=.int .i64 (k:Int)/\env 6=.int .i64 jt/\env 7=p/\V.fz (dJ st.get) 6 p=some (.sl (l.map eN))/\V.fz st.get 5 p=some (.sl (l.map eN))/\l.length<=cnt/\vI bs cnt jt k) (cnt-1) ⟨1,-1,[],.own ⟨126002000,σ.next+1+1⟩ 0 0,rfl,by omega,by omega,by(simp only[go_sem, ↓reduceIte,Nat.reduceEqDiff,Nat.reduceAdd,Nat.reduceSub,Nat.reduceLeDiff,reduceCtorEq])<;>rfl,by(simp only[go_sem, ↓reduceIte,Nat.reduceEqDiff,Nat.reduceAdd,Nat.reduceSub,Nat.reduceLeDiff,reduceCtorEq])<;>rfl,by(simp only[go_sem, ↓reduceIte,Nat.reduceEqDiff,Nat.reduceAdd,Nat.reduceSub,Nat.reduceLeDiff,reduceCtorEq])<;>rfl,(z0 _ _ (sd @Nat.zero_add)).1,(z0 _ _ (sd @Nat.zero_add)).2,by simp,.inl ⟨rfl,rfl⟩⟩ ?_
 rintro m env_b st_b ⟨k,jt,l,p,rfl,xM,wI,b8,b6,b7,Bf,lu,hl,hB⟩ gh
 have b0:=gh 0 (by kernel_rfl)
 have b1:=gh 1 (by kernel_rfl)
 simp only[go_sem, ↓reduceIte,Nat.reduceEqDiff,Nat.reduceAdd,Nat.reduceSub,Nat.reduceLeDiff,reduceCtorEq]at b0 b1
 clear gh z0
 by_cases hk:(k:Int)<(cnt:Int)
 ·have fA:k<cnt:=by omega
  have hFl:=GX cnt hn bs ok ql dH 0 k (by omega) fA (by omega)
  rw[show(((0:Nat):Int))=0 from rfl]at hFl
  (try((repeat(revert hN;revert N;apply Pn.out));refine wk (tw @b0 (tw @b1 (tw @b6 (tw @b7 (tw @b8 @hk))))) ?_;(repeat(refine Pn.mk ?_;intro N hN))))
  refine .inr (aC _ _ _ _ _ (fun r σ1 hq=>?_) (hFl.x mixed))
  obtain⟨⟨f,val,rfl,hf,S,OD,OE,SY⟩,rfl⟩:=hq
  refine hN _ _ ?_
  clear hN N
  have LZ:=xr dH hf.le
  have th:=j9.nn (val:=val) dH SY
  (try((repeat(revert hN;revert N;apply Pn.out));refine wk (tw @b0 (tw @b1 (tw @b6 (tw @b7 @b8)))) ?_;(repeat(refine Pn.mk ?_;intro N hN))))
  refine .inr (aC _ _ _ _ _ (fun r σ1 hq=>?_) ((GY cnt hn bs ok ql f LZ k fA).x mixed (by simp only[ai,aj,aX,aD,Option.map_some])))
  obtain⟨⟨l',rfl,K4⟩,rfl⟩:=hq
  refine hN _ _ ?_
  clear hN N
  have hw:IntKind.i64.wrap ((k:Int)+1)=((k+1:Nat):Int):=aA (by omega)
  have Sm:(∀z,1<=z->z<k->∀S:Nat->Bool,S 0=true->S z=false->val<=jk S bs)->vI bs cnt val (k+1):=fun h=>.inr ⟨th,fun z Bf lu S' h0 h1=>by
   by_cases ue:z=k
   ·subst ue;exact hf.bound h0 h1
   ·exact h z Bf (by omega) S' h0 h1,S,OD,⟨k,fA,OE⟩,SY⟩
  by_cases kf:jt<0
  ·have BR:k=1:=by
    rcases hB with⟨h,_⟩|⟨h,_⟩
    ·exact h
    ·omega
   (try((repeat(revert hN;revert N;apply Pn.out));refine wk (tw @b0 (tw @b1 (tw @b6 (tw @b7 (tw @b8 (tw @kf @hw)))))) ?_;(repeat(refine Pn.mk ?_;intro N hN))))
   refine⟨_,?_,k+1,val,l',.sl (l'.map eN),rfl,by omega,by omega,sd (tw @b8 @hw),sd @Nat.zero_add,sd @Nat.zero_add,cq _ _ _,cq _ _ _,K4,Sm fun z h1 h2=>by omega⟩
   omega
  ·have BR:(∀z,1<=z->z<k->∀S:Nat->Bool,S 0=true->S z=false->jt<=jk S bs)/\∃S:Nat->Bool,S 0=true/\(∃z,z<cnt/\S z=false)/\jt=jk S bs:=by
    rcases hB with⟨_,h⟩|⟨_,h⟩
    ·omega
    ·exact h
   (try((repeat(revert hN;revert N;apply Pn.out));refine wk (tw @b0 (tw @b1 (tw @b6 (tw @b7 (tw @b8 (tw @kf @hw)))))) ?_;(repeat(refine Pn.mk ?_;intro N hN))))
   refine .inr (aC _ _ _ _ _ (fun r σ1 hq=>?_) ((Cj val jt l' l (by omega) (by omega)).x mixed (by simp only[ai,aj,cq,aD,Bf,Option.map_some])))
   obtain⟨⟨b,rfl,KW,Gy⟩,rfl⟩:=hq
   refine hN _ _ ?_
   clear hN N
   cases b with
   |true=>
    have Vs:val<=jt:=by
     rcases Int.lt_or_le jt val with h|h
     ·exact absurd (Gy h) (by simp)
     ·exact h
    (try((repeat(revert hN;revert N;apply Pn.out));refine wk (tw @b0 (tw @b1 (tw @b6 (tw @b7 (tw @b8 @hw))))) ?_;(repeat(refine Pn.mk ?_;intro N hN))))
    refine⟨_,?_,k+1,val,l',.sl (l'.map eN),rfl,by omega,by omega,sd (tw @b8 @hw),sd @Nat.zero_add,sd @Nat.zero_add,cq _ _ _,cq _ _ _,K4,Sm fun z h1 h2 S' h3 h4=>by have:=BR.1 z h1 h2 S' h3 h4;omega⟩
    omega
   |false=>
    have Vs:jt<=val:=by
     rcases Int.lt_or_le val jt with h|h
     ·exact absurd (KW h) (by simp)
     ·exact h
    (try((repeat(revert hN;revert N;apply Pn.out));refine wk (tw @b0 (tw @b1 (tw @b6 (tw @b7 (tw @b8 @hw))))) ?_;(repeat(refine Pn.mk ?_;intro N hN))))
    refine⟨_,?_,k+1,jt,l,p,rfl,by omega,by omega,sd (tw @b8 @hw),sd @b6,sd @b7,Bf,lu,hl,.inr ⟨by omega,fun z h1 h2 S' h3 h4=>?_,BR.2⟩⟩
    ·omega
    ·by_cases ue:z=k
     ·subst ue;have:=hf.bound h3 h4;omega
     ·exact BR.1 z h1 (by omega) S' h3 h4
 ·have mh:k=cnt:=by omega
  (try((repeat(revert hN;revert N;apply Pn.out));refine wk (tw @b0 (tw @b1 (tw @b6 (tw @b7 (tw @b8 @hk))))) ?_;(repeat(refine Pn.mk ?_;intro N hN))))
  exact⟨[.int .i64 jt,p],sd @Nat.zero_add,.gD [.int .i64 jt,.sl (l.map eN)],by simp only[fa,bG,ai,aj,lu,aD,Option.map_some],jt,_,rfl,vI.done h2 (mh▸hB)⟩
theorem MI {s:aw} (hS:iw s) (a d:Int):tG s (dv (dw s a) d)<=4:=by
 have hF:=hS.form
 have fw:dv (dw s a) d=0∨(0<=dv (dw s a) d/\dv (dw s a) d<=s.ax.length):=by
  unfold dv dw
  rw[List.getD_eq_getElem?_getD,List.getD_eq_getElem?_getD]
  rcases ht:s.ah[a.toNat]? with _|t
  ·exact .inl (by simp[Ax])
  ·have RK:=List.mem_of_getElem? ht
   simp only[Option.getD_some]
   rcases hg:t.bx[d.toNat]? with _|g
   ·exact .inl rfl
   ·exact .inr (hF.wC t RK g (List.mem_of_getElem? hg))
 unfold tG
 by_cases h0:dv (dw s a) d=0
 ·rw[if_pos h0];omega
 ·rw[if_neg h0]
  have hk:(dv (dw s a) d-1).toNat<s.ax.length:=by omega
  have:=eC (hS.SL _ hk).2.1
  unfold qb at this
  unfold qJ
  omega
theorem Bs {s:aw} (hS:iw s) (a d b:Int):gV s a d b<=4:=by
 unfold gV
 split
 ·exact MI hS a d
 ·omega
theorem Ge {s:aw} {l:List ad} (hS:iw s) {i:Nat} (hi:i<l.length) {d:Int}:∀b∈nk s l i d,b.a<l.length/\b.b<l.length/\0<=b.s/\b.s<=4:=by
 intro b hb
 unfold nk at hb
 split at hb
 ·rename_i h
  simp only[List.mem_singleton]at hb
  subst hb
  exact⟨hi,(lP h.1).1,by simp only;omega,Bs hS ..⟩
 ·cases hb
theorem yu {s:aw} {l:List ad} (hS:iw s):∀b∈cL s l,b.a<l.length/\b.b<l.length/\0<=b.s/\b.s<=4:=by
 intro b hb
 simp only[cL,gQ,gi,List.mem_flatMap,List.mem_range]at hb
 obtain⟨i,hi,j,_,hb⟩:=hb
 exact Ge hS hi b hb
theorem qu {s:aw} {l:List ad} (hF:jL l):(cL s l).length<=1000:=by
 have:=tT s l l.length
 have:=hF.rP
 rw[cL];omega
theorem Ij {bs:List PB} {e:Nat} (h:e<bs.length):cE bs e∈bs:=by
 rw[cE,List.getD_eq_getElem?_getD,List.getElem?_eq_getElem h];exact List.getElem_mem h
theorem GI {n:Nat} {bs:List PB} {t:Int} (h:n<2):kO n bs t:=fun S h0 ⟨y,hy,hf⟩=>by
 have:y=0:=by omega
 subst this;rw[h0]at hf;cases hf
def iy (s:aw) (l:List ad) (t:Int):Nat:=(leads l.length (eD (aL t (cL s l)))).length
noncomputable def nQ (s:aw) (l:List ad) (t:Int):Bool:=@decide (pE l.length (cL s l) t) (Classical.propDecidable _)
def s6 (s:aw) (l:List ad) (t:Int):Int:=if 64<iy s l t then 4 else 0
theorem mM {s:aw} {l:List ad} {t:Int} {p:Prop} [Decidable p] (h:p↔pE l.length (cL s l) t):decide p=nQ s l t:=by
 letI:=Classical.propDecidable (pE l.length (cL s l) t)
 unfold nQ
 by_cases hp:p
 ·rw[decide_eq_true hp];exact(decide_eq_true (h.1 hp)).symm
 ·rw[decide_eq_false hp];exact(decide_eq_false fun k=>hp (h.2 k)).symm
theorem Cl (s:aw) (l:List ad) (t:Int) (hS:iw s) (hA:jj s l):aq Tryz.prog 168 [.di (ab s),.di [.sl (l.map aa)],.int .i64 t] (.gD [.bool (nQ s l t),.int .i64 (s6 s l t)]):=by
 refine aq.body dX rfl fun hl n0=>?_
 clear hl
 have hb:=yu (l:=l) hS
 have ql:=qu (s:=s) hA.1
 have I4:=hA.1.rP
 have xK:=D9 s l hS.form hA
 have K7:=Ck l.length (by omega) (cL s l) (fun b h=>⟨(hb b h).1,(hb b h).2.1⟩) (by omega) t
 have hL:=uh (aL t (cL s l))
 have fw:=EC hL (fun b h=>⟨(hb b h).1,(hb b h).2.1⟩)
 have hlen:=(nA (eD (aL t (cL s l))) (cL s l)).2
 have nq:=jW l.length (eD (aL t (cL s l)))
 have fS:(l.map aa).length=l.length:=by simp
 by_cases uD:(64:Int)<(iy s l t:Int)
 ·have uE:64<iy s l t:=by omega
  have hd:nQ s l t=false:=(mM (p:=False) ⟨False.elim,fun h=>by have:=h.1;unfold iy at uE;omega⟩).symm.trans (by simp)
  rw[iy]at uD
  (repeat(first|((repeat(revert hN;revert N;apply Pn.out));refine wk (tw @ab.eq_1 (tw @uD @fS)) ?_;(repeat(refine Pn.mk ?_;intro N hN)))|((try apply Or.inl);refine⟨_,aq.x (xK) (sd (tw @ab.eq_1 (tw @uD @fS))),?_⟩;refine hN _ _ ?_;clear hN N)|((try apply Or.inl);refine⟨_,aq.x (K7) (sd (tw @ab.eq_1 (tw @uD @fS))),?_⟩;refine hN _ _ ?_;clear hN N)))
  exact jC (.inl rfl) (r1:=.bool false) (r2:=.int .i64 4) (sd @Nat.zero_add) (sd @Nat.zero_add) (by rw[hd,s6,if_pos uE];simp only[eS,bB,cw,fK,eG,Option.map_some])
 have uE:¬64<iy s l t:=by omega
 have hf:s6 s l t=0:=by rw[s6,if_neg uE]
 by_cases h2:(iy s l t:Int)<2
 ·have hd:nQ s l t=true:=(mM (p:=True) ⟨fun _=>⟨by unfold iy at uE;omega,GI (by unfold iy at h2;omega)⟩,fun _=>trivial⟩).symm.trans (by simp)
  rw[iy]at uD h2
  (repeat(first|((repeat(revert hN;revert N;apply Pn.out));refine wk (tw @ab.eq_1 (tw @uD (tw @h2 @fS))) ?_;(repeat(refine Pn.mk ?_;intro N hN)))|((try apply Or.inl);refine⟨_,aq.x (xK) (sd (tw @ab.eq_1 (tw @uD (tw @h2 @fS)))),?_⟩;refine hN _ _ ?_;clear hN N)|((try apply Or.inl);refine⟨_,aq.x (K7) (sd (tw @ab.eq_1 (tw @uD (tw @h2 @fS)))),?_⟩;refine hN _ _ ?_;clear hN N)))
  exact jC (.inl rfl) (r1:=.bool true) (r2:=.int .i64 0) (sd @Nat.zero_add) (sd @Nat.zero_add) (by rw[hd,hf];simp only[eS,bB,cw,fK,eG,Option.map_some])
 have Pa:=Al (iy s l t) (by omega) (by unfold iy;omega) (eY (eD (aL t (cL s l))) (cL s l)) (fun e he=>by have:=fw _ (Ij he);exact⟨this.1,this.2.1,this.2.2.1⟩) (by omega) (fun e he=>by
  obtain⟨_,_,_,c,hc,dt⟩:=fw _ (Ij he)
  rw[dt];have:=hb c hc;omega)
 rw[iy]at uD h2 Pa
 (repeat(first|((repeat(revert hN;revert N;apply Pn.out));refine wk (tw @ab.eq_1 (tw @uD (tw @h2 @fS))) ?_;(repeat(refine Pn.mk ?_;intro N hN)))|((try apply Or.inl);refine⟨_,aq.x (xK) (sd (tw @ab.eq_1 (tw @uD (tw @h2 @fS)))),?_⟩;refine hN _ _ ?_;clear hN N)|((try apply Or.inl);refine⟨_,aq.x (K7) (sd (tw @ab.eq_1 (tw @uD (tw @h2 @fS)))),?_⟩;refine hN _ _ ?_;clear hN N)))
 refine .inr (aC _ _ _ _ _ (fun r σ1 hq=>?_) (Pa.x mixed))
 obtain⟨⟨jt,p,rfl,Q9⟩,rfl⟩:=hq
 refine hN _ _ ?_
 clear hN N
 (try((repeat(revert hN;revert N;apply Pn.out));refine wk @Nat.zero_add ?_;(repeat(refine Pn.mk ?_;intro N hN))))
 exact jC (.inl rfl) (r1:=.bool (decide (t<=jt))) (r2:=.int .i64 0) (sd @Nat.zero_add) (sd @Nat.zero_add) (by
  rw[hf,mM (s:=s) (l:=l) (t:=t) (p:=t<=jt) ((Q9 t).trans (DS.trans ⟨fun h=>⟨by unfold iy at uE;omega,h⟩,fun h=>h.2⟩))]
  simp only[eS,bB,cw,fK,eG,Option.map_some])
theorem tq (t:Int):aq Tryz.prog 123 [.int .i64 t] (.bool (ja t 1 16)):=by
 refine aq.body dX rfl fun hl n0=>?_
 clear hl
 have h:=lR t 1 16
 (repeat(first|((repeat(revert hN;revert N;apply Pn.out));refine wk @Nat.zero_add ?_;(repeat(refine Pn.mk ?_;intro N hN)))|((try apply Or.inl);refine⟨_,aq.x (h) (sd @Nat.zero_add),?_⟩;refine hN _ _ ?_;clear hN N)))
 exact aW (b:=ja t 1 16) (.inl rfl) (sd @Nat.zero_add) rfl
structure Bj (s:az):Prop where
 set:iw s.aH
 xn:jj s.aH s.aZ.ah
 some:1<=s.aZ.ah.length
 Ku:ja s.aB 1 16=true
 holds:pE s.aZ.ah.length (cL s.aH s.aZ.ah) s.aB
noncomputable def nC (s:az):Bool:=@decide (Bj s) (Classical.propDecidable _)
theorem xw {s:az}:nC s=true↔Bj s:=by simp[nC]
theorem j8 {s:az} (h:¬Bj s):false=nC s:=by simp[nC,h]
theorem CP {s:az} (h:Bj s):true=nC s:=by simp[nC,h]
theorem pV {s:aw} {l:List ad} {t:Int}:nQ s l t=true↔pE l.length (cL s l) t:=by simp[nQ]
theorem Mb (s:az) (hn:fC s.aH) (hg:s.aH.ax.length<=1048576) (ht:s.aH.ah.length<=1048576):aq Tryz.prog 94 [.di (au s)] (.bool (nC s)):=by
 refine aq.body dX rfl fun hl n0=>?_
 clear hl
 have h1:=(Ma s.aH hn hg ht).cut mixed (.ptr _ [.sl (s.aZ.ah.map aa),.int .i64 s.aB] .nil)
 by_cases hS:iw s.aH
 ·rw[mL.2 hS]at h1
  have h2:=(FK s.aH s.aZ.ah).cut mixed (.ptr _ [.sl (s.aZ.ah.map aa),.int .i64 s.aB] (.ptr _ [.int .i64 s.aB] .nil))
  by_cases hA:jj s.aH s.aZ.ah
  ·rw[mm.2 hA]at h2
   by_cases h0:(s.aZ.ah.length:Int)=0
   ·have hd:decide ((s.aZ.ah.length:Int)=0)=true:=decide_eq_true h0
    have lx:false=nC s:=j8 fun h=>by have:=h.some;omega
    generalize fS:(s.aZ.ah.map aa).length=len at *
    (repeat(first|((repeat(revert hN;revert N;apply Pn.out));refine wk (tw @au.eq_1 (tw @ab.eq_1 @hd)) ?_;(repeat(refine Pn.mk ?_;intro N hN)))|((try apply Or.inl);refine⟨_,aq.x (h1) (sd (tw @au.eq_1 (tw @ab.eq_1 @hd))),?_⟩;refine hN _ _ ?_;clear hN N)|((try apply Or.inl);refine⟨_,aq.x (h2) (sd (tw @au.eq_1 (tw @ab.eq_1 @hd))),?_⟩;refine hN _ _ ?_;clear hN N)))
    exact aW (b:=false) (.inl rfl) (sd @Nat.zero_add) lx
   ·have hd:decide ((s.aZ.ah.length:Int)=0)=false:=decide_eq_false h0
    have h3:=tq s.aB
    cases hT:ja s.aB 1 16
    ·rw[hT]at h3
     (repeat(first|((repeat(revert hN;revert N;apply Pn.out));refine wk (tw @au.eq_1 (tw @ab.eq_1 @hd)) ?_;(repeat(refine Pn.mk ?_;intro N hN)))|((try apply Or.inl);refine⟨_,aq.x (h1) (sd (tw @au.eq_1 (tw @ab.eq_1 @hd))),?_⟩;refine hN _ _ ?_;clear hN N)|((try apply Or.inl);refine⟨_,aq.x (h2) (sd (tw @au.eq_1 (tw @ab.eq_1 @hd))),?_⟩;refine hN _ _ ?_;clear hN N)|((try apply Or.inl);refine⟨_,aq.x (h3) (sd (tw @au.eq_1 (tw @ab.eq_1 @hd))),?_⟩;refine hN _ _ ?_;clear hN N)))
     exact aW (b:=false) (.inl rfl) (sd @Nat.zero_add) (j8 fun h=>by have:=h.Ku;rw[hT]at this;cases this)
    ·rw[hT]at h3
     have h4:=(Cl s.aH s.aZ.ah s.aB hS hA).cut mixed (.ptr _ [.sl (s.aZ.ah.map aa),.int .i64 s.aB] (.ptr _ [.int .i64 s.aB] (.same _ .nil)))
     cases hB:nQ s.aH s.aZ.ah s.aB
     ·rw[hB]at h4
      (repeat(first|((repeat(revert hN;revert N;apply Pn.out));refine wk (tw @au.eq_1 (tw @ab.eq_1 @hd)) ?_;(repeat(refine Pn.mk ?_;intro N hN)))|((try apply Or.inl);refine⟨_,aq.x (h1) (sd (tw @au.eq_1 (tw @ab.eq_1 @hd))),?_⟩;refine hN _ _ ?_;clear hN N)|((try apply Or.inl);refine⟨_,aq.x (h2) (sd (tw @au.eq_1 (tw @ab.eq_1 @hd))),?_⟩;refine hN _ _ ?_;clear hN N)|((try apply Or.inl);refine⟨_,aq.x (h3) (sd (tw @au.eq_1 (tw @ab.eq_1 @hd))),?_⟩;refine hN _ _ ?_;clear hN N)|((try apply Or.inl);refine⟨_,aq.x (h4) (sd (tw @au.eq_1 (tw @ab.eq_1 @hd))),?_⟩;refine hN _ _ ?_;clear hN N)))
      exact aW (b:=false) (.inl rfl) (sd @Nat.zero_add) (j8 fun h=>by have:=pV.2 h.holds;rw[hB]at this;cases this)
     ·have hP:=pV.1 hB
      have hf:s6 s.aH s.aZ.ah s.aB=0:=by
       have:=hP.1
       rw[s6,if_neg (by unfold iy;omega)]
      rw[hB,hf]at h4
      (repeat(first|((repeat(revert hN;revert N;apply Pn.out));refine wk (tw @au.eq_1 (tw @ab.eq_1 @hd)) ?_;(repeat(refine Pn.mk ?_;intro N hN)))|((try apply Or.inl);refine⟨_,aq.x (h1) (sd (tw @au.eq_1 (tw @ab.eq_1 @hd))),?_⟩;refine hN _ _ ?_;clear hN N)|((try apply Or.inl);refine⟨_,aq.x (h2) (sd (tw @au.eq_1 (tw @ab.eq_1 @hd))),?_⟩;refine hN _ _ ?_;clear hN N)|((try apply Or.inl);refine⟨_,aq.x (h3) (sd (tw @au.eq_1 (tw @ab.eq_1 @hd))),?_⟩;refine hN _ _ ?_;clear hN N)|((try apply Or.inl);refine⟨_,aq.x (h4) (sd (tw @au.eq_1 (tw @ab.eq_1 @hd))),?_⟩;refine hN _ _ ?_;clear hN N)))
      exact aW (b:=true) (.inl rfl) (sd @Nat.zero_add) (CP ⟨hS,hA,by omega,hT,hP⟩)
  ·have hb:qa s.aH s.aZ.ah=false:=Bool.eq_false_iff.2 fun h=>hA (mm.1 h)
   rw[hb]at h2
   (repeat(first|((repeat(revert hN;revert N;apply Pn.out));refine wk (tw @au.eq_1 @ab.eq_1) ?_;(repeat(refine Pn.mk ?_;intro N hN)))|((try apply Or.inl);refine⟨_,aq.x (h1) (sd (tw @au.eq_1 @ab.eq_1)),?_⟩;refine hN _ _ ?_;clear hN N)|((try apply Or.inl);refine⟨_,aq.x (h2) (sd (tw @au.eq_1 @ab.eq_1)),?_⟩;refine hN _ _ ?_;clear hN N)))
   exact aW (b:=false) (.inl rfl) (sd @Nat.zero_add) (j8 fun h=>hA h.xn)
 ·have hb:rf s.aH=false:=Bool.eq_false_iff.2 fun h=>hS (mL.1 h)
  rw[hb]at h1
  (repeat(first|((repeat(revert hN;revert N;apply Pn.out));refine wk (tw @au.eq_1 @ab.eq_1) ?_;(repeat(refine Pn.mk ?_;intro N hN)))|((try apply Or.inl);refine⟨_,aq.x (h1) (sd (tw @au.eq_1 @ab.eq_1)),?_⟩;refine hN _ _ ?_;clear hN N)))
  exact aW (b:=false) (.inl rfl) (sd @Nat.zero_add) (j8 fun h=>hS h.set)
theorem MH {s:aw} (hS:iw s) (a d:Int):0<=tG s (dv (dw s a) d):=by
 have hF:=hS.form
 have fw:dv (dw s a) d=0∨(0<=dv (dw s a) d/\dv (dw s a) d<=s.ax.length):=by
  unfold dv dw
  rw[List.getD_eq_getElem?_getD,List.getD_eq_getElem?_getD]
  rcases ht:s.ah[a.toNat]? with _|t
  ·exact .inl (by simp[Ax])
  ·have RK:=List.mem_of_getElem? ht
   simp only[Option.getD_some]
   rcases hg:t.bx[d.toNat]? with _|g
   ·exact .inl rfl
   ·exact .inr (hF.wC t RK g (List.mem_of_getElem? hg))
 unfold tG
 by_cases h0:dv (dw s a) d=0
 ·rw[if_pos h0];omega
 ·rw[if_neg h0]
  have hk:(dv (dw s a) d-1).toNat<s.ax.length:=by omega
  have:=eC (hS.SL _ hk).2.1
  unfold qb at this
  unfold qJ
  omega
theorem vU {s:aw} (hS:iw s) (a d b:Int):0<=gV s a d b/\gV s a d b<=4:=by
 refine⟨?_,Bs hS a d b⟩
 unfold gV
 split
 ·exact MH hS a d
 ·omega
def dV (s:aw) (f:aI->Int) (p:aI) (t:Int):Nat->Int
 |0=>0
 |d+1=>dV s f p t d+if 0<=f (dx p d)then gV s t d (f (dx p d))else 0
def tR (s:aw) (f:aI->Int) (p:aI) (t:Int):Int:=dV s f p t 4
theorem lH {s:aw} (hS:iw s) (f:aI->Int) (p:aI) (t:Int):∀d,0<=dV s f p t d/\dV s f p t d<=4*(d:Int)
 |0=>⟨Int.le_refl _,Int.le_refl _⟩
 |d+1=>by
  have:=lH hS f p t d
  have hb:=vU hS t d (f (dx p d))
  simp only[dV]
  split<;>omega
theorem Bn {s:aw} {l:List ad} (hA:jj s l) {p:aI} (h:0<=gF l p):eM s (gF l p)=true:=by
 unfold gF at h ⊢
 split at h
 ·rename_i h0
  rw[if_pos h0]
  exact hA.2 _ (gK (lP h0).1)
 ·omega
theorem Ak (s:aw) (hS:iw s) (l:List ad) (hA:jj s l) (p:aI) (hx:iB p.eZ) (hy:iB p.eU) (t:Int) (ht:eM s t=true):aq Tryz.prog 242 [.di (ab s),.di [.sl (l.map aa)],.agg (ae p),.int .i64 t] (.int .i64 (tR s (gF l) p t)):=by
 refine aq.body dX rfl fun hl n0=>?_
 clear hl
 have hR:=hA.1.Hl
 have Gw:l.length<=1048576:=by have:=hA.1.rP;omega
 (try((repeat(revert hN;revert N;apply Pn.out));refine wk @ae.eq_1 ?_;(repeat(refine Pn.mk ?_;intro N hN))))
 refine aU (fun n env st=>∃k:Nat,n=(4)-k/\k<=(4)/\env 10=.int .i64 (k:Int)/\env 9=.int .i64 (dV s (gF l) p t k)/\st.get ⟨242000000,n0⟩=some ⟨true,2,[ae p]⟩) (4) ⟨0,by omega,by omega,sl @ae.eq_1,sl @ae.eq_1,sl @ae.eq_1⟩ ?_
 rintro n_a env_a st_a ⟨k,rfl,ale,yl,a9,ag0⟩ dC
 have a0:=dC 0 (by kernel_rfl);have a1:=dC 1 (by kernel_rfl);have a3:=dC 3 (by kernel_rfl);have a6:=dC 6 (by kernel_rfl)
 simp only[go_sem, ↓reduceIte,Nat.reduceEqDiff,Nat.reduceAdd,Nat.reduceSub,Nat.reduceLeDiff,reduceCtorEq,ae]at a0 a1 a3 a6
 clear dC
 by_cases hk:(k:Int)<4
 ·have cD:∀{e:Env} {gg:Rows},(e 10=.int .i64 (IntKind.i64.wrap ((k:Int)+1)))->(e 9=.int .i64 (dV s (gF l) p t (k+1)))->(gg ⟨242000000,n0⟩=some ⟨true,2,[ae p]⟩)->∃m0,m0<(4)-k/\∃k:Nat,m0=(4)-k/\k<=(4)/\e 10=.int .i64 (k:Int)/\e 9=.int .i64 (dV s (gF l) p t k)/\gg ⟨242000000,n0⟩=some ⟨true,2,[ae p]⟩:=fun x1 x2 x3=>⟨_,by omega,k+1,rfl,by omega,(by rw[x1,aA (by omega)]),x2,x3⟩
  have dH:=y4 p k (kV (by omega)) hx hy
  have Fs:=FJ l (dx p k) hR Gw
  have fw:=lH hS (gF l) p t k
  by_cases h0:0<=gF l (dx p k)
  ·have xK:=y5 s hS.form t k (gF l (dx p k)) ht (Bn hA h0) (kV (by omega))
   have fR:=vU hS t k (gF l (dx p k))
   have hw:IntKind.i64.wrap (dV s (gF l) p t k+gV s t k (gF l (dx p k)))=dV s (gF l) p t (k+1):=by
    rw[bz (by omega),dV,if_pos h0]
   (repeat(first|((repeat(revert hN;revert N;apply Pn.out));refine wk (tw @yl (tw @a9 (tw @ag0 (tw @a0 (tw @a1 (tw @a3 (tw @a6 (tw @hk (tw @h0 @ae.eq_1))))))))) ?_;(repeat(refine Pn.mk ?_;intro N hN)))|((try apply Or.inl);refine⟨_,aq.x (dH) (sd (tw @yl (tw @a9 (tw @ag0 (tw @a0 (tw @a1 (tw @a3 (tw @a6 (tw @hk (tw @h0 @ae.eq_1)))))))))),?_⟩;refine hN _ _ ?_;clear hN N)|((try apply Or.inl);refine⟨_,aq.x (Fs) (sd (tw @yl (tw @a9 (tw @ag0 (tw @a0 (tw @a1 (tw @a3 (tw @a6 (tw @hk (tw @h0 @ae.eq_1)))))))))),?_⟩;refine hN _ _ ?_;clear hN N)|((try apply Or.inl);refine⟨_,aq.x (xK) (sd (tw @yl (tw @a9 (tw @ag0 (tw @a0 (tw @a1 (tw @a3 (tw @a6 (tw @hk (tw @h0 @ae.eq_1)))))))))),?_⟩;refine hN _ _ ?_;clear hN N)))
   refine cD ?_ ?_ ?_
   all_goals simp only[go_sem, ↓reduceIte,Nat.reduceEqDiff,Nat.reduceAdd,Nat.reduceSub,Nat.reduceLeDiff,reduceCtorEq,yl,a9,ag0,a0,a1,a3,a6,hw,ae]
  ·have hw:dV s (gF l) p t (k+1)=dV s (gF l) p t k:=by rw[dV,if_neg h0,Int.add_zero]
   (repeat(first|((repeat(revert hN;revert N;apply Pn.out));refine wk (tw @yl (tw @a9 (tw @ag0 (tw @a0 (tw @a1 (tw @a3 (tw @a6 (tw @hk (tw @h0 @ae.eq_1))))))))) ?_;(repeat(refine Pn.mk ?_;intro N hN)))|((try apply Or.inl);refine⟨_,aq.x (dH) (sd (tw @yl (tw @a9 (tw @ag0 (tw @a0 (tw @a1 (tw @a3 (tw @a6 (tw @hk (tw @h0 @ae.eq_1)))))))))),?_⟩;refine hN _ _ ?_;clear hN N)|((try apply Or.inl);refine⟨_,aq.x (Fs) (sd (tw @yl (tw @a9 (tw @ag0 (tw @a0 (tw @a1 (tw @a3 (tw @a6 (tw @hk (tw @h0 @ae.eq_1)))))))))),?_⟩;refine hN _ _ ?_;clear hN N)))
   refine cD ?_ ?_ ?_
   all_goals simp only[go_sem, ↓reduceIte,Nat.reduceEqDiff,Nat.reduceAdd,Nat.reduceSub,Nat.reduceLeDiff,reduceCtorEq,yl,a9,ag0,a0,a1,a3,a6,hw,ae]
 ·(try((repeat(revert hN;revert N;apply Pn.out));refine wk (tw @yl (tw @a9 (tw @ag0 (tw @a0 (tw @a1 (tw @a3 (tw @a6 @hk))))))) ?_;(repeat(refine Pn.mk ?_;intro N hN))))
  exact bW (b:=dV s (gF l) p t k) (.inl rfl) (sd (tw @yl (tw @a9 (tw @ag0 (tw @a0 (tw @a1 (tw @a3 @a6))))))) (by rw[show k=4 by omega];rfl)
def iT (la lb:List ad):Bool:=la.all fun t=>decide (gF lb t.aO=t.aV)
theorem Ch (la lb:List ad) (hR:nS lb) (Gw:lb.length<=1048576) (h81:la.length<=1048576):aq Tryz.prog 170 [.di [.sl (la.map aa)],.di [.sl (lb.map aa)]] (.bool (iT la lb)):=by
 refine aq.body dX rfl fun hl n0=>?_
 clear hl
 (try((repeat(revert hN;revert N;apply Pn.out));refine wk @Nat.zero_add ?_;(repeat(refine Pn.mk ?_;intro N hN))))
 refine aU (fun n env st=>∃k:Nat,n=(la.length)-k/\k<=(la.length)/\env 5=.int .i64 (k:Int)/\(∀j:Nat,j<k->gF lb (aJ la j).aO=(aJ la j).aV)) (la.length) ⟨0,by omega,by omega,sl @Nat.zero_add,fun _ h=>absurd h (Nat.not_lt_zero _)⟩ ?_
 rintro n_a env_a st_a ⟨k,rfl,ale,a5,mc⟩ dC
 have a0:=dC 0 (by kernel_rfl);have a1:=dC 1 (by kernel_rfl)
 simp only[go_sem, ↓reduceIte,Nat.reduceEqDiff,Nat.reduceAdd,Nat.reduceSub,Nat.reduceLeDiff,reduceCtorEq]at a0 a1
 clear dC
 by_cases hk:(k:Int)<(la.length:Int)
 ·have cD:∀{e:Env},(e 5=.int .i64 (IntKind.i64.wrap ((k:Int)+1)))->(gF lb (aJ la k).aO=(aJ la k).aV)->∃m0,m0<(la.length)-k/\∃k:Nat,m0=(la.length)-k/\k<=(la.length)/\e 5=.int .i64 (k:Int)/\(∀j:Nat,j<k->gF lb (aJ la j).aO=(aJ la j).aV):=fun x1 x2=>⟨_,by omega,k+1,rfl,by omega,(by rw[x1,aA (by omega)]),(all_succ mc x2)⟩
  have fA:k<la.length:=by omega
  have eR:=fx fA
  have Fs:=FJ lb (aJ la k).aO hR Gw
  by_cases h0:gF lb (aJ la k).aO=(aJ la k).aV
  ·have hd:decide (gF lb (aJ la k).aO=(aJ la k).aV)=true:=decide_eq_true h0
   (repeat(first|((repeat(revert hN;revert N;apply Pn.out));refine wk (tw @a5 (tw @a0 (tw @a1 (tw @hk (tw @eR (tw @hd (tw @aa.eq_1 @ae.eq_1))))))) ?_;(repeat(refine Pn.mk ?_;intro N hN)))|((try apply Or.inl);refine⟨_,aq.x (Fs) (sd (tw @a5 (tw @a0 (tw @a1 (tw @hk (tw @eR (tw @hd (tw @aa.eq_1 @ae.eq_1)))))))),?_⟩;refine hN _ _ ?_;clear hN N)))
   exact cD (sd (tw @a5 (tw @a0 @a1))) (h0)
  ·have hd:decide (gF lb (aJ la k).aO=(aJ la k).aV)=false:=decide_eq_false h0
   (repeat(first|((repeat(revert hN;revert N;apply Pn.out));refine wk (tw @a5 (tw @a0 (tw @a1 (tw @hk (tw @eR (tw @hd (tw @aa.eq_1 @ae.eq_1))))))) ?_;(repeat(refine Pn.mk ?_;intro N hN)))|((try apply Or.inl);refine⟨_,aq.x (Fs) (sd (tw @a5 (tw @a0 (tw @a1 (tw @hk (tw @eR (tw @hd (tw @aa.eq_1 @ae.eq_1)))))))),?_⟩;refine hN _ _ ?_;clear hN N)))
   exact aW (b:=false) (.inl rfl) (sd @Nat.zero_add) (List.all_eq_false.2 ⟨_,gK fA,by rw[hd];simp⟩).symm
 ·(try((repeat(revert hN;revert N;apply Pn.out));refine wk (tw @a5 (tw @a0 (tw @a1 @hk))) ?_;(repeat(refine Pn.mk ?_;intro N hN))))
  exact aW (b:=true) (.inl rfl) (sd @Nat.zero_add) (List.all_eq_true.2 fun t ht=>by
   obtain⟨j,hj,rfl⟩:=List.getElem_of_mem ht
   have:=mc j (by omega)
   rw[fh hj]at this
   exact decide_eq_true this).symm
noncomputable def rD (s:az) (l:List ad):Bool:=nC s&&qa s.aH l
theorem Ea (s:az) (l:List ad) (hn:fC s.aH) (hg:s.aH.ax.length<=1048576) (ht:s.aH.ah.length<=1048576):aq Tryz.prog 90 [.di (au s),.di [.sl (l.map aa)]] (.int .i64 (if rD s l then 0 else 1)):=by
 refine aq.body dX rfl fun hl n0=>?_
 clear hl
 have h1:=Mb s hn hg ht
 have h2:=(FK s.aH l).cut mixed (.ptr _ [.sl (s.aZ.ah.map aa),.int .i64 s.aB] (.same _ .nil))
 cases b1:nC s
 ·rw[b1]at h1
  (repeat(first|((repeat(revert hN;revert N;apply Pn.out));refine wk @Nat.zero_add ?_;(repeat(refine Pn.mk ?_;intro N hN)))|((try apply Or.inl);refine⟨_,aq.x (h1) (sd @Nat.zero_add),?_⟩;refine hN _ _ ?_;clear hN N)))
  exact bW (b:=1) (.inl rfl) (sd @Nat.zero_add) (by rw[rD,b1];rfl)
 rw[b1]at h1
 rw[au]at h1 ⊢
 cases b2:qa s.aH l
 ·rw[b2]at h2
  (repeat(first|((repeat(revert hN;revert N;apply Pn.out));refine wk @ab.eq_1 ?_;(repeat(refine Pn.mk ?_;intro N hN)))|((try apply Or.inl);refine⟨_,aq.x (h1) (sd @ab.eq_1),?_⟩;refine hN _ _ ?_;clear hN N)|((try apply Or.inl);refine⟨_,aq.x (h2) (sd @ab.eq_1),?_⟩;refine hN _ _ ?_;clear hN N)))
  exact bW (b:=1) (.inl rfl) (sd @Nat.zero_add) (by rw[rD,b1,b2];rfl)
 ·rw[b2]at h2
  (repeat(first|((repeat(revert hN;revert N;apply Pn.out));refine wk @ab.eq_1 ?_;(repeat(refine Pn.mk ?_;intro N hN)))|((try apply Or.inl);refine⟨_,aq.x (h1) (sd @ab.eq_1),?_⟩;refine hN _ _ ?_;clear hN N)|((try apply Or.inl);refine⟨_,aq.x (h2) (sd @ab.eq_1),?_⟩;refine hN _ _ ?_;clear hN N)))
  exact bW (b:=0) (.inl rfl) (sd @Nat.zero_add) (by rw[rD,b1,b2];rfl)
theorem rE {s:az} {l:List ad}:rD s l=true↔Bj s/\jj s.aH l:=by simp[rD,xw,mm]
noncomputable def jh (s:az) (l:List ad):Int:=if rD s l then(if iT s.aZ.ah l then 0 else 2)else 1
theorem GZ (s:az) (l:List ad) (hn:fC s.aH) (hg:s.aH.ax.length<=1048576) (ht:s.aH.ah.length<=1048576):aq Tryz.prog 113 [.di (au s),.di [.sl (l.map aa)]] (.int .i64 (jh s l)):=by
 refine aq.body dX rfl fun hl n0=>?_
 clear hl
 have h1:=Ea s l hn hg ht
 cases b1:rD s l
 ·rw[b1]at h1
  (repeat(first|((repeat(revert hN;revert N;apply Pn.out));refine wk @Nat.zero_add ?_;(repeat(refine Pn.mk ?_;intro N hN)))|((try apply Or.inl);refine⟨_,aq.x (h1) (sd @Nat.zero_add),?_⟩;refine hN _ _ ?_;clear hN N)))
  exact bW (b:=1) (.inl rfl) (sd @Nat.zero_add) (by rw[jh,b1];rfl)
 obtain⟨hP,hA⟩:=rE.1 b1
 have h2:=(Ch s.aZ.ah l hA.1.Hl (by have:=hA.1.rP;omega) (by have:=hP.xn.1.rP;omega)).cut mixed (.ptr _ [.int .i64 s.aB] (.same _ .nil))
 rw[b1]at h1
 rw[au]at h1 ⊢
 cases b2:iT s.aZ.ah l
 ·rw[b2]at h2
  (repeat(first|((repeat(revert hN;revert N;apply Pn.out));refine wk @Nat.zero_add ?_;(repeat(refine Pn.mk ?_;intro N hN)))|((try apply Or.inl);refine⟨_,aq.x (h1) (sd @Nat.zero_add),?_⟩;refine hN _ _ ?_;clear hN N)|((try apply Or.inl);refine⟨_,aq.x (h2) (sd @Nat.zero_add),?_⟩;refine hN _ _ ?_;clear hN N)))
  exact bW (b:=2) (.inl rfl) (sd @Nat.zero_add) (by rw[jh,b1,b2];rfl)
 ·rw[b2]at h2
  (repeat(first|((repeat(revert hN;revert N;apply Pn.out));refine wk @Nat.zero_add ?_;(repeat(refine Pn.mk ?_;intro N hN)))|((try apply Or.inl);refine⟨_,aq.x (h1) (sd @Nat.zero_add),?_⟩;refine hN _ _ ?_;clear hN N)|((try apply Or.inl);refine⟨_,aq.x (h2) (sd @Nat.zero_add),?_⟩;refine hN _ _ ?_;clear hN N)))
  exact bW (b:=0) (.inl rfl) (sd @Nat.zero_add) (by rw[jh,b1,b2];rfl)
theorem Kv {s:aw} {k:Nat} (h:k<s.ah.length):eM s k=true:=by
 unfold eM;exact kV (by omega)
theorem Ii {s:aw} {l:List ad} (hA:jj s l) (p:aI):gF l p<0↔eF l p<0:=by
 constructor
 ·intro h
  rcases Int.lt_or_le (eF l p) 0 with h0|h0
  ·exact h0
  ·exfalso
   obtain⟨h1,_⟩:=lP h0
   have h2:=(eC (hA.2 _ (gK h1))).1
   rw[gF,if_pos h0]at h
   omega
 ·intro h
  rw[gF,if_neg (by omega)];omega
abbrev mP:MK:=⟨true,[.tI,.tI]⟩
theorem Cs (p:aI):∀(ts:List ad) (i:Nat),gm mP (ae p) (ts.map aa) i=some (if qg ts p<ts.length then some (i+qg ts p)else none)
 |[],i=>by simp[gm,qg]
 |t::ts,i=>by
  have e:eX mP.ts (ae p) ((aa t).take mP.ks)=some (decide (p=t.aO)):=by
   have h:(p=t.aO)↔(p.eZ=t.aO.eZ/\p.eU=t.aO.eU):=⟨fun h=>by rw[h];exact⟨rfl,rfl⟩,fun h=>Er h.1 h.2⟩
   simp[MK.ks,ae,aa,eX,fX,h]
  have ih:=Cs p ts (i+1)
  rw[List.map_cons]
  unfold gm
  rw[e]
  by_cases h:p=t.aO
  ·rw[decide_eq_true h]
   have h0:qg (t::ts) p=0:=by simp[qg,List.findIdx_cons,h]
   simp[h0]
  ·rw[decide_eq_false h]
   have h0:qg (t::ts) p=qg ts p+1:=by
    simp[qg,List.findIdx_cons,Ne.symm h]
   simp only[ih,h0,List.length_cons,Nat.add_lt_add_iff_right]
   congr 1
   split<;>simp;omega
theorem za (ts:List ad) (p:aI):fP mP (.agg [.int .i64 p.eZ,.int .i64 p.eU]) (ts.map aa)=some (if 0<=eF ts p then some (eF ts p).toNat else none):=by
 have h:=Cs p ts 0
 unfold fP
 rw[if_pos ⟨rfl,rfl,rfl⟩]
 show gm mP (ae p) _ 0= _
 rw[h]
 unfold eF
 split<;>simp
theorem G9 {ts:List ad} {p:aI} (h:0<=eF ts p):fP mP (.agg [.int .i64 p.eZ,.int .i64 p.eU]) (ts.map aa)=some (some (eF ts p).toNat):=by rw[za,if_pos h]
theorem qZ {ts:List ad} {p:aI} (h:eF ts p<0):fP mP (.agg [.int .i64 p.eZ,.int .i64 p.eU]) (ts.map aa)=some none:=by rw[za,if_neg (by omega)]
structure C1 (g:Rows) (n:Nat) (c T O:Id) (s:az) (ts:List ad):Prop where
 row:∃b,g c=some ⟨b,6,[[.sl (s.aH.ax.map bV),.sl (s.aH.ah.map bH),.sl (s.aZ.ah.map aa),.int .i64 s.aB,.map T mP,.map O mP]]⟩
 tl:∃b,g T=some ⟨b,mP.pQ,ts.map aa⟩
 cv:c.ck<n
 tv:T.ck<n
 ov:O.ck<n
theorem C1.ro {g:Rows} {n:Nat} {c T O:Id} {s:az} {ts:List ad} (h:C1 g n c T O s ts):C1 (V.ro g) n c T O s ts:=by
 obtain⟨b,h1⟩:=h.row
 obtain⟨b2,h2⟩:=h.tl
 exact⟨⟨false,by simp[V.ro,h1]⟩,⟨false,by simp[V.ro,h2]⟩,h.cv,h.tv,h.ov⟩
theorem C1.frame {g g':Rows} {n n':Nat} {c T O:Id} {s:az} {ts:List ad} (h:C1 g n c T O s ts) (hn:n<=n') (hc:g' c=g c) (hT:g' T=g T):C1 g' n' c T O s ts:=
 ⟨by rw[hc];exact h.row,by rw[hT];exact h.tl,Nat.lt_of_lt_of_le h.cv hn,Nat.lt_of_lt_of_le h.tv hn,Nat.lt_of_lt_of_le h.ov hn⟩
theorem TU {σ:ar} {c T O:Id} {s:az} {ts:List ad} (h:C1 σ.get σ.next c T O s ts) (p:aI):Call Tryz.prog 281 [.ptr c 0 0,.agg (ae p)] σ (fun r _=>r=.int .i64 (gF ts p)):=by
 refine eL dX rfl fun kp=>?_
 clear kp
 obtain⟨b,h1⟩:=h.row
 obtain⟨b2,h2⟩:=h.tl
 have v1:=dr h.cv
 have v2:=dr h.tv
 by_cases h0:0<=eF ts p
 ·have hm:=G9 h0
  have hg:=fx (lP h0).1
  have ho:(some (eF ts p).toNat).isSome=true:=rfl
  (try((repeat(revert hN;revert N;apply Pn.out));refine wk (tw @h1 (tw @h2 (tw @v1 (tw @v2 (tw @hm (tw @hg (tw @ho (tw @ae.eq_1 @aa.eq_1)))))))) ?_;(repeat(refine Pn.mk ?_;intro N hN))))
  exact e9 (.inl rfl) (vs:=[.int .i64 (aJ ts (eF ts p).toNat).aV]) (sd @Nat.zero_add) (by rw[gF,if_pos h0];rfl)
 ·have hm:=qZ (ts:=ts) (p:=p) (by omega)
  have ho:(none:Option Nat).isSome=false:=rfl
  (try((repeat(revert hN;revert N;apply Pn.out));refine wk (tw @h1 (tw @h2 (tw @v1 (tw @v2 (tw @hm (tw @ho @ae.eq_1)))))) ?_;(repeat(refine Pn.mk ?_;intro N hN))))
  exact e9 (.inl rfl) (vs:=[.int .i64 (-1)]) (sd @Nat.zero_add) (by rw[gF,if_neg h0];rfl)
theorem NT {σ:ar} {c T O:Id} {s:az} {ts:List ad} (h:C1 σ.get σ.next c T O s ts) (p:aI):gy (Call Tryz.prog) 281 [.ptr c 0 0,.agg (ae p)] σ (fun r=>r=.int .i64 (gF ts p)):=by
 unfold gy PC
 exact Or.inl (aC _ _ _ _ _ (fun r σ' hr=>⟨_,by rw[hr];exact aD _ _ _ _,rfl⟩) (TU (σ:=⟨V.ro σ.get,σ.next⟩) h.ro p))
theorem Gc {σ:ar} (s:aw) (hS:iw s) (F:aI->Int) (hF:∀q,0<=F q->eM s (F q)=true) (p:aI) (hx:iB p.eZ) (hy:iB p.eU) (t:Int) (ht:eM s t=true) (f:Nat) (first:List AV)
  (Fs:∀σ':ar,σ.next<=σ'.next->(∀x:Id,x.ck<σ.next->σ'.get x=σ.get x)->∀q,gy (Call Tryz.prog) f (first++[.agg (ae q)]) σ' (fun r=>r=.int .i64 (F q))):
  Call Tryz.prog 249 [.agg (ab s),.agg (ae p),.int .i64 t,.uj f first] σ (fun r _=>r=.int .i64 (tR s F p t)):=by
 refine eL dX rfl fun kp=>?_
 clear kp
 (try((repeat(revert hN;revert N;apply Pn.out));refine wk (tw @ae.eq_1 @ab.eq_1) ?_;(repeat(refine Pn.mk ?_;intro N hN))))
 refine aU (fun n env st=>∃k:Nat,n=(4)-k/\k<=(4)/\env 12=.int .i64 (k:Int)/\env 9=.int .i64 (dV s F p t k)/\st.get ⟨249000000,σ.next⟩=some ⟨true,2,[ab s]⟩/\st.get ⟨249000001,σ.next⟩=some ⟨true,2,[ae p]⟩/\(σ.next<st.next/\∀x:Id,x.ck<σ.next->st.get x=σ.get x)) (4) ⟨0,by omega,by omega,sl (tw @ae.eq_1 @ab.eq_1),sl (tw @ae.eq_1 @ab.eq_1),sl (tw @ae.eq_1 @ab.eq_1),sl (tw @ae.eq_1 @ab.eq_1),⟨by(try dsimp only);omega,fun x hx=>by
  have:=dr hx
  simp only[go_sem, ↓reduceIte,Nat.reduceEqDiff,Nat.reduceAdd,Nat.reduceSub,Nat.reduceLeDiff,reduceCtorEq,this]⟩⟩ ?_
 rintro n_a env_a st_a ⟨k,rfl,ale,a12,a9,ag0,ag1,lZ⟩ dC
 have a2:=dC 2 (by kernel_rfl);have a3:=dC 3 (by kernel_rfl);have a4:=dC 4 (by kernel_rfl);have a5:=dC 5 (by kernel_rfl)
 simp only[go_sem, ↓reduceIte,Nat.reduceEqDiff,Nat.reduceAdd,Nat.reduceSub,Nat.reduceLeDiff,reduceCtorEq,ae,ab]at a2 a3 a4 a5
 clear dC
 obtain⟨an,dC⟩:=lZ
 by_cases hk:(k:Int)<4
 ·have cD:∀{e:Env} {gg:Rows} {nx:Nat},(e 12=.int .i64 (IntKind.i64.wrap ((k:Int)+1)))->(e 9=.int .i64 (dV s F p t (k+1)))->(gg ⟨249000000,σ.next⟩=some ⟨true,2,[ab s]⟩)->(gg ⟨249000001,σ.next⟩=some ⟨true,2,[ae p]⟩)->(σ.next<nx/\∀x:Id,x.ck<σ.next->gg x=σ.get x)->∃m0,m0<(4)-k/\∃k:Nat,m0=(4)-k/\k<=(4)/\e 12=.int .i64 (k:Int)/\e 9=.int .i64 (dV s F p t k)/\gg ⟨249000000,σ.next⟩=some ⟨true,2,[ab s]⟩/\gg ⟨249000001,σ.next⟩=some ⟨true,2,[ae p]⟩/\(σ.next<nx/\∀x:Id,x.ck<σ.next->gg x=σ.get x):=fun x1 x2 x3 x4 x5=>⟨_,by omega,k+1,rfl,by omega,(by rw[x1,aA (by omega)]),x2,x3,x4,x5⟩
  have dH:=EH p k (kV (by omega)) hx hy
  have fw:=lH hS F p t k
  (repeat(first|((repeat(revert hN;revert N;apply Pn.out));refine wk (tw @a12 (tw @a9 (tw @ag0 (tw @ag1 (tw @a2 (tw @a3 (tw @a4 (tw @a5 (tw @hk @ae.eq_1))))))))) ?_;(repeat(refine Pn.mk ?_;intro N hN)))|((try apply Or.inl);refine⟨_,aq.x (dH) (sd (tw @a12 (tw @a9 (tw @ag0 (tw @ag1 (tw @a2 (tw @a3 (tw @a4 (tw @a5 (tw @hk @ae.eq_1)))))))))),?_⟩;refine hN _ _ ?_;clear hN N)))
  refine .inl ⟨_,Fs _ (by(try dsimp only);omega) (fun x hx=>sd (dC x hx)) (dx p k),?_⟩
  refine hN _ _ ?_
  clear hN N
  by_cases h0:0<=F (dx p k)
  ·have xK:=Ir s hS.form t k (F (dx p k)) ht (hF _ h0) (kV (by omega))
   have fR:=vU hS t k (F (dx p k))
   have hw:IntKind.i64.wrap (dV s F p t k+gV s t k (F (dx p k)))=dV s F p t (k+1):=by
    rw[bz (by omega),dV,if_pos h0]
   rw[ab]at xK
   (repeat(first|((repeat(revert hN;revert N;apply Pn.out));refine wk (tw @a12 (tw @a9 (tw @ag0 (tw @ag1 (tw @a2 (tw @a3 (tw @a4 (tw @a5 (tw @h0 @ab.eq_1))))))))) ?_;(repeat(refine Pn.mk ?_;intro N hN)))|((try apply Or.inl);refine⟨_,aq.x (xK) (sd (tw @a12 (tw @a9 (tw @ag0 (tw @ag1 (tw @a2 (tw @a3 (tw @a4 (tw @a5 (tw @h0 @ab.eq_1)))))))))),?_⟩;refine hN _ _ ?_;clear hN N)))
   refine cD ?_ ?_ ?_ ?_ (⟨by(try dsimp only);omega,fun x hx=>by
    have h1:=dC x hx
    simp only[go_sem, ↓reduceIte,Nat.reduceEqDiff,Nat.reduceAdd,Nat.reduceSub,Nat.reduceLeDiff,reduceCtorEq,h1]⟩)
   all_goals simp only[go_sem, ↓reduceIte,Nat.reduceEqDiff,Nat.reduceAdd,Nat.reduceSub,Nat.reduceLeDiff,reduceCtorEq,a12,a9,ag0,ag1,a2,a3,a4,a5,hw,ae,ab]
  ·have hw:dV s F p t (k+1)=dV s F p t k:=by rw[dV,if_neg h0,Int.add_zero]
   (try((repeat(revert hN;revert N;apply Pn.out));refine wk (tw @a12 (tw @a9 (tw @ag0 (tw @ag1 (tw @a2 (tw @a3 (tw @a4 (tw @a5 @h0)))))))) ?_;(repeat(refine Pn.mk ?_;intro N hN))))
   refine cD ?_ ?_ ?_ ?_ (⟨by(try dsimp only);omega,fun x hx=>by
    have h1:=dC x hx
    simp only[go_sem, ↓reduceIte,Nat.reduceEqDiff,Nat.reduceAdd,Nat.reduceSub,Nat.reduceLeDiff,reduceCtorEq,h1]⟩)
   all_goals simp only[go_sem, ↓reduceIte,Nat.reduceEqDiff,Nat.reduceAdd,Nat.reduceSub,Nat.reduceLeDiff,reduceCtorEq,a12,a9,ag0,ag1,a2,a3,a4,a5,hw,ae,ab]
 ·(try((repeat(revert hN;revert N;apply Pn.out));refine wk (tw @a12 (tw @a9 (tw @ag0 (tw @ag1 (tw @a2 (tw @a3 (tw @a4 (tw @a5 @hk)))))))) ?_;(repeat(refine Pn.mk ?_;intro N hN))))
  exact e9 (.inl rfl) (vs:=[.int .i64 (dV s F p t k)]) (sd (tw @a12 (tw @a9 (tw @ag0 (tw @ag1 (tw @a2 (tw @a3 (tw @a4 @a5)))))))) (by rw[show k=4 by omega];rfl)
noncomputable def kc (s:az) (ts:List ad) (p:aI) (t:Int):Bool:=CC p&&decide (gF ts p<0)&&decide (s.aB<=tR s.aH (gF ts) p t)
theorem Gd {σ:ar} {c T O:Id} {s:az} {ts:List ad} (h:C1 σ.get σ.next c T O s ts) (hS:iw s.aH) (hF:∀q,0<=gF ts q->eM s.aH (gF ts q)=true) (p:aI) (hx:iB p.eZ) (hy:iB p.eU) (t:Int) (ht:eM s.aH t=true):
  gy (Call Tryz.prog) 249 [.agg (ab s.aH),.agg (ae p),.int .i64 t,.uj 281 [.ptr c 0 0]] σ (fun r=>r=.int .i64 (tR s.aH (gF ts) p t)):=by
 unfold gy PC
 exact Or.inl (aC _ _ _ _ _ (fun r σ' hr=>⟨_,by rw[hr];exact aD _ _ _ _,rfl⟩) (Gc (σ:=⟨V.ro σ.get,σ.next⟩) s.aH hS (gF ts) hF p hx hy t ht _ _
  (fun σ' hn hk q=>NT (h.ro.frame hn (hk _ h.cv) (hk _ h.tv)) q)))
theorem Ob {σ:ar} {c T O:Id} {s:az} {ts:List ad} (h:C1 σ.get σ.next c T O s ts) (hS:iw s.aH) (hF:∀q,0<=gF ts q->eM s.aH (gF ts q)=true) (p:aI) (t:Int) (ht:eM s.aH t=true):
  Call Tryz.prog 229 [.ptr c 0 0,.agg (ae p),.int .i64 t] σ (fun r _=>r=.bool (kc s ts p t)):=by
 refine eL dX rfl fun kp=>?_
 clear kp
 obtain⟨b,h1⟩:=h.row
 have v1:=dr h.cv
 have hw:=rC p
 have v2:=dr h.tv
 by_cases h0:CC p=true
 ·rw[h0]at hw
  obtain⟨hx,hy⟩:=tz h0
  by_cases h2:gF ts p<0
  ·(repeat(first|((repeat(revert hN;revert N;apply Pn.out));refine wk (tw @h1 (tw @v1 (tw @h2 @ae.eq_1))) ?_;(repeat(refine Pn.mk ?_;intro N hN)))|((try apply Or.inl);refine⟨_,aq.x (hw) (sd (tw @h1 (tw @v1 (tw @h2 @ae.eq_1)))),?_⟩;refine hN _ _ ?_;clear hN N)))
   refine⟨_,NT (h.frame (by(try dsimp only);omega) (sd @v1) (sd @v2)) p,?_⟩
   refine hN _ _ ?_
   clear hN N
   (repeat(first|((repeat(revert hN;revert N;apply Pn.out));refine wk (tw @h1 (tw @v1 (tw @h2 (tw @ae.eq_1 @ab.eq_1)))) ?_;(repeat(refine Pn.mk ?_;intro N hN)))|((try apply Or.inl);refine⟨_,aq.x (hw) (sd (tw @h1 (tw @v1 (tw @h2 (tw @ae.eq_1 @ab.eq_1))))),?_⟩;refine hN _ _ ?_;clear hN N)))
   refine⟨_,Gd (h.frame (by(try dsimp only);omega) (sd @v1) (sd @v2)) hS hF p hx hy t ht,?_⟩
   refine hN _ _ ?_
   clear hN N
   have hb:=lH hS (gF ts) p t 4
   (repeat(first|((repeat(revert hN;revert N;apply Pn.out));refine wk (tw @h1 (tw @v1 (tw @h2 (tw @ae.eq_1 @ab.eq_1)))) ?_;(repeat(refine Pn.mk ?_;intro N hN)))|((try apply Or.inl);refine⟨_,aq.x (hw) (sd (tw @h1 (tw @v1 (tw @h2 (tw @ae.eq_1 @ab.eq_1))))),?_⟩;refine hN _ _ ?_;clear hN N)))
   exact e9 (.inl rfl) (vs:=[.bool (decide (s.aB<=tR s.aH (gF ts) p t))]) (sd @Nat.zero_add) (by rw[show kc s ts p t=decide (s.aB<=tR s.aH (gF ts) p t) by simp[kc,h0,h2]];rfl)
  ·(repeat(first|((repeat(revert hN;revert N;apply Pn.out));refine wk (tw @h1 (tw @v1 (tw @h2 @ae.eq_1))) ?_;(repeat(refine Pn.mk ?_;intro N hN)))|((try apply Or.inl);refine⟨_,aq.x (hw) (sd (tw @h1 (tw @v1 (tw @h2 @ae.eq_1)))),?_⟩;refine hN _ _ ?_;clear hN N)))
   refine⟨_,NT (h.frame (by(try dsimp only);omega) (sd @v1) (sd @v2)) p,?_⟩
   refine hN _ _ ?_
   clear hN N
   (repeat(first|((repeat(revert hN;revert N;apply Pn.out));refine wk (tw @h1 (tw @v1 (tw @h2 @ae.eq_1))) ?_;(repeat(refine Pn.mk ?_;intro N hN)))|((try apply Or.inl);refine⟨_,aq.x (hw) (sd (tw @h1 (tw @v1 (tw @h2 @ae.eq_1)))),?_⟩;refine hN _ _ ?_;clear hN N)))
   exact e9 (.inl rfl) (vs:=[.bool false]) (sd @Nat.zero_add) (by rw[show kc s ts p t=false by simp[kc,h2]];rfl)
 ·rw[Bool.not_eq_true]at h0
  rw[h0]at hw
  (repeat(first|((repeat(revert hN;revert N;apply Pn.out));refine wk (tw @h1 (tw @v1 @ae.eq_1)) ?_;(repeat(refine Pn.mk ?_;intro N hN)))|((try apply Or.inl);refine⟨_,aq.x (hw) (sd (tw @h1 (tw @v1 @ae.eq_1))),?_⟩;refine hN _ _ ?_;clear hN N)))
  exact e9 (.inl rfl) (vs:=[.bool false]) (sd @Nat.zero_add) (by rw[show kc s ts p t=false by simp[kc,h0]];rfl)
def OW (rows:List (List AV)):Prop:=∀r∈rows,∃(x y:Int) (v:AV),r=[.int .i64 x,.int .i64 y,v]
theorem FQ (x y:Int):∀(rows:List (List AV)) (i:Nat),OW rows->∃fi,gm mP [.int .i64 x,.int .i64 y] rows i=some fi
 |[],i,_=>⟨none,by simp[gm]⟩
 |r::rs,i,h=>by
  obtain⟨fi,hf⟩:=FQ x y rs (i+1) fun r hr=>h r (by simp[hr])
  obtain⟨x',y',v,rfl⟩:=h r (by simp)
  unfold gm
  have e:eX mP.ts [.int .i64 x,.int .i64 y] (([.int .i64 x',.int .i64 y',v]:List AV).take mP.ks)=some (decide (x=x')&&decide (y=y')):=by
   simp[MK.ks,eX,fX]
  rw[e]
  cases decide (x=x')&&decide (y=y')
  ·exact⟨fi,hf⟩
  ·exact⟨some i,rfl⟩
theorem CB {rows:List (List AV)} (h:OW rows) (x y:Int):∃fi,fP mP (.agg [.int .i64 x,.int .i64 y]) rows=some fi:=by
 unfold fP
 rw[if_pos ⟨rfl,rfl,rfl⟩]
 exact FQ x y rows 0 h
theorem Pr {rows:List (List AV)} (h:OW rows) (x y:Int) (v:AV) (fi:Option Nat):OW (dM rows [.int .i64 x,.int .i64 y,v] fi):=by
 intro r hr
 cases fi with
 |none=>
  rcases List.mem_append.1 (show r∈rows++[_]from hr)with h1|h1
  ·exact h r h1
  ·simp at h1;exact⟨x,y,v,h1⟩
 |some i=>
  rcases List.mem_or_eq_of_mem_set (show r∈rows.set i _ from hr)with h1|h1
  ·exact h r h1
  ·exact⟨x,y,v,h1⟩
theorem JV {rows:List (List AV)} (h:OW rows) (fi:Option Nat):OW (dK rows fi):=by
 intro r hr
 cases fi with
 |none=>exact h r (by simpa[dK]using hr)
 |some i=>exact h r (List.mem_of_mem_eraseIdx (by simpa[dK]using hr))
def iM (σ:ar) (O:Id) (g:Rows) (n:Nat):Prop:=σ.next<=n/\(∀x:Id,x.ck<σ.next->x≠O->g x=σ.get x)/\∃rows,g O=some ⟨true,mP.pQ,rows⟩/\OW rows
theorem iM.xJ {σ:ar} {g:Rows} {n:Nat} {c T O:Id} {s:az} {ts:List ad} (h:C1 σ.get σ.next c T O s ts) (hc:c≠O) (hT:T≠O) (k:iM σ O g n):C1 g n c T O s ts:=
 h.frame k.1 (k.2.1 _ h.cv hc) (k.2.1 _ h.tv hT)
theorem iM.trans {a b:ar} {O:Id} {g:Rows} {n:Nat} (h:iM a O b.get b.next) (k:iM b O g n):iM a O g n:=
 ⟨Nat.le_trans h.1 k.1,fun x hx hO=>(k.2.1 x (Nat.lt_of_lt_of_le hx h.1) hO).trans (h.2.1 x hx hO),k.2.2⟩
theorem iM.frame {a:ar} {O:Id} {g g':Rows} {n n' m:Nat} (h:iM a O g n) (ha:a.next<=m) (ho:O.ck<m) (hn:n<=n') (hf:∀x:Id,x.ck<m->g' x=g x):iM a O g' n':=by
 refine⟨Nat.le_trans h.1 hn,fun x hx hO=>(hf x (Nat.lt_of_lt_of_le hx ha)).trans (h.2.1 x hx hO),?_⟩
 obtain⟨rows,h1,h2⟩:=h.2.2
 exact⟨rows,(hf O ho).trans h1,h2⟩
theorem iM.write {a:ar} {O:Id} {g g':Rows} {n n':Nat} (h:iM a O g n) (hn:n<=n') (hf:∀x:Id,x.ck<a.next->x≠O->g' x=g x) {rows:List (List AV)} (ho:g' O=some ⟨true,mP.pQ,rows⟩) (hw:OW rows):iM a O g' n':=
 ⟨Nat.le_trans h.1 hn,fun x hx hO=>(hf x hx hO).trans (h.2.1 x hx hO),rows,ho,hw⟩
theorem IJ {σ:ar} {c T O:Id} {s:az} {ts:List ad} (h:C1 σ.get σ.next c T O s ts) (hS:iw s.aH) (hF:∀q,0<=gF ts q->eM s.aH (gF ts q)=true) (p:aI) (t:Int) (ht:eM s.aH t=true):
  gy (Call Tryz.prog) 229 [.ptr c 0 0,.agg (ae p),.int .i64 t] σ (fun r=>r=.bool (kc s ts p t)):=by
 unfold gy PC
 exact Or.inl (aC _ _ _ _ _ (fun r σ' hr=>⟨_,by rw[hr];exact bp _ _ _,rfl⟩) (Ob (σ:=⟨V.ro σ.get,σ.next⟩) h.ro hS hF p t ht))
theorem r4 {σ:ar} {c T O:Id} {s:az} {ts:List ad} (h:C1 σ.get σ.next c T O s ts) (hc:c≠O) (hT:T≠O) (hO:∃rows,σ.get O=some ⟨true,mP.pQ,rows⟩/\OW rows) (hS:iw s.aH) (hF:∀q,0<=gF ts q->eM s.aH (gF ts q)=true) (p:aI) (hx:iB p.eZ) (hy:iB p.eU):
  Call Tryz.prog 151 [.ptr c 0 0,.agg (ae p)] σ (fun r σ'=>r=.gD []/\iM σ O σ'.get σ'.next):=by
 refine eL dX rfl fun kp=>?_
 clear kp
 have O8:=hS.Kw
 have h0:iM σ O σ.get σ.next:=⟨Nat.le_refl _,fun _ _ _=>rfl,hO⟩
 (try((repeat(revert hN;revert N;apply Pn.out));refine wk @ae.eq_1 ?_;(repeat(refine Pn.mk ?_;intro N hN))))
 refine aU (fun n env st=>∃k:Nat,n=(4)-k/\k<=(4)/\env 8=.int .i64 (k:Int)/\st.get ⟨151000000,σ.next⟩=some ⟨true,2,[ae p]⟩/\(σ.next<st.next/\iM σ O st.get st.next)) (4) ⟨0,by omega,by omega,sl @ae.eq_1,sl @ae.eq_1,⟨by(try dsimp only);omega,h0.frame (Nat.le_refl _) h.ov (by(try dsimp only);omega) fun x hx=>by
  have:=dr hx
  simp only[go_sem, ↓reduceIte,Nat.reduceEqDiff,Nat.reduceAdd,Nat.reduceSub,Nat.reduceLeDiff,reduceCtorEq,this]⟩⟩ ?_
 rintro n_a env_a st_a ⟨k,rfl,ale,a8,ag0,lZ⟩ dC
 have a0:=dC 0 (by kernel_rfl);have a3:=dC 3 (by kernel_rfl)
 simp only[go_sem, ↓reduceIte,Nat.reduceEqDiff,Nat.reduceAdd,Nat.reduceSub,Nat.reduceLeDiff,reduceCtorEq,ae]at a0 a3
 clear dC
 obtain⟨an,ak⟩:=lZ
 have ha:=ak.xJ h hc hT
 by_cases hk:(k:Int)<4
 ·have cD:∀{e:Env} {gg:Rows} {nx:Nat},(e 8=.int .i64 (IntKind.i64.wrap ((k:Int)+1)))->(gg ⟨151000000,σ.next⟩=some ⟨true,2,[ae p]⟩)->(σ.next<nx/\iM σ O gg nx)->∃m0,m0<(4)-k/\∃k:Nat,m0=(4)-k/\k<=(4)/\e 8=.int .i64 (k:Int)/\gg ⟨151000000,σ.next⟩=some ⟨true,2,[ae p]⟩/\(σ.next<nx/\iM σ O gg nx):=fun x1 x2 x3=>⟨_,by omega,k+1,rfl,by omega,(by rw[x1,aA (by omega)]),x2,x3⟩
  have dH:=EH p k (kV (by omega)) hx hy
  obtain⟨b,h1⟩:=ha.row
  have v1:=dr ha.cv
  (repeat(first|((repeat(revert hN;revert N;apply Pn.out));refine wk (tw @a8 (tw @ag0 (tw @a0 (tw @a3 (tw @hk (tw @h1 (tw @v1 @ae.eq_1))))))) ?_;(repeat(refine Pn.mk ?_;intro N hN)))|((try apply Or.inl);refine⟨_,aq.x (dH) (sd (tw @a8 (tw @ag0 (tw @a0 (tw @a3 (tw @hk (tw @h1 (tw @v1 @ae.eq_1)))))))),?_⟩;refine hN _ _ ?_;clear hN N)))
  refine aU (fun n env st=>∃t:Nat,n=(s.aH.ah.length)-t/\t<=(s.aH.ah.length)/\env 21=.int .i64 (t:Int)/\st.get ⟨151000000,σ.next⟩=some ⟨true,2,[ae p]⟩/\st.get ⟨151004003,st_a.next+1+1⟩=some ⟨true,2,[ae (dx p k)]⟩/\(st_a.next+3<=st.next/\iM σ O st.get st.next/\(env 6=.bl∨∃(o:Id) (n:Nat) (rows:List (List AV)),env 6=.own o 0 n/\st.get o=some ⟨true,1,rows⟩/\rows.length=n/\0<n/\n<=t/\st_a.next+3<=o.ck/\o.ck<st.next))) (s.aH.ah.length) ⟨0,by omega,by omega,sl (tw @a8 (tw @ag0 (tw @a0 (tw @a3 @ae.eq_1)))),sl (tw @a8 (tw @ag0 (tw @a0 (tw @a3 @ae.eq_1)))),sl (tw @a8 (tw @ag0 (tw @a0 (tw @a3 @ae.eq_1)))),⟨by(try dsimp only);omega,ak.frame ak.1 ha.ov (by(try dsimp only);omega) fun x hx=>(by
   have:=dr hx
   simp only[go_sem, ↓reduceIte,Nat.reduceEqDiff,Nat.reduceAdd,Nat.reduceSub,Nat.reduceLeDiff,reduceCtorEq,this]),.inl (sd @Nat.zero_add)⟩⟩ ?_
  rintro n_b env_b st_b ⟨t,rfl,ble,b21,bg0,bg1,bI0⟩ gh
  have b0:=gh 0 (by kernel_rfl);have b3:=gh 3 (by kernel_rfl);have b5:=gh 5 (by kernel_rfl);have b8:=gh 8 (by kernel_rfl);have HL:=gh 20 (by kernel_rfl)
  simp only[go_sem, ↓reduceIte,Nat.reduceEqDiff,Nat.reduceAdd,Nat.reduceSub,Nat.reduceLeDiff,reduceCtorEq,a8,ag0,a0,a3,ae]at b0 b3 b5 b8 HL
  clear gh
  obtain⟨bn,bk,b6⟩:=bI0
  have OG:=bk.xJ h hc hT
  obtain⟨b2,h2⟩:=OG.row
  have v2:=dr OG.cv
  have vt:=dr (i:=⟨151000000,σ.next⟩) (n:=st_b.next) (by(try dsimp only);omega)
  have vq:=dr (i:=⟨151004003,st_a.next+1+1⟩) (n:=st_b.next) (by(try dsimp only);omega)
  by_cases ht:(t:Int)<(s.aH.ah.length:Int)
  ·have gn:∀{e:Env} {gg:Rows} {nx:Nat},(e 21=.int .i64 (IntKind.i64.wrap ((t:Int)+1)))->(gg ⟨151000000,σ.next⟩=some ⟨true,2,[ae p]⟩)->(gg ⟨151004003,st_a.next+1+1⟩=some ⟨true,2,[ae (dx p k)]⟩)->(st_a.next+3<=nx/\iM σ O gg nx/\(e 6=.bl∨∃(o:Id) (n:Nat) (rows:List (List AV)),e 6=.own o 0 n/\gg o=some ⟨true,1,rows⟩/\rows.length=n/\0<n/\n<=(t+1)/\st_a.next+3<=o.ck/\o.ck<nx))->∃m0,m0<(s.aH.ah.length)-t/\∃t:Nat,m0=(s.aH.ah.length)-t/\t<=(s.aH.ah.length)/\e 21=.int .i64 (t:Int)/\gg ⟨151000000,σ.next⟩=some ⟨true,2,[ae p]⟩/\gg ⟨151004003,st_a.next+1+1⟩=some ⟨true,2,[ae (dx p k)]⟩/\(st_a.next+3<=nx/\iM σ O gg nx/\(e 6=.bl∨∃(o:Id) (n:Nat) (rows:List (List AV)),e 6=.own o 0 n/\gg o=some ⟨true,1,rows⟩/\rows.length=n/\0<n/\n<=t/\st_a.next+3<=o.ck/\o.ck<nx)):=fun x1 x2 x3 x4=>⟨_,by omega,t+1,rfl,by omega,(by rw[x1,aA (by omega)]),x2,x3,x4⟩
   have RL:t<s.aH.ah.length:=by omega
   (try((repeat(revert hN;revert N;apply Pn.out));refine wk (tw @b21 (tw @bg0 (tw @bg1 (tw @b0 (tw @b3 (tw @b5 (tw @b8 (tw @HL (tw @ht (tw @h2 (tw @v2 (tw @vt (tw @vq @ae.eq_1))))))))))))) ?_;(repeat(refine Pn.mk ?_;intro N hN))))
   refine .inl ⟨_,IJ (OG.frame (by(try dsimp only);omega) (sd @v2) (by(have:=dr OG.tv);simp only[go_sem, ↓reduceIte,Nat.reduceEqDiff,Nat.reduceAdd,Nat.reduceSub,Nat.reduceLeDiff,reduceCtorEq,this])) hS hF (dx p k) t (Kv RL),?_⟩
   refine hN _ _ ?_
   clear hN N
   have jG:∀x:Id,x.ck<st_b.next->x≠⟨151010002,st_b.next+1+1+1⟩:=fun x hx h=>by rw[h]at hx;(try dsimp only at hx);omega
   cases hb:kc s ts (dx p k) t
   ·(try((repeat(revert hN;revert N;apply Pn.out));refine wk (tw @b21 (tw @bg0 (tw @bg1 (tw @b0 (tw @b3 (tw @b5 (tw @b8 (tw @HL @hb)))))))) ?_;(repeat(refine Pn.mk ?_;intro N hN))))
    refine gn ?_ ?_ ?_ (by(try dsimp only);exact⟨by omega,bk.frame bk.1 OG.ov (by omega) (fun x hx=>by
      have h1:=dr (i:=x) (n:=st_b.next) (by omega)
      simp only[go_sem, ↓reduceIte,Nat.reduceEqDiff,Nat.reduceAdd,Nat.reduceSub,Nat.reduceLeDiff,reduceCtorEq,h1]),by
     rcases b6 with h|⟨o,n,rows,h1,h2,h3,h4,h5,h6,h7⟩
     ·exact .inl (sd @h)
     ·have h8:=dr h7
      exact .inr ⟨o,n,rows,sd @h1,sd (tw @h2 @h8),h3,h4,by omega,h6,by omega⟩⟩)
    all_goals simp only[go_sem, ↓reduceIte,Nat.reduceEqDiff,Nat.reduceAdd,Nat.reduceSub,Nat.reduceLeDiff,reduceCtorEq,b21,bg0,bg1,b0,b3,b5,b8,HL,ae,vt,vq]
   ·rcases b6 with b6|⟨o,n,rows,b6,bo,o3,o4,o5,o6,o7⟩
    ·(try((repeat(revert hN;revert N;apply Pn.out));refine wk (tw @b21 (tw @bg0 (tw @bg1 (tw @b0 (tw @b3 (tw @b5 (tw @b8 (tw @HL (tw @b6 @hb))))))))) ?_;(repeat(refine Pn.mk ?_;intro N hN))))
     refine gn ?_ ?_ ?_ (by(try dsimp only);exact⟨by omega,bk.frame (m:=st_a.next) ak.1 ha.ov (by omega) (fun x hx=>by
      have h1:=dr (i:=x) (n:=st_b.next) (by omega)
      simp only[go_sem, ↓reduceIte,Nat.reduceEqDiff,Nat.reduceAdd,Nat.reduceSub,Nat.reduceLeDiff,reduceCtorEq,h1]),.inr ⟨⟨151010003,st_b.next+1+1+1⟩,1,[[.int .i64 t]],sl @Nat.zero_add,sd @Nat.zero_add,rfl,by omega,by omega,by(try dsimp only);omega,by(try dsimp only);omega⟩⟩)
     all_goals simp only[go_sem, ↓reduceIte,Nat.reduceEqDiff,Nat.reduceAdd,Nat.reduceSub,Nat.reduceLeDiff,reduceCtorEq,b21,bg0,bg1,b0,b3,b5,b8,HL,ae,vt,vq]
    ·subst o3
     have e1:rows.length<=16777215:=by omega
     have vo:=dr o7
     have vto:=cz (a:=⟨151000000,σ.next⟩) (b:=o) (by(try dsimp only);omega)
     have vqo:=cz (a:=⟨151004003,st_a.next+1+1⟩) (b:=o) (by(try dsimp only);omega)
     (try((repeat(revert hN;revert N;apply Pn.out));refine wk (tw @b21 (tw @bg0 (tw @bg1 (tw @b0 (tw @b3 (tw @b5 (tw @b8 (tw @HL (tw @b6 (tw @bo (tw @hb (tw @e1 @vo)))))))))))) ?_;(repeat(refine Pn.mk ?_;intro N hN))))
     refine gn ?_ ?_ ?_ (by(try dsimp only);exact⟨by omega,bk.frame (m:=st_a.next) ak.1 ha.ov (by omega) (fun x hx=>by
      have h1:=dr (i:=x) (n:=st_b.next) (by omega)
      have h2:=cz (a:=x) (b:=o) (by omega)
      simp only[go_sem, ↓reduceIte,Nat.reduceEqDiff,Nat.reduceAdd,Nat.reduceSub,Nat.reduceLeDiff,reduceCtorEq,h1,h2]),.inr ⟨⟨151010003,st_b.next+1+1+1⟩,rows.length+1,rows++[[.int .i64 t]],sl @Nat.zero_add,sd @Nat.zero_add,by simp,by omega,by omega,by(try dsimp only);omega,by(try dsimp only);omega⟩⟩)
     all_goals simp only[go_sem, ↓reduceIte,Nat.reduceEqDiff,Nat.reduceAdd,Nat.reduceSub,Nat.reduceLeDiff,reduceCtorEq,b21,bg0,bg1,b0,b3,b5,b8,HL,ae,vt,vq,vto,vqo]
  ·obtain⟨rows,hg,Vh⟩:=bk.2.2
   have vo:=dr OG.ov
   obtain⟨fi,GD⟩:=CB Vh (dx p k).eZ (dx p k).eU
   have hq:((⟨151000000,σ.next⟩:Id)=O)=False:=(cz (a:=O) (b:=⟨151000000,σ.next⟩) (by have:=h.ov;(try dsimp only);omega)).2
   rcases b6 with b6|⟨o,n,Nx,b6,bo,o3,o4,o5,o6,o7⟩
   ·have d0:decide ((0:Int)<((0:Nat):Int))=false:=rfl
    (try((repeat(revert hN;revert N;apply Pn.out));refine wk (tw @b21 (tw @bg0 (tw @bg1 (tw @b0 (tw @b3 (tw @b5 (tw @b8 (tw @HL (tw @b6 (tw @ht (tw @h2 (tw @v2 (tw @vt (tw @vq (tw @vo (tw @hg (tw @GD (tw @ae.eq_1 @d0)))))))))))))))))) ?_;(repeat(refine Pn.mk ?_;intro N hN))))
    refine cD ?_ ?_ (by(try dsimp only);exact⟨by omega,bk.write (by omega) (fun x hx Ns=>by
     have h1:=dr (i:=x) (n:=st_b.next) (by omega)
     have h2:(x=O)=False:=eq_false Ns
     simp only[go_sem, ↓reduceIte,Nat.reduceEqDiff,Nat.reduceAdd,Nat.reduceSub,Nat.reduceLeDiff,reduceCtorEq,h1,h2]) (sl @Nat.zero_add) (JV Vh _)⟩)
    all_goals simp only[go_sem, ↓reduceIte,Nat.reduceEqDiff,Nat.reduceAdd,Nat.reduceSub,Nat.reduceLeDiff,reduceCtorEq,a8,ag0,a0,a3,b21,bg0,bg1,b0,b3,b5,b8,HL,ae,vt,vo,hq]
   ·have d1:decide ((0:Int)<(n:Int))=true:=decide_eq_true (by omega)
    (try((repeat(revert hN;revert N;apply Pn.out));refine wk (tw @b21 (tw @bg0 (tw @bg1 (tw @b0 (tw @b3 (tw @b5 (tw @b8 (tw @HL (tw @b6 (tw @ht (tw @h2 (tw @v2 (tw @vt (tw @vq (tw @vo (tw @hg (tw @GD (tw @ae.eq_1 @d1)))))))))))))))))) ?_;(repeat(refine Pn.mk ?_;intro N hN))))
    refine cD ?_ ?_ (by(try dsimp only);exact⟨by omega,bk.write (by omega) (fun x hx Ns=>by
     have h1:=dr (i:=x) (n:=st_b.next) (by omega)
     have h2:(x=O)=False:=eq_false Ns
     simp only[go_sem, ↓reduceIte,Nat.reduceEqDiff,Nat.reduceAdd,Nat.reduceSub,Nat.reduceLeDiff,reduceCtorEq,h1,h2]) (sl @Nat.zero_add) (Pr Vh _ _ _ _)⟩)
    all_goals simp only[go_sem, ↓reduceIte,Nat.reduceEqDiff,Nat.reduceAdd,Nat.reduceSub,Nat.reduceLeDiff,reduceCtorEq,a8,ag0,a0,a3,b21,bg0,bg1,b0,b3,b5,b8,HL,ae,vt,vo,hq]
 ·(try((repeat(revert hN;revert N;apply Pn.out));refine wk (tw @a8 (tw @ag0 (tw @a0 (tw @a3 @hk)))) ?_;(repeat(refine Pn.mk ?_;intro N hN))))
  exact e9 (.inr rfl) (vs:=[]) rfl ⟨rfl,ak.frame ak.1 ha.ov (by(try dsimp only);omega) (fun x hx=>rfl)⟩
structure lY (g:Rows) (n:Nat) (c T O:Id) (s:az) (ts:List ad):Prop where
 row:g c=some ⟨true,6,[[.sl (s.aH.ax.map bV),.sl (s.aH.ah.map bH),.sl (s.aZ.ah.map aa),.int .i64 s.aB,.map T mP,.map O mP]]⟩
 tl:g T=some ⟨true,mP.pQ,ts.map aa⟩
 op:∃rows,g O=some ⟨true,mP.pQ,rows⟩/\OW rows
 cv:c.ck<n
 tv:T.ck<n
 ov:O.ck<n
 cT:c≠T
 cO:c≠O
 TO:T≠O
theorem lY.xJ {g:Rows} {n:Nat} {c T O:Id} {s:az} {ts:List ad} (h:lY g n c T O s ts):C1 g n c T O s ts:=⟨⟨_,h.row⟩,⟨_,h.tl⟩,h.cv,h.tv,h.ov⟩
theorem lY.look {σ:ar} {g:Rows} {n:Nat} {c T O:Id} {s:az} {ts:List ad} (h:lY σ.get σ.next c T O s ts) (k:iM σ O g n):lY g n c T O s ts:=
 ⟨(k.2.1 _ h.cv h.cO).trans h.row,(k.2.1 _ h.tv h.TO).trans h.tl,k.2.2,Nat.lt_of_lt_of_le h.cv k.1,Nat.lt_of_lt_of_le h.tv k.1,Nat.lt_of_lt_of_le h.ov k.1,h.cT,h.cO,h.TO⟩
theorem lY.frame {g g':Rows} {n n':Nat} {c T O:Id} {s:az} {ts:List ad} (h:lY g n c T O s ts) (hn:n<=n') (hf:∀x:Id,x.ck<n->g' x=g x):lY g' n' c T O s ts:=
 ⟨(hf _ h.cv).trans h.row,(hf _ h.tv).trans h.tl,by rw[hf _ h.ov];exact h.op,Nat.lt_of_lt_of_le h.cv hn,Nat.lt_of_lt_of_le h.tv hn,Nat.lt_of_lt_of_le h.ov hn,h.cT,h.cO,h.TO⟩
def TM (σ:ar) (s:az) (ts:List ad) (r:AV) (σ':ar):Prop:=
 ∃c T O:Id,r=.ptr c 0 0/\lY σ'.get σ'.next c T O s ts/\σ.next<=c.ck/\σ.next<=T.ck/\σ.next<=O.ck/\σ.next<=σ'.next/\∀x:Id,x.ck<σ.next->σ'.get x=σ.get x
theorem B8 {l:List ad} {p:aI}:eF l p<0↔∀t∈l,t.aO≠p:=by
 unfold eF qg
 by_cases h:(l.findIdx fun c=>decide (c.aO=p))<l.length
 ·rw[if_pos h]
  obtain⟨t,ht,h2⟩:=List.findIdx_lt_length.1 h
  exact⟨fun h=>by omega,fun h=>absurd (by simpa using h2) (h t ht)⟩
 ·rw[if_neg h]
  exact⟨fun _ t ht e=>h (List.findIdx_lt_length.2 ⟨t,ht,by simp[e]⟩),fun _=>by omega⟩
theorem Ks {l:List ad} (h:nS l) {k:Nat} (hk:k<l.length):eF (l.take k) (aJ l k).aO<0:=by
 rw[B8]
 intro t ht e
 obtain⟨j,hj,rfl⟩:=List.getElem_of_mem ht
 have K2:j<k:=by rw[List.length_take]at hj;omega
 have:=h j k K2 hk
 rw[List.getElem_take]at e
 have e2:aJ l j=l[j]'(by omega):=by unfold aJ;rw[List.getD_eq_getElem?_getD,List.getElem?_eq_getElem (by omega)];rfl
 rw[e2,e]at this
 simp[jR]at this
theorem ML {l:List ad} {k:Nat} (hk:k<l.length):(l.take k).map aa++[[.int .i64 (aJ l k).aO.eZ,.int .i64 (aJ l k).aO.eU,.int .i64 (aJ l k).aV]]=(l.take (k+1)).map aa:=by
 have e2:aJ l k=l[k]:=by unfold aJ;rw[List.getD_eq_getElem?_getD,List.getElem?_eq_getElem hk];rfl
 rw[List.take_succ_eq_append_getElem hk,List.map_append,e2]
 rfl
theorem iw.M1 {s:aw} {l:List ad} (hA:jj s l):∀q,0<=gF l q->eM s (gF l q)=true:=fun _ h=>Bn hA h
theorem Aw (s:az) (hS:iw s.aH) (l:List ad) (hA:jj s.aH l) (σ:ar):Call Tryz.prog 83 [.agg (au s),.agg [.sl (l.map aa)]] σ (TM σ s l):=by
 refine eL dX rfl fun kp=>?_
 clear kp
 have I4:=hA.1.rP
 (try((repeat(revert hN;revert N;apply Pn.out));refine wk @au.eq_1 ?_;(repeat(refine Pn.mk ?_;intro N hN))))
 refine aU (fun n env st=>∃k:Nat,n=(l.length)-k/\k<=(l.length)/\env 18=.int .i64 (k:Int)/\st.get ⟨83001004,σ.next+1⟩=some ⟨true,6,[[.sl (s.aH.ax.map bV),.sl (s.aH.ah.map bH),.sl (s.aZ.ah.map aa),.int .i64 s.aB,.map ⟨83001001,σ.next+1⟩ mP,.map ⟨83001002,σ.next+1⟩ mP]]⟩/\st.get ⟨83001001,σ.next+1⟩=some ⟨true,mP.pQ,(l.take k).map aa⟩/\st.get ⟨83001002,σ.next+1⟩=some ⟨true,mP.pQ,[]⟩/\st.get ⟨83000001,σ.next⟩=some ⟨true,1,[[.sl (l.map aa)]]⟩/\(σ.next+3<=st.next/\∀x:Id,x.ck<σ.next->st.get x=σ.get x)) (l.length) ⟨0,by omega,by omega,sl @Nat.zero_add,sl @Nat.zero_add,sl @Nat.zero_add,sl @Nat.zero_add,sl @Nat.zero_add,⟨by(try dsimp only);omega,fun x hx=>by
  have:=dr hx
  simp only[go_sem, ↓reduceIte,Nat.reduceEqDiff,Nat.reduceAdd,Nat.reduceSub,Nat.reduceLeDiff,reduceCtorEq,this]⟩⟩ ?_
 rintro n_a env_a st_a ⟨k,rfl,ale,a18,ag0,ag1,ag2,ag3,lZ⟩ dC
 have a3:=dC 3 (by kernel_rfl);have a5:=dC 5 (by kernel_rfl);have Qb:=dC 16 (by kernel_rfl);have a17:=dC 17 (by kernel_rfl)
 simp only[go_sem, ↓reduceIte,Nat.reduceEqDiff,Nat.reduceAdd,Nat.reduceSub,Nat.reduceLeDiff,reduceCtorEq]at a3 a5 Qb a17
 clear dC
 obtain⟨an,dC⟩:=lZ
 have v1:=dr (i:=⟨83001004,σ.next+1⟩) (n:=st_a.next) (by(try dsimp only);omega)
 have v2:=dr (i:=⟨83001001,σ.next+1⟩) (n:=st_a.next) (by(try dsimp only);omega)
 have v3:=dr (i:=⟨83001002,σ.next+1⟩) (n:=st_a.next) (by(try dsimp only);omega)
 have v4:=dr (i:=⟨83000001,σ.next⟩) (n:=st_a.next) (by(try dsimp only);omega)
 by_cases hk:(k:Int)<(l.length:Int)
 ·have cD:∀{e:Env} {gg:Rows} {nx:Nat},(e 18=.int .i64 (IntKind.i64.wrap ((k:Int)+1)))->(gg ⟨83001004,σ.next+1⟩=some ⟨true,6,[[.sl (s.aH.ax.map bV),.sl (s.aH.ah.map bH),.sl (s.aZ.ah.map aa),.int .i64 s.aB,.map ⟨83001001,σ.next+1⟩ mP,.map ⟨83001002,σ.next+1⟩ mP]]⟩)->(gg ⟨83001001,σ.next+1⟩=some ⟨true,mP.pQ,(l.take (k+1)).map aa⟩)->(gg ⟨83001002,σ.next+1⟩=some ⟨true,mP.pQ,[]⟩)->(gg ⟨83000001,σ.next⟩=some ⟨true,1,[[.sl (l.map aa)]]⟩)->(σ.next+3<=nx/\∀x:Id,x.ck<σ.next->gg x=σ.get x)->∃m0,m0<(l.length)-k/\∃k:Nat,m0=(l.length)-k/\k<=(l.length)/\e 18=.int .i64 (k:Int)/\gg ⟨83001004,σ.next+1⟩=some ⟨true,6,[[.sl (s.aH.ax.map bV),.sl (s.aH.ah.map bH),.sl (s.aZ.ah.map aa),.int .i64 s.aB,.map ⟨83001001,σ.next+1⟩ mP,.map ⟨83001002,σ.next+1⟩ mP]]⟩/\gg ⟨83001001,σ.next+1⟩=some ⟨true,mP.pQ,(l.take k).map aa⟩/\gg ⟨83001002,σ.next+1⟩=some ⟨true,mP.pQ,[]⟩/\gg ⟨83000001,σ.next⟩=some ⟨true,1,[[.sl (l.map aa)]]⟩/\(σ.next+3<=nx/\∀x:Id,x.ck<σ.next->gg x=σ.get x):=fun x1 x2 x3 x4 x5 x6=>⟨_,by omega,k+1,rfl,by omega,(by rw[x1,aA (by omega)]),x2,x3,x4,x5,x6⟩
  have fA:k<l.length:=by omega
  have hg:=fx fA
  have hm:=qZ (Ks hA.1.Hl fA)
  have qO:=ML fA
  (try((repeat(revert hN;revert N;apply Pn.out));refine wk (tw @a18 (tw @ag0 (tw @ag1 (tw @ag2 (tw @ag3 (tw @a3 (tw @a5 (tw @Qb (tw @a17 (tw @hk (tw @hg (tw @hm (tw @v1 (tw @v2 (tw @v3 (tw @v4 @aa.eq_1)))))))))))))))) ?_;(repeat(refine Pn.mk ?_;intro N hN))))
  refine cD ?_ ?_ ?_ ?_ ?_ (by(try dsimp only);exact⟨by omega,fun x hx=>by
   have h1:=dr (i:=x) (n:=st_a.next) (by omega)
   have h2:=cz (a:=x) (b:=⟨83001001,σ.next+1⟩) (by(try dsimp only);omega)
   have h3:=dC x hx
   simp only[go_sem, ↓reduceIte,Nat.reduceEqDiff,Nat.reduceAdd,Nat.reduceSub,Nat.reduceLeDiff,reduceCtorEq,h1,h2,h3]⟩)
  all_goals simp only[go_sem, ↓reduceIte,Nat.reduceEqDiff,Nat.reduceAdd,Nat.reduceSub,Nat.reduceLeDiff,reduceCtorEq,a18,ag0,ag1,ag2,ag3,a3,a5,Qb,a17,aa,v1,v2,v3,v4,qO]
 ·have mh:k=l.length:=by omega
  subst mh
  have oh:l.take l.length=l:=List.take_length
  (try((repeat(revert hN;revert N;apply Pn.out));refine wk (tw @a18 (tw @ag0 (tw @ag1 (tw @ag2 (tw @ag3 (tw @a3 (tw @a5 (tw @Qb (tw @a17 (tw @hk (tw @v1 (tw @v2 (tw @v3 @v4))))))))))))) ?_;(repeat(refine Pn.mk ?_;intro N hN))))
  refine aU (fun n env st=>∃j:Nat,n=(l.length)-j/\j<=(l.length)/\env 34=.int .i64 (j:Int)/\(σ.next+3<=st.next/\lY st.get st.next ⟨83001004,σ.next+1⟩ ⟨83001001,σ.next+1⟩ ⟨83001002,σ.next+1⟩ s l/\∀x:Id,x.ck<σ.next->st.get x=σ.get x)) (l.length) ⟨0,by omega,by omega,sl (tw @a18 (tw @ag0 (tw @ag1 (tw @ag2 (tw @ag3 (tw @a3 (tw @a5 (tw @Qb @a17)))))))),by(try dsimp only);exact⟨by omega,⟨sd @ag0,sd (tw @ag1 @oh),⟨[],sd @ag2,by intro r hr;cases hr⟩,by(try dsimp only);omega,by(try dsimp only);omega,by(try dsimp only);omega,(by intro e;injection e with e1 e2;revert e1;decide),(by intro e;injection e with e1 e2;revert e1;decide),(by intro e;injection e with e1 e2;revert e1;decide)⟩,fun x hx=>by
   have h3:=dC x hx
   simp only[go_sem, ↓reduceIte,Nat.reduceEqDiff,Nat.reduceAdd,Nat.reduceSub,Nat.reduceLeDiff,reduceCtorEq,h3]⟩⟩ ?_
  rintro n_b env_b st_b ⟨j,rfl,ble,b34,bI0⟩ gh
  have b5:=gh 5 (by kernel_rfl);have tQ:=gh 32 (by kernel_rfl);have uy:=gh 33 (by kernel_rfl)
  simp only[go_sem, ↓reduceIte,Nat.reduceEqDiff,Nat.reduceAdd,Nat.reduceSub,Nat.reduceLeDiff,reduceCtorEq,a18,ag0,ag1,ag2,ag3,a3,a5,Qb,a17]at b5 tQ uy
  clear gh
  obtain⟨bn,bC,gh⟩:=bI0
  by_cases hj:(j:Int)<(l.length:Int)
  ·have gn:∀{e:Env} {gg:Rows} {nx:Nat},(e 34=.int .i64 (IntKind.i64.wrap ((j:Int)+1)))->(σ.next+3<=nx/\lY gg nx ⟨83001004,σ.next+1⟩ ⟨83001001,σ.next+1⟩ ⟨83001002,σ.next+1⟩ s l/\∀x:Id,x.ck<σ.next->gg x=σ.get x)->∃m0,m0<(l.length)-j/\∃j:Nat,m0=(l.length)-j/\j<=(l.length)/\e 34=.int .i64 (j:Int)/\(σ.next+3<=nx/\lY gg nx ⟨83001004,σ.next+1⟩ ⟨83001001,σ.next+1⟩ ⟨83001002,σ.next+1⟩ s l/\∀x:Id,x.ck<σ.next->gg x=σ.get x):=fun x1 x2=>⟨_,by omega,j+1,rfl,by omega,(by rw[x1,aA (by omega)]),x2⟩
   have iL:j<l.length:=by omega
   have hg:=fx iL
   have RB:=tz (hA.1.pt iL)
   (try((repeat(revert hN;revert N;apply Pn.out));refine wk (tw @b34 (tw @b5 (tw @tQ (tw @uy (tw @hj (tw @hg @aa.eq_1)))))) ?_;(repeat(refine Pn.mk ?_;intro N hN))))
   have Q0:lY (bt (bt st_b.get ⟨83009002,st_b.next+1⟩ ⟨true,3,[[.int .i64 0,.int .i64 0,.int .i64 0]]⟩) ⟨83009002,st_b.next+1⟩ ⟨true,3,[[.int .i64 (aJ l j).aO.eZ,.int .i64 (aJ l j).aO.eU,.int .i64 (aJ l j).aV]]⟩) (st_b.next+1+1+1) ⟨83001004,σ.next+1⟩ ⟨83001001,σ.next+1⟩ ⟨83001002,σ.next+1⟩ s l:=bC.frame (by omega) fun x hx=>by
    have h1:=dr hx
    simp only[go_sem, ↓reduceIte,Nat.reduceEqDiff,Nat.reduceAdd,Nat.reduceSub,Nat.reduceLeDiff,reduceCtorEq,h1]
   refine .inr (aC _ _ _ _ _ (fun r σ1 hq=>?_) (r4 (σ:=⟨bt (bt st_b.get ⟨83009002,st_b.next+1⟩ ⟨true,3,[[.int .i64 0,.int .i64 0,.int .i64 0]]⟩) ⟨83009002,st_b.next+1⟩ ⟨true,3,[[.int .i64 (aJ l j).aO.eZ,.int .i64 (aJ l j).aO.eU,.int .i64 (aJ l j).aV]]⟩,st_b.next+1+1+1⟩) Q0.xJ Q0.cO Q0.TO Q0.op hS (iw.M1 hA) (aJ l j).aO RB.1 RB.2))
   obtain⟨g1,x1⟩:=σ1
   obtain⟨rfl,hL⟩:=hq
   (try dsimp only at hL)
   have IS:=Q0.look hL
   have SQ:=hL.1
   have hLf:=hL.2.1
   (try dsimp only at SQ hLf)
   refine hN _ _ ?_
   clear hN N
   (try((repeat(revert hN;revert N;apply Pn.out));refine wk (tw @b34 (tw @b5 (tw @tQ @uy))) ?_;(repeat(refine Pn.mk ?_;intro N hN))))
   exact gn (sd (tw @b34 (tw @b5 (tw @tQ @uy)))) (by(try dsimp only);exact⟨by omega,IS.frame (by omega) (fun x hx=>rfl),fun x hx=>by
    have h1:=dr (i:=x) (n:=st_b.next) (by omega)
    have h2:=hLf x (by omega) (fun e=>by rw[e]at hx;(try dsimp only at hx);omega)
    have h3:=gh x hx
    simp only[h2]
    simp only[go_sem, ↓reduceIte,Nat.reduceEqDiff,Nat.reduceAdd,Nat.reduceSub,Nat.reduceLeDiff,reduceCtorEq,h1,h3]⟩)
  ·(try((repeat(revert hN;revert N;apply Pn.out));refine wk (tw @b34 (tw @b5 (tw @tQ (tw @uy @hj)))) ?_;(repeat(refine Pn.mk ?_;intro N hN))))
   exact e9 (.inl rfl) (vs:=[.ptr ⟨83001004,σ.next+1⟩ 0 0]) (sd @Nat.zero_add) ⟨_,_,_,rfl,bC.frame (by(try dsimp only);omega) (fun x hx=>rfl),by(try dsimp only);omega,by(try dsimp only);omega,by(try dsimp only);omega,by(try dsimp only);omega,gh⟩
end Go.Proofs.YtgoljkjaameagaaGreat.V

namespace Go.Proofs.YtgoljkjaameagaaGreat.V
open Go.RowKit
def iD:List ad->ad->List ad
 |[],q=>[q]
 |x::r,q=>if jR q.aO x.aO=true then q::x::r else x::iD r q
theorem oY {q x:ad}:∀{l:List ad},x∈iD l q↔x=q∨x∈l
 |[]=>by simp[iD]
 |y::r=>by
  have ih:=@oY q x r
  rw[iD]
  split
  ·simp
  ·simp only[List.mem_cons,ih]
   constructor
   ·rintro(h|h|h)<;>simp[h]
   ·rintro(h|h|h)<;>simp[h]
theorem pf (q:ad):∀l:List ad,(iD l q).length=l.length+1
 |[]=>rfl
 |y::r=>by
  have ih:=pf q r
  rw[iD]
  split
  ·simp
  ·simp[ih]
theorem sg {l:List ad}:nS l↔l.Pairwise fun a b=>jR a.aO b.aO=true:=by
 rw[List.pairwise_iff_getElem]
 constructor
 ·intro h i j hi hj DR
  have:=h i j DR hj
  rwa [fh hi,fh hj]at this
 ·intro h i j DR hj
  have:=h i j (by omega) hj DR
  rwa [fh (by omega),fh hj]
theorem lQ {l:List ad} {p:aI}:eF l p<0↔∀t∈l,t.aO≠p:=B8
theorem J0 {q:ad}:∀{l:List ad},nS l->eF l q.aO<0->nS (iD l q):=by
 intro l
 rw[sg,sg,lQ]
 induction l with
 |nil=>intro _ _;exact List.pairwise_singleton _ _
 |cons y r ih=>
  intro h hn
  obtain⟨h1,h2⟩:=List.pairwise_cons.1 h
  rw[iD]
  split
  ·rename_i hl
   refine List.pairwise_cons.2 ⟨fun x hx=>?_,h⟩
   rcases List.mem_cons.1 hx with rfl|hx
   ·exact hl
   ·exact jX hl (h1 x hx)
  ·rename_i hl
   rw[Bool.not_eq_true]at hl
   refine List.pairwise_cons.2 ⟨fun x hx=>?_,ih h2 fun t ht=>hn t (by simp[ht])⟩
   rcases oY.1 hx with rfl|hx
   ·exact FN hl fun e=>hn y (by simp) e.symm
   ·exact h1 x hx
theorem jV (x:ad) (r:List ad) (p:aI):gF (x::r) p=if x.aO=p then x.aV else gF r p:=by
 unfold gF eF qg
 rw[List.findIdx_cons]
 by_cases h:x.aO=p
 ·simp[h,aJ]
 ·simp only[h,decide_false,cond_false,List.length_cons,Nat.add_lt_add_iff_right,if_false]
  by_cases hl:(r.findIdx fun c=>decide (c.aO=p))<r.length
  ·rw[if_pos hl,if_pos hl,if_pos (by omega),if_pos (by omega)]
   simp[aJ]
  ·rw[if_neg hl,if_neg hl];rfl
theorem Bm {q:ad} (p:aI):∀{l:List ad},(∀t∈l,t.aO≠q.aO)->gF (iD l q) p=if q.aO=p then q.aV else gF l p
 |[],_=>by rw[iD,jV]
 |x::r,h=>by
  have ih:=@Bm q p r fun t ht=>h t (by simp[ht])
  rw[iD]
  split
  ·rw[jV]
  ·rw[jV,ih,jV]
   by_cases h1:x.aO=p
   ·have h2:q.aO≠p:=fun e=>h x (by simp) (h1.trans e.symm)
    rw[if_pos h1,if_neg h2,if_pos h1]
   ·rw[if_neg h1,if_neg h1]
theorem zJ {q:ad} (p:aI):∀{l:List ad},(∀t∈l,t.aO≠q.aO)->gF (l++[q]) p=if q.aO=p then q.aV else gF l p
 |[],_=>by rw[List.nil_append,jV]
 |x::r,h=>by
  have ih:=@zJ q p r fun t ht=>h t (by simp[ht])
  rw[List.cons_append,jV,ih,jV]
  by_cases h1:x.aO=p
  ·have h2:q.aO≠p:=fun e=>h x (by simp) (h1.trans e.symm)
   rw[if_pos h1,if_neg h2,if_pos h1]
  ·rw[if_neg h1,if_neg h1]
theorem ze {α:Type} [DecidableEq α]:∀{xs ys:List α},xs.Nodup->(∀x∈xs,x∈ys)->xs.length<=ys.length
 |[],_,_,_=>Nat.zero_le _
 |x::xs,ys,hn,h=>by
  obtain⟨h1,h2⟩:=List.nodup_cons.1 hn
  have hx:=h x (by simp)
  have:=@ze α _ xs (ys.erase x) h2 fun y hy=>(List.mem_erase_of_ne fun e=>h1 (by rw[<-e];exact hy)).2 (h y (by simp[hy]))
  rw[List.length_erase_of_mem hx]at this
  have:=List.length_pos_of_mem hx
  rw[List.length_cons];omega
theorem Hm {l:List ad} (h:nS l):l.Nodup:=by
 rw[sg]at h
 refine List.Pairwise.imp (fun {a b} qM e=>?_) h
 rw[e,ns]at qM;cases qM
abbrev iU:=List ad×List ad
noncomputable def jA (s:az) (st:iU) (x:ad):iU:=if kc s st.2 x.aO x.aV=true then(st.1++[x],iD st.2 x)else st
noncomputable def gG (s:az) (l:List ad) (st:iU):iU:=l.foldl (jA s) st
noncomputable def wN (s:az) (l:List ad):Nat->iU->iU
 |0,st=>st
 |n+1,st=>if (gG s l st).1.length=st.1.length then gG s l st else wN s l n (gG s l st)
noncomputable def jc (s:az) (l:List ad):iU:=wN s l (l.length+1) ([],s.aZ.ah)
def oR (l now:List ad):Nat:=(l.filter fun x=>decide (eF now x.aO<0)).length
theorem filter_lt {α:Type} {p q:α->Bool} (hpq:∀x,q x=true->p x=true) {x:α} (hp:p x=true) (hq:q x=false):∀{l:List α},x∈l->(l.filter q).length<(l.filter p).length:=by
 have le:∀l:List α,(l.filter q).length<=(l.filter p).length:=fun l=>by
  induction l with
  |nil=>exact Nat.le_refl _
  |cons y r ih=>
   rw[List.filter_cons,List.filter_cons]
   cases h1:q y
   ·cases h2:p y<;>simp<;>omega
   ·rw[hpq y h1];simp;omega
 intro l hl
 induction l with
 |nil=>cases hl
 |cons y r ih=>
  rcases List.mem_cons.1 hl with rfl|hl
  ·have:=le r
   rw[List.filter_cons,List.filter_cons,hp,hq];simp;omega
  ·have:=ih hl
   rw[List.filter_cons,List.filter_cons]
   cases h1:q y
   ·cases h2:p y<;>simp<;>omega
   ·rw[hpq y h1];simp;omega
structure ow (s:az) (l:List ad) (st:iU):Prop where
 Hl:nS st.2
 sub:∀x∈st.2,x∈l
 done:∀x∈st.1,x∈l
 len:st.2.length=s.aZ.ah.length+st.1.length
theorem ow.rP {s:az} {l:List ad} {st:iU} (h:ow s l st):st.2.length<=l.length:=by
 classical
 exact ze (Hm h.Hl) h.sub
theorem ow.asm {s:az} {l:List ad} {st:iU} (h:ow s l st) (hA:jj s.aH l):jj s.aH st.2:=by
 refine⟨⟨Nat.le_trans h.rP hA.1.rP,fun i hi=>?_⟩,fun t ht=>hA.2 t (h.sub t ht)⟩
 obtain⟨j,hj,ig⟩:=List.getElem_of_mem (h.sub _ (gK hi))
 have h1:=hA.1.ok j hj
 rw[E5,fh hj,ig]at h1
 exact⟨h1.1,h1.2.1,fun h0=>h.Hl _ _ (by omega) hi⟩
theorem oP {s:az} {l:List ad} (hA:jj s.aH l) {now:List ad} (hs:∀x∈now,x∈l) {p:aI} {t:Int} (h:kc s now p t=true):eF now p<0:=by
 rcases Int.lt_or_le (eF now p) 0 with h0|h0
 ·exact h0
 ·exfalso
  obtain⟨h1,_⟩:=lP h0
  have h2:=(eC (hA.2 _ (hs _ (gK h1)))).1
  simp[kc,gF,h0]at h
  omega
theorem ow.step {s:az} {l:List ad} {st:iU} (h:ow s l st) (hA:jj s.aH l) {x:ad} (hx:x∈l):ow s l (jA s st x):=by
 unfold jA
 split
 ·rename_i hf
  have h0:=oP hA h.sub hf
  exact⟨J0 h.Hl h0,fun y hy=>by rcases oY.1 hy with rfl|hy;exact hx;exact h.sub y hy,fun y hy=>by
   rcases List.mem_append.1 hy with hy|hy
   ·exact h.done y hy
   ·rw[List.mem_singleton.1 hy];exact hx,by rw[pf,List.length_append,List.length_singleton,h.len];omega⟩
 ·exact h
theorem Gt {s:az} {l:List ad} {st:iU} (h:ow s l st) (hA:jj s.aH l) {x:ad} (hx:x∈l):oR l (jA s st x).2+(jA s st x).1.length<=oR l st.2+st.1.length:=by
 unfold jA
 split
 ·rename_i hf
  have h0:=oP hA h.sub hf
  have:oR l (iD st.2 x)<oR l st.2:=filter_lt (x:=x) (fun y hy=>by
   simp only[decide_eq_true_eq,lQ]at hy ⊢
   exact fun t ht=>hy t (oY.2 (.inr ht))) (by simpa using h0) (by
   simp only[decide_eq_false_iff_not,lQ]
   exact fun h=>h x (oY.2 (.inl rfl)) rfl) hx
  simp only[List.length_append,List.length_singleton]
  omega
 ·exact Nat.le_refl _
noncomputable def fN (s:az) (l:List ad) (st:iU) (i:Nat):iU:=(l.take i).foldl (jA s) st
theorem qS (s:az) (l:List ad) (st:iU) {i:Nat} (hi:i<l.length):fN s l st (i+1)=jA s (fN s l st i) (aJ l i):=by
 unfold fN
 rw[List.take_succ_eq_append_getElem hi,List.foldl_append,fh hi];rfl
theorem pJ (s:az) (l:List ad) (st:iU):fN s l st l.length=gG s l st:=by rw[fN,List.take_length];rfl
theorem xE {s:az} {l:List ad} {st:iU} (h:ow s l st) (hA:jj s.aH l):∀i,i<=l.length->ow s l (fN s l st i)/\oR l (fN s l st i).2+(fN s l st i).1.length<=oR l st.2+st.1.length/\st.1.length<=(fN s l st i).1.length
 |0,_=>by simp[fN];exact h
 |i+1,hi=>by
  obtain⟨h1,h2,h3⟩:=xE h hA i (by omega)
  rw[qS s l st hi]
  refine⟨h1.step hA (gK hi),Nat.le_trans (Gt h1 hA (gK hi)) h2,Nat.le_trans h3 ?_⟩
  unfold jA
  split
  ·simp
  ·exact Nat.le_refl _
theorem Fp (l now:List ad):oR l now<=l.length:=List.length_filter_le _ _
structure F8 (s:az):Prop where
 set:iw s.aH
 xn:jj s.aH s.aZ.ah
 some:1<=s.aZ.ah.length
 Ku:ja s.aB 1 16=true
theorem Bj.w {s:az} (h:Bj s):F8 s:=⟨h.set,h.xn,h.some,h.Ku⟩
theorem tn {s:az} {l:List ad} (hP:F8 s) (hA:jj s.aH l) (hW:iT s.aZ.ah l=true):ow s l ([],s.aZ.ah):=by
 refine⟨hP.xn.1.Hl,fun x hx=>?_,fun x hx=>by(cases hx),rfl⟩
 unfold iT at hW
 rw[List.all_eq_true]at hW
 have h1:=of_decide_eq_true (hW x hx)
 have h2:=(eC (hP.xn.2 x hx)).1
 have h0:0<=eF l x.aO:=by
  rcases Int.lt_or_le (eF l x.aO) 0 with h0|h0
  ·rw[gF,if_neg (by omega)]at h1;omega
  ·exact h0
 obtain⟨h3,h4⟩:=lP h0
 rw[gF,if_pos h0]at h1
 have:x=aJ l (eF l x.aO).toNat:=by
  cases vm:aJ l (eF l x.aO).toNat with
  |mk a t=>rw[vm]at h1 h4;cases x;simp_all
 rw[this];exact gK h3
theorem yX {s:az} {l:List ad} {st:iU} (h:ow s l st) (hA:jj s.aH l) {n:Nat} (hn:oR l st.2<n):
  ((gG s l st).1.length=st.1.length->wN s l n st=gG s l st)/\
  ((gG s l st).1.length≠st.1.length->∃m,n=m+1/\wN s l n st=wN s l m (gG s l st)/\oR l (gG s l st).2<m):=by
 obtain⟨m,rfl⟩:∃m,n=m+1:=⟨n-1,by omega⟩
 obtain⟨h1,h2,h3⟩:=xE h hA l.length (Nat.le_refl _)
 rw[pJ]at h1 h2 h3
 refine⟨fun e=>by rw[wN,if_pos e],fun e=>⟨m,rfl,by rw[wN,if_neg e],by omega⟩⟩
end Go.Proofs.YtgoljkjaameagaaGreat.V

namespace Go.Proofs.YtgoljkjaameagaaGreat.V
open Go.RowKit
attribute [local irreducible] dI wpOps gy Call
attribute [local go_sem] aM fG eQ fZ fY cQ upd cC K.av cP AV.cells AV.cell rowOf rowsOf part ld rowAt bt cu dE ee ik bJ dh ew fX eX dp ej dd dc dQ dR bQ bf cW bP cY cX eh ek ei cV b4 de ef bK aP da cG ij bw cK bU aY dn bc dF AV.undef bF bI dS ec dM dK cH ev eA cF ep eo cZ db List.getD_cons_zero List.getD_cons_succ List.getD_nil List.all_cons List.all_nil Bool.and_true Bool.true_and Bool.and_self Bool.not_true Bool.not_false Option.map_some Option.map_none Option.bind_some Option.bind_none List.length_cons List.length_nil List.take_succ_cons List.take_zero List.take_nil List.drop_succ_cons List.drop_zero List.drop_nil List.head?_cons List.map_cons List.map_nil List.getElem?_cons_zero List.getElem?_cons_succ List.cons_append List.nil_append List.append_nil List.length_map List.set_cons_zero List.set_cons_succ Nat.reduceMul eq_self Int.toNat_natCast Int.natCast_nonneg and_self true_and and_true decide_true decide_false Bool.false_eq_true Nat.zero_add Nat.add_zero List.contains_cons List.contains_nil Bool.or_false Bool.false_or beq_self_eq_true Nat.reduceBEq ne_eq not_true_eq_false not_false_eq_true Id.mk.injEq false_and and_false Nat.reduceLT Int.reduceLE Int.reduceLT Int.reduceToNat Int.reduceNeg Int.reduceAdd Nat.le_refl List.length_append beq_true beq_false Bool.not_eq_eq_eq_not or_false false_or dJ ai aj aD bp bE cq aT bd aX bj cR bG
theorem M6 (g:Rows) (n:Nat) (x:ad):ez g (n+1) (aa x)=some (aa x):=by simp[aa,bB,cw,eG]
def NJ (n:Nat) (L:List ad) (r:AV) (σ':ar):Prop:=∃o:Id,r=.agg [.own o 0 L.length]/\σ'.get o=some ⟨true,3,L.map aa⟩/\n<=o.ck/\o.ck<σ'.next
theorem NJ.val {f:Nat} {args eu:List AV} {L:List ad} {σ:ar} (h:∀n,Call Tryz.prog f eu ⟨fun _=>none,n⟩ (NJ n L)) (hv:cJ (dJ σ.get) 6 args=some eu):Call Tryz.prog f args σ (fun r σ'=>NJ σ.next L r σ'/\Kept σ σ'):=by
 refine vK mixed hv (aC _ _ _ _ _ (fun r σ' hq=>?_) (sR mixed (h σ.next)))
 obtain⟨⟨o,rfl,h2,h3,h4⟩,hn⟩:=hq
 refine⟨[o],rfl,fun i hi=>?_,⟨o,rfl,(pq (by simp)).trans h2,h3,h4⟩,hn,fun j hj=>mQ fun hc=>?_⟩
 ·rw[List.mem_singleton.1 hi]
  exact⟨_,h2,rfl,fun cs dt a ha=>by
   obtain⟨x,_,rfl⟩:=List.mem_map.1 dt
   simp[aa]at ha
   rcases ha with rfl|rfl|rfl<;>rfl⟩
 ·rw[List.mem_singleton.1 hc]at hj;omega
theorem Jv (l:List ad) (hl:l.length<=1048576) (n0:Nat):Call Tryz.prog 96 [.di [.sl (l.map aa)]] ⟨fun _=>none,n0⟩ (NJ n0 l):=by
 refine eL dX rfl fun kp=>?_
 clear kp
 have LP:(l.map aa).length<=16777216:=by simp;omega
 have dD:(l.map aa).all (fun c=>c.length==3&&c.all AV.cell)=true:=all_map fun x=>⟨rfl,rfl⟩
 have Fy:(l.map aa).length=l.length:=by simp
 generalize oW:l.map aa=rows at LP dD Fy
 (try((repeat(revert hN;revert N;apply Pn.out));refine wk (tw @LP @dD) ?_;(repeat(refine Pn.mk ?_;intro N hN))))
 exact e9 (.inl rfl) (vs:=[.agg [.own ⟨96001005,n0+1⟩ 0 rows.length]]) (sd @Nat.zero_add) ⟨⟨96001005,n0+1⟩,by rw[Fy];rfl,by rw[oW];simp only[go_sem, ↓reduceIte,Nat.reduceEqDiff,Nat.reduceAdd,Nat.reduceSub,Nat.reduceLeDiff,reduceCtorEq],by(try dsimp only);omega,by(try dsimp only);omega⟩
def uC (q:ad) (l:List ad):Bool:=l.any fun x=>jR q.aO x.aO
theorem CD {q:ad}:∀{l:List ad},uC q l=false->iD l q=l++[q]
 |[],_=>rfl
 |x::l,h=>by
  unfold uC at h
  rw[List.any_cons,Bool.or_eq_false_iff]at h
  rw[iD,if_neg (by rw[h.1];simp),CD h.2];rfl
theorem zk {q y:ad}:∀{l:List ad},uC q l=true->iD (l++[y]) q=iD l q++[y]
 |x::l,h=>by
  unfold uC at h
  rw[List.any_cons]at h
  rw[List.cons_append,iD,iD]
  cases hx:jR q.aO x.aO
  ·rw[hx,Bool.false_or]at h
   rw[if_neg (by simp),if_neg (by simp),zk h];rfl
  ·simp
theorem zi {q y:ad}:∀{l:List ad},uC q l=false->jR q.aO y.aO=true->iD (l++[y]) q=l++[q]++[y]
 |[],_,hy=>by simp[iD,hy]
 |x::l,h,hy=>by
  unfold uC at h
  rw[List.any_cons,Bool.or_eq_false_iff]at h
  rw[List.cons_append,iD,if_neg (by rw[h.1];simp),zi h.2 hy];rfl
def jg (q:ad) (l:List ad):List ad:=if uC q l=true then iD l q else l
theorem we (q:ad) (l:List ad) (y:ad):uC q (l++[y])=(uC q l||jR q.aO y.aO):=by simp[uC]
theorem He (q:ad) (l:List ad):(jg q l).length<=l.length+1:=by
 unfold jg
 split
 ·rw[pf];omega
 ·omega
theorem JU {q y:ad} {l:List ad} (h:uC q l=true∨jR q.aO y.aO=false):jg q (l++[y])=jg q l++[y]:=by
 unfold jg
 rw[we]
 cases hd:uC q l
 ·rw[hd]at h
  have h2:jR q.aO y.aO=false:=by rcases h with h|h;cases h;exact h
  simp[h2]
 ·simp[zk hd]
theorem JT {q y:ad} {l:List ad} (h:uC q l=false) (hy:jR q.aO y.aO=true):jg q (l++[y])=jg q l++[q]++[y]:=by
 unfold jg
 rw[we,h,hy]
 simp[zi h hy]
def TL (m:Nat) (L:List ad) (v:AV) (g:Rows) (n:Nat):Prop:=(L=[]/\v=.bl)∨∃o:Id,v=.own o 0 L.length/\g o=some ⟨true,3,L.map aa⟩/\m<=o.ck/\o.ck<n
theorem Kt {l:List ad} {k:Nat} (hk:k<l.length):l.take (k+1)=l.take k++[aJ l k]:=by rw[List.take_succ_eq_append_getElem hk,fh hk]
theorem r7 (L:List ad) (q:ad):(L++[q]).map aa=L.map aa++[[.int .i64 q.aO.eZ,.int .i64 q.aO.eU,.int .i64 q.aV]]:=by rw[List.map_append];rfl
theorem iP (L:List ad) (q:ad):(L++[q]).length=L.length+1:=by rw[List.length_append];rfl
theorem Jw (l:List ad) (hl:l.length<=1048576) (p:aI) (t:Int) (n0:Nat):Call Tryz.prog 162 [.di [.sl (l.map aa)],.agg (ae p),.int .i64 t] ⟨fun _=>none,n0⟩ (NJ n0 (iD l ⟨p,t⟩)):=by
 refine eL dX rfl fun kp=>?_
 clear kp
 obtain⟨q,hq⟩:∃q:ad,q=⟨p,t⟩:=⟨_,rfl⟩
 (try((repeat(revert hN;revert N;apply Pn.out));refine wk @ae.eq_1 ?_;(repeat(refine Pn.mk ?_;intro N hN))))
 refine aU (fun n env st=>∃i:Nat,n=(l.length)-i/\i<=(l.length)/\env 9=.int .i64 (i:Int)/\env 8=.bool (uC q (l.take i))/\st.get ⟨162000000,n0⟩=some ⟨true,2,[ae p]⟩/\st.get ⟨162000001,n0⟩=some ⟨true,1,[[.bl]]⟩/\(n0+2<=st.next/\∃v,st.get ⟨162001001,n0+1⟩=some ⟨true,1,[[v]]⟩/\TL (n0+2) (jg q (l.take i)) v st.get st.next)) (l.length) ⟨0,by omega,by omega,sl @ae.eq_1,sl @ae.eq_1,sl @ae.eq_1,sl @ae.eq_1,by(try dsimp only);exact⟨by omega,.bl,sd @Nat.zero_add,.inl ⟨rfl,rfl⟩⟩⟩ ?_
 rintro n_a env_a st_a ⟨i,rfl,ale,a9,a8,ag0,ag1,lZ⟩ dC
 have a0:=dC 0 (by kernel_rfl);have a2:=dC 2 (by kernel_rfl);have a4:=dC 4 (by kernel_rfl);have a6:=dC 6 (by kernel_rfl);have a7:=dC 7 (by kernel_rfl)
 simp only[go_sem, ↓reduceIte,Nat.reduceEqDiff,Nat.reduceAdd,Nat.reduceSub,Nat.reduceLeDiff,reduceCtorEq,ae]at a0 a2 a4 a6 a7
 clear dC
 obtain⟨an,v,av,aG⟩:=lZ
 have vA:=dr (i:=⟨162000000,n0⟩) (n:=st_a.next) (by(try dsimp only);omega)
 have vB:=dr (i:=⟨162000001,n0⟩) (n:=st_a.next) (by(try dsimp only);omega)
 have vC:=dr (i:=⟨162001001,n0+1⟩) (n:=st_a.next) (by(try dsimp only);omega)
 have LR:=He q (l.take i)
 rw[List.length_take]at LR
 by_cases hi:(i:Int)<(l.length:Int)
 ·have cD:∀{e:Env} {gg:Rows} {nx:Nat},(e 9=.int .i64 (IntKind.i64.wrap ((i:Int)+1)))->(e 8=.bool (uC q (l.take (i+1))))->(gg ⟨162000000,n0⟩=some ⟨true,2,[ae p]⟩)->(gg ⟨162000001,n0⟩=some ⟨true,1,[[.bl]]⟩)->(n0+2<=nx/\∃v,gg ⟨162001001,n0+1⟩=some ⟨true,1,[[v]]⟩/\TL (n0+2) (jg q (l.take (i+1))) v gg nx)->∃m0,m0<(l.length)-i/\∃i:Nat,m0=(l.length)-i/\i<=(l.length)/\e 9=.int .i64 (i:Int)/\e 8=.bool (uC q (l.take i))/\gg ⟨162000000,n0⟩=some ⟨true,2,[ae p]⟩/\gg ⟨162000001,n0⟩=some ⟨true,1,[[.bl]]⟩/\(n0+2<=nx/\∃v,gg ⟨162001001,n0+1⟩=some ⟨true,1,[[v]]⟩/\TL (n0+2) (jg q (l.take i)) v gg nx):=fun x1 x2 x3 x4 x5=>⟨_,by omega,i+1,rfl,by omega,(by rw[x1,aA (by omega)]),x2,x3,x4,x5⟩
  have fw:i<l.length:=by omega
  have ke:=fx fw
  have dU:=ox p (aJ l i).aO
  have oh:=Kt fw
  have Vj:jR q.aO (aJ l i).aO=jR p (aJ l i).aO:=by rw[hq]
  have lL:(l.map aa).length=l.length:=by simp
  have KZ:=we q (l.take i) (aJ l i)
  rw[<-oh,Vj]at KZ
  rw[ae,ae]at dU
  by_cases hc:uC q (l.take i)=true∨jR p (aJ l i).aO=false
  ·have lr:=JU (q:=q) (y:=aJ l i) (l:=l.take i) (by rw[Vj];exact hc)
   rw[<-oh]at lr
   generalize jg q (l.take i)=L at aG lr LR
   have x7:=iP L (aJ l i)
   have rU:=r7 L (aJ l i)
   have od:uC q (l.take (i+1))=uC q (l.take i):=by
    rw[KZ]
    rcases hc with h|h<;>rw[h]<;>simp
   rcases aG with⟨hL,rfl⟩|⟨o,rfl,ao,aon,aov⟩
   ·subst hL
    cases hd:uC q (l.take i)
    ·have h2:jR p (aJ l i).aO=false:=by rcases hc with h|h;rw[hd]at h;cases h;exact h
     rw[h2]at dU
     rw[hd]at a8 od
     (repeat(first|((repeat(revert hN;revert N;apply Pn.out));refine wk (tw @a9 (tw @a8 (tw @ag0 (tw @ag1 (tw @a0 (tw @a2 (tw @a4 (tw @a6 (tw @a7 (tw @hi (tw @ke (tw @vA (tw @vB (tw @vC (tw @av (tw @lL (tw @ae.eq_1 @aa.eq_1))))))))))))))))) ?_;(repeat(refine Pn.mk ?_;intro N hN)))|((try apply Or.inl);refine⟨_,aq.x (dU) (sd (tw @a9 (tw @a8 (tw @ag0 (tw @ag1 (tw @a0 (tw @a2 (tw @a4 (tw @a6 (tw @a7 (tw @hi (tw @ke (tw @vA (tw @vB (tw @vC (tw @av (tw @lL (tw @ae.eq_1 @aa.eq_1)))))))))))))))))),?_⟩;refine hN _ _ ?_;clear hN N)))
     refine cD ?_ ?_ ?_ ?_ (by(try dsimp only);exact⟨by omega,_,sl @Nat.zero_add,.inr ⟨⟨162009010,st_a.next+1+1⟩,by rw[lr,x7]<;>(simp only[go_sem, ↓reduceIte,Nat.reduceEqDiff,Nat.reduceAdd,Nat.reduceSub,Nat.reduceLeDiff,reduceCtorEq]<;>rfl),by rw[lr,rU]<;>(simp only[go_sem, ↓reduceIte,Nat.reduceEqDiff,Nat.reduceAdd,Nat.reduceSub,Nat.reduceLeDiff,reduceCtorEq]<;>rfl),by(try dsimp only);omega,by(try dsimp only);omega⟩⟩)
     all_goals simp only[go_sem, ↓reduceIte,Nat.reduceEqDiff,Nat.reduceAdd,Nat.reduceSub,Nat.reduceLeDiff,reduceCtorEq,a9,a8,ag0,ag1,a0,a2,a4,a6,a7,od,vA,vB,vC,ae]
    ·rw[hd]at a8 od
     (try((repeat(revert hN;revert N;apply Pn.out));refine wk (tw @a9 (tw @a8 (tw @ag0 (tw @ag1 (tw @a0 (tw @a2 (tw @a4 (tw @a6 (tw @a7 (tw @hi (tw @ke (tw @vA (tw @vB (tw @vC (tw @av (tw @lL (tw @ae.eq_1 @aa.eq_1))))))))))))))))) ?_;(repeat(refine Pn.mk ?_;intro N hN))))
     refine cD ?_ ?_ ?_ ?_ (by(try dsimp only);exact⟨by omega,_,sl @Nat.zero_add,.inr ⟨⟨162009010,st_a.next+1+1⟩,by rw[lr,x7]<;>(simp only[go_sem, ↓reduceIte,Nat.reduceEqDiff,Nat.reduceAdd,Nat.reduceSub,Nat.reduceLeDiff,reduceCtorEq]<;>rfl),by rw[lr,rU]<;>(simp only[go_sem, ↓reduceIte,Nat.reduceEqDiff,Nat.reduceAdd,Nat.reduceSub,Nat.reduceLeDiff,reduceCtorEq]<;>rfl),by(try dsimp only);omega,by(try dsimp only);omega⟩⟩)
     all_goals simp only[go_sem, ↓reduceIte,Nat.reduceEqDiff,Nat.reduceAdd,Nat.reduceSub,Nat.reduceLeDiff,reduceCtorEq,a9,a8,ag0,ag1,a0,a2,a4,a6,a7,od,vA,vB,vC,ae]
   ·have vo:=dr aov
    have oA:=cz (a:=⟨162000000,n0⟩) (b:=o) (by(try dsimp only);omega)
    have oB:=cz (a:=⟨162000001,n0⟩) (b:=o) (by(try dsimp only);omega)
    have oC:=cz (a:=⟨162001001,n0+1⟩) (b:=o) (by(try dsimp only);omega)
    have Na:(L.map aa).length=L.length:=by simp
    have M9:L.length<=16777215:=by omega
    cases hd:uC q (l.take i)
    ·have h2:jR p (aJ l i).aO=false:=by rcases hc with h|h;rw[hd]at h;cases h;exact h
     rw[h2]at dU
     rw[hd]at a8 od
     (repeat(first|((repeat(revert hN;revert N;apply Pn.out));refine wk (tw @a9 (tw @a8 (tw @ag0 (tw @ag1 (tw @a0 (tw @a2 (tw @a4 (tw @a6 (tw @a7 (tw @hi (tw @ke (tw @vA (tw @vB (tw @vC (tw @vo (tw @oA (tw @oB (tw @oC (tw @ao (tw @av (tw @lL (tw @Na (tw @M9 (tw @ae.eq_1 @aa.eq_1)))))))))))))))))))))))) ?_;(repeat(refine Pn.mk ?_;intro N hN)))|((try apply Or.inl);refine⟨_,aq.x (dU) (sd (tw @a9 (tw @a8 (tw @ag0 (tw @ag1 (tw @a0 (tw @a2 (tw @a4 (tw @a6 (tw @a7 (tw @hi (tw @ke (tw @vA (tw @vB (tw @vC (tw @vo (tw @oA (tw @oB (tw @oC (tw @ao (tw @av (tw @lL (tw @Na (tw @M9 (tw @ae.eq_1 @aa.eq_1))))))))))))))))))))))))),?_⟩;refine hN _ _ ?_;clear hN N)))
     refine cD ?_ ?_ ?_ ?_ (by(try dsimp only);exact⟨by omega,_,sl @Nat.zero_add,.inr ⟨⟨162009010,st_a.next+1+1⟩,by rw[lr,x7]<;>(simp only[go_sem, ↓reduceIte,Nat.reduceEqDiff,Nat.reduceAdd,Nat.reduceSub,Nat.reduceLeDiff,reduceCtorEq]<;>rfl),by rw[lr,rU]<;>(simp only[go_sem, ↓reduceIte,Nat.reduceEqDiff,Nat.reduceAdd,Nat.reduceSub,Nat.reduceLeDiff,reduceCtorEq]<;>rfl),by(try dsimp only);omega,by(try dsimp only);omega⟩⟩)
     all_goals simp only[go_sem, ↓reduceIte,Nat.reduceEqDiff,Nat.reduceAdd,Nat.reduceSub,Nat.reduceLeDiff,reduceCtorEq,a9,a8,ag0,ag1,a0,a2,a4,a6,a7,od,vA,vB,vC,oA,oB,oC,ae]
    ·rw[hd]at a8 od
     (try((repeat(revert hN;revert N;apply Pn.out));refine wk (tw @a9 (tw @a8 (tw @ag0 (tw @ag1 (tw @a0 (tw @a2 (tw @a4 (tw @a6 (tw @a7 (tw @hi (tw @ke (tw @vA (tw @vB (tw @vC (tw @vo (tw @oA (tw @oB (tw @oC (tw @ao (tw @av (tw @lL (tw @Na (tw @M9 (tw @ae.eq_1 @aa.eq_1)))))))))))))))))))))))) ?_;(repeat(refine Pn.mk ?_;intro N hN))))
     refine cD ?_ ?_ ?_ ?_ (by(try dsimp only);exact⟨by omega,_,sl @Nat.zero_add,.inr ⟨⟨162009010,st_a.next+1+1⟩,by rw[lr,x7]<;>(simp only[go_sem, ↓reduceIte,Nat.reduceEqDiff,Nat.reduceAdd,Nat.reduceSub,Nat.reduceLeDiff,reduceCtorEq]<;>rfl),by rw[lr,rU]<;>(simp only[go_sem, ↓reduceIte,Nat.reduceEqDiff,Nat.reduceAdd,Nat.reduceSub,Nat.reduceLeDiff,reduceCtorEq]<;>rfl),by(try dsimp only);omega,by(try dsimp only);omega⟩⟩)
     all_goals simp only[go_sem, ↓reduceIte,Nat.reduceEqDiff,Nat.reduceAdd,Nat.reduceSub,Nat.reduceLeDiff,reduceCtorEq,a9,a8,ag0,ag1,a0,a2,a4,a6,a7,od,vA,vB,vC,oA,oB,oC,ae]
  ·have hd:uC q (l.take i)=false:=by
    cases h:uC q (l.take i)
    ·rfl
    ·exact absurd (.inl h) hc
   have h2:jR p (aJ l i).aO=true:=by
    cases h:jR p (aJ l i).aO
    ·exact absurd (.inr h) hc
    ·rfl
   have lr:=JT (q:=q) (y:=aJ l i) hd (by rw[Vj];exact h2)
   rw[<-oh]at lr
   have od:uC q (l.take (i+1))=true:=by rw[KZ,h2];simp
   rw[hd]at a8
   rw[h2]at dU
   have Tq:aa q=[.int .i64 p.eZ,.int .i64 p.eU,.int .i64 t]:=by rw[hq];rfl
   generalize jg q (l.take i)=L at aG lr LR
   have x7:=iP (L++[q]) (aJ l i)
   have rU:=r7 (L++[q]) (aJ l i)
   have U7:=iP L q
   have U8:(L++[q]).map aa=L.map aa++[[.int .i64 p.eZ,.int .i64 p.eU,.int .i64 t]]:=by rw[List.map_append,List.map_singleton,Tq]
   rw[U7]at x7
   rw[U8]at rU
   rcases aG with⟨hL,rfl⟩|⟨o,rfl,ao,aon,aov⟩
   ·subst hL
    (repeat(first|((repeat(revert hN;revert N;apply Pn.out));refine wk (tw @a9 (tw @a8 (tw @ag0 (tw @ag1 (tw @a0 (tw @a2 (tw @a4 (tw @a6 (tw @a7 (tw @hi (tw @ke (tw @vA (tw @vB (tw @vC (tw @av (tw @lL (tw @ae.eq_1 @aa.eq_1))))))))))))))))) ?_;(repeat(refine Pn.mk ?_;intro N hN)))|((try apply Or.inl);refine⟨_,aq.x (dU) (sd (tw @a9 (tw @a8 (tw @ag0 (tw @ag1 (tw @a0 (tw @a2 (tw @a4 (tw @a6 (tw @a7 (tw @hi (tw @ke (tw @vA (tw @vB (tw @vC (tw @av (tw @lL (tw @ae.eq_1 @aa.eq_1)))))))))))))))))),?_⟩;refine hN _ _ ?_;clear hN N)))
    refine cD ?_ ?_ ?_ ?_ (by(try dsimp only);exact⟨by omega,_,sl @Nat.zero_add,.inr ⟨⟨162009010,st_a.next+1+1+1+1⟩,by rw[lr,x7]<;>(simp only[go_sem, ↓reduceIte,Nat.reduceEqDiff,Nat.reduceAdd,Nat.reduceSub,Nat.reduceLeDiff,reduceCtorEq]<;>rfl),by rw[lr,rU]<;>(simp only[go_sem, ↓reduceIte,Nat.reduceEqDiff,Nat.reduceAdd,Nat.reduceSub,Nat.reduceLeDiff,reduceCtorEq]<;>rfl),by(try dsimp only);omega,by(try dsimp only);omega⟩⟩)
    all_goals simp only[go_sem, ↓reduceIte,Nat.reduceEqDiff,Nat.reduceAdd,Nat.reduceSub,Nat.reduceLeDiff,reduceCtorEq,a9,a8,ag0,ag1,a0,a2,a4,a6,a7,od,vA,vB,vC,ae]
   ·have vo:=dr aov
    have oA:=cz (a:=⟨162000000,n0⟩) (b:=o) (by(try dsimp only);omega)
    have oB:=cz (a:=⟨162000001,n0⟩) (b:=o) (by(try dsimp only);omega)
    have oC:=cz (a:=⟨162001001,n0+1⟩) (b:=o) (by(try dsimp only);omega)
    have Na:(L.map aa).length=L.length:=by simp
    have M9:L.length<=16777214:=by omega
    have Q2:L.length<=16777215:=by omega
    (repeat(first|((repeat(revert hN;revert N;apply Pn.out));refine wk (tw @a9 (tw @a8 (tw @ag0 (tw @ag1 (tw @a0 (tw @a2 (tw @a4 (tw @a6 (tw @a7 (tw @hi (tw @ke (tw @vA (tw @vB (tw @vC (tw @vo (tw @oA (tw @oB (tw @oC (tw @ao (tw @av (tw @lL (tw @Na (tw @M9 (tw @Q2 (tw @ae.eq_1 @aa.eq_1))))))))))))))))))))))))) ?_;(repeat(refine Pn.mk ?_;intro N hN)))|((try apply Or.inl);refine⟨_,aq.x (dU) (sd (tw @a9 (tw @a8 (tw @ag0 (tw @ag1 (tw @a0 (tw @a2 (tw @a4 (tw @a6 (tw @a7 (tw @hi (tw @ke (tw @vA (tw @vB (tw @vC (tw @vo (tw @oA (tw @oB (tw @oC (tw @ao (tw @av (tw @lL (tw @Na (tw @M9 (tw @Q2 (tw @ae.eq_1 @aa.eq_1)))))))))))))))))))))))))),?_⟩;refine hN _ _ ?_;clear hN N)))
    refine cD ?_ ?_ ?_ ?_ (by(try dsimp only);exact⟨by omega,_,sl @Nat.zero_add,.inr ⟨⟨162009010,st_a.next+1+1+1+1⟩,by rw[lr,x7]<;>(simp only[go_sem, ↓reduceIte,Nat.reduceEqDiff,Nat.reduceAdd,Nat.reduceSub,Nat.reduceLeDiff,reduceCtorEq]<;>rfl),by rw[lr,rU]<;>(simp only[go_sem, ↓reduceIte,Nat.reduceEqDiff,Nat.reduceAdd,Nat.reduceSub,Nat.reduceLeDiff,reduceCtorEq]<;>rfl),by(try dsimp only);omega,by(try dsimp only);omega⟩⟩)
    all_goals simp only[go_sem, ↓reduceIte,Nat.reduceEqDiff,Nat.reduceAdd,Nat.reduceSub,Nat.reduceLeDiff,reduceCtorEq,a9,a8,ag0,ag1,a0,a2,a4,a6,a7,od,vA,vB,vC,oA,oB,oC,ae]
 ·have lK:i=l.length:=by omega
  subst lK
  rw[List.take_length]at a8 aG LR
  cases hd:uC q l
  ·rw[hd]at a8
   have lr:iD l ⟨p,t⟩=jg q l++[q]:=by rw[<-hq,CD hd,jg,hd];simp
   have Tq:aa q=[.int .i64 p.eZ,.int .i64 p.eU,.int .i64 t]:=by rw[hq];rfl
   generalize jg q l=L at aG LR lr
   have x7:=iP L q
   have rU:(L++[q]).map aa=L.map aa++[[.int .i64 p.eZ,.int .i64 p.eU,.int .i64 t]]:=by rw[List.map_append,List.map_singleton,Tq]
   rcases aG with⟨hL,rfl⟩|⟨o,rfl,ao,aon,aov⟩
   ·subst hL
    (try((repeat(revert hN;revert N;apply Pn.out));refine wk (tw @a9 (tw @a8 (tw @ag0 (tw @ag1 (tw @a0 (tw @a2 (tw @a4 (tw @a6 (tw @a7 (tw @hi (tw @vA (tw @vB (tw @vC (tw @av (tw @ae.eq_1 @aa.eq_1))))))))))))))) ?_;(repeat(refine Pn.mk ?_;intro N hN))))
    exact e9 (.inl rfl) (vs:=[.agg [.own ⟨162011006,st_a.next+1+1⟩ 0 1]]) (sd (tw @a9 (tw @a8 (tw @ag0 (tw @ag1 (tw @a0 (tw @a2 (tw @a4 (tw @a6 (tw @a7 @vB)))))))))) ⟨⟨162011006,st_a.next+1+1⟩,by rw[lr];rfl,by rw[lr];simp only[go_sem, ↓reduceIte,Nat.reduceEqDiff,Nat.reduceAdd,Nat.reduceSub,Nat.reduceLeDiff,reduceCtorEq,vB];rw[Tq],by(try dsimp only);omega,by(try dsimp only);omega⟩
   ·have vo:=dr aov
    have oA:=cz (a:=⟨162000000,n0⟩) (b:=o) (by(try dsimp only);omega)
    have oB:=cz (a:=⟨162000001,n0⟩) (b:=o) (by(try dsimp only);omega)
    have oC:=cz (a:=⟨162001001,n0+1⟩) (b:=o) (by(try dsimp only);omega)
    have Na:(L.map aa).length=L.length:=by simp
    have M9:L.length<=16777215:=by omega
    (try((repeat(revert hN;revert N;apply Pn.out));refine wk (tw @a9 (tw @a8 (tw @ag0 (tw @ag1 (tw @a0 (tw @a2 (tw @a4 (tw @a6 (tw @a7 (tw @hi (tw @vA (tw @vB (tw @vC (tw @vo (tw @oA (tw @oB (tw @oC (tw @ao (tw @av (tw @Na (tw @M9 (tw @ae.eq_1 @aa.eq_1)))))))))))))))))))))) ?_;(repeat(refine Pn.mk ?_;intro N hN))))
    exact e9 (.inl rfl) (vs:=[.agg [.own ⟨162011006,st_a.next+1+1⟩ 0 (L.length+1)]]) (sd (tw @a9 (tw @a8 (tw @ag0 (tw @ag1 (tw @a0 (tw @a2 (tw @a4 (tw @a6 (tw @a7 @vB)))))))))) ⟨⟨162011006,st_a.next+1+1⟩,by rw[lr,x7];rfl,by rw[lr,rU];simp only[go_sem, ↓reduceIte,Nat.reduceEqDiff,Nat.reduceAdd,Nat.reduceSub,Nat.reduceLeDiff,reduceCtorEq,vB],by(try dsimp only);omega,by(try dsimp only);omega⟩
  ·rw[hd]at a8
   have lr:iD l ⟨p,t⟩=jg q l:=by rw[<-hq,jg,hd];simp
   have kz:0<(jg q l).length:=by rw[<-lr,pf];omega
   generalize jg q l=L at aG LR kz lr
   rcases aG with⟨hL,rfl⟩|⟨o,rfl,ao,aon,aov⟩
   ·subst hL;cases kz
   ·have vo:=dr aov
    have oB:=cz (a:=⟨162000001,n0⟩) (b:=o) (by(try dsimp only);omega)
    (try((repeat(revert hN;revert N;apply Pn.out));refine wk (tw @a9 (tw @a8 (tw @ag0 (tw @ag1 (tw @a0 (tw @a2 (tw @a4 (tw @a6 (tw @a7 (tw @hi (tw @vA (tw @vB (tw @vC (tw @vo (tw @ao (tw @av (tw @ae.eq_1 @aa.eq_1))))))))))))))))) ?_;(repeat(refine Pn.mk ?_;intro N hN))))
    exact e9 (.inl rfl) (vs:=[.agg [.own o 0 L.length]]) (sd (tw @a9 (tw @a8 (tw @ag0 (tw @ag1 (tw @a0 (tw @a2 (tw @a4 (tw @a6 (tw @a7 @vB)))))))))) ⟨o,by rw[lr];rfl,by rw[lr];simp only[go_sem, ↓reduceIte,Nat.reduceEqDiff,Nat.reduceAdd,Nat.reduceSub,Nat.reduceLeDiff,reduceCtorEq,vB,oB,ao],by(try dsimp only);omega,by(try dsimp only);omega⟩
theorem Jz (s:az) (hP:F8 s) (l:List ad) (hA:jj s.aH l) (p:aI) (t:Int) (ht:eM s.aH t=true):aq Tryz.prog 171 [.di (au s),.di [.sl (l.map aa)],.agg [.int .i64 p.eZ,.int .i64 p.eU,.int .i64 t]] (.bool (kc s l p t)):=by
 refine aq.body dX rfl fun kp n0=>?_
 clear kp
 have h1:=wP p
 have h2:=(wQ s.aH t).cut mixed (.ptr _ [.sl (s.aZ.ah.map aa),.int .i64 s.aB] (.same _ .nil))
 have h3:=qV l p hA.1.Hl (by have:=hA.1.rP;omega)
 rw[ht]at h2
 by_cases h0:CC p=true
 ·rw[h0]at h1
  obtain⟨hx,hy⟩:=tz h0
  by_cases hi:eF l p<0
  ·have h4:=(Ak s.aH hP.set l hA p hx hy t ht).cut mixed (.ptr _ [.sl (s.aZ.ah.map aa),.int .i64 s.aB] (.same _ (.same _ (.same _ .nil))))
   have e:kc s l p t=decide (s.aB<=tR s.aH (gF l) p t):=by simp[kc,h0,(Ii hA p).2 hi]
   rw[e]
   (repeat(first|((repeat(revert hN;revert N;apply Pn.out));refine wk (tw @au.eq_1 (tw @ab.eq_1 (tw @ae.eq_1 @hi))) ?_;(repeat(refine Pn.mk ?_;intro N hN)))|((try apply Or.inl);refine⟨_,aq.x (h1) (sd (tw @au.eq_1 (tw @ab.eq_1 (tw @ae.eq_1 @hi)))),?_⟩;refine hN _ _ ?_;clear hN N)|((try apply Or.inl);refine⟨_,aq.x (h2) (sd (tw @au.eq_1 (tw @ab.eq_1 (tw @ae.eq_1 @hi)))),?_⟩;refine hN _ _ ?_;clear hN N)|((try apply Or.inl);refine⟨_,aq.x (h3) (sd (tw @au.eq_1 (tw @ab.eq_1 (tw @ae.eq_1 @hi)))),?_⟩;refine hN _ _ ?_;clear hN N)|((try apply Or.inl);refine⟨_,aq.x (h4) (sd (tw @au.eq_1 (tw @ab.eq_1 (tw @ae.eq_1 @hi)))),?_⟩;refine hN _ _ ?_;clear hN N)))
   exact aW (b:=decide (s.aB<=tR s.aH (gF l) p t)) (.inl rfl) (sd @Nat.zero_add) rfl
  ·have e:kc s l p t=false:=by
    have:¬gF l p<0:=fun h=>hi ((Ii hA p).1 h)
    simp[kc,this]
   rw[e]
   (repeat(first|((repeat(revert hN;revert N;apply Pn.out));refine wk (tw @au.eq_1 (tw @ab.eq_1 (tw @ae.eq_1 @hi))) ?_;(repeat(refine Pn.mk ?_;intro N hN)))|((try apply Or.inl);refine⟨_,aq.x (h1) (sd (tw @au.eq_1 (tw @ab.eq_1 (tw @ae.eq_1 @hi)))),?_⟩;refine hN _ _ ?_;clear hN N)|((try apply Or.inl);refine⟨_,aq.x (h2) (sd (tw @au.eq_1 (tw @ab.eq_1 (tw @ae.eq_1 @hi)))),?_⟩;refine hN _ _ ?_;clear hN N)|((try apply Or.inl);refine⟨_,aq.x (h3) (sd (tw @au.eq_1 (tw @ab.eq_1 (tw @ae.eq_1 @hi)))),?_⟩;refine hN _ _ ?_;clear hN N)))
   exact aW (b:=false) (.inl rfl) (sd @Nat.zero_add) rfl
 ·rw[Bool.not_eq_true]at h0
  rw[h0]at h1
  have e:kc s l p t=false:=by simp[kc,h0]
  rw[e]
  (repeat(first|((repeat(revert hN;revert N;apply Pn.out));refine wk (tw @au.eq_1 (tw @ab.eq_1 @ae.eq_1)) ?_;(repeat(refine Pn.mk ?_;intro N hN)))|((try apply Or.inl);refine⟨_,aq.x (h1) (sd (tw @au.eq_1 (tw @ab.eq_1 @ae.eq_1))),?_⟩;refine hN _ _ ?_;clear hN N)))
  exact aW (b:=false) (.inl rfl) (sd @Nat.zero_add) rfl
end Go.Proofs.YtgoljkjaameagaaGreat.V
