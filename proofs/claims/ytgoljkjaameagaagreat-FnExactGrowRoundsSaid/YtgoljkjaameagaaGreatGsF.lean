/- The network of the groups. -/
import Derived.Test.YtgoljkjaameagaaGreatGsE
import Derived.Test.YtgoljkjaameagaaGreatGsB
import Derived.Test.YtgoljkjaameagaaGreatGsC
import Derived.Test.YtgoljkjaameagaaGreatGsD
import Derived.Test.YtgoljkjaameagaaGreatChecked
set_option linter.unusedVariables false
set_option linter.unusedSimpArgs false
set_option maxRecDepth 100000
set_option maxHeartbeats 16000000
namespace Go.Proofs.YtgoljkjaameagaaGreat.V
open Go.RowKit
attribute [local irreducible] dK wpOps gw Call
attribute [local go_sem] aM fE eM fV fS dc upd cr K.av cI AV.cells AV.cell rowOf rowsOf part ld rowAt bE cj dy dS gU bJ cY ee fQ e6 dp dX cW cV dI dJ bP bc cL bL cP cN dV dY dW cK bU cX dU bK aO cR cC gT bw cG bQ aY dj aZ dz AV.undef bD bG dM dQ dE dG cE ec eh cz ea dZ cQ cU List.getD_cons_zero List.getD_cons_succ List.getD_nil List.all_cons List.all_nil Bool.and_true Bool.true_and Bool.and_self Bool.not_true Bool.not_false Option.map_some Option.map_none Option.bind_some Option.bind_none List.length_cons List.length_nil List.take_succ_cons List.take_zero List.take_nil List.drop_succ_cons List.drop_zero List.drop_nil List.head?_cons List.map_cons List.map_nil List.getElem?_cons_zero List.getElem?_cons_succ List.cons_append List.nil_append List.append_nil List.length_map List.set_cons_zero List.set_cons_succ Nat.reduceMul eq_self Int.toNat_natCast Int.natCast_nonneg and_self true_and and_true decide_true decide_false Bool.false_eq_true Nat.zero_add Nat.add_zero List.contains_cons List.contains_nil Bool.or_false Bool.false_or beq_self_eq_true Nat.reduceBEq ne_eq not_true_eq_false not_false_eq_true Id.mk.injEq false_and and_false Nat.reduceLT Int.reduceLE Int.reduceLT Int.reduceToNat Int.reduceNeg Int.reduceAdd Nat.le_refl List.length_append beq_true beq_false Bool.not_eq_eq_eq_not or_false false_or dH aj ar aH bh bz ck aV bd aX bf cJ bB
def Ce (bs:List PB):AV:=if bs=[]then .bI else .sl (bs.map aD)
theorem Qb:Ce []=.bI:=rfl
theorem Cf {bs:List PB} (h:0<bs.length):Ce bs=.sl (bs.map aD):=by
 unfold Ce
 rw[if_neg (by rintro rfl;simp at h)]
theorem zl (cnt:Nat) (uF:1<=cnt) (hn:cnt<=1048576) (bs:List PB) (hb:∀b∈bs,b.a<cnt/\b.b<cnt) (hp:0<bs.length) (nW:bs.length<=1048576) (t:Int):au Tryz.prog 287 [.int .i64 cnt,.sl (bs.map aD),.int .i64 t] (.gJ [.int .i64 (leads cnt (eL (aW t bs))).length,Ce (dF (eL (aW t bs)) bs)]):=by
 refine au.body eF rfl fun hl n0=>?_
 clear hl
 (try((repeat(revert hN;revert N;apply Pn.out));refine wk @Nat.zero_add ?_;(repeat(refine Pn.mk ?_;intro N hN))))
 refine .inr (aI _ _ _ _ _ (fun r σ1 hq=>?_) (Lf bs hp nW _))
 obtain⟨o,rfl,ho,Pa,Pb,VB⟩:=hq
 (try dsimp only at ho Pa Pb VB)
 refine hN _ _ ?_
 clear hN N
 (try((repeat(revert hN;revert N;apply Pn.out));refine wk @Nat.zero_add ?_;(repeat(refine Pn.mk ?_;intro N hN))))
 refine .inr (aI _ _ _ _ _ (fun r σ2 hq=>?_) (II bs t nW o ⟨287000000,n0⟩ _ ho (by rw[VB _ aT];simp only[go_sem, ↓reduceIte,Nat.reduceEqDiff,Nat.reduceAdd,Nat.reduceSub,Nat.reduceLeDiff,reduceCtorEq]) aT aT (by rintro rfl;simp only at Pa;omega)))
 obtain⟨rows,rfl,fu,hrt,pg,nX,LR⟩:=hq
 (try dsimp only at nX LR)
 refine hN _ _ ?_
 clear hN N
 have rm:=xP cnt uF hn (aW t bs) (fun b h=>hb b (yT h)) (by have:=ot t bs;omega)
 have hL:=vP (aW t bs)
 have hz:∀x,cZ (dH σ2.get) 6 [.int .i64 x,.own o 0 (aW t bs).length]=some [.int .i64 x,.sl ((aW t bs).map aD)]:=fun x=>by
  have:V.fz (dH σ2.get) 6 (.own o 0 (aW t bs).length)=some (.sl ((aW t bs).map aD)):=by
   rw[iy];simp only[dH,fu,Option.map_some,if_true]
   rw[if_pos ah,List.drop_zero,hrt,nT fun b=>Bo _ 4 b];rfl
  simp only[aj,ar,aH,this,Option.map_some]
 (try((repeat(revert hN;revert N;apply Pn.out));refine wk @Nat.zero_add ?_;(repeat(refine Pn.mk ?_;intro N hN))))
 refine .inl ⟨_,au.x rm (hz _),?_⟩
 refine hN _ _ ?_
 clear hN N
 generalize eL (aW t bs)=L at *
 have tZ:((fY cnt L).map CC).length=(leads cnt L).length:=by simp[fY]
 have XH:=kj cnt L
 have kb:(0:Int)<=(cnt:Int):=ah
 have qV:(cnt:Int)<=((16777216:Nat):Int):=ah
 have il:List.replicate cnt [AV.int .i64 0]=ef (di cnt L 0 0) cnt:=by rw[yW,pY]
 (try((repeat(revert hN;revert N;apply Pn.out));refine wk (tw @kb (tw @qV (tw @Int.le_refl (tw @tZ @il)))) ?_;(repeat(refine Pn.mk ?_;intro N hN))))
 refine aQ (fun n env st=>∃i:Nat,n=((leads cnt L).length)-i/\i<=((leads cnt L).length)/\env 27=.int .i64 (i:Int)/\st.get ⟨287002001,σ2.next+1⟩=some ⟨true,1,ef (di cnt L i 0) cnt⟩/\(σ2.next+1<st.next)) ((leads cnt L).length) ⟨0,ah,ah,sl (tw @il @tZ),sl (tw @il @tZ),aT⟩ ?_
 rintro n_c env_c st_c ⟨i,rfl,cle,c27,cg0,cI0⟩ jf
 have c1:=jf 1 (by kernel_rfl);have c8:=jf 8 (by kernel_rfl);have c9:=jf 9 (by kernel_rfl);have zi:=jf 25 (by kernel_rfl);have zj:=jf 26 (by kernel_rfl)
 simp only[go_sem, ↓reduceIte,Nat.reduceEqDiff,Nat.reduceAdd,Nat.reduceSub,Nat.reduceLeDiff,reduceCtorEq,il,tZ]at c1 c8 c9 zi zj
 clear jf
 by_cases hi:(i:Int)<((leads cnt L).length:Int)
 ·have hZ:∀{e:Env} {gg:Rows} {nx:Nat},(e 27=.int .i64 (IntKind.i64.wrap ((i:Int)+1)))->(gg ⟨287002001,σ2.next+1⟩=some ⟨true,1,ef (di cnt L (i+1) 0) cnt⟩)->(σ2.next+1<nx)->∃m0,m0<((leads cnt L).length)-i/\∃i:Nat,m0=((leads cnt L).length)-i/\i<=((leads cnt L).length)/\e 27=.int .i64 (i:Int)/\gg ⟨287002001,σ2.next+1⟩=some ⟨true,1,ef (di cnt L i 0) cnt⟩/\(σ2.next+1<nx):=fun x1 x2 x3=>⟨_,ah,i+1,rfl,ah,(by rw[x1,ay ah]),x2,x3⟩
  have fZ:i<(leads cnt L).length:=ah
  have jF:((fY cnt L).map CC)[i]? =some (CC (members cnt L (leads cnt L)[i])):=by simp[fY,fZ]
  have tY:(leads cnt L).getD i 0=(leads cnt L)[i]:=by simp[List.getD_eq_getElem?_getD,fZ]
  have mc:∀m,di cnt L i m=fun x=>if cu L x<i then cu L x else if x∈(members cnt L (leads cnt L)[i]).take m then i else 0:=fun m=>by unfold di;rw[tY]
  have s7:=fun x (hx:x<cnt)=>uN hL (n:=cnt) (k:=x) (i:=i) hx fZ
  have lk:(members cnt L (leads cnt L)[i]).Nodup:=List.nodup_range.filter _
  have SE:∀x∈members cnt L (leads cnt L)[i],x<cnt:=fun x hx=>(mJ.1 hx).1
  have hMc:(members cnt L (leads cnt L)[i]).length<=cnt:=by
   have:=List.length_filter_le (fun k=>L k==(leads cnt L)[i]) (List.range cnt)
   simpa[members]using this
  generalize members cnt L (leads cnt L)[i]=M at *
  have E0:(M.map eN).length=M.length:=by simp
  (try((repeat(revert hN;revert N;apply Pn.out));refine wk (tw @c27 (tw @cg0 (tw @c1 (tw @c8 (tw @c9 (tw @zi (tw @zj (tw @hi (tw @tZ (tw @jF (tw @CC.eq_1 @E0))))))))))) ?_;(repeat(refine Pn.mk ?_;intro N hN))))
  refine aQ (fun n env st=>∃m:Nat,n=(M.length)-m/\m<=(M.length)/\env 34=.int .i64 (m:Int)/\st.get ⟨287002001,σ2.next+1⟩=some ⟨true,1,ef (di cnt L i m) cnt⟩/\(σ2.next+1<st.next)) (M.length) ⟨0,ah,ah,sl (tw @c27 (tw @cg0 (tw @c1 (tw @c8 (tw @c9 (tw @zi (tw @zj @E0))))))),sl (tw @c27 (tw @cg0 (tw @c1 (tw @c8 (tw @c9 (tw @zi (tw @zj @E0))))))),aT⟩ ?_
  rintro n_d env_d st_d ⟨m,rfl,dle,d34,dg0,dI0⟩ dfr
  have d1:=dfr 1 (by kernel_rfl);have d8:=dfr 8 (by kernel_rfl);have d9:=dfr 9 (by kernel_rfl);have d10:=dfr 10 (by kernel_rfl);have d25:=dfr 25 (by kernel_rfl);have d26:=dfr 26 (by kernel_rfl);have d27:=dfr 27 (by kernel_rfl);have d32:=dfr 32 (by kernel_rfl);have d33:=dfr 33 (by kernel_rfl)
  simp only[go_sem, ↓reduceIte,Nat.reduceEqDiff,Nat.reduceAdd,Nat.reduceSub,Nat.reduceLeDiff,reduceCtorEq,c27,cg0,c1,c8,c9,zi,zj,E0]at d1 d8 d9 d10 d25 d26 d27 d32 d33
  clear dfr
  have tl:=gP (di cnt L i m) cnt
  by_cases hm:(m:Int)<(M.length:Int)
  ·have vV:∀{e:Env} {gg:Rows} {nx:Nat},(e 34=.int .i64 (IntKind.i64.wrap ((m:Int)+1)))->(gg ⟨287002001,σ2.next+1⟩=some ⟨true,1,ef (di cnt L i (m+1)) cnt⟩)->(σ2.next+1<nx)->∃m0,m0<(M.length)-m/\∃m:Nat,m0=(M.length)-m/\m<=(M.length)/\e 34=.int .i64 (m:Int)/\gg ⟨287002001,σ2.next+1⟩=some ⟨true,1,ef (di cnt L i m) cnt⟩/\(σ2.next+1<nx):=fun x1 x2 x3=>⟨_,ah,m+1,rfl,ah,(by rw[x1,ay ah]),x2,x3⟩
   have BC:m<M.length:=ah
   have ua:(M.map eN)[m]? =some (eN M[m]):=by simp[BC]
   have xU:=SE _ (List.getElem_mem BC)
   have CI:(M[m]:Int)<(cnt:Int):=ah
   have Fe:=fK (f:=di cnt L i m) xU
   have eb:(ef (di cnt L i m) cnt).set M[m] (eN i)=ef (di cnt L i (m+1)) cnt:=qO xU (by
    have h1:=(s7 _ xU).1 (List.getElem_mem BC)
    rw[mc]
    simp only[]
    rw[if_neg ah,if_pos (by rw[List.take_succ_eq_append_getElem BC];exact List.mem_append_right _ (List.mem_singleton.2 rfl))]) fun x hx iD=>by
    rw[mc,mc]
    simp only[]
    rw[List.take_succ_eq_append_getElem BC]
    simp only[List.mem_append,List.mem_singleton,iD,or_false]
   rw[eN]at eb Fe
   generalize M[m]=xm at *
   (try((repeat(revert hN;revert N;apply Pn.out));refine wk (tw @d34 (tw @dg0 (tw @d1 (tw @d8 (tw @d9 (tw @d10 (tw @d25 (tw @d26 (tw @d27 (tw @d32 (tw @d33 (tw @hm (tw @hi (tw @ua (tw @E0 (tw @CI (tw @Fe (tw @tl (tw @eb @eN.eq_1))))))))))))))))))) ?_;(repeat(refine Pn.mk ?_;intro N hN))))
   refine vV ?_ ?_ aT
   all_goals simp only[go_sem, ↓reduceIte,Nat.reduceEqDiff,Nat.reduceAdd,Nat.reduceSub,Nat.reduceLeDiff,reduceCtorEq,d34,dg0,d1,d8,d9,d10,d25,d26,d27,d32,d33,eb]
  ·have ik:m=M.length:=ah
   subst ik
   have qx:ef (di cnt L i M.length) cnt=ef (di cnt L (i+1) 0) cnt:=iL fun x hx=>by
    rw[mc,List.take_length]
    simp only[di,List.take_zero,List.not_mem_nil,if_false]
    have h1:=s7 x hx
    by_cases h2:cu L x<i
    ·rw[if_pos h2,if_pos ah]
    ·rw[if_neg h2]
     by_cases h3:x∈M
     ·rw[if_pos h3,if_pos (by have:=h1.1 h3;omega),h1.1 h3]
     ·rw[if_neg h3,if_neg fun h4=>h3 (h1.2 ah)]
   (try((repeat(revert hN;revert N;apply Pn.out));refine wk (tw @d34 (tw @dg0 (tw @d1 (tw @d8 (tw @d9 (tw @d10 (tw @d25 (tw @d26 (tw @d27 (tw @d32 (tw @d33 (tw @hm (tw @hi (tw @tZ @E0)))))))))))))) ?_;(repeat(refine Pn.mk ?_;intro N hN))))
   refine hZ ?_ ?_ aT
   all_goals simp only[go_sem, ↓reduceIte,Nat.reduceEqDiff,Nat.reduceAdd,Nat.reduceSub,Nat.reduceLeDiff,reduceCtorEq,c27,cg0,c1,c8,c9,zi,zj,d34,dg0,d1,d8,d9,d10,d25,d26,d27,d32,d33,qx]
 have mb:i=(leads cnt L).length:=ah
 subst mb
 have qw:ef (di cnt L (leads cnt L).length 0) cnt=ef (cu L) cnt:=iL fun x hx=>by rw[di,if_pos (kS hL hx)]
 rw[qw]at cg0
 have tl:=gP (cu L) cnt
 have Xv:(bs.map aD).length=bs.length:=by simp
 (try((repeat(revert hN;revert N;apply Pn.out));refine wk (tw @c27 (tw @cg0 (tw @c1 (tw @c8 (tw @c9 (tw @zi (tw @zj (tw @hi (tw @tZ @Xv))))))))) ?_;(repeat(refine Pn.mk ?_;intro N hN))))
 have Xy:σ2.next+1<st_c.next:=cI0
 refine aQ (fun n env st=>∃j:Nat,n=(bs.length)-j/\j<=(bs.length)/\env 46=.int .i64 (j:Int)/\st.get ⟨287002001,σ2.next+1⟩=some ⟨true,1,ef (cu L) cnt⟩/\(st_c.next<=st.next/\((dF L (bs.take j)=[]/\env 14=.bI)∨∃p:Id,env 14=.own p 0 (dF L (bs.take j)).length/\st.get p=some ⟨true,3,(dF L (bs.take j)).map aD⟩/\st_c.next<=p.bj/\p.bj<st.next/\0<(dF L (bs.take j)).length))) (bs.length) ⟨0,ah,ah,sl (tw @c27 (tw @cg0 (tw @c1 (tw @c8 (tw @c9 (tw @zi (tw @zj @Xv))))))),sl (tw @c27 (tw @cg0 (tw @c1 (tw @c8 (tw @c9 (tw @zi (tw @zj @Xv))))))),⟨aT,.inl ⟨rfl,by(simp only[go_sem, ↓reduceIte,Nat.reduceEqDiff,Nat.reduceAdd,Nat.reduceSub,Nat.reduceLeDiff,reduceCtorEq])⟩⟩⟩ ?_
 rintro n_f env_f st_f ⟨j,rfl,fle,f46,fg0,fI0⟩ ffr
 have f1:=ffr 1 (by kernel_rfl);have f8:=ffr 8 (by kernel_rfl);have f9:=ffr 9 (by kernel_rfl);have f44:=ffr 44 (by kernel_rfl);have f45:=ffr 45 (by kernel_rfl)
 simp only[go_sem, ↓reduceIte,Nat.reduceEqDiff,Nat.reduceAdd,Nat.reduceSub,Nat.reduceLeDiff,reduceCtorEq,c27,cg0,c1,c8,c9,zi,zj,Xv]at f1 f8 f9 f44 f45
 clear ffr
 obtain⟨Ui,fO⟩:=fI0
 have Jh:=db (i:=⟨287002001,σ2.next+1⟩) (n:=st_f.next) aT
 have vJ:=(oq L (bs.take j)).1
 rw[List.length_take]at vJ
 by_cases hj:(j:Int)<(bs.length:Int)
 ·have tr:∀{e:Env} {gg:Rows} {nx:Nat},(e 46=.int .i64 (IntKind.i64.wrap ((j:Int)+1)))->(gg ⟨287002001,σ2.next+1⟩=some ⟨true,1,ef (cu L) cnt⟩)->(st_c.next<=nx/\((dF L (bs.take (j+1))=[]/\e 14=.bI)∨∃p:Id,e 14=.own p 0 (dF L (bs.take (j+1))).length/\gg p=some ⟨true,3,(dF L (bs.take (j+1))).map aD⟩/\st_c.next<=p.bj/\p.bj<nx/\0<(dF L (bs.take (j+1))).length))->∃m0,m0<(bs.length)-j/\∃j:Nat,m0=(bs.length)-j/\j<=(bs.length)/\e 46=.int .i64 (j:Int)/\gg ⟨287002001,σ2.next+1⟩=some ⟨true,1,ef (cu L) cnt⟩/\(st_c.next<=nx/\((dF L (bs.take j)=[]/\e 14=.bI)∨∃p:Id,e 14=.own p 0 (dF L (bs.take j)).length/\gg p=some ⟨true,3,(dF L (bs.take j)).map aD⟩/\st_c.next<=p.bj/\p.bj<nx/\0<(dF L (bs.take j)).length)):=fun x1 x2 x3=>⟨_,ah,j+1,rfl,ah,(by rw[x1,ay ah]),x2,x3⟩
  have ga:j<bs.length:=ah
  have y8:(bs.map aD)[j]? =some (aD bs[j]):=by simp[ga]
  have OY:=hb _ (List.getElem_mem ga)
  have hs:=Cb L (bs.take j) bs[j]
  rw[<-List.take_succ_eq_append_getElem ga]at hs
  generalize bs[j]=b at *
  have hA:=fK (f:=cu L) OY.1
  have hB:=fK (f:=cu L) OY.2
  have ij:(b.a:Int)<(cnt:Int):=ah
  have fR:(b.b:Int)<(cnt:Int):=ah
  rw[eN]at hA hB
  have e1:(dF L (bs.take j)).length+1<=16777216:=ah
  have ik:((dF L (bs.take j)).map aD).length=(dF L (bs.take j)).length:=by simp
  by_cases he:cu L b.a=cu L b.b
  ·rw[if_pos he,List.append_nil]at hs
   have w5:decide ((cu L b.a:Int)=(cu L b.b:Int))=true:=decide_eq_true (by rw[he])
   (try((repeat(revert hN;revert N;apply Pn.out));refine wk (tw @f46 (tw @fg0 (tw @f1 (tw @f8 (tw @f9 (tw @f44 (tw @f45 (tw @hj (tw @y8 (tw @hA (tw @hB (tw @ij (tw @fR (tw @tl (tw @w5 (tw @Jh (tw @aD.eq_1 (tw @Bool.not_true @Bool.not_false)))))))))))))))))) ?_;(repeat(refine Pn.mk ?_;intro N hN))))
   refine tr ?_ ?_ (by(try dsimp only);exact⟨ah,by
    rw[hs]
    rcases fO with⟨h1,h2⟩|⟨p,h1,h2,h3,h4,h5⟩
    ·exact .inl ⟨h1,sd @h2⟩
    ·have CH:=db h4
     exact .inr ⟨p,sd @h1,sd (tw @h2 @CH),h3,ah,h5⟩⟩)
   all_goals simp only[go_sem, ↓reduceIte,Nat.reduceEqDiff,Nat.reduceAdd,Nat.reduceSub,Nat.reduceLeDiff,reduceCtorEq,f46,fg0,f1,f8,f9,f44,f45,Jh]
  ·rw[if_neg he]at hs
   have w5:decide ((cu L b.a:Int)=(cu L b.b:Int))=false:=decide_eq_false fun h=>he ah
   rcases fO with⟨h1,f14⟩|⟨p,f14,fg,Pc,E9,hp3⟩
   ·rw[h1]at hs
    (try((repeat(revert hN;revert N;apply Pn.out));refine wk (tw @f46 (tw @fg0 (tw @f1 (tw @f8 (tw @f9 (tw @f44 (tw @f45 (tw @f14 (tw @hj (tw @y8 (tw @hA (tw @hB (tw @ij (tw @fR (tw @tl (tw @w5 (tw @Jh (tw @aD.eq_1 (tw @Bool.not_true @Bool.not_false))))))))))))))))))) ?_;(repeat(refine Pn.mk ?_;intro N hN))))
    refine tr ?_ ?_ (by(try dsimp only);exact⟨ah,.inr ⟨⟨287017015,st_f.next+1+1+1⟩,by rw[hs];simp only[go_sem, ↓reduceIte,Nat.reduceEqDiff,Nat.reduceAdd,Nat.reduceSub,Nat.reduceLeDiff,reduceCtorEq,List.nil_append,List.length_cons,List.length_nil],by rw[hs];simp only[go_sem, ↓reduceIte,Nat.reduceEqDiff,Nat.reduceAdd,Nat.reduceSub,Nat.reduceLeDiff,reduceCtorEq,aD,List.nil_append,List.map_cons,List.map_nil],aT,aT,by rw[hs];simp⟩⟩)
    all_goals simp only[go_sem, ↓reduceIte,Nat.reduceEqDiff,Nat.reduceAdd,Nat.reduceSub,Nat.reduceLeDiff,reduceCtorEq,f46,fg0,f1,f8,f9,f44,f45,Jh]
   ·have x1:=bH (a:=⟨287002001,σ2.next+1⟩) (b:=p) aT
    have CH:=db E9
    (try((repeat(revert hN;revert N;apply Pn.out));refine wk (tw @f46 (tw @fg0 (tw @f1 (tw @f8 (tw @f9 (tw @f44 (tw @f45 (tw @f14 (tw @fg (tw @hj (tw @y8 (tw @hA (tw @hB (tw @ij (tw @fR (tw @tl (tw @w5 (tw @x1 (tw @CH (tw @Jh (tw @e1 (tw @ik (tw @aD.eq_1 (tw @Bool.not_true @Bool.not_false)))))))))))))))))))))))) ?_;(repeat(refine Pn.mk ?_;intro N hN))))
    refine tr ?_ ?_ (by(try dsimp only);exact⟨ah,.inr ⟨⟨287017015,st_f.next+1+1+1⟩,by rw[hs,List.length_append];simp only[go_sem, ↓reduceIte,Nat.reduceEqDiff,Nat.reduceAdd,Nat.reduceSub,Nat.reduceLeDiff,reduceCtorEq,List.length_cons,List.length_nil],by rw[hs,List.map_append,List.map_cons,List.map_nil];simp only[go_sem, ↓reduceIte,Nat.reduceEqDiff,Nat.reduceAdd,Nat.reduceSub,Nat.reduceLeDiff,reduceCtorEq,aD],aT,aT,by rw[hs];simp⟩⟩)
    all_goals simp only[go_sem, ↓reduceIte,Nat.reduceEqDiff,Nat.reduceAdd,Nat.reduceSub,Nat.reduceLeDiff,reduceCtorEq,f46,fg0,f1,f8,f9,f44,f45,x1,Jh]
 ·have gY:j=bs.length:=ah
  subst gY
  rw[List.take_length]at fO
  rcases fO with⟨h1,f14⟩|⟨p,f14,fg,Pc,E9,hp3⟩
  ·(try((repeat(revert hN;revert N;apply Pn.out));refine wk (tw @f46 (tw @fg0 (tw @f1 (tw @f8 (tw @f9 (tw @f44 (tw @f45 (tw @f14 (tw @hj @tZ))))))))) ?_;(repeat(refine Pn.mk ?_;intro N hN))))
   refine jU (.inl rfl) (r1:=.int .i64 ((leads cnt L).length:Int)) (sd @Nat.zero_add) (by simp only[go_sem, ↓reduceIte,Nat.reduceEqDiff,Nat.reduceAdd,Nat.reduceSub,Nat.reduceLeDiff,reduceCtorEq];rfl) ?_
   simp only[fH,bW,cF,eO,kO,h1,Qb,Option.map_some]
  ·(try((repeat(revert hN;revert N;apply Pn.out));refine wk (tw @f46 (tw @fg0 (tw @f1 (tw @f8 (tw @f9 (tw @f44 (tw @f45 (tw @f14 (tw @hj @tZ))))))))) ?_;(repeat(refine Pn.mk ?_;intro N hN))))
   refine jU (.inl rfl) (r1:=.int .i64 ((leads cnt L).length:Int)) (sd @Nat.zero_add) (by simp only[go_sem, ↓reduceIte,Nat.reduceEqDiff,Nat.reduceAdd,Nat.reduceSub,Nat.reduceLeDiff,reduceCtorEq];rfl) ?_
   have h1:gF st_f.get 5 (.own p 0 (dF L bs).length)=some (.sl ((dF L bs).map aD)):=gq (sz:=3) fg rfl fun b=>wV _ 3 b
   simp only[fH,bW,cF,eO,h1,Cf hp3,Option.map_some]
theorem zk (cnt:Nat) (uF:1<=cnt) (hn:cnt<=1048576) (t:Int):au Tryz.prog 287 [.int .i64 cnt,.bI,.int .i64 t] (.gJ [.int .i64 cnt,.bI]):=by
 refine au.body eF rfl fun hl n0=>?_
 clear hl
 have h1:au Tryz.prog 322 [.bI] .bI:=by
  refine au.body eF rfl fun hl n0=>?_
  clear hl
  (try((repeat(revert hN;revert N;apply Pn.out));refine wk @Nat.zero_add ?_;(repeat(refine Pn.mk ?_;intro N hN))))
  exact yL (.inl rfl) (r0:=.bI) (sd @Nat.zero_add) (kO _ _)
 have h2:au Tryz.prog 321 [.bI,.fn 323 [.dn [.int .i64 t]]] .bI:=by
  have E7:=(Al [] t (by simp)).cut mixed (.bI (.same _ .nil))
  refine au.body eF rfl fun hl n0=>?_
  clear hl
  (try((repeat(revert hN;revert N;apply Pn.out));refine wk @Nat.zero_add ?_;(repeat(refine Pn.mk ?_;intro N hN))))
  refine .inl ⟨_,au.x E7 (by simp only[aj,ar,aV,cJ,aX,List.all_cons,List.all_nil,AV.cell,Bool.and_true,if_true,Option.map_some]),?_⟩
  refine hN _ _ ?_
  clear hN N
  have hd:decide (k6 (fun b:PB=>decide (b.s<t)) []= -1)=true:=rfl
  (try((repeat(revert hN;revert N;apply Pn.out));refine wk @hd ?_;(repeat(refine Pn.mk ?_;intro N hN))))
  exact yL (.inl rfl) (r0:=.bI) (sd @Nat.zero_add) (kO _ _)
 have rm:=(xP cnt uF hn [] (fun b h=>by cases h) (by simp)).cut mixed (.same _ (.bI .nil))
 (repeat(first|((repeat(revert hN;revert N;apply Pn.out));refine wk @Nat.zero_add ?_;(repeat(refine Pn.mk ?_;intro N hN)))|((try apply Or.inl);refine⟨_,au.x (h1) (sd @Nat.zero_add),?_⟩;refine hN _ _ ?_;clear hN N)))
 refine .inl ⟨_,au.x h2 ?_,?_⟩
 ·have:V.fz (dH (bE (fun _=>none) ⟨287000000,n0⟩ ⟨true,1,[[.int .i64 t]]⟩)) 5 (.ptr ⟨287000000,n0⟩ 0 0)=some (.dn [.int .i64 t]):=rT (sz:=1) (rows:=[[.int .i64 t]]) (by simp[dH,bE]) rfl (by simp only[List.drop_zero,aj,ar,aH,Option.map_some])
  simp only[aj,ar,aV,cJ,this,List.all_cons,List.all_nil,AV.cell,Bool.and_true,if_true,Option.map_some]
 refine hN _ _ ?_
 clear hN N
 have fR:eL ([]:List PB)=id:=rfl
 rw[fR]at rm
 have hL:j8 id:=fR▸vP ([]:List PB)
 have Ul:(leads cnt id).length=cnt:=by rw[leads,List.filter_eq_self.2 (fun a _=>by simp)];simp
 generalize (id:Nat->Nat)=L at *
 have tZ:((fY cnt L).map CC).length=(leads cnt L).length:=by simp[fY]
 have XH:=kj cnt L
 have kb:(0:Int)<=(cnt:Int):=ah
 have qV:(cnt:Int)<=((16777216:Nat):Int):=ah
 have il:List.replicate cnt [AV.int .i64 0]=ef (di cnt L 0 0) cnt:=by rw[yW,pY]
 (repeat(first|((repeat(revert hN;revert N;apply Pn.out));refine wk (tw @kb (tw @qV (tw @Int.le_refl (tw @tZ @il)))) ?_;(repeat(refine Pn.mk ?_;intro N hN)))|((try apply Or.inl);refine⟨_,au.x (rm) (sd (tw @kb (tw @qV (tw @Int.le_refl (tw @tZ @il))))),?_⟩;refine hN _ _ ?_;clear hN N)))
 refine aQ (fun n env st=>∃i:Nat,n=((leads cnt L).length)-i/\i<=((leads cnt L).length)/\env 27=.int .i64 (i:Int)/\st.get ⟨287002001,n0+1+1⟩=some ⟨true,1,ef (di cnt L i 0) cnt⟩/\(n0+1+1<st.next)) ((leads cnt L).length) ⟨0,ah,ah,sl (tw @il @tZ),sl (tw @il @tZ),aT⟩ ?_
 rintro n_c env_c st_c ⟨i,rfl,cle,c27,cg0,cI0⟩ jf
 have c1:=jf 1 (by kernel_rfl);have c8:=jf 8 (by kernel_rfl);have c9:=jf 9 (by kernel_rfl);have zi:=jf 25 (by kernel_rfl);have zj:=jf 26 (by kernel_rfl)
 simp only[go_sem, ↓reduceIte,Nat.reduceEqDiff,Nat.reduceAdd,Nat.reduceSub,Nat.reduceLeDiff,reduceCtorEq,il,tZ]at c1 c8 c9 zi zj
 clear jf
 by_cases hi:(i:Int)<((leads cnt L).length:Int)
 ·have hZ:∀{e:Env} {gg:Rows} {nx:Nat},(e 27=.int .i64 (IntKind.i64.wrap ((i:Int)+1)))->(gg ⟨287002001,n0+1+1⟩=some ⟨true,1,ef (di cnt L (i+1) 0) cnt⟩)->(n0+1+1<nx)->∃m0,m0<((leads cnt L).length)-i/\∃i:Nat,m0=((leads cnt L).length)-i/\i<=((leads cnt L).length)/\e 27=.int .i64 (i:Int)/\gg ⟨287002001,n0+1+1⟩=some ⟨true,1,ef (di cnt L i 0) cnt⟩/\(n0+1+1<nx):=fun x1 x2 x3=>⟨_,ah,i+1,rfl,ah,(by rw[x1,ay ah]),x2,x3⟩
  have fZ:i<(leads cnt L).length:=ah
  have jF:((fY cnt L).map CC)[i]? =some (CC (members cnt L (leads cnt L)[i])):=by simp[fY,fZ]
  have tY:(leads cnt L).getD i 0=(leads cnt L)[i]:=by simp[List.getD_eq_getElem?_getD,fZ]
  have mc:∀m,di cnt L i m=fun x=>if cu L x<i then cu L x else if x∈(members cnt L (leads cnt L)[i]).take m then i else 0:=fun m=>by unfold di;rw[tY]
  have s7:=fun x (hx:x<cnt)=>uN hL (n:=cnt) (k:=x) (i:=i) hx fZ
  have lk:(members cnt L (leads cnt L)[i]).Nodup:=List.nodup_range.filter _
  have SE:∀x∈members cnt L (leads cnt L)[i],x<cnt:=fun x hx=>(mJ.1 hx).1
  have hMc:(members cnt L (leads cnt L)[i]).length<=cnt:=by
   have:=List.length_filter_le (fun k=>L k==(leads cnt L)[i]) (List.range cnt)
   simpa[members]using this
  generalize members cnt L (leads cnt L)[i]=M at *
  have E0:(M.map eN).length=M.length:=by simp
  (try((repeat(revert hN;revert N;apply Pn.out));refine wk (tw @c27 (tw @cg0 (tw @c1 (tw @c8 (tw @c9 (tw @zi (tw @zj (tw @hi (tw @tZ (tw @jF (tw @CC.eq_1 @E0))))))))))) ?_;(repeat(refine Pn.mk ?_;intro N hN))))
  refine aQ (fun n env st=>∃m:Nat,n=(M.length)-m/\m<=(M.length)/\env 34=.int .i64 (m:Int)/\st.get ⟨287002001,n0+1+1⟩=some ⟨true,1,ef (di cnt L i m) cnt⟩/\(n0+1+1<st.next)) (M.length) ⟨0,ah,ah,sl (tw @c27 (tw @cg0 (tw @c1 (tw @c8 (tw @c9 (tw @zi (tw @zj @E0))))))),sl (tw @c27 (tw @cg0 (tw @c1 (tw @c8 (tw @c9 (tw @zi (tw @zj @E0))))))),aT⟩ ?_
  rintro n_d env_d st_d ⟨m,rfl,dle,d34,dg0,dI0⟩ dfr
  have d1:=dfr 1 (by kernel_rfl);have d8:=dfr 8 (by kernel_rfl);have d9:=dfr 9 (by kernel_rfl);have d10:=dfr 10 (by kernel_rfl);have d25:=dfr 25 (by kernel_rfl);have d26:=dfr 26 (by kernel_rfl);have d27:=dfr 27 (by kernel_rfl);have d32:=dfr 32 (by kernel_rfl);have d33:=dfr 33 (by kernel_rfl)
  simp only[go_sem, ↓reduceIte,Nat.reduceEqDiff,Nat.reduceAdd,Nat.reduceSub,Nat.reduceLeDiff,reduceCtorEq,c27,cg0,c1,c8,c9,zi,zj,E0]at d1 d8 d9 d10 d25 d26 d27 d32 d33
  clear dfr
  have tl:=gP (di cnt L i m) cnt
  by_cases hm:(m:Int)<(M.length:Int)
  ·have vV:∀{e:Env} {gg:Rows} {nx:Nat},(e 34=.int .i64 (IntKind.i64.wrap ((m:Int)+1)))->(gg ⟨287002001,n0+1+1⟩=some ⟨true,1,ef (di cnt L i (m+1)) cnt⟩)->(n0+1+1<nx)->∃m0,m0<(M.length)-m/\∃m:Nat,m0=(M.length)-m/\m<=(M.length)/\e 34=.int .i64 (m:Int)/\gg ⟨287002001,n0+1+1⟩=some ⟨true,1,ef (di cnt L i m) cnt⟩/\(n0+1+1<nx):=fun x1 x2 x3=>⟨_,ah,m+1,rfl,ah,(by rw[x1,ay ah]),x2,x3⟩
   have BC:m<M.length:=ah
   have ua:(M.map eN)[m]? =some (eN M[m]):=by simp[BC]
   have xU:=SE _ (List.getElem_mem BC)
   have CI:(M[m]:Int)<(cnt:Int):=ah
   have Fe:=fK (f:=di cnt L i m) xU
   have eb:(ef (di cnt L i m) cnt).set M[m] (eN i)=ef (di cnt L i (m+1)) cnt:=qO xU (by
    have h1:=(s7 _ xU).1 (List.getElem_mem BC)
    rw[mc]
    simp only[]
    rw[if_neg ah,if_pos (by rw[List.take_succ_eq_append_getElem BC];exact List.mem_append_right _ (List.mem_singleton.2 rfl))]) fun x hx iD=>by
    rw[mc,mc]
    simp only[]
    rw[List.take_succ_eq_append_getElem BC]
    simp only[List.mem_append,List.mem_singleton,iD,or_false]
   rw[eN]at eb Fe
   generalize M[m]=xm at *
   (try((repeat(revert hN;revert N;apply Pn.out));refine wk (tw @d34 (tw @dg0 (tw @d1 (tw @d8 (tw @d9 (tw @d10 (tw @d25 (tw @d26 (tw @d27 (tw @d32 (tw @d33 (tw @hm (tw @hi (tw @ua (tw @E0 (tw @CI (tw @Fe (tw @tl (tw @eb @eN.eq_1))))))))))))))))))) ?_;(repeat(refine Pn.mk ?_;intro N hN))))
   refine vV ?_ ?_ aT
   all_goals simp only[go_sem, ↓reduceIte,Nat.reduceEqDiff,Nat.reduceAdd,Nat.reduceSub,Nat.reduceLeDiff,reduceCtorEq,d34,dg0,d1,d8,d9,d10,d25,d26,d27,d32,d33,eb]
  ·have ik:m=M.length:=ah
   subst ik
   have qx:ef (di cnt L i M.length) cnt=ef (di cnt L (i+1) 0) cnt:=iL fun x hx=>by
    rw[mc,List.take_length]
    simp only[di,List.take_zero,List.not_mem_nil,if_false]
    have h1:=s7 x hx
    by_cases h2:cu L x<i
    ·rw[if_pos h2,if_pos ah]
    ·rw[if_neg h2]
     by_cases h3:x∈M
     ·rw[if_pos h3,if_pos (by have:=h1.1 h3;omega),h1.1 h3]
     ·rw[if_neg h3,if_neg fun h4=>h3 (h1.2 ah)]
   (try((repeat(revert hN;revert N;apply Pn.out));refine wk (tw @d34 (tw @dg0 (tw @d1 (tw @d8 (tw @d9 (tw @d10 (tw @d25 (tw @d26 (tw @d27 (tw @d32 (tw @d33 (tw @hm (tw @hi (tw @tZ @E0)))))))))))))) ?_;(repeat(refine Pn.mk ?_;intro N hN))))
   refine hZ ?_ ?_ aT
   all_goals simp only[go_sem, ↓reduceIte,Nat.reduceEqDiff,Nat.reduceAdd,Nat.reduceSub,Nat.reduceLeDiff,reduceCtorEq,c27,cg0,c1,c8,c9,zi,zj,d34,dg0,d1,d8,d9,d10,d25,d26,d27,d32,d33,qx]
 have mb:i=(leads cnt L).length:=ah
 subst mb
 have qw:ef (di cnt L (leads cnt L).length 0) cnt=ef (cu L) cnt:=iL fun x hx=>by rw[di,if_pos (kS hL hx)]
 rw[qw]at cg0
 have tl:=gP (cu L) cnt
 (try((repeat(revert hN;revert N;apply Pn.out));refine wk (tw @c27 (tw @cg0 (tw @c1 (tw @c8 (tw @c9 (tw @zi (tw @zj (tw @hi @tZ)))))))) ?_;(repeat(refine Pn.mk ?_;intro N hN))))
 refine aQ (fun n env st=>∃j:Nat,n=(0)-j/\j<=(0)/\env 46=.int .i64 (j:Int)/\env 14=.bI) (0) ⟨0,ah,ah,sl (tw @c27 (tw @cg0 (tw @c1 (tw @c8 (tw @c9 (tw @zi @zj)))))),sl (tw @c27 (tw @cg0 (tw @c1 (tw @c8 (tw @c9 (tw @zi @zj))))))⟩ ?_
 rintro n_f env_f st_f ⟨j,rfl,fle,f46,f14⟩ ffr
 have f8:=ffr 8 (by kernel_rfl);have f44:=ffr 44 (by kernel_rfl);have f45:=ffr 45 (by kernel_rfl)
 simp only[go_sem, ↓reduceIte,Nat.reduceEqDiff,Nat.reduceAdd,Nat.reduceSub,Nat.reduceLeDiff,reduceCtorEq,c27,cg0,c1,c8,c9,zi,zj]at f8 f44 f45
 clear ffr
 have hj:¬(j:Int)<((0:Nat):Int):=ah
 (try((repeat(revert hN;revert N;apply Pn.out));refine wk (tw @f46 (tw @f14 (tw @f8 (tw @f44 (tw @f45 (tw @hj @tZ)))))) ?_;(repeat(refine Pn.mk ?_;intro N hN))))
 refine jU (.inl rfl) (r1:=.int .i64 ((leads cnt L).length:Int)) (r2:=.bI) (sd @Nat.zero_add) (sd @Nat.zero_add) ?_
 simp only[fH,bW,cF,eO,kO,Ul,Option.map_some]
theorem Bg (cnt:Nat) (uF:1<=cnt) (hn:cnt<=1048576) (bs:List PB) (hb:∀b∈bs,b.a<cnt/\b.b<cnt) (nW:bs.length<=1048576) (t:Int):au Tryz.prog 287 [.int .i64 cnt,Ce bs,.int .i64 t] (.gJ [.int .i64 (leads cnt (eL (aW t bs))).length,Ce (dF (eL (aW t bs)) bs)]):=by
 cases bs with
 |nil=>
  have h:=zk cnt uF hn t
  have Ul:(leads cnt (eL (aW t []))).length=cnt:=by
   show(leads cnt id).length=cnt
   rw[leads,List.filter_eq_self.2 (fun a _=>by simp)];simp
  rw[Ul]
  exact h
 |cons b r=>
  rw[Cf (by simp)]
  exact zl cnt uF hn (b::r) hb (by simp) nW t
end Go.Proofs.YtgoljkjaameagaaGreat.V

namespace Go.Proofs.YtgoljkjaameagaaGreat.V
open Go.RowKit
attribute [local irreducible] dK wpOps gw Call
attribute [local go_sem] aM fE eM fV fS dc upd cr K.av cI AV.cells AV.cell rowOf rowsOf part ld rowAt bE cj dy dS gU bJ cY ee fQ e6 dp dX cW cV dI dJ bP bc cL bL cP cN dV dY dW cK bU cX dU bK aO cR cC gT bw cG bQ aY dj aZ dz AV.undef bD bG dM dQ dE dG cE ec eh cz ea dZ cQ cU List.getD_cons_zero List.getD_cons_succ List.getD_nil List.all_cons List.all_nil Bool.and_true Bool.true_and Bool.and_self Bool.not_true Bool.not_false Option.map_some Option.map_none Option.bind_some Option.bind_none List.length_cons List.length_nil List.take_succ_cons List.take_zero List.take_nil List.drop_succ_cons List.drop_zero List.drop_nil List.head?_cons List.map_cons List.map_nil List.getElem?_cons_zero List.getElem?_cons_succ List.cons_append List.nil_append List.append_nil List.length_map List.set_cons_zero List.set_cons_succ Nat.reduceMul eq_self Int.toNat_natCast Int.natCast_nonneg and_self true_and and_true decide_true decide_false Bool.false_eq_true Nat.zero_add Nat.add_zero List.contains_cons List.contains_nil Bool.or_false Bool.false_or beq_self_eq_true Nat.reduceBEq ne_eq not_true_eq_false not_false_eq_true Id.mk.injEq false_and and_false Nat.reduceLT Int.reduceLE Int.reduceLT Int.reduceToNat Int.reduceNeg Int.reduceAdd Nat.le_refl List.length_append beq_true beq_false Bool.not_eq_eq_eq_not or_false false_or dH aj ar aH bh bz ck aV bd aX bf cJ bB
attribute [local go_sem] Ig
section
attribute [-go_sem] dy
theorem PL (n:Nat) (hn:n<=1048576):au Tryz.prog 340 [.int .u64 1,.int .u64 n] (.gJ [.int .u64 0,.int .u64 n]):=by
 refine au.body eF rfl fun hl n0=>?_
 clear hl
 have b1:(BitVec.ofInt 64 (n:Int)&&& BitVec.ofInt 64 4294967295).toNat=n:=by
  rw[BitVec.toNat_and]
  have e1:(BitVec.ofInt 64 (n:Int)).toNat=n:=by rw[BitVec.toNat_ofInt];omega
  have e2:(BitVec.ofInt 64 4294967295).toNat=2 ^ 32-1:=by decide
  rw[e1,e2]
  exact Nat.and_two_pow_sub_one_of_lt_two_pow ah
 have zn:IntKind.u64.wrap (n:Int)=n:=by rw[IntKind.wrap_u64];omega
 have i1:dy .and .u64 (n:Int) 4294967295=some (.int .u64 n):=by
  show some (AV.int .u64 (IntKind.u64.wrap (((BitVec.ofInt 64 (n:Int)&&& BitVec.ofInt 64 4294967295).toNat:Nat):Int)))= _
  rw[b1,zn]
 have i2:dy .and .u64 1 4294967295=some (.int .u64 1):=rfl
 have i3:dy .and .u64 0 4294967295=some (.int .u64 0):=rfl
 have i4:dy .mul .u64 1 (n:Int)=some (.int .u64 n):=by simp only[dy,Int.one_mul,zn]
 have i5:dy .mul .u64 0 (n:Int)=some (.int .u64 0):=by simp only[dy,Int.zero_mul];rfl
 have i6:dy .mul .u64 1 0=some (.int .u64 0):=rfl
 have i7:dy .mul .u64 0 0=some (.int .u64 0):=rfl
 have i8:dy .add .u64 0 0=some (.int .u64 0):=rfl
 have a3:Int.fdiv 1 (2 ^ min 32 64)=0:=by decide
 have a4:Int.fdiv (n:Int) (2 ^ min 32 64)=0:=by
  rw[Int.fdiv_eq_ediv_of_nonneg _ (by decide)]
  have h32:(2:Int) ^ min 32 64=4294967296:=by decide
  exact Int.ediv_eq_zero_of_lt ah ah
 have z1:Int.fdiv 0 (2 ^ min 32 64)=0:=by decide
 (try((repeat(revert hN;revert N;apply Pn.out));refine wk (tw @i1 (tw @i2 (tw @i3 (tw @i4 (tw @i5 (tw @i6 (tw @i7 (tw @i8 (tw @a3 (tw @a4 @z1)))))))))) ?_;(repeat(refine Pn.mk ?_;intro N hN))))
 refine jU (.inl rfl) (r1:=.int .u64 0) (r2:=.int .u64 n) (sd @Nat.zero_add) (sd @Nat.zero_add) ?_
 simp only[fH,bW,cF,eO,Option.map_some]
end
theorem Wo (n:Nat) (hn:n<=1048576):au Tryz.prog 337 [.int .u64 1,.int .u64 n] (.gJ [.int .u64 0,.int .u64 n]):=by
 refine au.body eF rfl fun hl n0=>?_
 clear hl
 have h:=PL n hn
 (repeat(first|((repeat(revert hN;revert N;apply Pn.out));refine wk @Nat.zero_add ?_;(repeat(refine Pn.mk ?_;intro N hN)))|((try apply Or.inl);refine⟨_,au.x (h) (sd @Nat.zero_add),?_⟩;refine hN _ _ ?_;clear hN N)))
 refine jU (.inl rfl) (r1:=.int .u64 0) (r2:=.int .u64 n) (sd @Nat.zero_add) (sd @Nat.zero_add) ?_
 simp only[fH,bW,cF,eO,Option.map_some]
theorem MZ (cnt:Nat) (uF:1<=cnt) (hn:cnt<=1048576) (v:Int) (x:Id) (σ:aw) (hx:σ.get x=some ⟨true,1,[[.int .i64 v]]⟩) (SZ:x.bj<σ.next):
  Call Tryz.prog 327 [.own x 0 1,.int .i64 cnt] σ fun r σ'=>∃o:Id,r=.own o 0 cnt/\σ'.get o=some ⟨true,1,List.replicate cnt [.int .i64 v]⟩/\σ.next<=o.bj/\o.bj<σ'.next/\∀i:Id,i.bj<σ.next->σ'.get i=σ.get i:=by
 refine eA eF rfl fun hl=>?_
 clear hl
 have h:=Wo cnt hn
 have w1:IntKind.u64.wrap (cnt:Int)=cnt:=by rw[IntKind.wrap_u64];omega
 have w2:IntKind.i64.wrap (cnt:Int)=cnt:=NK ah
 have w0:IntKind.u64.wrap ((1:Nat):Int)=1:=by decide
 have g1:¬(cnt:Int)<0:=ah
 have g2:¬(9223372036854775807:Int)<cnt:=ah
 have kb:(0:Int)<=(cnt:Int):=ah
 have qV:(cnt:Int)<=((16777216:Nat):Int):=ah
 have Uv:=db SZ
 have pg:(List.replicate cnt [AV.int .i64 0]).length=cnt:=List.length_replicate
 have m1:min 1 cnt=1:=ah
 (repeat(first|((repeat(revert hN;revert N;apply Pn.out));refine wk (tw @w0 (tw @w1 (tw @w2 (tw @g1 (tw @g2 (tw @kb (tw @qV (tw @Int.le_refl (tw @Nat.le_refl (tw @hx (tw @Uv (tw @pg @m1)))))))))))) ?_;(repeat(refine Pn.mk ?_;intro N hN)))|((try apply Or.inl);refine⟨_,au.x (h) (sd (tw @w0 (tw @w1 (tw @w2 (tw @g1 (tw @g2 (tw @kb (tw @qV (tw @Int.le_refl (tw @Nat.le_refl (tw @hx (tw @Uv (tw @pg @m1))))))))))))),?_⟩;refine hN _ _ ?_;clear hN N)))
 refine aQ (fun m env st=>∃k:Nat,m=cnt-k/\1<=k/\k<=cnt/\env 8=.int .i64 (k:Int)/\st.get ⟨327006002,σ.next+1+1+1+1⟩=some ⟨true,1,List.replicate k [.int .i64 v]++List.replicate (cnt-k) [.int .i64 0]⟩/\σ.next+4<st.next/\∀i:Id,i.bj<σ.next->st.get i=σ.get i) (cnt-1) ⟨1,rfl,Nat.le_refl _,uF,by(simp only[go_sem, ↓reduceIte,Nat.reduceEqDiff,Nat.reduceAdd,Nat.reduceSub,Nat.reduceLeDiff,reduceCtorEq,m1])<;>rfl,?_,aT,fun i hi=>?_⟩ ?_
 ·simp only[go_sem, ↓reduceIte,Nat.reduceEqDiff,Nat.reduceAdd,Nat.reduceSub,Nat.reduceLeDiff,reduceCtorEq]
  rw[List.drop_replicate];rfl
 ·have Gf:=db hi
  simp only[go_sem, ↓reduceIte,Nat.reduceEqDiff,Nat.reduceAdd,Nat.reduceSub,Nat.reduceLeDiff,reduceCtorEq,Gf]
 rintro m env_b st_b ⟨k,rfl,sw,uE,b8,bg,bn,eI⟩ bkp
 have b7:=bkp 7 (by kernel_rfl)
 simp only[go_sem, ↓reduceIte,Nat.reduceEqDiff,Nat.reduceAdd,Nat.reduceSub,Nat.reduceLeDiff,reduceCtorEq]at b7
 clear bkp
 have V2:(List.replicate k [AV.int .i64 v]++List.replicate (cnt-k) [AV.int .i64 0]).length=cnt:=by simp;omega
 by_cases hk:(k:Int)<(cnt:Int)
 ·have fy:k<cnt:=ah
  have s8:(k:Int)<=(cnt:Int):=ah
  have hw:IntKind.i64.wrap ((k:Int)+((min k (cnt-k):Nat):Int))=((k+min k (cnt-k):Nat):Int):=by rw[bq ah];omega
  have nj:List.take k (List.replicate k [AV.int .i64 v]++List.replicate (cnt-k) [AV.int .i64 0])=List.replicate k [AV.int .i64 v]:=List.take_left' (by simp)
  have dP:(List.replicate k [AV.int .i64 v]).all (fun c=>c.length==1&&c.all AV.cell)=true:=List.all_eq_true.2 fun c hc=>by rw[List.eq_of_mem_replicate hc];rfl
  have hlr:(List.replicate k [AV.int .i64 v]).length=k:=List.length_replicate
  have Jg:k+(cnt-k)=cnt:=ah
  have pb:List.replicate k [AV.int .i64 v]++List.take (min k (cnt-k)) (List.replicate k [AV.int .i64 v])++List.drop (k+min k (cnt-k)) (List.replicate k [AV.int .i64 v]++List.replicate (cnt-k) [AV.int .i64 0])=List.replicate (k+min k (cnt-k)) [AV.int .i64 v]++List.replicate (cnt-(k+min k (cnt-k))) [AV.int .i64 0]:=by
   rw[List.take_replicate,List.drop_append,List.drop_of_length_le (by simp),List.nil_append,hlr,List.drop_replicate,List.replicate_append_replicate]
   congr 2
   ·omega
   ·omega
  (try((repeat(revert hN;revert N;apply Pn.out));refine wk (tw @b7 (tw @b8 (tw @bg (tw @V2 (tw @hk (tw @s8 (tw @uE (tw @hw (tw @fy (tw @Nat.sub_zero (tw @nj (tw @dP (tw @hlr (tw @Jg (tw @Nat.le_refl @pb))))))))))))))) ?_;(repeat(refine Pn.mk ?_;intro N hN))))
  refine⟨_,?_,k+min k (cnt-k),rfl,ah,ah,sd @hw,sd @pb,aT,fun i hi=>?_⟩
  ·omega
  ·have Gf:=db hi
   have:=eI i hi
   simp only[go_sem, ↓reduceIte,Nat.reduceEqDiff,Nat.reduceAdd,Nat.reduceSub,Nat.reduceLeDiff,reduceCtorEq,Gf,this]
 ·have lj:k=cnt:=ah
  subst lj
  (try((repeat(revert hN;revert N;apply Pn.out));refine wk (tw @b7 (tw @b8 (tw @bg (tw @V2 @hk)))) ?_;(repeat(refine Pn.mk ?_;intro N hN))))
  refine eS (.inl rfl) (vs:=[.own ⟨327006002,σ.next+1+1+1+1⟩ 0 k]) (sd @Nat.zero_add) ⟨⟨327006002,σ.next+1+1+1+1⟩,rfl,by simp only[go_sem, ↓reduceIte,Nat.reduceEqDiff,Nat.reduceAdd,Nat.reduceSub,Nat.reduceLeDiff,reduceCtorEq,bg];simp,aT,aT,fun i hi=>eI i hi⟩
end Go.Proofs.YtgoljkjaameagaaGreat.V

namespace Go.Proofs.YtgoljkjaameagaaGreat.V
open Go.RowKit
attribute [local irreducible] dK wpOps gw Call
attribute [local go_sem] aM fE eM fV fS dc upd cr K.av cI AV.cells AV.cell rowOf rowsOf part ld rowAt bE cj dy dS gU bJ cY ee fQ e6 dp dX cW cV dI dJ bP bc cL bL cP cN dV dY dW cK bU cX dU bK aO cR cC gT bw cG bQ aY dj aZ dz AV.undef bD bG dM dQ dE dG cE ec eh cz ea dZ cQ cU List.getD_cons_zero List.getD_cons_succ List.getD_nil List.all_cons List.all_nil Bool.and_true Bool.true_and Bool.and_self Bool.not_true Bool.not_false Option.map_some Option.map_none Option.bind_some Option.bind_none List.length_cons List.length_nil List.take_succ_cons List.take_zero List.take_nil List.drop_succ_cons List.drop_zero List.drop_nil List.head?_cons List.map_cons List.map_nil List.getElem?_cons_zero List.getElem?_cons_succ List.cons_append List.nil_append List.append_nil List.length_map List.set_cons_zero List.set_cons_succ Nat.reduceMul eq_self Int.toNat_natCast Int.natCast_nonneg and_self true_and and_true decide_true decide_false Bool.false_eq_true Nat.zero_add Nat.add_zero List.contains_cons List.contains_nil Bool.or_false Bool.false_or beq_self_eq_true Nat.reduceBEq ne_eq not_true_eq_false not_false_eq_true Id.mk.injEq false_and and_false Nat.reduceLT Int.reduceLE Int.reduceLT Int.reduceToNat Int.reduceNeg Int.reduceAdd Nat.le_refl List.length_append beq_true beq_false Bool.not_eq_eq_eq_not or_false false_or dH aj ar aH bh bz ck aV bd aX bf cJ bB
def l7 (R:Nat->Id) (n k:Nat):List (List AV):=(List.range k).map fun i=>[.own (R i) 0 n]
theorem kU (R:Nat->Id) (n k:Nat):(l7 R n k).length=k:=by simp[l7]
theorem tO {R:Nat->Id} {n k i:Nat} (h:i<k):(l7 R n k)[i]? =some [.own (R i) 0 n]:=by simp[l7,h]
theorem uY (R:Nat->Id) (n k:Nat):l7 R n (k+1)=l7 R n k++[[.own (R k) 0 n]]:=by simp[l7,List.range_succ]
def zJ (c:Nat->Nat->Int) (n:Nat):List (List AV):=(List.range n).map fun i=>[.sl (eB (c i) n)]
theorem EM {c:Nat->Nat->Int} {n i:Nat} (h:i<n):(zJ c n)[i]? =some [.sl (eB (c i) n)]:=by simp[zJ,h]
theorem yV (c:Nat->Nat->Int) (n:Nat):(zJ c n).length=n:=by simp[zJ]
structure KK (X o1 o2:Id) (R1 R2:Nat->Id) (n nb:Nat):Prop where
 sx:X.site=299001001
 s1:o1.site=299004008
 s2:o2.site=299005008
 X4:∀i,i<n->(R1 i).site=299004006
 Rb:∀i,i<n->(R2 i).site=299005006
 i1:∀i j,i<n->j<n->R1 i=R1 j->i=j
 i2:∀i j,i<n->j<n->R2 i=R2 j->i=j
 vx:X.bj<nb
 v1:o1.bj<nb
 v2:o2.bj<nb
 vr1:∀i,i<n->(R1 i).bj<nb
 WH:∀i,i<n->(R2 i).bj<nb
structure rF (g:Rows) (X o1 o2:Id) (R1 R2:Nat->Id) (n:Nat) (c f:Nat->Nat->Int):Prop where
 x:g X=some ⟨true,2,[[.own o1 0 n,.own o2 0 n]]⟩
 t1:g o1=some ⟨true,1,l7 R1 n n⟩
 t2:g o2=some ⟨true,1,l7 R2 n n⟩
 r1:∀i,i<n->g (R1 i)=some ⟨true,1,eB (c i) n⟩
 r2:∀i,i<n->g (R2 i)=some ⟨true,1,eB (f i) n⟩
theorem pB {f:Nat->Nat->Int} {a b:Nat} {d:Int} {n:Nat} (hb:b<n):(eB (f a) n).set b (aU (f a b+d))=eB (bump f a b d a) n:=l8 hb (by simp[bump]) fun i _ hi=>by simp[bump,hi]
theorem kM {f:Nat->Nat->Int} {a b i:Nat} {d:Int} (h:i≠a):bump f a b d i=f i:=by funext v;simp[bump,h]
theorem rF.add {g g':Rows} {X o1 o2:Id} {R1 R2:Nat->Id} {n nb:Nat} {c f:Nat->Nat->Int} (I:KK X o1 o2 R1 R2 n nb) (h:rF g X o1 o2 R1 R2 n c f) (b:PB) (ha:b.a<n) (hb:b.b<n) (hA:b.a≠b.b->g' (R1 b.a)=some ⟨true,1,eB (bump c b.a b.b b.s b.a) n⟩) (hB:g' (R1 b.b)=some ⟨true,1,eB (oU c b b.b) n⟩) (hf:∀i:Id,i.bj<nb->(i=R1 b.a)=False->(i=R1 b.b)=False->g' i=g i):rF g' X o1 o2 R1 R2 n (oU c b) f:=by
 have ne:∀{i:Id} {s:Nat},i.site=s->(s==299004006)=false->∀a,a<n->(i=R1 a)=False:=fun {i s} hi hs a ha=>by
  simp only[eq_iff_iff,iff_false]
  rintro rfl
  rw[I.X4 a ha]at hi
  subst hi
  simp at hs
 refine⟨(hf _ I.vx (ne I.sx (by decide) _ ha) (ne I.sx (by decide) _ hb)).trans h.x,(hf _ I.v1 (ne I.s1 (by decide) _ ha) (ne I.s1 (by decide) _ hb)).trans h.t1,(hf _ I.v2 (ne I.s2 (by decide) _ ha) (ne I.s2 (by decide) _ hb)).trans h.t2,fun i hi=>?_,fun i hi=>(hf _ (I.WH i hi) (ne (I.Rb i hi) (by decide) _ ha) (ne (I.Rb i hi) (by decide) _ hb)).trans (h.r2 i hi)⟩
 by_cases NY:i=b.b
 ·subst NY;exact hB
 ·by_cases NX:i=b.a
  ·subst NX
   rw[hA NY,oU,kM NY]
  ·rw[oU,kM NY,kM NX,hf _ (I.vr1 i hi) (by simp only[eq_iff_iff,iff_false];exact fun he=>NX (I.i1 i _ hi ha he)) (by simp only[eq_iff_iff,iff_false];exact fun he=>NY (I.i1 i _ hi hb he))]
   exact h.r1 i hi
def mC (n:Nat) (c f:Nat->Nat->Int):List AV:=[.sl (zJ c n),.sl (zJ f n)]
theorem Ie {g:Rows} {R:Nat->Id} {n k:Nat} {c:Nat->Nat->Int} (h:∀i,i<k->g (R i)=some ⟨true,1,eB (c i) n⟩) (m:Nat):eo (dH g) (m+3) (l7 R n k)=some ((List.range k).map fun i=>[.sl (eB (c i) n)]):=by
 induction k with
 |zero=>rw[show l7 R n 0=[]from rfl,eo];rfl
 |succ k ih=>
  have e1:V.fz (dH g) (m+3) (.own (R k) 0 n)=some (.sl (eB (c k) n)):=by
   rw[iy];simp only[dH,h k ah,Option.map_some,if_true]
   rw[if_pos (by rw[dR];omega),List.drop_zero,List.take_of_length_le (by rw[dR];omega),Cl];rfl
  have app:∀(xs ys:List (List AV)) (X7 WW:List (List AV)),eo (dH g) (m+3) xs=some X7->eo (dH g) (m+3) ys=some WW->eo (dH g) (m+3) (xs++ys)=some (X7++WW):=by
   intro xs
   induction xs with
   |nil=>intro ys X7 WW h1 h2;rw[eo]at h1;cases h1;exact h2
   |cons a xs ih2=>
    intro ys X7 WW h1 h2
    rw[eo]at h1
    rw[List.cons_append,eo]
    cases ha:cZ (dH g) (m+3) a with
    |none=>simp[ha]at h1
    |some a'=>
     cases hb:eo (dH g) (m+3) xs with
     |none=>simp[ha,hb]at h1
     |some b'=>
      simp[ha,hb]at h1
      subst h1
      rw[ih2 ys b' WW hb h2];rfl
  rw[uY,List.range_succ,List.map_append]
  refine app _ _ _ _ (ih fun i hi=>h i ah) ?_
  rw[eo,aj,ar,e1,eo];rfl
theorem rF.fz {g:Rows} {X o1 o2:Id} {R1 R2:Nat->Id} {n:Nat} {c f:Nat->Nat->Int} (h:rF g X o1 o2 R1 R2 n c f):V.fz (dH g) 6 (.ptr X 0 0)=some (.dn (mC n c f)):=by
 refine rT (sz:=2) (rows:=[[.own o1 0 n,.own o2 0 n]]) (by simp[dH,h.x]) rfl ?_
 have e1:V.fz (dH g) 5 (.own o1 0 n)=some (.sl (zJ c n)):=by
  rw[iy];simp only[dH,h.t1,Option.map_some,if_true]
  rw[if_pos (by rw[kU];omega),List.drop_zero,List.take_of_length_le (by rw[kU];omega)]
  rw[show eo _ 4 _=some (zJ c n)from Ie h.r1 1];rfl
 have e2:V.fz (dH g) 5 (.own o2 0 n)=some (.sl (zJ f n)):=by
  rw[iy];simp only[dH,h.t2,Option.map_some,if_true]
  rw[if_pos (by rw[kU];omega),List.drop_zero,List.take_of_length_le (by rw[kU];omega)]
  rw[show eo _ 4 _=some (zJ f n)from Ie h.r2 1];rfl
 simp only[List.drop_zero,aj,ar,e1,e2,mC,Option.map_some]
theorem RW (n:Nat) (c f:Nat->Nat->Int) (u v:Nat) (hu:u<n) (hv:v<n):au Tryz.prog 328 [.dn (mC n c f),.int .i64 u,.int .i64 v] (.bool (decide (f u v<c u v))):=by
 refine au.body eF rfl fun hl n0=>?_
 clear hl
 have h1:=EM (c:=c) hu
 have h2:=EM (c:=f) hu
 have h3:=er (f:=c u) hv
 have h4:=er (f:=f u) hv
 have hui:(u:Int)<(n:Int):=ah
 have Gf:(v:Int)<(n:Int):=ah
 have l1:=yV c n
 have l2:=yV f n
 have l3:=dR (c u) n
 have l4:=dR (f u) n
 rw[aU]at h3 h4
 (try((repeat(revert hN;revert N;apply Pn.out));refine wk (tw @mC.eq_1 (tw @h1 (tw @h2 (tw @h3 (tw @h4 (tw @hui (tw @Gf (tw @l1 (tw @l2 (tw @l3 @l4)))))))))) ?_;(repeat(refine Pn.mk ?_;intro N hN))))
 exact bp (b:=decide (f u v<c u v)) (.inl rfl) (sd @Nat.zero_add) rfl
theorem Kf (n:Nat):List.replicate n [AV.int .i64 0]=eB (fun _=>0) n:=by
 refine List.ext_getElem? fun i=>?_
 by_cases h:i<n
 ·rw[er h,List.getElem?_replicate,if_pos h];rfl
 ·rw[List.getElem?_eq_none (by simp;omega),List.getElem?_eq_none (by rw[dR];omega)]
theorem Ch {i j:Id} {s t:Nat} (hi:i.site=s) (hj:j.site=t) (h:(s==t)=false):(i=j)=False/\(j=i)=False:=by
 constructor<;>(simp only[eq_iff_iff,iff_false];rintro rfl;rw[hi]at hj;subst hj;simp at h)
theorem Et (cnt:Nat) (uF:1<=cnt) (hn:cnt<=1048576) (bs:List PB) (hb:∀b∈bs,b.a<cnt/\b.b<cnt) (dC:∀b∈bs,0<=b.s/\b.s<=4) (nW:bs.length<=1048576) (σ:aw):
  Call Tryz.prog 299 [.int .i64 cnt,.sl (bs.map aD)] σ fun r σ'=>∃X o1 o2 R1 R2,r=.ptr X 0 0/\KK X o1 o2 R1 R2 cnt σ'.next/\σ.next<=σ'.next/\rF σ'.get X o1 o2 R1 R2 cnt (lZ bs) (fun _ _=>0)/\∀i:Id,i.bj<σ.next->σ'.get i=σ.get i:=by
 refine eA eF rfl fun hl=>?_
 clear hl
 (try((repeat(revert hN;revert N;apply Pn.out));refine wk @Nat.zero_add ?_;(repeat(refine Pn.mk ?_;intro N hN))))
 obtain⟨X,hX⟩:∃X:Id,X=⟨299001001,σ.next+1⟩:=⟨_,rfl⟩
 obtain⟨R1,Vl⟩:∃R:Nat->Id,R=fun k=>⟨299004006,σ.next+3+4*k+1⟩:=⟨_,rfl⟩
 obtain⟨R2,OX⟩:∃R:Nat->Id,R=fun k=>⟨299005006,σ.next+3+4*k+2⟩:=⟨_,rfl⟩
 have sX:X.site=299001001:=by rw[hX]
 have vX:X.bj=σ.next+1:=by rw[hX]
 have s1:∀k,(R1 k).site=299004006:=fun k=>by rw[Vl]
 have s2:∀k,(R2 k).site=299005006:=fun k=>by rw[OX]
 have v1:∀k,(R1 k).bj=σ.next+3+4*k+1:=fun k=>by rw[Vl]
 have v2:∀k,(R2 k).bj=σ.next+3+4*k+2:=fun k=>by rw[OX]
 have kb:(0:Int)<=(cnt:Int):=ah
 have qV:(cnt:Int)<=((16777216:Nat):Int):=ah
 have hz:=Kf cnt
 have t1:l7 R1 cnt 0=[]:=rfl
 have t2:l7 R2 cnt 0=[]:=rfl
 refine aQ (fun n env st=>∃k:Nat,n=(cnt)-k/\k<=(cnt)/\env 11=.int .i64 (k:Int)/\env 5=(.ptr X 0 0)/\(st.next=σ.next+3+4*k/\(∀i:Id,i.bj<σ.next->st.get i=σ.get i)/\∀j,j<k->st.get (R1 j)=some ⟨true,1,eB (fun _=>0) cnt⟩/\st.get (R2 j)=some ⟨true,1,eB (fun _=>0) cnt⟩)/\((k=0/\st.get X=some ⟨true,2,[[.bI,.bI]]⟩)∨∃o1 o2:Id,o1.site=299004008/\o2.site=299005008/\o1.bj<st.next/\o2.bj<st.next/\σ.next<=o1.bj/\σ.next<=o2.bj/\st.get X=some ⟨true,2,[[.own o1 0 k,.own o2 0 k]]⟩/\st.get o1=some ⟨true,1,l7 R1 cnt k⟩/\st.get o2=some ⟨true,1,l7 R2 cnt k⟩)) (cnt) ⟨0,ah,ah,sl @hX,sl @hX,⟨rfl,fun i hi=>by(have Gf:=db hi);simp only[go_sem, ↓reduceIte,Nat.reduceEqDiff,Nat.reduceAdd,Nat.reduceSub,Nat.reduceLeDiff,reduceCtorEq,Gf],fun j hj=>absurd hj (Nat.not_lt_zero j)⟩,.inl ⟨rfl,by rw[hX];simp only[go_sem, ↓reduceIte,Nat.reduceEqDiff,Nat.reduceAdd,Nat.reduceSub,Nat.reduceLeDiff,reduceCtorEq]⟩⟩ ?_
 rintro n_a env_a st_a ⟨k,rfl,ale,a11,a5,ke,aI1⟩ dv
 have a0:=dv 0 (by kernel_rfl);have a1:=dv 1 (by kernel_rfl);have zh:=dv 10 (by kernel_rfl)
 simp only[go_sem, ↓reduceIte,Nat.reduceEqDiff,Nat.reduceAdd,Nat.reduceSub,Nat.reduceLeDiff,reduceCtorEq,hX]at a0 a1 zh
 clear dv
 obtain⟨anx,dv,aR⟩:=ke
 have wX:=db (i:=X) (n:=st_a.next) ah
 by_cases hk:(k:Int)<(cnt:Int)
 ·have cq:∀{e:Env} {gg:Rows} {nx:Nat},(e 11=.int .i64 (IntKind.i64.wrap ((k:Int)+1)))->(e 5=(.ptr X 0 0))->(nx=σ.next+3+4*(k+1)/\(∀i:Id,i.bj<σ.next->gg i=σ.get i)/\∀j,j<(k+1)->gg (R1 j)=some ⟨true,1,eB (fun _=>0) cnt⟩/\gg (R2 j)=some ⟨true,1,eB (fun _=>0) cnt⟩)->(((k+1)=0/\gg X=some ⟨true,2,[[.bI,.bI]]⟩)∨∃o1 o2:Id,o1.site=299004008/\o2.site=299005008/\o1.bj<nx/\o2.bj<nx/\σ.next<=o1.bj/\σ.next<=o2.bj/\gg X=some ⟨true,2,[[.own o1 0 (k+1),.own o2 0 (k+1)]]⟩/\gg o1=some ⟨true,1,l7 R1 cnt (k+1)⟩/\gg o2=some ⟨true,1,l7 R2 cnt (k+1)⟩)->∃m0,m0<(cnt)-k/\∃k:Nat,m0=(cnt)-k/\k<=(cnt)/\e 11=.int .i64 (k:Int)/\e 5=(.ptr X 0 0)/\(nx=σ.next+3+4*k/\(∀i:Id,i.bj<σ.next->gg i=σ.get i)/\∀j,j<k->gg (R1 j)=some ⟨true,1,eB (fun _=>0) cnt⟩/\gg (R2 j)=some ⟨true,1,eB (fun _=>0) cnt⟩)/\((k=0/\gg X=some ⟨true,2,[[.bI,.bI]]⟩)∨∃o1 o2:Id,o1.site=299004008/\o2.site=299005008/\o1.bj<nx/\o2.bj<nx/\σ.next<=o1.bj/\σ.next<=o2.bj/\gg X=some ⟨true,2,[[.own o1 0 k,.own o2 0 k]]⟩/\gg o1=some ⟨true,1,l7 R1 cnt k⟩/\gg o2=some ⟨true,1,l7 R2 cnt k⟩):=fun x1 x2 x3 x4=>⟨_,ah,k+1,rfl,ah,(by rw[x1,ay ah]),x2,x3,x4⟩
  have fy:k<cnt:=ah
  have sw:R1 k=⟨299004006,st_a.next+1⟩:=by rw[Vl,anx]
  have uE:R2 k=⟨299005006,st_a.next+1+1⟩:=by rw[OX,anx]
  have Fa:l7 R1 cnt (k+1)=l7 R1 cnt k++[[.own ⟨299004006,st_a.next+1⟩ 0 cnt]]:=by rw[uY,sw]
  have Ur:l7 R2 cnt (k+1)=l7 R2 cnt k++[[.own ⟨299005006,st_a.next+1+1⟩ 0 cnt]]:=by rw[uY,uE]
  rcases aI1 with⟨rfl,UO⟩|⟨o1,o2,so1,so2,vo1,vo2,vn1,vn2,UO,ag1,ag2⟩
  ·(try((repeat(revert hN;revert N;apply Pn.out));refine wk (tw @a11 (tw @a5 (tw @a0 (tw @a1 (tw @zh (tw @hk (tw @wX (tw @UO (tw @kb (tw @qV (tw @Int.le_refl @hz))))))))))) ?_;(repeat(refine Pn.mk ?_;intro N hN))))
   refine cq ?_ ?_ (by
    (try dsimp only)
    refine⟨ah,fun i hi=>?_,fun j hj=>?_⟩
    ·have q1:=db (i:=i) (n:=st_a.next) ah
     have q2:=bH (a:=i) (b:=X) ah
     have:=dv i hi
     simp only[go_sem, ↓reduceIte,Nat.reduceEqDiff,Nat.reduceAdd,Nat.reduceSub,Nat.reduceLeDiff,reduceCtorEq,q1,q2,this]
    ·by_cases Ah:j=0
     ·subst Ah
      rw[sw,uE]
      have q1:=ib sX (b:=299004006) (v:=st_a.next+1) (by decide)
      have q2:=ib sX (b:=299005006) (v:=st_a.next+1+1) (by decide)
      simp only[go_sem, ↓reduceIte,Nat.reduceEqDiff,Nat.reduceAdd,Nat.reduceSub,Nat.reduceLeDiff,reduceCtorEq,q1,q2]
     ·obtain⟨r1,r2⟩:=aR j ah
      have q1:=db (i:=R1 j) (n:=st_a.next) (by rw[v1];omega)
      have q2:=db (i:=R2 j) (n:=st_a.next) (by rw[v2];omega)
      have q3:=Ch (s1 j) sX (by decide)
      have q4:=Ch (s2 j) sX (by decide)
      constructor
      ·simp only[go_sem, ↓reduceIte,Nat.reduceEqDiff,Nat.reduceAdd,Nat.reduceSub,Nat.reduceLeDiff,reduceCtorEq,q1,q3,r1]
      ·simp only[go_sem, ↓reduceIte,Nat.reduceEqDiff,Nat.reduceAdd,Nat.reduceSub,Nat.reduceLeDiff,reduceCtorEq,q2,q4,r2]) (.inr ⟨⟨299004008,st_a.next+1⟩,⟨299005008,st_a.next+1+1⟩,rfl,rfl,aT,aT,aT,aT,sd @wX,by rw[Fa,t1];simp only[go_sem, ↓reduceIte,Nat.reduceEqDiff,Nat.reduceAdd,Nat.reduceSub,Nat.reduceLeDiff,reduceCtorEq,wX,List.nil_append],by rw[Ur,t2];simp only[go_sem, ↓reduceIte,Nat.reduceEqDiff,Nat.reduceAdd,Nat.reduceSub,Nat.reduceLeDiff,reduceCtorEq,wX,List.nil_append]⟩)
   all_goals simp only[go_sem, ↓reduceIte,Nat.reduceEqDiff,Nat.reduceAdd,Nat.reduceSub,Nat.reduceLeDiff,reduceCtorEq,a11,a5,a0,a1,zh,wX]
  ·have l1:=kU R1 cnt k
   have l2:=kU R2 cnt k
   have e1:k+1<=16777216:=ah
   have w1:=db vo1
   have w2:=db vo2
   have x1:=Ch sX so1 (by decide)
   have x2:=Ch sX so2 (by decide)
   have x3:=Ch so1 so2 (by decide)
   (try((repeat(revert hN;revert N;apply Pn.out));refine wk (tw @a11 (tw @a5 (tw @a0 (tw @a1 (tw @zh (tw @hk (tw @wX (tw @UO (tw @ag1 (tw @ag2 (tw @l1 (tw @l2 (tw @e1 (tw @w1 (tw @w2 (tw @x1 (tw @x2 (tw @x3 (tw @kb (tw @qV (tw @Int.le_refl @hz))))))))))))))))))))) ?_;(repeat(refine Pn.mk ?_;intro N hN))))
   refine cq ?_ ?_ (by
    (try dsimp only)
    refine⟨ah,fun i hi=>?_,fun j hj=>?_⟩
    ·have q1:=db (i:=i) (n:=st_a.next) ah
     have q2:=bH (a:=i) (b:=X) ah
     have q3:=bH (a:=i) (b:=o1) ah
     have q4:=bH (a:=i) (b:=o2) ah
     have:=dv i hi
     simp only[go_sem, ↓reduceIte,Nat.reduceEqDiff,Nat.reduceAdd,Nat.reduceSub,Nat.reduceLeDiff,reduceCtorEq,q1,q2,this,q3,q4]
    ·by_cases Ah:j=k
     ·subst Ah
      rw[sw,uE]
      have q1:=ib sX (b:=299004006) (v:=st_a.next+1) (by decide)
      have q2:=ib sX (b:=299005006) (v:=st_a.next+1+1) (by decide)
      simp only[go_sem, ↓reduceIte,Nat.reduceEqDiff,Nat.reduceAdd,Nat.reduceSub,Nat.reduceLeDiff,reduceCtorEq,q1,q2,w1,w2]
     ·obtain⟨r1,r2⟩:=aR j ah
      have q1:=db (i:=R1 j) (n:=st_a.next) (by rw[v1];omega)
      have q2:=db (i:=R2 j) (n:=st_a.next) (by rw[v2];omega)
      have q3:=Ch (s1 j) sX (by decide)
      have q4:=Ch (s2 j) sX (by decide)
      have q5:=Ch (s1 j) so1 (by decide)
      have q6:=Ch (s1 j) so2 (by decide)
      have q7:=Ch (s2 j) so1 (by decide)
      have q8:=Ch (s2 j) so2 (by decide)
      constructor
      ·simp only[go_sem, ↓reduceIte,Nat.reduceEqDiff,Nat.reduceAdd,Nat.reduceSub,Nat.reduceLeDiff,reduceCtorEq,q1,q3,r1,q5,q6]
      ·simp only[go_sem, ↓reduceIte,Nat.reduceEqDiff,Nat.reduceAdd,Nat.reduceSub,Nat.reduceLeDiff,reduceCtorEq,q2,q4,r2,q7,q8]) (.inr ⟨⟨299004008,st_a.next+1⟩,⟨299005008,st_a.next+1+1⟩,rfl,rfl,aT,aT,aT,aT,sd @wX,by rw[Fa];simp only[go_sem, ↓reduceIte,Nat.reduceEqDiff,Nat.reduceAdd,Nat.reduceSub,Nat.reduceLeDiff,reduceCtorEq,wX,w1,w2],by rw[Ur];simp only[go_sem, ↓reduceIte,Nat.reduceEqDiff,Nat.reduceAdd,Nat.reduceSub,Nat.reduceLeDiff,reduceCtorEq,wX,w1,w2]⟩)
   all_goals simp only[go_sem, ↓reduceIte,Nat.reduceEqDiff,Nat.reduceAdd,Nat.reduceSub,Nat.reduceLeDiff,reduceCtorEq,a11,a5,a0,a1,zh,wX,w1,w2,x1,x2,x3]
 have lj:cnt=k:=ah
 subst lj
 rcases aI1 with⟨h0,_⟩|⟨o1,o2,so1,so2,vo1,vo2,vn1,vn2,UO,ag1,ag2⟩
 ·omega
 (try((repeat(revert hN;revert N;apply Pn.out));refine wk (tw @a11 (tw @a5 (tw @a0 (tw @a1 (tw @zh @hk))))) ?_;(repeat(refine Pn.mk ?_;intro N hN))))
 have I:KK X o1 o2 R1 R2 cnt st_a.next:=⟨sX,so1,so2,fun i _=>s1 i,fun i _=>s2 i,fun i j _ _ h=>by have:=v1 i;rw[h,v1]at this;omega,fun i j _ _ h=>by have:=v2 i;rw[h,v2]at this;omega,ah,vo1,vo2,fun i hi=>by rw[v1];omega,fun i hi=>by rw[v2];omega⟩
 refine aQ (fun n env st=>∃i:Nat,n=(bs.length)-i/\i<=(bs.length)/\env 38=.int .i64 (i:Int)/\(st_a.next<=st.next/\(∀x:Id,x.bj<σ.next->st.get x=σ.get x)/\rF st.get X o1 o2 R1 R2 cnt (lZ (bs.take i)) (fun _ _=>0))) (bs.length) ⟨0,ah,ah,sl (tw @a11 (tw @a5 (tw @a0 (tw @a1 @zh)))),⟨aT,dv,UO,ag1,ag2,fun j hj=>(aR j hj).1,fun j hj=>(aR j hj).2⟩⟩ ?_
 rintro n_b env_b st_b ⟨i,rfl,ble,b38,bI0⟩ eI
 have b0:=eI 0 (by kernel_rfl);have b1:=eI 1 (by kernel_rfl);have b5:=eI 5 (by kernel_rfl);have T8:=eI 36 (by kernel_rfl);have T9:=eI 37 (by kernel_rfl)
 simp only[go_sem, ↓reduceIte,Nat.reduceEqDiff,Nat.reduceAdd,Nat.reduceSub,Nat.reduceLeDiff,reduceCtorEq,a11,a5,a0,a1,zh]at b0 b1 b5 T8 T9
 clear eI
 obtain⟨bn,Rz,bM⟩:=bI0
 by_cases hi:(i:Int)<(bs.length:Int)
 ·have eZ:∀{e:Env} {gg:Rows} {nx:Nat},(e 38=.int .i64 (IntKind.i64.wrap ((i:Int)+1)))->(st_a.next<=nx/\(∀x:Id,x.bj<σ.next->gg x=σ.get x)/\rF gg X o1 o2 R1 R2 cnt (lZ (bs.take (i+1))) (fun _ _=>0))->∃m0,m0<(bs.length)-i/\∃i:Nat,m0=(bs.length)-i/\i<=(bs.length)/\e 38=.int .i64 (i:Int)/\(st_a.next<=nx/\(∀x:Id,x.bj<σ.next->gg x=σ.get x)/\rF gg X o1 o2 R1 R2 cnt (lZ (bs.take i)) (fun _ _=>0)):=fun x1 x2=>⟨_,ah,i+1,rfl,ah,(by rw[x1,ay ah]),x2⟩
  have fZ:i<bs.length:=ah
  have jF:(bs.map aD)[i]? =some (aD bs[i]):=by simp[fZ]
  have fR:=hb _ (List.getElem_mem fZ)
  have hsi:=dC _ (List.getElem_mem fZ)
  have qZ:lZ (bs.take (i+1))=oU (lZ (bs.take i)) bs[i]:=by rw[List.take_succ_eq_append_getElem fZ,GM]
  have o9:=Ca (bs.take i) (fun _ _=>0) (fun b hb=>(dC b (List.mem_of_mem_take hb)).1) (fun _ _=>Int.le_refl _)
  have hle:=room_le (bs.take i) (fun _ _=>0) 0 (fun b hb=>(dC b (List.mem_of_mem_take hb)).2) (fun _ _=>Int.le_refl _) (Int.le_refl _)
  rw[List.length_take]at hle
  have gG:(bs.take i).foldl oU (fun _ _=>0)=lZ (bs.take i):=rfl
  rw[gG]at o9 hle
  generalize lZ (bs.take i)=c at *
  generalize bs[i]=b at *
  obtain⟨ha,uC⟩:=fR
  have gA:=tO (R:=R1) (n:=cnt) ha
  have gB:=tO (R:=R1) (n:=cnt) uC
  have rA:=bM.r1 _ ha
  have rB:=bM.r1 _ uC
  have cA:=er (f:=c b.a) uC
  have cB:=er (f:=c b.b) ha
  have sA:=pB (f:=c) (a:=b.a) (d:=b.s) uC
  have gX:=bM.x
  have g1:=bM.t1
  have ij:(b.a:Int)<(cnt:Int):=ah
  have fR:(b.b:Int)<(cnt:Int):=ah
  have qX:=db (i:=X) (n:=st_b.next) ah
  have q1:=db (i:=o1) (n:=st_b.next) ah
  have qA:=db (i:=R1 b.a) (n:=st_b.next) (by rw[v1];omega)
  have qB:=db (i:=R1 b.b) (n:=st_b.next) (by rw[v1];omega)
  have xA:=Ch sX (s1 b.a) (by decide)
  have xB:=Ch sX (s1 b.b) (by decide)
  have yA:=Ch so1 (s1 b.a) (by decide)
  have yB:=Ch so1 (s1 b.b) (by decide)
  have l1:=kU R1 cnt cnt
  have lA:=dR (c b.a) cnt
  have lB:=dR (c b.b) cnt
  have hAB:=hle b.a b.b
  have hBA:=hle b.b b.a
  have gAB:=o9 b.a b.b
  have gBA:=o9 b.b b.a
  have wA:IntKind.i64.wrap (c b.a b.b+b.s)=c b.a b.b+b.s:=bq ah
  by_cases nV:b.a=b.b
  ·obtain⟨ba,bb,s⟩:=b
   dsimp only at *
   subst nV
   have SO:=pB (f:=bump c ba ba s) (a:=ba) (b:=ba) (d:=s) (n:=cnt) ha
   have Zd:=er (f:=bump c ba ba s ba) ha
   have hv:bump c ba ba s ba ba=c ba ba+s:=by simp[bump]
   have lC:=dR (bump c ba ba s ba) cnt
   have wB:IntKind.i64.wrap (c ba ba+s+s)=c ba ba+s+s:=bq ah
   rw[hv]at SO Zd
   have uD:oU c ⟨ba,ba,s⟩ ba=bump (bump c ba ba s) ba ba s ba:=rfl
   rw[aU]at cA sA SO Zd
   (try((repeat(revert hN;revert N;apply Pn.out));refine wk (tw @b38 (tw @b0 (tw @b1 (tw @b5 (tw @T8 (tw @T9 (tw @hi (tw @jF (tw @aD.eq_1 (tw @gA (tw @rA (tw @cA (tw @sA (tw @gX (tw @g1 (tw @ij (tw @qX (tw @q1 (tw @qA (tw @xA (tw @yA (tw @l1 (tw @lA (tw @wA (tw @SO (tw @Zd (tw @lC @wB))))))))))))))))))))))))))) ?_;(repeat(refine Pn.mk ?_;intro N hN))))
   exact eZ (sd (tw @b38 (tw @b0 (tw @b1 (tw @b5 (tw @T8 @T9)))))) (by
    (try dsimp only)
    refine⟨ah,fun x hx=>?_,?_⟩
    ·have p1:=db (i:=x) (n:=st_b.next) ah
     have p2:=bH (a:=x) (b:=R1 ba) (by rw[v1];omega)
     have:=Rz x hx
     simp only[go_sem, ↓reduceIte,Nat.reduceEqDiff,Nat.reduceAdd,Nat.reduceSub,Nat.reduceLeDiff,reduceCtorEq,p1,p2,this]
    ·rw[qZ]
     refine bM.add I ⟨ba,ba,s⟩ ha ha (fun h=>absurd rfl h) ?_ fun x hx h1 h2=>?_
     ·rw[uD]
      simp only[go_sem, ↓reduceIte,Nat.reduceEqDiff,Nat.reduceAdd,Nat.reduceSub,Nat.reduceLeDiff,reduceCtorEq]
     ·have p1:=db (i:=x) (n:=st_b.next) ah
      (try dsimp only at h2)
      simp only[go_sem, ↓reduceIte,Nat.reduceEqDiff,Nat.reduceAdd,Nat.reduceSub,Nat.reduceLeDiff,reduceCtorEq,p1,h2])
  ·have iD:(R1 b.a=R1 b.b)=False:=by simp only[eq_iff_iff,iff_false];exact fun h=>nV (I.i1 _ _ ha uC h)
   have LX:(R1 b.b=R1 b.a)=False:=by simp only[eq_iff_iff,iff_false];exact fun h=>nV (I.i1 _ _ ha uC h.symm)
   have SI:bump c b.a b.b b.s b.b=c b.b:=kM fun h=>nV h.symm
   have SO:=pB (f:=bump c b.a b.b b.s) (a:=b.b) (b:=b.a) (d:=b.s) (n:=cnt) ha
   rw[SI]at SO
   have wB:IntKind.i64.wrap (c b.b b.a+b.s)=c b.b b.a+b.s:=bq ah
   have uD:oU c b b.b=bump (bump c b.a b.b b.s) b.b b.a b.s b.b:=rfl
   rw[aU]at cA cB sA SO
   (try((repeat(revert hN;revert N;apply Pn.out));refine wk (tw @b38 (tw @b0 (tw @b1 (tw @b5 (tw @T8 (tw @T9 (tw @hi (tw @jF (tw @aD.eq_1 (tw @gA (tw @gB (tw @rA (tw @rB (tw @cA (tw @cB (tw @sA (tw @gX (tw @g1 (tw @ij (tw @fR (tw @qX (tw @q1 (tw @qA (tw @qB (tw @xA (tw @xB (tw @yA (tw @yB (tw @l1 (tw @lA (tw @lB (tw @wA (tw @SO (tw @wB (tw @iD @LX))))))))))))))))))))))))))))))))))) ?_;(repeat(refine Pn.mk ?_;intro N hN))))
   exact eZ (sd (tw @b38 (tw @b0 (tw @b1 (tw @b5 (tw @T8 @T9)))))) (by
    (try dsimp only)
    refine⟨ah,fun x hx=>?_,?_⟩
    ·have p1:=db (i:=x) (n:=st_b.next) ah
     have p2:=bH (a:=x) (b:=R1 b.b) (by rw[v1];omega)
     have p3:=bH (a:=x) (b:=R1 b.a) (by rw[v1];omega)
     have:=Rz x hx
     simp only[go_sem, ↓reduceIte,Nat.reduceEqDiff,Nat.reduceAdd,Nat.reduceSub,Nat.reduceLeDiff,reduceCtorEq,p1,p2,p3,this]
    ·rw[qZ]
     refine bM.add I b ha uC (fun h=>?_) ?_ fun x hx h1 h2=>?_
     ·simp only[go_sem, ↓reduceIte,Nat.reduceEqDiff,Nat.reduceAdd,Nat.reduceSub,Nat.reduceLeDiff,reduceCtorEq,iD]
     ·rw[uD]
      simp only[go_sem, ↓reduceIte,Nat.reduceEqDiff,Nat.reduceAdd,Nat.reduceSub,Nat.reduceLeDiff,reduceCtorEq,iD]
     ·have p1:=db (i:=x) (n:=st_b.next) ah
      simp only[go_sem, ↓reduceIte,Nat.reduceEqDiff,Nat.reduceAdd,Nat.reduceSub,Nat.reduceLeDiff,reduceCtorEq,p1,h1,h2])
 ·have mb:i=bs.length:=ah
  subst mb
  rw[List.take_length]at bM
  (try((repeat(revert hN;revert N;apply Pn.out));refine wk (tw @b38 (tw @b0 (tw @b1 (tw @b5 (tw @T8 (tw @T9 @hi)))))) ?_;(repeat(refine Pn.mk ?_;intro N hN))))
  exact eS (.inl rfl) (vs:=[.ptr X 0 0]) (sd @Nat.zero_add) ⟨X,o1,o2,R1,R2,rfl,⟨I.sx,I.s1,I.s2,I.X4,I.Rb,I.i1,I.i2,by have:=I.vx;(try dsimp only);omega,by have:=I.v1;(try dsimp only);omega,by have:=I.v2;(try dsimp only);omega,fun j hj=>by have:=I.vr1 j hj;(try dsimp only);omega,fun j hj=>by have:=I.WH j hj;(try dsimp only);omega⟩,aT,bM,Rz⟩
end Go.Proofs.YtgoljkjaameagaaGreat.V

namespace Go.Proofs.YtgoljkjaameagaaGreat.V
structure Bq (n:Nat) (c f:Nat->Nat->Int) (x:Nat) (par:Nat->Int) (Q:List Nat) (i:Nat):Prop where
 nodup:Q.Nodup
 lt:∀v∈Q,v<n
 root:par x=(x:Int)
 mem:x∈Q
 iff:∀v,v<n->(0<=par v↔v∈Q)
 up:∀v∈Q,v≠x->∃u,u∈Q/\par v=(u:Int)/\Q.idxOf u<Q.idxOf v/\f u v<c u v
 done:∀j (_:j<i) (hl:j<Q.length) (v:Nat),v<n->f Q[j] v<c Q[j] v->v∈Q
 ile:i<=Q.length
section
variable {n:Nat} {c f:Nat->Nat->Int} {x:Nat} {par:Nat->Int} {Q:List Nat} {i:Nat}
theorem Bq.len (h:Bq n c f x par Q i):Q.length<=n:=pZ n Q h.nodup h.lt
theorem Bq.start (hx:x<n):Bq n c f x (fun v=>if v=x then(x:Int)else -1) [x] 0:=by
 refine⟨by simp,fun v hv=>by simp at hv;omega,by simp,by simp,fun v hv=>?_,fun v hv iD=>absurd (by simpa using hv) iD,fun j hj=>ah,by simp⟩
 by_cases h:v=x
 ·simp[h]
 ·simp[h]
theorem Bq.visit (h:Bq n c f x par Q i) (hi:i<Q.length) {v:Nat} (hv:v<n) (hp:par v<0) (hr:f Q[i] v<c Q[i] v):Bq n c f x (fun w=>if w=v then(Q[i]:Int)else par w) (Q++[v]) i:=by
 have Z7:v∉Q:=fun hm=>by have:=(h.iff v hv).2 hm;omega
 have SZ:x≠v:=fun e=>Z7 (e▸h.mem)
 have BB:∀u∈Q,(Q++[v]).idxOf u=Q.idxOf u:=fun u hu=>by rw[List.idxOf_append,if_pos hu]
 have s9:(Q++[v]).idxOf v=Q.length:=by rw[List.idxOf_append,if_neg Z7];simp
 refine⟨?_,fun w hw=>?_,by simp only[if_neg SZ];exact h.root,by simp[h.mem],fun w hw=>?_,fun w hw iD=>?_,fun j hj hl w hw L9=>?_,by simp;omega⟩
 ·refine List.nodup_append.2 ⟨h.nodup,by simp,fun a ha b hb=>?_⟩
  rw[List.mem_singleton.1 hb]
  rintro rfl;exact Z7 ha
 ·rcases List.mem_append.1 hw with hw|hw
  ·exact h.lt w hw
  ·rw[List.mem_singleton.1 hw];exact hv
 ·by_cases HP:w=v
  ·subst HP;simp
  ·rw[if_neg HP,h.iff w hw];simp[HP]
 ·by_cases HP:w=v
  ·subst HP
   refine⟨Q[i],by simp,by simp,?_,hr⟩
   rw[BB _ (List.getElem_mem hi),s9]
   exact List.idxOf_lt_length_of_mem (List.getElem_mem hi)
  ·have hwQ:w∈Q:=by
    rcases List.mem_append.1 hw with hw|hw
    ·exact hw
    ·exact absurd (List.mem_singleton.1 hw) HP
   obtain⟨u,h1,h2,h3,h4⟩:=h.up w hwQ iD
   exact⟨u,by simp[h1],by rw[if_neg HP];exact h2,by rw[BB u h1,BB w hwQ];exact h3,h4⟩
 ·have gY:j<Q.length:=by have:=h.ile;omega
  rw[List.getElem_append_left gY]at L9
  exact List.mem_append_left _ (h.done j hj gY w hw L9)
theorem Bq.next (h:Bq n c f x par Q i) (hi:i<Q.length) (dP:∀v,v<n->f Q[i] v<c Q[i] v->0<=par v):Bq n c f x par Q (i+1):=by
 refine⟨h.nodup,h.lt,h.root,h.mem,h.iff,h.up,fun j hj hl v hv hr=>?_,ah⟩
 by_cases nL:j=i
 ·subst nL;exact(h.iff v hv).1 (dP v hv hr)
 ·exact h.done j ah hl v hv hr
theorem Bq.cut (h:Bq n c f x par Q Q.length) {y:Nat} (hy:y<n) (hp:par y<0):∃S:Nat->Bool,S x=true/\S y=false/\∀u v,u<n->v<n->S u=true->S v=false->¬f u v<c u v:=by
 refine⟨fun v=>decide (v∈Q),by simp[h.mem],?_,fun u v hu hv h1 h2 hr=>?_⟩
 ·have:y∉Q:=fun hm=>by have:=(h.iff y hy).2 hm;omega
  simp[this]
 ·simp only[decide_eq_true_eq,decide_eq_false_iff_not]at h1 h2
  obtain⟨j,hj,rfl⟩:=List.getElem_of_mem h1
  exact h2 (h.done j hj hj v hv hr)
def xd (c f:Nat->Nat->Int) (Q:List Nat) (y k:Nat) (out:List Nat):Prop:=∃rest,out.reverse=k::rest/\(k::rest).getLast (by simp)=y/\sE f c (k::rest)/\(k::rest).Pairwise (fun a b=>Q.idxOf a<Q.idxOf b)/\∀v∈k::rest,v∈Q
theorem xd.start {y:Nat} (hy:y∈Q):xd c f Q y y [y]:=⟨[],rfl,rfl,trivial,by simp,by simpa using hy⟩
theorem xd.step {y k u:Nat} {out:List Nat} (h:xd c f Q y k out) (hu:u∈Q) (hi:Q.idxOf u<Q.idxOf k) (hr:f u k<c u k):xd c f Q y u (out++[u]):=by
 obtain⟨rest,h1,h2,h3,h4,h5⟩:=h
 refine⟨k::rest,by rw[List.reverse_append,h1];rfl,by rw[List.getLast_cons (by simp)];exact h2,⟨hr,h3⟩,?_,?_⟩
 ·refine List.pairwise_cons.2 ⟨fun b hb=>?_,h4⟩
  rcases List.mem_cons.1 hb with rfl|hb
  ·exact hi
  ·have:=(List.pairwise_cons.1 h4).1 b hb;omega
 ·intro v hv
  rcases List.mem_cons.1 hv with rfl|hv
  ·exact hu
  ·exact h5 v hv
theorem xd.len {y k:Nat} {out:List Nat} (h:xd c f Q y k out) (hq:∀v∈Q,v<n):out.length<=n:=by
 obtain⟨rest,h1,_,_,h4,h5⟩:=h
 rw[<-List.length_reverse,h1]
 refine pZ n _ (h4.imp fun ei he=>?_) fun v hv=>hq v (h5 v hv)
 subst he;omega
structure UN (n:Nat) (c f:Nat->Nat->Int) (x y:Nat) (p:List Nat):Prop where
 way:∃r,p=x::r/\(x::r).getLast (by simp)=y
 nodup:p.Nodup
 room:sE f c p
 lt:∀v∈p,v<n
theorem xd.way {y:Nat} {out:List Nat} (h:xd c f Q y x out) (hq:∀v∈Q,v<n):UN n c f x y out.reverse:=by
 obtain⟨rest,h1,h2,h3,h4,h5⟩:=h
 rw[h1]
 exact⟨⟨rest,rfl,h2⟩,h4.imp fun ei he=>by subst he;omega,h3,fun v hv=>hq v (h5 v hv)⟩
end
end Go.Proofs.YtgoljkjaameagaaGreat.V

namespace Go.Proofs.YtgoljkjaameagaaGreat.V
open Go.RowKit
attribute [local irreducible] dK wpOps gw Call
attribute [local go_sem] aM fE eM fV fS dc upd cr K.av cI AV.cells AV.cell rowOf rowsOf part ld rowAt bE cj dy dS gU bJ cY ee fQ e6 dp dX cW cV dI dJ bP bc cL bL cP cN dV dY dW cK bU cX dU bK aO cR cC gT bw cG bQ aY dj aZ dz AV.undef bD bG dM dQ dE dG cE ec eh cz ea dZ cQ cU List.getD_cons_zero List.getD_cons_succ List.getD_nil List.all_cons List.all_nil Bool.and_true Bool.true_and Bool.and_self Bool.not_true Bool.not_false Option.map_some Option.map_none Option.bind_some Option.bind_none List.length_cons List.length_nil List.take_succ_cons List.take_zero List.take_nil List.drop_succ_cons List.drop_zero List.drop_nil List.head?_cons List.map_cons List.map_nil List.getElem?_cons_zero List.getElem?_cons_succ List.cons_append List.nil_append List.append_nil List.length_map List.set_cons_zero List.set_cons_succ Nat.reduceMul eq_self Int.toNat_natCast Int.natCast_nonneg and_self true_and and_true decide_true decide_false Bool.false_eq_true Nat.zero_add Nat.add_zero List.contains_cons List.contains_nil Bool.or_false Bool.false_or beq_self_eq_true Nat.reduceBEq ne_eq not_true_eq_false not_false_eq_true Id.mk.injEq false_and and_false Nat.reduceLT Int.reduceLE Int.reduceLT Int.reduceToNat Int.reduceNeg Int.reduceAdd Nat.le_refl List.length_append beq_true beq_false Bool.not_eq_eq_eq_not or_false false_or dH aj ar aH bh bz ck aV bd aX bf cJ bB
def mW (l:List Nat) (i x:Nat):Nat:=if x<i∨l.length-i<=x then l.getD (l.length-1-x) 0 else l.getD x 0
theorem AQ (l:List Nat):l.map eN=ef (fun x=>l.getD x 0) l.length:=by
 refine List.ext_getElem? fun i=>?_
 by_cases h:i<l.length
 ·rw[fK h,List.getElem?_map,List.getElem?_eq_getElem h];simp[List.getD_eq_getElem?_getD,h]
 ·rw[List.getElem?_eq_none (by simp;omega),List.getElem?_eq_none (by rw[gP];omega)]
theorem JY (l:List Nat):ef (mW l 0) l.length=l.map eN:=by
 rw[AQ]
 exact iL fun x hx=>by unfold mW;rw[if_neg ah]
theorem M1 (l:List Nat) {i:Nat} (h:l.length<=2*i+1) (hi:i<=l.length):ef (mW l i) l.length=l.reverse.map eN:=by
 rw[AQ l.reverse,List.length_reverse]
 refine iL fun x hx=>?_
 have hr:l.reverse.getD x 0=l.getD (l.length-1-x) 0:=by
  rw[List.getD_eq_getElem?_getD,List.getElem?_reverse hx,List.getD_eq_getElem?_getD]
 rw[hr]
 unfold mW
 by_cases hc:x<i∨l.length-i<=x
 ·rw[if_pos hc]
 ·rw[if_neg hc]
  have:x=l.length-1-x:=ah
  rw[<-this]
theorem JZ (l:List Nat) (hp:0<l.length) (hl:l.length<=1048576) (o:Id) (σ:aw) (ho:σ.get o=some ⟨true,1,l.map eN⟩) (sC:o.bj<σ.next):
  Call Tryz.prog 329 [.own o 0 l.length] σ fun r σ'=>σ'.get o=some ⟨true,1,l.reverse.map eN⟩/\σ.next<=σ'.next/\∀i:Id,i.bj<σ.next->(i=o)=False->σ'.get i=σ.get i:=by
 refine eA eF rfl fun kP=>?_
 clear kP
 rw[<-JY]at ho
 have KC:IntKind.i64.wrap ((l.length:Int)-1)=((l.length-1:Nat):Int):=by rw[bq ah];omega
 (try((repeat(revert hN;revert N;apply Pn.out));refine wk @KC ?_;(repeat(refine Pn.mk ?_;intro N hN))))
 refine aQ (fun m env st=>∃i:Nat,m=l.length-i/\2*i<=l.length+1/\i<=l.length/\env 2=.int .i64 (i:Int)/\env 3=.int .i64 ((l.length:Int)-1-i)/\st.get o=some ⟨true,1,ef (mW l i) l.length⟩/\σ.next<=st.next/\∀x:Id,x.bj<σ.next->(x=o)=False->st.get x=σ.get x) l.length ⟨0,rfl,ah,ah,by(simp only[go_sem, ↓reduceIte,Nat.reduceEqDiff,Nat.reduceAdd,Nat.reduceSub,Nat.reduceLeDiff,reduceCtorEq])<;>rfl,by(simp only[go_sem, ↓reduceIte,Nat.reduceEqDiff,Nat.reduceAdd,Nat.reduceSub,Nat.reduceLeDiff,reduceCtorEq,KC]);congr 1;omega,ho,aT,fun x _ _=>rfl⟩ ?_
 rintro m env_b st_b ⟨i,rfl,su,mb,b2,b3,bg,bn,eI⟩ bkp
 have b0:=bkp 0 (by kernel_rfl)
 simp only[go_sem, ↓reduceIte,Nat.reduceEqDiff,Nat.reduceAdd,Nat.reduceSub,Nat.reduceLeDiff,reduceCtorEq]at b0
 clear bkp
 have tl:=gP (mW l i) l.length
 have lI:=db (i:=o) (n:=st_b.next) ah
 by_cases hi:(i:Int)<(l.length:Int)-1-i
 ·have fZ:i<l.length:=ah
  obtain⟨j,hj⟩:∃j,j=l.length-1-i:=⟨_,rfl⟩
  have ga:j<l.length:=ah
  have O2:(l.length:Int)-1-i=(j:Int):=ah
  rw[O2]at b3 hi
  have g1:=fK (f:=mW l i) fZ
  have g2:=fK (f:=mW l i) ga
  have e1:mW l i i=l.getD i 0:=by unfold mW;rw[if_neg ah]
  have e2:mW l i j=l.getD j 0:=by unfold mW;rw[if_neg ah]
  have QZ:(ef (mW l i) l.length).set i (eN (l.getD j 0))=ef (fun x=>if x=i then l.getD j 0 else mW l i x) l.length:=qO fZ (if_pos rfl) fun x _ hx=>if_neg hx
  have Ma:(ef (fun x=>if x=i then l.getD j 0 else mW l i x) l.length).set j (eN (l.getD i 0))=ef (mW l (i+1)) l.length:=qO ga (by unfold mW;rw[if_pos ah];congr 1;omega) fun x hx Ux=>by
   by_cases CI:x=i
   ·rw[if_pos CI];unfold mW;rw[if_pos ah];congr 1;omega
   ·rw[if_neg CI];unfold mW
    by_cases hc:x<i∨l.length-i<=x
    ·rw[if_pos hc,if_pos ah]
    ·rw[if_neg hc,if_neg ah]
  have X5:=gP (fun x=>if x=i then l.getD j 0 else mW l i x) l.length
  have g3:=fK (f:=fun x=>if x=i then l.getD j 0 else mW l i x) ga
  rw[e1]at g1
  rw[e2]at g2
  rw[if_neg ah,e2]at g3
  rw[eN]at g1 g2 g3 QZ Ma
  have VJ:(i:Int)<(l.length:Int):=ah
  have nL:(j:Int)<(l.length:Int):=ah
  have jt:IntKind.i64.wrap ((i:Int)+1)=((i+1:Nat):Int):=ay ah
  have ml:IntKind.i64.wrap ((j:Int)-1)=(l.length:Int)-1-((i+1:Nat):Int):=by rw[bq ah];omega
  (try((repeat(revert hN;revert N;apply Pn.out));refine wk (tw @b0 (tw @b2 (tw @b3 (tw @bg (tw @hi (tw @VJ (tw @nL (tw @g1 (tw @g2 (tw @g3 (tw @QZ (tw @Ma (tw @tl (tw @X5 (tw @lI (tw @jt @ml)))))))))))))))) ?_;(repeat(refine Pn.mk ?_;intro N hN))))
  refine⟨_,?_,i+1,rfl,ah,ah,sd @jt,sd @ml,sd @Ma,aT,fun x hx Ak=>?_⟩
  ·omega
  ·have:=eI x hx Ak
   simp only[go_sem, ↓reduceIte,Nat.reduceEqDiff,Nat.reduceAdd,Nat.reduceSub,Nat.reduceLeDiff,reduceCtorEq,Ak,this]
 ·rw[M1 l ah mb]at bg
  (try((repeat(revert hN;revert N;apply Pn.out));refine wk (tw @b0 (tw @b2 (tw @b3 (tw @bg @hi)))) ?_;(repeat(refine Pn.mk ?_;intro N hN))))
  exact eS (.inr rfl) (vs:=[]) (by simp only[fM,go_sem, ↓reduceIte,Nat.reduceEqDiff,Nat.reduceAdd,Nat.reduceSub,Nat.reduceLeDiff,reduceCtorEq]) ⟨bg,aT,eI⟩
theorem WK (cnt:Nat) (uF:1<=cnt) (hn:cnt<=1048576) (c f:Nat->Nat->Int) (x y:Nat) (hx:x<cnt) (hy:y<cnt):
  oE Tryz.prog 301 [.dn (mC cnt c f),.int .i64 x,.int .i64 y] fun r=>(r=.bI/\∃S:Nat->Bool,S x=true/\S y=false/\∀u v,u<cnt->v<cnt->S u=true->S v=false->¬f u v<c u v)∨∃p:List Nat,r=.sl (p.map eN)/\UN cnt c f x y p:=by
 refine oE.body eF rfl fun hl n0=>?_
 clear hl
 have lM:=yV c cnt
 have kb:(0:Int)<=(cnt:Int):=ah
 have CI:(x:Int)<(cnt:Int):=ah
 have XZ:(y:Int)<(cnt:Int):=ah
 (try((repeat(revert hN;revert N;apply Pn.out));refine wk (tw @mC.eq_1 @lM) ?_;(repeat(refine Pn.mk ?_;intro N hN))))
 refine .inr (aI _ _ _ _ _ (fun r σ1 hq=>?_) (MZ cnt uF hn (-1) ⟨301002000,n0+1+1⟩ _ (sd @Nat.zero_add) aT))
 obtain⟨o,rfl,ho,Pa,Pb,j4⟩:=hq
 (try dsimp only at ho Pa Pb j4)
 refine hN _ _ ?_
 clear hN N
 have lI:=db Pb
 have qV:(cnt:Int)<=1048576:=ah
 have Vu:sS<sS+cnt:=ah
 have il:List.replicate cnt [AV.int .i64 (-1)]=eB (fun _=>-1) cnt:=by
  refine List.ext_getElem? fun i=>?_
  by_cases h:i<cnt
  ·rw[er h,List.getElem?_replicate,if_pos h];rfl
  ·rw[List.getElem?_eq_none (by simp;omega),List.getElem?_eq_none (by rw[dR];omega)]
 rw[il]at ho
 have DS:(eB (fun _=>-1) cnt).set x (aU (x:Int))=eB (fun v=>if v=x then(x:Int)else -1) cnt:=l8 hx (if_pos rfl) fun v _ hv=>if_neg hv
 have hg0:=er (f:=fun _=>-1) hx
 have tl0:=dR (fun _=>-1) cnt
 rw[aU]at DS hg0
 (try((repeat(revert hN;revert N;apply Pn.out));refine wk (tw @mC.eq_1 (tw @lM (tw @kb (tw @qV @lI)))) ?_;(repeat(refine Pn.mk ?_;intro N hN))))
 refine NH ?_
 simp only[go_sem, ↓reduceIte,Nat.reduceEqDiff,Nat.reduceAdd,Nat.reduceSub,Nat.reduceLeDiff,reduceCtorEq,Vu]
 refine hN _ _ ?_
 clear hN N
 (try((repeat(revert hN;revert N;apply Pn.out));refine wk (tw @ho (tw @lI (tw @DS (tw @hg0 (tw @tl0 @CI))))) ?_;(repeat(refine Pn.mk ?_;intro N hN))))
 obtain⟨C,hC⟩:∃C:Id,C=⟨301003001,σ1.next+1⟩:=⟨_,rfl⟩
 have VX:=bH (a:=o) (b:=C) (by rw[hC];(try dsimp only);omega)
 have hCv:C.bj=σ1.next+1:=by rw[hC]
 refine aQ (fun m env st=>∃(par:Nat->Int) (Q:List Nat) (i:Nat),m=cnt-i/\Bq cnt c f x par Q i/\st.get o=some ⟨true,1,eB par cnt⟩/\st.get C=some ⟨true,sS+cnt,(Q.drop i).map eN⟩/\σ1.next+1<st.next) cnt ⟨_,[x],0,rfl,Bq.start hx,sd @lI,by rw[hC];simp only[go_sem, ↓reduceIte,Nat.reduceEqDiff,Nat.reduceAdd,Nat.reduceSub,Nat.reduceLeDiff,reduceCtorEq,lI];rfl,aT⟩ ?_
 rintro m env_b st_b ⟨par,Q,i,rfl,hB,bgo,bgC,bn⟩ bkp
 have b0:=bkp 0 (by kernel_rfl)
 have b1:=bkp 1 (by kernel_rfl)
 have b2:=bkp 2 (by kernel_rfl)
 have b7:=bkp 7 (by kernel_rfl)
 have b8:=bkp 8 (by kernel_rfl)
 have b9:=bkp 9 (by kernel_rfl)
 rw[<-hC]at b9
 simp only[go_sem, ↓reduceIte,Nat.reduceEqDiff,Nat.reduceAdd,Nat.reduceSub,Nat.reduceLeDiff,reduceCtorEq]at b0 b1 b2 b7 b8 b9
 clear bkp
 have hQn:=hB.len
 have mb:=hB.ile
 have I7:((Q.drop i).map eN).length=Q.length-i:=by simp
 by_cases hi:i<Q.length
 ·have jO:(0:Int)<((Q.length-i:Nat):Int):=ah
  have tX:Q.drop i=Q[i]::Q.drop (i+1):=List.drop_eq_getElem_cons hi
  obtain⟨u,hu⟩:∃u,u=Q[i]:=⟨_,rfl⟩
  have hun:u<cnt:=by rw[hu];exact hB.lt _ (List.getElem_mem hi)
  rw[<-hu]at tX
  (try((repeat(revert hN;revert N;apply Pn.out));refine wk (tw @b0 (tw @b1 (tw @b2 (tw @b7 (tw @b8 (tw @b9 (tw @bgC (tw @I7 @jO)))))))) ?_;(repeat(refine Pn.mk ?_;intro N hN))))
  refine NH ?_
  rw[tX,List.map_cons,show eN u=[.int .i64 (u:Int)]from rfl]at bgC
  simp only[go_sem, ↓reduceIte,Nat.reduceEqDiff,Nat.reduceAdd,Nat.reduceSub,Nat.reduceLeDiff,reduceCtorEq,b9,bgC]
  refine hN _ _ ?_
  clear hN N
  (try((repeat(revert hN;revert N;apply Pn.out));refine wk @b7 ?_;(repeat(refine Pn.mk ?_;intro N hN))))
  refine aQ (fun m env st=>∃(v:Nat) (par':Nat->Int) (Q':List Nat),m=cnt-v/\v<=cnt/\env 36=.int .i64 (v:Int)/\Bq cnt c f x par' Q' i/\(∃h:i<Q'.length,Q'[i]=u)/\st.get o=some ⟨true,1,eB par' cnt⟩/\st.get C=some ⟨true,sS+cnt,(Q'.drop (i+1)).map eN⟩/\σ1.next+1<st.next/\∀w,w<v->f u w<c u w->0<=par' w) cnt ⟨0,par,Q,rfl,Nat.zero_le _,by(simp only[go_sem, ↓reduceIte,Nat.reduceEqDiff,Nat.reduceAdd,Nat.reduceSub,Nat.reduceLeDiff,reduceCtorEq])<;>rfl,hB,⟨hi,hu.symm⟩,sd (tw @VX @bgo),sd @VX,aT,fun w hw=>absurd hw (Nat.not_lt_zero w)⟩ ?_
  rintro m env_c st_c ⟨v,par',Q',rfl,hvn,c36,dL,⟨sr,HO⟩,zT,cgC,cn,dP⟩ ckp
  have c0:=ckp 0 (by kernel_rfl)
  have c1:=ckp 1 (by kernel_rfl)
  have c2:=ckp 2 (by kernel_rfl)
  have c7:=ckp 7 (by kernel_rfl)
  have c8:=ckp 8 (by kernel_rfl)
  have c9:=ckp 9 (by kernel_rfl)
  have jY:=ckp 10 (by kernel_rfl)
  have RE:=ckp 35 (by kernel_rfl)
  simp only[go_sem, ↓reduceIte,Nat.reduceEqDiff,Nat.reduceAdd,Nat.reduceSub,Nat.reduceLeDiff,reduceCtorEq,b0,b1,b2,b7,b8,b9]at c0 c1 c2 c7 c8 c9 jY RE
  clear ckp
  have tl:=dR par' cnt
  by_cases hv:(v:Int)<(cnt:Int)
  ·have Gg:v<cnt:=ah
   have Sv:=er (f:=par') Gg
   have j4:=RW cnt c f u v hun Gg
   have hw:IntKind.i64.wrap ((v:Int)+1)=((v+1:Nat):Int):=ay ah
   rw[aU]at Sv
   rw[mC]at j4
   by_cases kQ:par' v<0
   ·by_cases hr:f u v<c u v
    ·rw[decide_eq_true hr]at j4
     have eb:(eB par' cnt).set v (aU (u:Int))=eB (fun w=>if w=v then(u:Int)else par' w) cnt:=l8 Gg (if_pos rfl) fun w _ hw=>if_neg hw
     rw[aU]at eb
     have qU:=dL.visit sr Gg kQ (by rw[HO];exact hr)
     rw[HO]at qU
     have hQ2:=qU.len
     rw[List.length_append]at hQ2
     simp only[List.length_singleton]at hQ2
     have gG:sS+(Q'.drop (i+1)).length<sS+cnt:=by rw[List.length_drop];omega
     (repeat(first|((repeat(revert hN;revert N;apply Pn.out));refine wk (tw @mC.eq_1 (tw @c0 (tw @c7 (tw @c8 (tw @c9 (tw @jY (tw @c36 (tw @RE (tw @hv (tw @zT (tw @Sv (tw @tl (tw @kQ @eb))))))))))))) ?_;(repeat(refine Pn.mk ?_;intro N hN)))|((try apply Or.inl);refine⟨_,au.x (j4) (sd (tw @mC.eq_1 (tw @c0 (tw @c7 (tw @c8 (tw @c9 (tw @jY (tw @c36 (tw @RE (tw @hv (tw @zT (tw @Sv (tw @tl (tw @kQ @eb)))))))))))))),?_⟩;refine hN _ _ ?_;clear hN N)))
     refine NH ?_
     have hq:(Q'.drop (i+1)).map eN++[[.int .i64 (v:Int)]]=((Q'++[v]).drop (i+1)).map eN:=by rw[List.drop_append_of_le_length ah,List.map_append];rfl
     simp only[go_sem, ↓reduceIte,Nat.reduceEqDiff,Nat.reduceAdd,Nat.reduceSub,Nat.reduceLeDiff,reduceCtorEq,c9,cgC,gG,VX,hq]
     refine hN _ _ ?_
     clear hN N
     (try((repeat(revert hN;revert N;apply Pn.out));refine wk (tw @c36 @hw) ?_;(repeat(refine Pn.mk ?_;intro N hN))))
     refine⟨_,?_,v+1,_,_,rfl,Gg,sd @hw,qU,⟨by rw[List.length_append];omega,by rw[List.getElem_append_left sr];exact HO⟩,sd @VX,sd @VX,aT,fun w hw L9=>?_⟩
     ·omega
     ·by_cases HP:w=v
      ·rw[if_pos HP];omega
      ·rw[if_neg HP];exact dP w ah L9
    ·rw[decide_eq_false hr]at j4
     (repeat(first|((repeat(revert hN;revert N;apply Pn.out));refine wk (tw @mC.eq_1 (tw @c0 (tw @c7 (tw @c8 (tw @c9 (tw @jY (tw @c36 (tw @RE (tw @hv (tw @zT (tw @Sv (tw @tl (tw @kQ @hw))))))))))))) ?_;(repeat(refine Pn.mk ?_;intro N hN)))|((try apply Or.inl);refine⟨_,au.x (j4) (sd (tw @mC.eq_1 (tw @c0 (tw @c7 (tw @c8 (tw @c9 (tw @jY (tw @c36 (tw @RE (tw @hv (tw @zT (tw @Sv (tw @tl (tw @kQ @hw)))))))))))))),?_⟩;refine hN _ _ ?_;clear hN N)))
     refine⟨_,?_,v+1,par',Q',rfl,Gg,sd @hw,dL,⟨sr,HO⟩,sd @zT,sd @cgC,aT,fun w hw L9=>?_⟩
     ·omega
     ·by_cases HP:w=v
      ·subst HP;exact absurd L9 hr
      ·exact dP w ah L9
   ·(try((repeat(revert hN;revert N;apply Pn.out));refine wk (tw @mC.eq_1 (tw @c0 (tw @c7 (tw @c8 (tw @c9 (tw @jY (tw @c36 (tw @RE (tw @hv (tw @zT (tw @Sv (tw @tl (tw @kQ @hw))))))))))))) ?_;(repeat(refine Pn.mk ?_;intro N hN))))
    refine⟨_,?_,v+1,par',Q',rfl,Gg,sd @hw,dL,⟨sr,HO⟩,sd @zT,sd @cgC,aT,fun w hw L9=>?_⟩
    ·omega
    ·by_cases HP:w=v
     ·subst HP;omega
     ·exact dP w ah L9
  ·have Z9:v=cnt:=ah
   subst Z9
   (try((repeat(revert hN;revert N;apply Pn.out));refine wk (tw @c36 (tw @RE @hv)) ?_;(repeat(refine Pn.mk ?_;intro N hN))))
   refine⟨_,?_,par',Q',i+1,rfl,dL.next sr fun w hw hr=>dP w hw (by rw[<-HO];exact hr),sd @zT,sd @cgC,aT⟩
   omega
 ·have hiQ:i=Q.length:=ah
  subst hiQ
  have jO:¬(0:Int)<((Q.length-Q.length:Nat):Int):=ah
  have Zq:=er (f:=par) hy
  have tl:=dR par cnt
  rw[aU]at Zq
  by_cases kQ:par y<0
  ·(try((repeat(revert hN;revert N;apply Pn.out));refine wk (tw @b0 (tw @b1 (tw @b2 (tw @b7 (tw @b8 (tw @b9 (tw @bgC (tw @I7 (tw @jO (tw @bgo (tw @Zq (tw @tl (tw @XZ @kQ))))))))))))) ?_;(repeat(refine Pn.mk ?_;intro N hN))))
   exact⟨[.bI],sd @Nat.zero_add,.bI,kO _ _,.inl ⟨rfl,hB.cut hy kQ⟩⟩
  ·(try((repeat(revert hN;revert N;apply Pn.out));refine wk (tw @b0 (tw @b1 (tw @b2 (tw @b7 (tw @b8 (tw @b9 (tw @bgC (tw @I7 (tw @jO (tw @bgo (tw @Zq (tw @tl (tw @XZ @kQ))))))))))))) ?_;(repeat(refine Pn.mk ?_;intro N hN))))
   refine aQ (fun m env st=>∃(k:Nat) (out:List Nat) (p:Id),m=Q.idxOf k/\env 13=.int .i64 (k:Int)/\env 12=.own p 0 out.length/\st.get p=some ⟨true,1,out.map eN⟩/\p.bj<st.next/\st_b.next<=p.bj/\k∈Q/\xd c f Q y k out/\st.get o=some ⟨true,1,eB par cnt⟩) (Q.idxOf y) ⟨y,[y],⟨301017001,st_b.next+1+1⟩,rfl,by(simp only[go_sem, ↓reduceIte,Nat.reduceEqDiff,Nat.reduceAdd,Nat.reduceSub,Nat.reduceLeDiff,reduceCtorEq]),by(simp only[go_sem, ↓reduceIte,Nat.reduceEqDiff,Nat.reduceAdd,Nat.reduceSub,Nat.reduceLeDiff,reduceCtorEq])<;>rfl,by(simp only[go_sem, ↓reduceIte,Nat.reduceEqDiff,Nat.reduceAdd,Nat.reduceSub,Nat.reduceLeDiff,reduceCtorEq])<;>rfl,aT,aT,(hB.iff y hy).1 ah,xd.start ((hB.iff y hy).1 ah),by(have Uu:=db (i:=o) (n:=st_b.next) ah);simp only[go_sem, ↓reduceIte,Nat.reduceEqDiff,Nat.reduceAdd,Nat.reduceSub,Nat.reduceLeDiff,reduceCtorEq,Uu,bgo]⟩ ?_
   rintro m env_d st_d ⟨k,out,p,rfl,d13,d12,dgp,dpn,dpo,hkQ,wY,dgo⟩ dkp
   have d1:=dkp 1 (by kernel_rfl)
   have d8:=dkp 8 (by kernel_rfl)
   simp only[go_sem, ↓reduceIte,Nat.reduceEqDiff,Nat.reduceAdd,Nat.reduceSub,Nat.reduceLeDiff,reduceCtorEq,b1,b8]at d1 d8
   clear dkp
   have CH:=db dpn
   have DW:=db (i:=o) (n:=st_d.next) ah
   have ej:=bH (a:=o) (b:=p) ah
   have O7:=wY.len hB.lt
   have fy:=hB.lt k hkQ
   have ik:(out.map eN).length=out.length:=by simp
   by_cases XD:k=x
   ·have hd:decide ((k:Int)=(x:Int))=true:=decide_eq_true (by rw[XD])
    have ZQ:0<out.length:=by
     obtain⟨rest,h1,_⟩:=wY
     rw[<-List.length_reverse,h1];simp
    (try((repeat(revert hN;revert N;apply Pn.out));refine wk (tw @d1 (tw @d8 (tw @d12 (tw @d13 (tw @hd @Bool.not_true))))) ?_;(repeat(refine Pn.mk ?_;intro N hN))))
    refine .inr (aI _ _ _ _ _ (fun r σ2 hq=>?_) (JZ out ZQ ah p _ dgp aT))
    obtain⟨Sq,nX,LR⟩:=hq
    refine hN _ _ ?_
    clear hN N
    (try((repeat(revert hN;revert N;apply Pn.out));refine wk @d12 ?_;(repeat(refine Pn.mk ?_;intro N hN))))
    refine⟨[.own p 0 out.length],sd @d12,.sl (out.reverse.map eN),?_,.inr ⟨out.reverse,rfl,by subst XD;exact wY.way hB.lt⟩⟩
    exact gq (sz:=1) Sq (by simp) fun a=>RZ _ 4 a
   ·have hd:decide ((k:Int)=(x:Int))=false:=decide_eq_false fun h=>XD ah
    obtain⟨u,huQ,hpu,BB,hr⟩:=hB.up k hkQ XD
    have eP:=er (f:=par) fy
    rw[aU,hpu]at eP
    have hki:(k:Int)<(cnt:Int):=ah
    have e1:out.length+1<=16777216:=ah
    (try((repeat(revert hN;revert N;apply Pn.out));refine wk (tw @d1 (tw @d8 (tw @d12 (tw @d13 (tw @hd (tw @Bool.not_false (tw @dgo (tw @dgp (tw @eP (tw @tl (tw @hki (tw @CH (tw @DW (tw @ej (tw @ik @e1))))))))))))))) ?_;(repeat(refine Pn.mk ?_;intro N hN))))
    refine⟨_,BB,u,out++[u],⟨301021003,st_d.next+1+1⟩,rfl,sd @Nat.zero_add,by rw[List.length_append];simp only[go_sem, ↓reduceIte,Nat.reduceEqDiff,Nat.reduceAdd,Nat.reduceSub,Nat.reduceLeDiff,reduceCtorEq,List.length_cons,List.length_nil],by rw[List.map_append,List.map_cons,List.map_nil];simp only[go_sem, ↓reduceIte,Nat.reduceEqDiff,Nat.reduceAdd,Nat.reduceSub,Nat.reduceLeDiff,reduceCtorEq,eN],aT,aT,huQ,wY.step huQ BB hr,sd (tw @DW (tw @ej @dgo))⟩
theorem CZ (b:Nat):∀(l:List Nat) (a:Nat) (f:Nat->Nat->Int),nr f ((a::l)++[b])=lp (nr f (a::l)) ((a::l).getLast (by simp)) b
 |[],a,f=>rfl
 |c::l,a,f=>by
  rw[List.cons_append,List.cons_append,nr,<-List.cons_append,CZ b l c (lp f a c),nr,List.getLast_cons_cons]
theorem Is {p:List Nat} {f:Nat->Nat->Int} {i:Nat} (h1:1<=i) (hi:i<p.length):nr f (p.take (i+1))=lp (nr f (p.take i)) (p[i-1]'ah) p[i]:=by
 rw[List.take_succ_eq_append_getElem hi]
 have iD:p.take i≠[]:=by
  intro h
  have:(p.take i).length=0:=by rw[h];rfl
  rw[List.length_take]at this;omega
 obtain⟨a,l,LH⟩:∃a l,p.take i=a::l:=by
  cases h:p.take i with
  |nil=>exact absurd h iD
  |cons a l=>exact⟨a,l,rfl⟩
 have s9:(p.take i).getLast iD=p[i-1]'ah:=by
  rw[List.getLast_eq_getElem,List.getElem_take]
  congr 1
  rw[List.length_take];omega
 simp only[LH]at s9 ⊢
 rw[CZ,s9]
theorem JU (f:Nat->Nat->Int) (a b u v:Nat):lp f a b u v<=f u v+1/\f u v-1<=lp f a b u v:=by
 unfold lp bump
 split<;>split<;>constructor<;>omega
theorem nu:∀(p:List Nat) (f:Nat->Nat->Int) (u v:Nat),nr f p u v<=f u v+p.length/\f u v-p.length<=nr f p u v
 |[],f,u,v=>by simp[nr]
 |[_],f,u,v=>by simp[nr];omega
 |a::b::r,f,u,v=>by
  rw[nr]
  have h1:=nu (b::r) (lp f a b) u v
  have h2:=JU f a b u v
  simp only[List.length_cons]at h1 ⊢
  omega
theorem rF.push {g g':Rows} {X o1 o2:Id} {R1 R2:Nat->Id} {n nb:Nat} {c f:Nat->Nat->Int} (I:KK X o1 o2 R1 R2 n nb) (h:rF g X o1 o2 R1 R2 n c f) {a b:Nat} (ha:a<n) (hb:b<n) (nV:a≠b) (hA:g' (R2 a)=some ⟨true,1,eB (bump f a b 1 a) n⟩) (hB:g' (R2 b)=some ⟨true,1,eB (bump (bump f a b 1) b a (-1) b) n⟩) (hf:∀i:Id,i.bj<nb->(i=R2 a)=False->(i=R2 b)=False->g' i=g i):rF g' X o1 o2 R1 R2 n c (lp f a b):=by
 have ne:∀{i:Id} {s:Nat},i.site=s->(s==299005006)=false->∀a,a<n->(i=R2 a)=False:=fun {i s} hi hs a ha=>by
  simp only[eq_iff_iff,iff_false]
  rintro rfl
  rw[I.Rb a ha]at hi
  subst hi
  simp at hs
 refine⟨(hf _ I.vx (ne I.sx (by decide) _ ha) (ne I.sx (by decide) _ hb)).trans h.x,(hf _ I.v1 (ne I.s1 (by decide) _ ha) (ne I.s1 (by decide) _ hb)).trans h.t1,(hf _ I.v2 (ne I.s2 (by decide) _ ha) (ne I.s2 (by decide) _ hb)).trans h.t2,fun i hi=>(hf _ (I.vr1 i hi) (ne (I.X4 i hi) (by decide) _ ha) (ne (I.X4 i hi) (by decide) _ hb)).trans (h.r1 i hi),fun i hi=>?_⟩
 by_cases NY:i=b
 ·subst NY;exact hB
 ·by_cases NX:i=a
  ·subst NX
   rw[hA,lp,kM NY]
  ·rw[lp,kM NY,kM NX,hf _ (I.WH i hi) (by simp only[eq_iff_iff,iff_false];exact fun he=>NX (I.i2 i _ hi ha he)) (by simp only[eq_iff_iff,iff_false];exact fun he=>NY (I.i2 i _ hi hb he))]
   exact h.r2 i hi
theorem Tq (cnt:Nat) (uF:1<=cnt) (hn:cnt<=1048576) (c:Nat->Nat->Int) (hc:∀u v,u<cnt->v<cnt->0<=c u v/\c u v<=16777216) (x y:Nat) (hx:x<cnt) (hy:y<cnt) (Wc:x≠y) (t:Int) (ht:t<=1099511627776)
  (X o1 o2:Id) (R1 R2:Nat->Id) (nb:Nat) (I:KK X o1 o2 R1 R2 cnt nb) (σ:aw) (hM:rF σ.get X o1 o2 R1 R2 cnt c (fun _ _=>0)) (XL:nb<=σ.next):
  Call Tryz.prog 300 [.ptr X 0 0,.int .i64 x,.int .i64 y,.int .i64 t] σ fun r σ'=>∃val:Int,r=.int .i64 val/\(val<t↔∃S:Nat->Bool,S x=true/\S y=false/\nv cnt S c<t)/\σ.next<=σ'.next:=by
 refine eA eF rfl fun hl=>?_
 clear hl
 have hxS:(fun v=>decide (v=x)) x=true:=by simp
 have hyS:(fun v=>decide (v=x)) y=false:=by simp;exact fun h=>Wc h.symm
 obtain⟨top,Z5⟩:∃top,top=nv cnt (fun v=>decide (v=x)) c:=⟨_,rfl⟩
 (try((repeat(revert hN;revert N;apply Pn.out));refine wk @Nat.zero_add ?_;(repeat(refine Pn.mk ?_;intro N hN))))
 refine aQ (fun m env st=>∃(k:Nat) (f:Nat->Nat->Int),m=(top-k).toNat/\env 9=.int .i64 (k:Int)/\pj cnt c f x y k/\rF st.get X o1 o2 R1 R2 cnt c f/\σ.next<=st.next/\(0<k->(k:Int)<=t)/\∀u v,-((k:Int)*(cnt:Int))<=f u v) (top-0).toNat ⟨0,fun _ _=>0,rfl,by(simp only[go_sem, ↓reduceIte,Nat.reduceEqDiff,Nat.reduceAdd,Nat.reduceSub,Nat.reduceLeDiff,reduceCtorEq])<;>rfl,pj.zero fun u v hu hv=>(hc u v hu hv).1,hM,aT,fun h=>absurd h (Nat.lt_irrefl 0),fun u v=>by simp⟩ ?_
 rintro m env_b st_b ⟨k,f,rfl,b9,hF,bM,bn,bk,blo⟩ bkp
 have b0:=bkp 0 (by kernel_rfl)
 have b1:=bkp 1 (by kernel_rfl)
 have b2:=bkp 2 (by kernel_rfl)
 have b3:=bkp 3 (by kernel_rfl)
 simp only[go_sem, ↓reduceIte,Nat.reduceEqDiff,Nat.reduceAdd,Nat.reduceSub,Nat.reduceLeDiff,reduceCtorEq]at b0 b1 b2 b3
 clear bkp
 have hz:cZ (dH st_b.get) 6 [.ptr X 0 0,.int .i64 (x:Int),.int .i64 (y:Int)]=some [.dn (mC cnt c f),.int .i64 x,.int .i64 y]:=by simp only[aj,ar,bM.fz,aH,Option.map_some]
 (try((repeat(revert hN;revert N;apply Pn.out));refine wk (tw @b0 (tw @b1 (tw @b2 (tw @b3 @b9)))) ?_;(repeat(refine Pn.mk ?_;intro N hN))))
 refine .inr (aI _ _ _ _ _ (fun r σ1 hq=>?_) ((WK cnt uF hn c f x y hx hy).x mixed hz))
 obtain⟨SN,rfl⟩:=hq
 refine hN _ _ ?_
 clear hN N
 rcases SN with⟨rfl,S,Sh,LF,Xs⟩|⟨p,rfl,hW⟩
 ·(try((repeat(revert hN;revert N;apply Pn.out));refine wk (tw @b0 (tw @b1 (tw @b2 (tw @b3 (tw @b9 (tw @Bool.not_true @Bool.not_false)))))) ?_;(repeat(refine Pn.mk ?_;intro N hN))))
  refine eS (.inl rfl) (vs:=[.int .i64 (k:Int)]) (sd @Nat.zero_add) ⟨(k:Int),rfl,⟨fun h=>⟨S,Sh,LF,by rw[<-hF.full Sh LF Xs];exact h⟩,fun⟨S',h1,h2,h3⟩=>by have:=hF.bound h1 h2;omega⟩,aT⟩
 ·obtain⟨⟨rs,rfl,s9⟩,lk,gG,hplt⟩:=hW
  by_cases O4:t<=(k:Int)
  ·(try((repeat(revert hN;revert N;apply Pn.out));refine wk (tw @b0 (tw @b1 (tw @b2 (tw @b3 (tw @b9 (tw @O4 (tw @Bool.not_true @Bool.not_false))))))) ?_;(repeat(refine Pn.mk ?_;intro N hN))))
   refine eS (.inl rfl) (vs:=[.int .i64 (k:Int)]) (sd @Nat.zero_add) ⟨(k:Int),rfl,⟨fun h=>ah,fun⟨S',h1,h2,h3⟩=>by have:=hF.bound h1 h2;omega⟩,aT⟩
  ·(try((repeat(revert hN;revert N;apply Pn.out));refine wk (tw @b0 (tw @b1 (tw @b2 (tw @b3 (tw @b9 (tw @O4 (tw @Bool.not_true @Bool.not_false))))))) ?_;(repeat(refine Pn.mk ?_;intro N hN))))
   have mj:=pZ cnt _ lk hplt
   have hkc:(k:Int)*(cnt:Int)<=1099511627776*1048576:=Int.mul_le_mul ah ah ah ah
   have hfb:=hF.bound (S:=fun v=>decide (v=x)) hxS hyS
   have hnear:=nu
   obtain⟨p,hp⟩:∃p,p=x::rs:=⟨_,rfl⟩
   have O5:eN x::List.map eN rs=p.map eN:=by rw[hp];rfl
   rw[O5]
   have Pc:1<=p.length:=by rw[hp];simp
   have Ve:=hF.aug s9 lk gG hplt
   rw[<-hp]at Ve lk gG hplt mj
   have SR:p.take 1=[x]:=by rw[hp];rfl
   clear O5 s9
   refine aQ (fun m env st=>∃i:Nat,m=p.length-i/\1<=i/\i<=p.length/\env 11=.int .i64 (i:Int)/\rF st.get X o1 o2 R1 R2 cnt c (nr f (p.take i))/\st_b.next<=st.next) (p.length-1) ⟨1,rfl,Nat.le_refl _,Pc,by(simp only[go_sem, ↓reduceIte,Nat.reduceEqDiff,Nat.reduceAdd,Nat.reduceSub,Nat.reduceLeDiff,reduceCtorEq])<;>rfl,by rw[SR];exact bM,aT⟩ ?_
   rintro m env_c st_c ⟨i,rfl,O1,mb,oW,cM,cn⟩ ckp
   have c0:=ckp 0 (by kernel_rfl)
   have c1:=ckp 1 (by kernel_rfl)
   have c2:=ckp 2 (by kernel_rfl)
   have c3:=ckp 3 (by kernel_rfl)
   have c9:=ckp 9 (by kernel_rfl)
   have jY:=ckp 10 (by kernel_rfl)
   simp only[go_sem, ↓reduceIte,Nat.reduceEqDiff,Nat.reduceAdd,Nat.reduceSub,Nat.reduceLeDiff,reduceCtorEq,b0,b1,b2,b3,b9]at c0 c1 c2 c3 c9 jY
   clear ckp
   have ik:(p.map eN).length=p.length:=by simp
   by_cases hi:(i:Int)<(p.length:Int)
   ·have fZ:i<p.length:=ah
    have zx:=Is (f:=f) O1 fZ
    obtain⟨a,ha⟩:∃a,a=p[i-1]'ah:=⟨_,rfl⟩
    obtain⟨b,hb⟩:∃b,b=p[i]:=⟨_,rfl⟩
    have HI:a<cnt:=by rw[ha];exact hplt _ (List.getElem_mem _)
    have HJ:b<cnt:=by rw[hb];exact hplt _ (List.getElem_mem _)
    have nV:a≠b:=by
     rw[ha,hb]
     exact List.pairwise_iff_getElem.1 lk (i-1) i ah fZ ah
    have VE:(p.map eN)[i-1]? =some [.int .i64 (a:Int)]:=by rw[List.getElem?_map,List.getElem?_eq_getElem ah,ha];rfl
    have Sr:(p.map eN)[i]? =some [.int .i64 (b:Int)]:=by rw[List.getElem?_map,List.getElem?_eq_getElem fZ,hb];rfl
    rw[<-ha,<-hb]at zx
    have ZD:=nu (p.take i) f a b
    have ZE:=nu (p.take i) f b a
    rw[List.length_take]at ZD ZE
    have XF:=blo b a
    have XG:=blo a b
    have Mc:=hF.le a b HI HJ
    have V6:=hF.le b a HJ HI
    have hca:=hc a b HI HJ
    have HK:=hc b a HJ HI
    generalize nr f (p.take i)=fl at *
    have gA:=tO (R:=R2) (n:=cnt) HI
    have gB:=tO (R:=R2) (n:=cnt) HJ
    have rA:=cM.r2 _ HI
    have rB:=cM.r2 _ HJ
    have cA:=er (f:=fl a) HJ
    have cB:=er (f:=fl b) HI
    have sA:=pB (f:=fl) (a:=a) (d:=1) HJ
    have SI:bump fl a b 1 b=fl b:=kM fun h=>nV h.symm
    have sB:=pB (f:=bump fl a b 1) (a:=b) (b:=a) (d:=-1) (n:=cnt) HI
    rw[SI]at sB
    have gX:=cM.x
    have g2:=cM.t2
    have ij:(a:Int)<(cnt:Int):=ah
    have fR:(b:Int)<(cnt:Int):=ah
    have KC:IntKind.i64.wrap ((i:Int)-1)=((i-1:Nat):Int):=by rw[bq ah];omega
    have su:((i-1:Nat):Int)<(p.length:Int):=ah
    have wA:IntKind.i64.wrap (fl a b+1)=fl a b+1:=bq ah
    have wB:IntKind.i64.wrap (fl b a-1)=fl b a+-1:=by rw[bq ah];omega
    have Wa:IntKind.i64.wrap ((i:Int)+1)=((i+1:Nat):Int):=ay ah
    have l2:=kU R2 cnt cnt
    have lA:=dR (fl a) cnt
    have lB:=dR (fl b) cnt
    have iD:(R2 a=R2 b)=False:=by simp only[eq_iff_iff,iff_false];exact fun h=>nV (I.i2 _ _ HI HJ h)
    have LX:(R2 b=R2 a)=False:=by simp only[eq_iff_iff,iff_false];exact fun h=>nV (I.i2 _ _ HI HJ h.symm)
    have xA:=Ch I.sx (I.Rb a HI) (by decide)
    have xB:=Ch I.sx (I.Rb b HJ) (by decide)
    have yA:=Ch I.s2 (I.Rb a HI) (by decide)
    have yB:=Ch I.s2 (I.Rb b HJ) (by decide)
    have qX:=db (i:=X) (n:=st_c.next) (by have:=I.vx;omega)
    have q2:=db (i:=o2) (n:=st_c.next) (by have:=I.v2;omega)
    have qA:=db (i:=R2 a) (n:=st_c.next) (by have:=I.WH a HI;omega)
    have qB:=db (i:=R2 b) (n:=st_c.next) (by have:=I.WH b HJ;omega)
    rw[aU]at cA cB sA sB
    (try((repeat(revert hN;revert N;apply Pn.out));refine wk (tw @c0 (tw @c9 (tw @jY (tw @oW (tw @ik (tw @hi (tw @su (tw @VE (tw @Sr (tw @gA (tw @gB (tw @rA (tw @rB (tw @cA (tw @cB (tw @sA (tw @sB (tw @gX (tw @g2 (tw @ij (tw @fR (tw @KC (tw @wA (tw @wB (tw @Wa (tw @l2 (tw @lA (tw @lB (tw @iD (tw @LX (tw @xA (tw @xB (tw @yA (tw @yB (tw @qX (tw @q2 (tw @qA @qB))))))))))))))))))))))))))))))))))))) ?_;(repeat(refine Pn.mk ?_;intro N hN))))
    refine⟨_,?_,i+1,rfl,ah,ah,sd @Wa,?_,aT⟩
    ·omega
    ·rw[zx]
     refine cM.push I HI HJ nV ?_ ?_ fun j hj h1 h2=>?_
     ·simp only[go_sem, ↓reduceIte,Nat.reduceEqDiff,Nat.reduceAdd,Nat.reduceSub,Nat.reduceLeDiff,reduceCtorEq,iD]
     ·simp only[go_sem, ↓reduceIte,Nat.reduceEqDiff,Nat.reduceAdd,Nat.reduceSub,Nat.reduceLeDiff,reduceCtorEq,iD]
     ·simp only[go_sem, ↓reduceIte,Nat.reduceEqDiff,Nat.reduceAdd,Nat.reduceSub,Nat.reduceLeDiff,reduceCtorEq,h1,h2]
   ·have F8:i=p.length:=ah
    subst F8
    rw[List.take_length]at cM
    have SV:IntKind.i64.wrap ((k:Int)+1)=((k+1:Nat):Int):=ay ah
    have Zk:=Ve.bound (S:=fun v=>decide (v=x)) hxS hyS
    (try((repeat(revert hN;revert N;apply Pn.out));refine wk (tw @c0 (tw @c9 (tw @jY (tw @oW (tw @ik (tw @hi @SV)))))) ?_;(repeat(refine Pn.mk ?_;intro N hN))))
    refine⟨_,?_,k+1,_,rfl,sd @SV,by rw[Int.natCast_add];exact Ve,cM,aT,fun _=>ah,fun u v=>?_⟩
    ·rw[<-Z5]at Zk;omega
    ·have h1:=(nu p f u v).2
     have h2:=blo u v
     rw[Int.natCast_add,Int.add_mul]
     omega
noncomputable def vI (n:Nat) (bs:List PB) (t:Int):Bool:=@decide (lK n bs t) (Classical.propDecidable _)
theorem Ai {n:Nat} {bs:List PB} {t:Int} (h:lK n bs t):true=vI n bs t:=by simp[vI,h]
theorem DM {n:Nat} {bs:List PB} {t:Int} (h:¬lK n bs t):false=vI n bs t:=by simp[vI,h]
theorem O8 (cnt:Nat) (hn:cnt<=1048576) (bs:List PB) (hb:∀b∈bs,b.a<cnt/\b.b<cnt) (dC:∀b∈bs,0<=b.s/\b.s<=4) (nW:bs.length<=1048576) (t:Int) (ht:t<=1099511627776):
  au Tryz.prog 288 [.int .i64 cnt,.sl (bs.map aD),.int .i64 t] (.bool (vI cnt bs t)):=by
 refine au.body eF rfl fun hl n0=>?_
 clear hl
 have o9:=Ca bs (fun _ _=>0) (fun b h=>(dC b h).1) (fun _ _=>Int.le_refl _)
 have hle:=room_le bs (fun _ _=>0) 0 (fun b h=>(dC b h).2) (fun _ _=>Int.le_refl _) (Int.le_refl _)
 have gG:bs.foldl oU (fun _ _=>0)=lZ bs:=rfl
 rw[gG]at o9 hle
 (try((repeat(revert hN;revert N;apply Pn.out));refine wk @Nat.zero_add ?_;(repeat(refine Pn.mk ?_;intro N hN))))
 refine aQ (fun m env st=>∃y:Nat,m=cnt+1-y/\1<=y/\env 7=.int .i64 (y:Int)/\y<=cnt+1/\∀z,1<=z->z<y->z<cnt->∀S:Nat->Bool,S 0=true->S z=false->t<=jz S bs) (cnt+1-1) ⟨1,rfl,Nat.le_refl _,by(simp only[go_sem, ↓reduceIte,Nat.reduceEqDiff,Nat.reduceAdd,Nat.reduceSub,Nat.reduceLeDiff,reduceCtorEq])<;>rfl,ah,fun z h1 h2=>ah⟩ ?_
 rintro m env_b st_b ⟨y,rfl,hy1,b7,hyl,dP⟩ bkp
 have b0:=bkp 0 (by kernel_rfl)
 have b1:=bkp 1 (by kernel_rfl)
 have b2:=bkp 2 (by kernel_rfl)
 simp only[go_sem, ↓reduceIte,Nat.reduceEqDiff,Nat.reduceAdd,Nat.reduceSub,Nat.reduceLeDiff,reduceCtorEq]at b0 b1 b2
 clear bkp
 by_cases hy:(y:Int)<(cnt:Int)
 ·have hyn:y<cnt:=ah
  (try((repeat(revert hN;revert N;apply Pn.out));refine wk (tw @b0 (tw @b1 (tw @b2 (tw @b7 @hy)))) ?_;(repeat(refine Pn.mk ?_;intro N hN))))
  refine .inr (aI _ _ _ _ _ (fun r σ1 hq=>?_) (Et cnt ah hn bs hb dC nW _))
  obtain⟨X,o1,o2,R1,R2,rfl,I,Jc,hM,_⟩:=hq
  refine hN _ _ ?_
  clear hN N
  (try((repeat(revert hN;revert N;apply Pn.out));refine wk (tw @b0 (tw @b1 (tw @b2 @b7))) ?_;(repeat(refine Pn.mk ?_;intro N hN))))
  have Z2:=Tq cnt ah hn (lZ bs) (fun u v _ _=>⟨o9 u v,by have:=hle u v;omega⟩) 0 y ah hyn ah t ht X o1 o2 R1 R2 σ1.next I
  refine .inr (aI _ _ _ _ _ (fun r σ2 hq=>?_) (Z2 _ hM aT))
  obtain⟨val,rfl,uH,nX⟩:=hq
  refine hN _ _ ?_
  clear hN N
  by_cases ei:val<t
  ·(try((repeat(revert hN;revert N;apply Pn.out));refine wk (tw @b0 (tw @b1 (tw @b2 (tw @b7 @ei)))) ?_;(repeat(refine Pn.mk ?_;intro N hN))))
   obtain⟨S,h1,h2,h3⟩:=uH.1 ei
   rw[De hb]at h3
   exact bp (b:=false) (.inl rfl) (sd @Nat.zero_add) (DM fun h=>by have:=h S h1 ⟨y,hyn,h2⟩;omega)
  ·have hw:IntKind.i64.wrap ((y:Int)+1)=((y+1:Nat):Int):=ay ah
   (try((repeat(revert hN;revert N;apply Pn.out));refine wk (tw @b0 (tw @b1 (tw @b2 (tw @b7 (tw @ei @hw))))) ?_;(repeat(refine Pn.mk ?_;intro N hN))))
   refine⟨_,?_,y+1,rfl,ah,sd (tw @b7 @hw),ah,fun z h1 h2 h3 S Sh LF=>?_⟩
   ·omega
   ·by_cases hzy:z=y
    ·subst hzy
     rcases Int.lt_or_le (jz S bs) t with h|h
     ·exact absurd (uH.2 ⟨S,Sh,LF,by rw[De hb];exact h⟩) ei
     ·exact h
    ·exact dP z h1 ah h3 S Sh LF
 ·(try((repeat(revert hN;revert N;apply Pn.out));refine wk (tw @b0 (tw @b1 (tw @b2 (tw @b7 @hy)))) ?_;(repeat(refine Pn.mk ?_;intro N hN))))
  exact bp (b:=true) (.inl rfl) (sd @Nat.zero_add) (Ai fun S h0 ⟨z,hz,hzf⟩=>by
   have:z≠0:=by rintro rfl;rw[h0]at hzf;cases hzf
   exact dP z ah ah hz S h0 hzf)
theorem LY (cnt:Nat) (hn:cnt<=1048576) (bs:List PB) (hb:∀b∈bs,b.a<cnt/\b.b<cnt) (dC:∀b∈bs,0<=b.s/\b.s<=4) (nW:bs.length<=1048576) (t:Int) (ht:t<=1099511627776):
  au Tryz.prog 288 [.int .i64 cnt,Ce bs,.int .i64 t] (.bool (vI cnt bs t)):=by
 have h:=O8 cnt hn bs hb dC nW t ht
 cases bs with
 |nil=>exact h.cut mixed (.same _ (.bI (.same _ .nil)))
 |cons b r=>rw[Cf (by simp)];exact h
def Fh:Prop:=∀(s:ax) (l:List aa),iG s->jZ s l->au Tryz.prog 205 [.agg (ad s),.agg [.sl (l.map ab)]] (Ce (de s l))
noncomputable def w7 (s:ax) (l:List aa) (t:Int):Bool:=if 64<iW s l t then false else vI (iW s l t) (dF (eL (aW t (de s l))) (de s l)) t
theorem Gj (s:ax) (l:List aa) (t:Int):w7 s l t=oQ s l t:=by
 letI:=Classical.propDecidable (qp l.length (de s l) t)
 unfold w7
 by_cases h:64<iW s l t
 ·rw[if_pos h]
  exact(nF (p:=False) ⟨False.elim,fun k=>by have:=k.1;unfold iW at h;omega⟩).symm.trans (by simp) |>.symm
 ·rw[if_neg h]
  by_cases hp:lK (iW s l t) (dF (eL (aW t (de s l))) (de s l)) t
  ·rw[<-Ai hp]
   exact((nF (p:=True) ⟨fun _=>⟨by unfold iW at h;omega,hp⟩,fun _=>trivial⟩).symm.trans (by simp)).symm
  ·rw[<-DM hp]
   exact((nF (p:=False) ⟨False.elim,fun k=>hp k.2⟩).symm.trans (by simp)).symm
theorem Nc (YM:Fh) (s:ax) (l:List aa) (t:Int) (ht:t<=1099511627776) (h1:1<=l.length) (hS:iG s) (hA:jZ s l):au Tryz.prog 241 [.agg (ad s),.agg [.sl (l.map ab)],.int .i64 t] (.gJ [.bool (oQ s l t),.bool (decide ¬64<iW s l t)]):=by
 rw[<-Gj]
 refine au.body eF rfl fun hl n0=>?_
 clear hl
 have hb:=zQ (l:=l) hS
 have nW:=rH (s:=s) hA.1
 have DH:=hA.1.zm
 have Ac:=YM s l hS hA
 have Vu:=Bg l.length h1 ah (de s l) (fun b h=>⟨(hb b h).1,(hb b h).2.1⟩) ah t
 have hL:=vP (aW t (de s l))
 have fZ:=GR hL (fun b h=>⟨(hb b h).1,(hb b h).2.1⟩)
 have hlen:=(oq (eL (aW t (de s l))) (de s l)).1
 have mO:=kj l.length (eL (aW t (de s l)))
 have hho:=LY (iW s l t) (by unfold iW;omega) (dF (eL (aW t (de s l))) (de s l)) (fun b h=>⟨(fZ b h).1,(fZ b h).2.1⟩) (fun b h=>by
  obtain⟨_,_,_,c,hc,dx⟩:=fZ b h
  rw[dx];have:=hb c hc;omega) ah t ht
 have fu:(l.map ab).length=l.length:=by simp
 have hzB:∀(g:Rows) (n:Nat) (bs:List PB),V.fz g (n+1) (Ce bs)=some (Ce bs):=fun g n bs=>by
  unfold Ce;split
  ·exact aV _ _
  ·exact ck _ _ _
 rw[ad]at Ac
 rw[<-iW]at Vu
 have zb:∀(g:Rows) (x:Int),cZ (dH g) 6 [.int .i64 l.length,Ce (de s l),.int .i64 x]=some [.int .i64 l.length,Ce (de s l),.int .i64 x]:=fun g x=>by simp only[aj,ar,aH,hzB,Option.map_some]
 have hzh:∀(g:Rows) (x y:Int),cZ (dH g) 6 [.int .i64 x,Ce (dF (eL (aW t (de s l))) (de s l)),.int .i64 y]=some [.int .i64 x,Ce (dF (eL (aW t (de s l))) (de s l)),.int .i64 y]:=fun g x y=>by simp only[aj,ar,aH,hzB,Option.map_some]
 generalize Ce (de s l)=B1 at *
 generalize Ce (dF (eL (aW t (de s l))) (de s l))=B2 at *
 by_cases wE:(64:Int)<(iW s l t:Int)
 ·have wG:64<iW s l t:=ah
  (repeat(first|((repeat(revert hN;revert N;apply Pn.out));refine wk (tw @ad.eq_1 (tw @wE @fu)) ?_;(repeat(refine Pn.mk ?_;intro N hN)))|((try apply Or.inl);refine⟨_,au.x (Ac) (sd (tw @ad.eq_1 (tw @wE @fu))),?_⟩;refine hN _ _ ?_;clear hN N)))
  refine⟨_,au.x Vu (zb _ _),?_⟩
  refine hN _ _ ?_
  clear hN N
  (try((repeat(revert hN;revert N;apply Pn.out));refine wk @wE ?_;(repeat(refine Pn.mk ?_;intro N hN))))
  exact jU (.inl rfl) (r1:=.bool false) (r2:=.bool false) (sd @Nat.zero_add) (sd @Nat.zero_add) (by rw[w7,if_pos wG,decide_eq_false fun h=>h wG];simp only[fH,bW,cF,fW,Option.map_some])
 ·have wG:¬64<iW s l t:=ah
  (repeat(first|((repeat(revert hN;revert N;apply Pn.out));refine wk (tw @ad.eq_1 (tw @wE @fu)) ?_;(repeat(refine Pn.mk ?_;intro N hN)))|((try apply Or.inl);refine⟨_,au.x (Ac) (sd (tw @ad.eq_1 (tw @wE @fu))),?_⟩;refine hN _ _ ?_;clear hN N)))
  refine⟨_,au.x Vu (zb _ _),?_⟩
  refine hN _ _ ?_
  clear hN N
  (try((repeat(revert hN;revert N;apply Pn.out));refine wk @wE ?_;(repeat(refine Pn.mk ?_;intro N hN))))
  refine .inl ⟨_,au.x hho (hzh _ _ _),?_⟩
  refine hN _ _ ?_
  clear hN N
  (try((repeat(revert hN;revert N;apply Pn.out));refine wk @Nat.zero_add ?_;(repeat(refine Pn.mk ?_;intro N hN))))
  exact jU (.inl rfl) (r1:=.bool (vI (iW s l t) (dF (eL (aW t (de s l))) (de s l)) t)) (r2:=.bool true) (sd @Nat.zero_add) (sd @Nat.zero_add) (by rw[w7,if_neg wG,decide_eq_true wG];simp only[fH,bW,cF,fW,Option.map_some])
theorem wK (t:Int):au Tryz.prog 132 [.int .i64 t] (.bool (iV t 1 16)):=by
 refine au.body eF rfl fun hl n0=>?_
 clear hl
 have h:=kX t 1 16
 (repeat(first|((repeat(revert hN;revert N;apply Pn.out));refine wk @Nat.zero_add ?_;(repeat(refine Pn.mk ?_;intro N hN)))|((try apply Or.inl);refine⟨_,au.x (h) (sd @Nat.zero_add),?_⟩;refine hN _ _ ?_;clear hN N)))
 exact bp (b:=iV t 1 16) (.inl rfl) (sd @Nat.zero_add) rfl
theorem zg (YM:Fh) (s:aE) (hn:iq s.aC) (hg:s.aC.aB.length<=1048576) (ht:s.aC.ai.length<=1048576) (hs:∀t∈s.aC.ai,t.bV.length<=1048576) (hl:s.bY.ai.length<=1048576):au Tryz.prog 97 [.agg (aA s)] (.bool (oy s)):=by
 refine au.body eF rfl fun kP n0=>?_
 clear kP
 by_cases h0:(s.bY.ai.length:Int)=0
 ·have hd:decide ((s.bY.ai.length:Int)=0)=true:=decide_eq_true h0
  (try((repeat(revert hN;revert N;apply Pn.out));refine wk (tw @aA.eq_1 @hd) ?_;(repeat(refine Pn.mk ?_;intro N hN))))
  exact bp (b:=false) (.inl rfl) (sd @Nat.zero_add) (kI fun h=>by have:=h.some;omega)
 have hd:decide ((s.bY.ai.length:Int)=0)=false:=decide_eq_false h0
 have Si:=wm s.aC s.bY.ai hn hg ht hs hl
 have Vn:=wK s.az
 have key:au Tryz.prog 169 [.agg (ad s.aC),.agg [.sl (s.bY.ai.map ab)],.int .i64 s.az] (.gJ [.bool (oy s),.int .i64 (if tH s.aC&&uk s.aC s.bY.ai then(if iV s.az 1 16 then(if 64<iW s.aC s.bY.ai s.az then 4 else 0)else 2)else 1)]):=by
  refine au.body eF rfl fun kP n0=>?_
  clear kP
  rw[ad]at Si
  cases hA:tH s.aC&&uk s.aC s.bY.ai
  ·rw[hA]at Si
   have k9:oy s=false:=(kI fun h=>by rw[qh.2 h.set,pA.2 h.zH]at hA;cases hA).symm
   (repeat(first|((repeat(revert hN;revert N;apply Pn.out));refine wk @ad.eq_1 ?_;(repeat(refine Pn.mk ?_;intro N hN)))|((try apply Or.inl);refine⟨_,au.x (Si) (sd @ad.eq_1),?_⟩;refine hN _ _ ?_;clear hN N)))
   exact jU (.inl rfl) (r1:=.bool false) (r2:=.int .i64 1) (sd @Nat.zero_add) (sd @Nat.zero_add) (by rw[k9];simp only[fH,bW,cF,fW,eO,Option.map_some];rfl)
  rw[hA]at Si
  simp only[Bool.and_eq_true]at hA
  have hS:=qh.1 hA.1
  have hP:=pA.1 hA.2
  cases hT:iV s.az 1 16
  ·rw[hT]at Vn
   have k9:oy s=false:=(kI fun h=>by have:=h.Nr;rw[hT]at this;cases this).symm
   (repeat(first|((repeat(revert hN;revert N;apply Pn.out));refine wk @ad.eq_1 ?_;(repeat(refine Pn.mk ?_;intro N hN)))|((try apply Or.inl);refine⟨_,au.x (Si) (sd @ad.eq_1),?_⟩;refine hN _ _ ?_;clear hN N)|((try apply Or.inl);refine⟨_,au.x (Vn) (sd @ad.eq_1),?_⟩;refine hN _ _ ?_;clear hN N)))
   exact jU (.inl rfl) (r1:=.bool false) (r2:=.int .i64 2) (sd @Nat.zero_add) (sd @Nat.zero_add) (by rw[k9];simp only[fH,bW,cF,fW,eO,Option.map_some];rfl)
  have Pf:=dB hT
  rw[hT]at Vn
  have dC:=Nc YM s.aC s.bY.ai s.az ah ah hS hP
  rw[ad]at dC
  have hsy:oy s=oQ s.aC s.bY.ai s.az:=by
   cases hB:oQ s.aC s.bY.ai s.az
   ·exact(kI fun h=>by have:=qM.2 h.holds;rw[hB]at this;cases this).symm
   ·exact(EK ⟨hS,hP,ah,hT,qM.1 hB⟩).symm
  by_cases wE:64<iW s.aC s.bY.ai s.az
  ·rw[decide_eq_false fun h=>h wE]at dC
   have k9:oy s=false:=(kI fun h=>by have:=h.holds.1;unfold iW at wE;omega).symm
   (repeat(first|((repeat(revert hN;revert N;apply Pn.out));refine wk @ad.eq_1 ?_;(repeat(refine Pn.mk ?_;intro N hN)))|((try apply Or.inl);refine⟨_,au.x (Si) (sd @ad.eq_1),?_⟩;refine hN _ _ ?_;clear hN N)|((try apply Or.inl);refine⟨_,au.x (Vn) (sd @ad.eq_1),?_⟩;refine hN _ _ ?_;clear hN N)|((try apply Or.inl);refine⟨_,au.x (dC) (sd @ad.eq_1),?_⟩;refine hN _ _ ?_;clear hN N)))
   exact jU (.inl rfl) (r1:=.bool false) (r2:=.int .i64 4) (sd @Nat.zero_add) (sd @Nat.zero_add) (by rw[k9,if_pos wE];simp only[fH,bW,cF,fW,eO,Option.map_some])
  ·rw[decide_eq_true wE,<-hsy]at dC
   (repeat(first|((repeat(revert hN;revert N;apply Pn.out));refine wk @ad.eq_1 ?_;(repeat(refine Pn.mk ?_;intro N hN)))|((try apply Or.inl);refine⟨_,au.x (Si) (sd @ad.eq_1),?_⟩;refine hN _ _ ?_;clear hN N)|((try apply Or.inl);refine⟨_,au.x (Vn) (sd @ad.eq_1),?_⟩;refine hN _ _ ?_;clear hN N)|((try apply Or.inl);refine⟨_,au.x (dC) (sd @ad.eq_1),?_⟩;refine hN _ _ ?_;clear hN N)))
   exact jU (.inl rfl) (r1:=.bool (oy s)) (r2:=.int .i64 0) (sd @Nat.zero_add) (sd @Nat.zero_add) (by rw[if_neg wE];simp only[fH,bW,cF,fW,eO,Option.map_some])
 generalize hcode:(if tH s.aC&&uk s.aC s.bY.ai then(if iV s.az 1 16 then(if 64<iW s.aC s.bY.ai s.az then(4:Int)else 0)else 2)else 1)=code at key
 rw[ad]at key
 cases hB:oy s
 ·rw[hB]at key
  (repeat(first|((repeat(revert hN;revert N;apply Pn.out));refine wk (tw @aA.eq_1 @hd) ?_;(repeat(refine Pn.mk ?_;intro N hN)))|((try apply Or.inl);refine⟨_,au.x (key) (sd (tw @aA.eq_1 @hd)),?_⟩;refine hN _ _ ?_;clear hN N)))
  exact bp (b:=false) (.inl rfl) (sd @Nat.zero_add) rfl
 ·rw[hB]at key
  have hP:=tN.1 hB
  have hc:code=0:=by
   rw[<-hcode,qh.2 hP.set,pA.2 hP.zH,hP.Nr]
   have:=hP.holds.1
   simp only[Bool.and_self,if_true]
   rw[if_neg (by unfold iW;omega)]
  rw[hc]at key
  (repeat(first|((repeat(revert hN;revert N;apply Pn.out));refine wk (tw @aA.eq_1 @hd) ?_;(repeat(refine Pn.mk ?_;intro N hN)))|((try apply Or.inl);refine⟨_,au.x (key) (sd (tw @aA.eq_1 @hd)),?_⟩;refine hN _ _ ?_;clear hN N)))
  exact bp (b:=true) (.inl rfl) (sd @Nat.zero_add) rfl
end Go.Proofs.YtgoljkjaameagaaGreat.V

namespace Go.Proofs.YtgoljkjaameagaaGreat.V
open Go.RowKit Go.Shelf
attribute [local go_sem] Oper.semAt_some
def iQ (n₀:Nat) (W W':World):Prop:=W.heap.size<=W'.heap.size/\(∀(b:Nat) (cells:Array Value) (T:TypeId) (fr:Nat×Nat),W.heap[b]? =some (Obj.cells cells T fr)->T≠179->T≠254->W'.heap[b]? =W.heap[b]?)/\∀k,k<n₀->k<W.heap.size->W'.heap[k]? =W.heap[k]?
theorem iQ.trans {n₀:Nat} {A B C:World} (h:iQ n₀ A B) (k:iQ n₀ B C):iQ n₀ A C:=⟨Nat.le_trans h.1 k.1,fun b cells T fr hb h1 h2=>by
 have e:=h.2.1 b cells T fr hb h1 h2
 rw[<-e]at hb ⊢
 exact k.2.1 b cells T fr hb h1 h2,fun b hb hs=>(k.2.2 b hb (Nat.lt_of_lt_of_le hs h.1)).trans (h.2.2 b hb hs)⟩
theorem iQ.of {n₀:Nat} {W W':World} (h:Below W.heap.size W W'):iQ n₀ W W':=⟨h.size,fun b cells T fr hb _ _=>h.block b (Array.getElem?_eq_some_iff.1 hb).1,fun k _ hs=>h.block k hs⟩
theorem iQ.refl (n₀:Nat) (W:World):iQ n₀ W W:=⟨Nat.le_refl _,fun _ _ _ _ _ _ _=>rfl,fun _ _ _=>rfl⟩
theorem iQ.b {n₀ m:Nat} (hm:n₀<=m) (W:World) (l:Nat) (o o':Obj) (hl:m<=l) (h:W.heap[l]? =some o) (hc:o.isCells=false) (_:o.isWalk=false):iQ n₀ W (W.putObj l o'):=by
 refine⟨by simp,fun b cells T fr hb _ _=>?_,fun k hk _=>World.putObj_heap_other ah⟩
 by_cases nW:b=l
 ·subst nW;rw[h]at hb;cases hb;cases hc
 ·exact World.putObj_heap_other nW
def Oo (bs:List PB):List Value:=bs.flatMap fun b=>[.int .i64 b.a,.int .i64 b.b,.int .i64 b.s]
theorem K4 (bs:List PB) (b:PB):Oo (bs++[b])=Oo bs++[.int .i64 b.a,.int .i64 b.b,.int .i64 b.s]:=by simp[Oo]
def oV (s:ax) (l:List aa) (pre:List (Rm l)):List PB:=(pre.map (·.1)).flatMap (Bc s l)
theorem zP (s:ax) (l:List aa) (pre:List (Rm l)) (x:Rm l):oV s l (pre++[x])=oV s l pre++Bc s l x.1:=by simp[oV]
theorem K3 (s:ax) (l:List aa) (x:Nat×Nat×Int):(Bc s l x).length<=1:=by
 unfold Bc;split<;>simp
theorem K5 (s:ax) (l:List aa) (pre:List (Rm l)):(oV s l pre).length<=pre.length:=by
 unfold oV
 induction pre with
 |nil=>simp
 |cons x r ih=>
  have:=K3 s l x.1
  simp only[List.map_cons,List.flatMap_cons,List.length_append,List.length_cons]at ih ⊢
  omega
theorem Az (l:List aa) (i:Nat):∀m,(lU l i m).length<=m
 |0=>by simp[lU]
 |m+1=>by
  rw[od,List.length_append]
  have:=Az l i m
  have:(Er l i (1-(m:Int))).length<=1:=by unfold Er;split<;>simp
  omega
theorem Es (l:List aa):∀n,(mo l n).length<=n*2
 |0=>by simp[mo]
 |n+1=>by
  rw[nB,List.length_append]
  have:=Es l n
  have:=Az l n 2
  omega
theorem DF {β:Type} (B:Nat) (c:Array Value) (t:TypeId) (fr:Nat×Nat):Own (fun(_:β) W=>W.heap[B]? =some (.cells c t fr)):=fun _ X _ row h hg hr=>(hg.block B (Array.getElem?_eq_some_iff.1 h).1 (fun e=>by
 obtain⟨o,ho,hc⟩:=hr B e.symm
 rw[h]at ho;cases ho;cases hc)).trans h
theorem iQ.app {n₀:Nat} {W w1:World} {B k:Nat} {v v':Value} {xs:List Value} {tmp:Obj} (hv:Boxed W B 179 v) (fu:W.ownsRow n₀ 254 3 v k xs) (Ae:(W.alloc tmp).grownBy w1 v.ownBlock) (hb:Below n₀ W (w1.setCell ⟨B,0,none⟩ v')):iQ n₀ W (w1.setCell ⟨B,0,none⟩ v'):=by
 refine⟨hb.size,fun b cells T fr h h1 h2=>?_,fun k hk _=>hb.block k hk⟩
 have ei:=(Array.getElem?_eq_some_iff.1 h).1
 have hbB:b≠B:=by
  rintro rfl
  rw[show W.heap[b]? = _ from hv]at h
  cases h
  exact h1 rfl
 have Xw:some b≠v.ownBlock:=by
  rcases fu.2 with⟨rfl,_⟩|⟨g,cap,cur,rfl,_,hg,_⟩
  ·simp[Value.ownBlock]
  ·intro e
   obtain rfl:b=g:=by simpa[Value.ownBlock]using e
   rw[hg]at h;cases h
   exact h2 rfl
 refine(Below.heap_setCell w1 ⟨B,0,none⟩ v' b hbB).trans ?_
 exact(Ae.block b (by simp;omega) Xw).trans (Below.heap_alloc W tmp b ei)
theorem Wi {w:World} {vS:Value} {l:List aa} (hP:qR w vS l):KJ (iQ w.heap.size) vS l where
 refl:=iQ.refl _
 trans:=iQ.trans
 of:=iQ.of
 size h:=h.1
 typed h:=h.2.1
 pl {W W'} h hp:=by
  obtain⟨A,c,rfl,hm,hc⟩:=hp.sl
  refine⟨A,c,rfl,hm,?_⟩
  by_cases hl:l=[]
  ·exact .inl hl
  have jO:0<l.length:=List.length_pos_iff.2 hl
  rcases hc with h0|⟨b,o,rfl,lh⟩
  ·exact absurd h0 hl
  obtain⟨A',c',e,_,k7⟩:=hP.sl
  cases e
  rcases k7 with h0|⟨b',o',e,hcell'⟩
  ·exact absurd h0 hl
  cases e
  have hb:=wQ (hcell' 0 jO).1
  have hk:=h.2.2 b hb (wQ (lh 0 jO).1)
  refine .inr ⟨b,o,rfl,fun i hi=>?_⟩
  have By:∀x,W'.cell? ⟨b,x,none⟩=W.cell? ⟨b,x,none⟩:=fun x=>World.cell?_of_block hk
  rw[By,By,By]
  exact lh i hi
theorem rrE {P:Program} {nt site0:Nat} {ops:Array Oper} {vl:List bx} (_:Bd P ops site0 false (j3 ops) (tk P false ops.toList 0) ops.toList 0=some vl:=by(conv=>lhs;cbv)<;>exact rfl) (h:sP P nt site0 ops true false=some vl:=by kernel_rfl):sP P nt site0 ops true false=some vl:=h
theorem Mr (l:List Value) (d:Value):l=(List.range l.length).map fun i=>(⟨l⟩:Array Value).getD i d:=by
 refine List.ext_getElem (by simp) fun i h1 h2=>?_
 simp[h1]
theorem GD {X:gn} {d:Bool} {ops:List bx} {K:Env->aw->Prop} {env:Env} {σ:aw} (h:dK X (.eQ d ops) (fun _=>K) env σ):wpOps X d ops K env σ:=h
theorem xC (W:World) (T:TypeId) (x y z:Value):∀(j:Nat) (u:Value),[x,y,z][j]? =some u->(W.alloc (.cells #[x,y,z] T)).cell? ((⟨W.heap.size,0,none⟩:Addr).add j)=some u:=fun j u h=>by
 have hb:(W.alloc (.cells #[x,y,z] T)).heap[W.heap.size]? =some (.cells #[x,y,z] T (0,0)):=World.alloc_heap_new _ _
 have e:∀k,(W.alloc (.cells #[x,y,z] T)).cell? ⟨W.heap.size,k,none⟩=(#[x,y,z]:Array Value)[k]? :=fun k=>by
  unfold World.cell?
  rw[show(W.alloc (.cells #[x,y,z] T)).heap[(⟨W.heap.size,k,none⟩:Addr).block]? = _ from hb]
  rfl
 rw[show(⟨W.heap.size,0,none⟩:Addr).add j=⟨W.heap.size,j,none⟩ by simp[Addr.add];exact fun h=>h.symm,e]
 simpa using h
def Lc (n b:Nat):Names:=fun id=>if id=⟨1,0⟩then some ⟨n,2,2,none⟩else if id=⟨2,0⟩then some ⟨n+1,1,1,none⟩else if id=⟨3,0⟩then some ⟨n+1+1,1,1,none⟩else if id=⟨4,0⟩then some ⟨b,2,2,none⟩else if id=⟨5,0⟩then some ⟨n+1+1+1,1,1,none⟩else none
def QA (s:ax) (l:List aa) (i k:Nat):Rows:=fun id=>if id=⟨1,0⟩then some ⟨false,2,[ad s]⟩else if id=⟨2,0⟩then some ⟨false,1,[[.sl (l.map ab)]]⟩else if id=⟨4,0⟩then some ⟨false,2,[[.int .i64 (i:Int),.int .i64 (k:Int)]]⟩else none
def RB (s:ax) (l:List aa) (i k:Nat) (d:Int):Env:=cr [.agg (ad s),.agg [.sl (l.map ab)],.ptr ⟨1,0⟩ 0 0,.ptr ⟨2,0⟩ 0 0,.bI,.ptr ⟨3,0⟩ 0 0,.ptr ⟨4,0⟩ 0 0,.int .i64 d,.undef,.agg [.sl (l.map ab)],.fn 302 [.ptr ⟨5,0⟩ 0 0],.agg [.int .i64 (i:Int),.int .i64 (k:Int)],.int .i64 d]
theorem GO {P:Program} {W:World} {D:Nat->Prop} {ι:Names} {B:uf} {cells:Array Value} {T:TypeId} {cs:List AV} (hk:B.k=none) (hb:W.heap[B.b]? =some (.cells cells T (0,0))) (hC:cells.size=B.C) (hz:B.sz=cs.length) (hl:cs.length=cells.size) (hf:∀a∈cs,a.cell=true) (hr:∀(j:Nat) (a:AV),cs[j]? =some a->∃v,cells[j]? =some v/\dd P W D ι a v):iF P W D ι B ⟨false,cs.length,[cs]⟩:=
 lL.obj ⟨hz,⟨cells,T,hb,hC⟩,by simp;omega,fun c hc=>by simp at hc;rw[hc],fun c hc=>by simp at hc;rw[hc];exact hf,fun i j c a hi hj=>by
  match i,hi with
  |0,hi=>
   simp at hi;subst hi
   obtain⟨v,h1,h2⟩:=hr j a hj
   exact⟨v,by simp[World.cell?,hb,h1],h2⟩
  |i+1,hi=>simp at hi⟩ hk
theorem Me:(Tryz.prog.info? 254).map (fun i=>(i.zero,i.size,i.bytes))=some (some (.agg #[.int .i64 0,.int .i64 0,.int .i64 0]),3,24):=by kernel_rfl
end Go.Proofs.YtgoljkjaameagaaGreat.V

namespace Go.Proofs.YtgoljkjaameagaaGreat.V
open Go.RowKit Go.Shelf
attribute [local go_sem] Oper.semAt_some
attribute [local irreducible] dK wpOps gw Call
attribute [local go_sem] aM fE eM fV fS dc upd cr K.av cI AV.cells AV.cell rowOf rowsOf part ld rowAt bE cj dy dS gU bJ cY ee fQ e6 dp dX cW cV dI dJ bP bc cL bL cP cN dV dY dW cK bU cX dU bK aO cR cC gT bw cG bQ aY dj aZ dz AV.undef bD bG dM dQ dE dG cE ec eh cz ea dZ cQ cU List.getD_cons_zero List.getD_cons_succ List.getD_nil List.all_cons List.all_nil Bool.and_true Bool.true_and Bool.and_self Bool.not_true Bool.not_false Option.map_some Option.map_none Option.bind_some Option.bind_none List.length_cons List.length_nil List.take_succ_cons List.take_zero List.take_nil List.drop_succ_cons List.drop_zero List.drop_nil List.head?_cons List.map_cons List.map_nil List.getElem?_cons_zero List.getElem?_cons_succ List.cons_append List.nil_append List.append_nil List.length_map List.set_cons_zero List.set_cons_succ Nat.reduceMul eq_self Int.toNat_natCast Int.natCast_nonneg and_self true_and and_true decide_true decide_false Bool.false_eq_true Nat.zero_add Nat.add_zero List.contains_cons List.contains_nil Bool.or_false Bool.false_or beq_self_eq_true Nat.reduceBEq ne_eq not_true_eq_false not_false_eq_true Id.mk.injEq false_and and_false Nat.reduceLT Int.reduceLE Int.reduceLT Int.reduceToNat Int.reduceNeg Int.reduceAdd Nat.le_refl List.length_append beq_true beq_false Bool.not_eq_eq_eq_not or_false false_or dH aj ar aH bh bz ck aV bd aX bf cJ bB
theorem K8 (s:ax) (l:List aa) (hF:js s) (hA:jZ s l) (w:World) (Ag At:Option Addr) (ng cg nt ct:Nat) (vS:Value) (hT:kd Tryz.prog w (fun b=>b<w.heap.size) (.agg (ad s)) (.agg #[.slice Ag ng cg,.slice At nt ct])) (hP:qR w vS l):
  CallsIn Fence.wide 5 Tryz.prog 205 #[.agg #[.slice Ag ng cg,.slice At nt ct],.agg #[vS]] w fun e W'=>∃v,e=.returned v/\W'.ownsRow w.heap.size 254 3 v (de s l).length (Oo (de s l))/\(v=.slice none 0 0↔de s l=[])/\Below w.heap.size w W':=by
 obtain⟨A,cp,rfl,_,_⟩:=hP.sl
 obtain⟨i0,hi,HR,w6,jP⟩:=info_parts Me
 refine callsIn_of_wp_marks Tryz.func205 rfl trivial ?_ rfl
 simp only[Tryz.ntmps205,List.size_toArray,List.length_cons,List.length_nil,Nat.reduceAdd,Nat.reduceSub,Array.replicate_succ,Array.replicate_zero,List.push_toArray,List.append_toArray,List.nil_append,List.cons_append]
 gi_wp2_with (refine⟨trivial,?_⟩;gi_at_call 260;refine(BW _ _ _).mono ?_;rintro e w' ⟨rfl,rfl⟩)
 have bT:((w.alloc (.cells #[.slice Ag ng cg,.slice At nt ct] 39)).heap[w.heap.size]?)=some (.cells #[.slice Ag ng cg,.slice At nt ct] 39 (0,0)):=World.alloc_heap_new _ _
 obtain⟨w1,jt⟩:∃w1,w.alloc (.cells #[.slice Ag ng cg,.slice At nt ct] 39)=w1:=⟨_,rfl⟩
 have UA:w1.heap.size=w.heap.size+1:=by rw[<-jt];simp
 have CD:Below w.heap.size w w1:=by rw[<-jt];exact(Below.refl _ w).alloc (Nat.le_refl _) _
 rw[jt]at bT ⊢
 clear jt
 have bA:=Boxed.new w1 42 (.slice A l.length cp)
 have bO:=Boxed.new (w1.alloc (.cells #[.slice A l.length cp] 42)) 179 (.slice none 0 0)
 have bN:=Boxed.new ((w1.alloc (.cells #[.slice A l.length cp] 42)).alloc (.cells #[.slice none 0 0] 179)) 42 (.slice A l.length cp)
 replace bA:=(bA.alloc (.cells #[.slice none 0 0] 179)).alloc (.cells #[.slice A l.length cp] 42)
 replace bO:=bO.alloc (.cells #[.slice A l.length cp] 42)
 simp only[World.size_alloc,UA]at bA bO bN
 have qU:Below w1.heap.size w1 (((w1.alloc (.cells #[.slice A l.length cp] 42)).alloc (.cells #[.slice none 0 0] 179)).alloc (.cells #[.slice A l.length cp] 42)):=(((Below.refl _ w1).alloc (Nat.le_refl _) _).alloc (by simp) _).alloc (by simp;omega) _
 have fm:(((w1.alloc (.cells #[.slice A l.length cp] 42)).alloc (.cells #[.slice none 0 0] 179)).alloc (.cells #[.slice A l.length cp] 42)).heap.size=w.heap.size+4:=by simp;omega
 obtain⟨W0,Vo⟩:∃W0,((w1.alloc (.cells #[.slice A l.length cp] 42)).alloc (.cells #[.slice none 0 0] 179)).alloc (.cells #[.slice A l.length cp] 42)=W0:=⟨_,rfl⟩
 rw[Vo]at bA bO bN qU fm ⊢
 clear Vo
 have y7:Below w.heap.size w W0:=CD.trans (qU.mono ah)
 replace bT:=(qU.block w.heap.size ah).trans bT
 have hP0:qR W0 (.slice A l.length cp) l:=hP.below y7
 have kl:=Wi hP
 have nW:=rH (s:=s) hA.1
 refine wpIn_rangeFunc_ownH (n:=5) rfl ah (gf:=302) (lb:= #[.pointer (some ⟨w.heap.size+1+1+1,0,none⟩)]) rfl trivial (enters_of Tryz.func302 (by kernel_rfl) rfl)
  (Mz l hA.1 (w.heap.size+1+1+1) (5-1) ah (.slice A l.length cp) (iQ w.heap.size) kl W0 bN hP0) iQ.trans (iQ.b ah) (Below.refl _ _) (fun _=>rfl)
  (fun pre W=>((∃v,Boxed W (w.heap.size+1+1) 179 v/\W.ownsRow w.heap.size 254 3 v (oV s l pre).length (Oo (oV s l pre))/\(v=.slice none 0 0↔oV s l pre=[]))/\(Boxed W (w.heap.size+1) 42 (.slice A l.length cp)/\W.heap[w.heap.size]? =some (.cells #[.slice Ag ng cg,.slice At nt ct] 39 (0,0))))/\Below w.heap.size w W)
  (fun _ _ _=>False)
  (OwnFrom.and (OwnFrom.and (Own.from (holdsRow_own w.heap.size (w.heap.size+1+1) 179 254 3 (fun pre=>(oV s l pre).length) (fun pre=>Oo (oV s l pre)) (fun pre v=>v=.slice none 0 0↔oV s l pre=[])) _) (OwnFrom.and (Own.from (boxed_own _ _ _) _) (Own.from (DF _ _ _ _) _))) (ownFrom_below (Nat.le_refl _) ah))
  (fun _ _ _ _ _ hs _ _=>hs)
  ⟨⟨⟨_,bO,World.ownsRow_nil _ _ _ _,by simp[oV]⟩,bA,bT⟩,y7⟩
  (fun x a' W=>∃Bx,w.heap.size+1+1<Bx/\W.heap[Bx]? =some (.cells #[.int .i64 (x.1.1:Int),.int .i64 (x.1.2.1:Int)] 322 (0,0))/\a'={tmps:= #[.agg #[.slice Ag ng cg,.slice At nt ct],.agg #[.slice A l.length cp],.pointer (some ⟨w.heap.size,0,none⟩),.pointer (some ⟨w.heap.size+1,0,none⟩),.slice none 0 0,.pointer (some ⟨w.heap.size+1+1,0,none⟩),.pointer (some ⟨Bx,0,none⟩),.int .i64 x.1.2.2,undef,.agg #[.slice A l.length cp],.func (.func 302) #[] #[.pointer (some ⟨w.heap.size+1+1+1,0,none⟩)],.agg #[.int .i64 (x.1.1:Int),.int .i64 (x.1.2.1:Int)],.int .i64 x.1.2.2,undef,undef,undef,undef,undef,undef,undef,undef,undef,undef,undef,undef,undef,undef,undef,undef,undef,undef,undef,undef,undef,undef,undef,undef,undef,undef,undef,undef,undef],defers:=[]})
  (fun x a' _ X Y row hs hg hr=>by obtain⟨Bx,h1,h2,h3⟩:=hs;exact⟨Bx,h1,DF Bx _ _ _ () X Y row h2 hg (fun r e=>(hr r e).2),h3⟩)
  ?assign ?body ?done ?stop
 case assign=>
  rintro q pre ⟨⟨x0,x1,x2⟩,hx⟩ W K ⟨⟨⟨v,hv,fu,hnil⟩,bA1,bT1⟩,hB⟩ hK
  simp only[Hy]
  gi_wp2
  exact hK _ _ ((KeepsOthers.alloc _ _).from _) (iQ.of ((Below.refl _ W).alloc (Nat.le_refl _) _)) ⟨⟨⟨v,hv.alloc _,fu.alloc _,hnil⟩,bA1.alloc _,(Below.heap_alloc _ _ _ (Array.getElem?_eq_some_iff.1 bT1).1).trans bT1⟩,hB.alloc hB.size _⟩ ⟨W.heap.size,hv.lt,World.alloc_heap_new _ _,rfl⟩
 case body=>
  rintro q pre ⟨⟨x0,x1,x2⟩,hx⟩ a' W hq hqr ⟨⟨⟨v,hv,fu,hnil⟩,bA1,bT1⟩,hB⟩ ⟨Bx,hBx,bX,rfl⟩ ei
  obtain⟨Fe,Md,zy⟩:=hx
  simp only at Fe Md zy bX
  obtain⟨A',c',e',_,hc⟩:=(hP.below hB).sl
  cases e'
  have dx:∃b o,A=some ⟨b,o,none⟩/\W.cell? ⟨b,o+x0*3+2,none⟩=some (.int .i64 (aL l x0).br)/\W.cell? ⟨b,o+x1*3+2,none⟩=some (.int .i64 (aL l x1).br):=by
   rcases hc with rfl|⟨b,o,rfl,lh⟩
   ·simp at Fe
   ·exact⟨b,o,rfl,by rw[Nat.add_assoc];exact(lh x0 Fe).2.2,by rw[Nat.add_assoc];exact(lh x1 Md).2.2⟩
  obtain⟨b,o,rfl,cP0,cP1⟩:=dx
  have cT0:W.cell? ⟨w.heap.size,0,none⟩=some (.slice Ag ng cg):=by simp[World.cell?,bT1]
  have cT1:W.cell? ⟨w.heap.size,1,none⟩=some (.slice At nt ct):=by simp[World.cell?,bT1]
  have Yr:W.cell? ⟨Bx,0,none⟩=some (.int .i64 (x0:Int)):=by simp[World.cell?,bX]
  have Ys:W.cell? ⟨Bx,1,none⟩=some (.int .i64 (x1:Int)):=by simp[World.cell?,bX]
  have cA:=bA1.cell
  have dP0:W.drew.cell? ⟨b,o+x0*3+2,none⟩=some (.int .i64 (aL l x0).br):=cP0
  have dP1:W.drew.cell? ⟨b,o+x1*3+2,none⟩=some (.int .i64 (aL l x1).br):=cP1
  have dT0:W.drew.cell? ⟨w.heap.size,0,none⟩=some (.slice Ag ng cg):=cT0
  have dT1:W.drew.cell? ⟨w.heap.size,1,none⟩=some (.slice At nt ct):=cT1
  have dX0:W.drew.cell? ⟨Bx,0,none⟩=some (.int .i64 (x0:Int)):=Yr
  have dX1:W.drew.cell? ⟨Bx,1,none⟩=some (.int .i64 (x1:Int)):=Ys
  have dA:W.drew.cell? ⟨w.heap.size+1,0,none⟩=some (.slice (some ⟨b,o,none⟩) l.length cp):=cA
  have nY:∀i,i<l.length->aL l i∈l:=fun i hi=>by
   unfold aL
   rw[List.getD_eq_getElem?_getD,List.getElem?_eq_getElem hi]
   exact List.getElem_mem hi
  have ZA:=mixed
  have hfw:=hA.1.zm
  have Xx:=K7 s hF (aL l x0).br x2 (aL l x1).br (hA.2 _ (nY x0 Fe)) (hA.2 _ (nY x1 Md)) (jm ah)
  have hTW:kd Tryz.prog W (fun b=>b<w.heap.size) (.agg (ad s)) (.agg #[.slice Ag ng cg,.slice At nt ct]):=hT.frame (fun b hb=>hB.block b hb) (fun _ h=>h)
  have hAW:kd Tryz.prog W (fun b=>b<w.heap.size) (.sl (l.map ab)) (.slice (some ⟨b,o,none⟩) l.length cp):=hP.eV.frame (fun b hb=>hB.block b hb) (fun _ h=>h)
  obtain⟨fT,hT0,Y8⟩:∃f:Nat->Value,(∀j,j<(ad s).length->(#[Value.slice Ag ng cg,.slice At nt ct])[j]? =some (f j))/\∀j a,(ad s)[j]? =some a->kd Tryz.prog W (fun b=>b<w.heap.size) a (f j):=by
   cases hTW with
   |agg _ _ f _ _ h3 h4=>exact⟨f,h3,h4⟩
  have dC:St Tryz.prog W.heap.size 42 (fun b=>b<w.heap.size) (Lc w.heap.size Bx) (RB s l x0 x1 x2) ⟨QA s l x0 x1,1⟩ {tmps:= #[.agg #[.slice Ag ng cg,.slice At nt ct],.agg #[.slice (some ⟨b,o,none⟩) l.length cp],.pointer (some ⟨w.heap.size,0,none⟩),.pointer (some ⟨w.heap.size+1,0,none⟩),.slice none 0 0,.pointer (some ⟨w.heap.size+1+1,0,none⟩),.pointer (some ⟨Bx,0,none⟩),.int .i64 x2,undef,.agg #[.slice (some ⟨b,o,none⟩) l.length cp],.func (.func 302) #[] #[.pointer (some ⟨w.heap.size+1+1+1,0,none⟩)],.agg #[.int .i64 (x0:Int),.int .i64 (x1:Int)],.int .i64 x2,undef,undef,undef,undef,undef,undef,undef,undef,undef,undef,undef,undef,undef,undef,undef,undef,undef,undef,undef,undef,undef,undef,undef,undef,undef,undef,undef,undef,undef],defers:=[]} W:=by
   have n1:(Lc w.heap.size Bx) ⟨1,0⟩=some ⟨w.heap.size,2,2,none⟩:=rfl
   have n2:(Lc w.heap.size Bx) ⟨2,0⟩=some ⟨w.heap.size+1,1,1,none⟩:=rfl
   have n3:(Lc w.heap.size Bx) ⟨3,0⟩=some ⟨w.heap.size+1+1,1,1,none⟩:=rfl
   have n4:(Lc w.heap.size Bx) ⟨4,0⟩=some ⟨Bx,2,2,none⟩:=rfl
   have n5:(Lc w.heap.size Bx) ⟨5,0⟩=some ⟨w.heap.size+1+1+1,1,1,none⟩:=rfl
   have rp:∀(id:Id) (B:uf),(Lc w.heap.size Bx) id=some B->B.k=none->dd Tryz.prog W (fun b=>b<w.heap.size) (Lc w.heap.size Bx) (.ptr id 0 0) (.pointer (some ⟨B.b,0,none⟩)):=fun id B h hk=>by
    have:=dd.ptr (P:=Tryz.prog) (w:=W) (D:=fun b=>b<w.heap.size) id 0 0 B h hk
    simpa using this
   have ri:∀n:Int,dd Tryz.prog W (fun b=>b<w.heap.size) (Lc w.heap.size Bx) (.int .i64 n) (.int .i64 n):=fun n=>.eV _ _ (.int _ _)
   have hA1:kd Tryz.prog W (fun b=>b<w.heap.size) (.agg [.sl (l.map ab)]) (.agg #[.slice (some ⟨b,o,none⟩) l.length cp]):=.agg _ _ (fun _=>.slice (some ⟨b,o,none⟩) l.length cp) rfl (fun a ha=>by simp at ha;rw[ha];rfl) (fun j hj=>by match j,hj with|0,_=>rfl|j+1,hj=>simp at hj) (fun j a ha=>by match j,ha with|0,ha=>simp at ha;subst ha;exact hAW|j+1,ha=>simp at ha)
   refine⟨⟨Nat.le_refl _,fun b hb=>Nat.lt_of_lt_of_le hb hB.size,fun id r hg=>?_,fun id kE r r' B B' h _ hw=>?_⟩,fun id hid=>?_,fun t=>?_,rfl⟩
   ·replace hg:QA s l x0 x1 id=some r:=hg
    unfold QA at hg
    split at hg
    ·rename_i e;subst e;injection hg with hg;subst hg
     exact⟨_,n1,GO (cs:=ad s) rfl bT1 rfl rfl rfl (fun a ha=>by simp[ad]at ha;rcases ha with rfl|rfl<;>rfl) (fun j a ha=>⟨_,hT0 j (List.getElem?_eq_some_iff.1 ha).1,.eV _ _ (Y8 j a ha)⟩),fun h=>(by cases h),fun h=>(by cases h)⟩
    ·split at hg
     ·rename_i e;subst e;injection hg with hg;subst hg
      exact⟨_,n2,GO (cs:=[.sl (l.map ab)]) rfl bA1 rfl rfl rfl (fun a ha=>by simp at ha;rw[ha];rfl) (fun j a ha=>by match j,ha with|0,ha=>simp at ha;subst ha;exact⟨_,rfl,.eV _ _ hAW⟩|j+1,ha=>simp at ha),fun h=>(by cases h),fun h=>(by cases h)⟩
     ·split at hg
      ·rename_i e;subst e;injection hg with hg;subst hg
       exact⟨_,n4,GO (cs:=[.int .i64 (x0:Int),.int .i64 (x1:Int)]) rfl bX rfl rfl rfl (fun a ha=>by simp at ha;rcases ha with rfl|rfl<;>rfl) (fun j a ha=>by match j,ha with|0,ha=>simp at ha;subst ha;exact⟨_,rfl,ri _⟩|1,ha=>simp at ha;subst ha;exact⟨_,rfl,ri _⟩|j+2,ha=>simp at ha),fun h=>(by cases h),fun h=>(by cases h)⟩
      ·cases hg
   ·exfalso
    replace h:QA s l x0 x1 id=some r:=h
    unfold QA at h
    split at h
    ·injection h with h;subst h;cases hw
    ·split at h
     ·injection h with h;subst h;cases hw
     ·split at h
      ·injection h with h;subst h;cases hw
      ·cases h
   ·left
    unfold Lc at hid
    repeat' (split at hid)
    all_goals first|(rename_i e;subst e;exact Nat.zero_lt_one)|exact absurd rfl hid
   ·match t with
    |0=>exact .eV _ _ hTW
    |1=>exact .eV _ _ hA1
    |2=>exact rp _ _ n1 rfl
    |3=>exact rp _ _ n2 rfl
    |4=>exact .eV _ _ .bI
    |5=>exact rp _ _ n3 rfl
    |6=>exact rp _ _ n4 rfl
    |7=>exact ri _
    |8=>exact dd.undef
    |9=>exact .eV _ _ hA1
    |10=>exact .fn _ _ _ (fun _=>.pointer (some ⟨w.heap.size+1+1+1,0,none⟩)) (by kernel_rfl) rfl (fun j hj=>by match j,hj with|0,_=>rfl|j+1,hj=>simp at hj) (fun j a ha=>by match j,ha with|0,ha=>simp at ha;subst ha;exact rp _ _ n5 rfl|j+1,ha=>simp at ha)
    |11=>exact .agg _ _ (fun j=>if j=0 then .int .i64 (x0:Int)else .int .i64 (x1:Int)) rfl (fun a ha=>by simp at ha;rcases ha with rfl|rfl<;>rfl) (fun j hj=>by match j,hj with|0,_=>rfl|1,_=>rfl|j+2,hj=>simp at hj;omega) (fun j a ha=>by match j,ha with|0,ha=>simp at ha;subst ha;exact ri _|1,ha=>simp at ha;subst ha;exact ri _|j+2,ha=>simp at ha)
    |12=>exact ri _
    |13=>exact dd.undef
    |14=>exact dd.undef
    |15=>exact dd.undef
    |16=>exact dd.undef
    |17=>exact dd.undef
    |18=>exact dd.undef
    |19=>exact dd.undef
    |20=>exact dd.undef
    |21=>exact dd.undef
    |22=>exact dd.undef
    |23=>exact dd.undef
    |24=>exact dd.undef
    |25=>exact dd.undef
    |26=>exact dd.undef
    |27=>exact dd.undef
    |28=>exact dd.undef
    |29=>exact dd.undef
    |30=>exact dd.undef
    |31=>exact dd.undef
    |32=>exact dd.undef
    |33=>exact dd.undef
    |34=>exact dd.undef
    |35=>exact dd.undef
    |36=>exact dd.undef
    |37=>exact dd.undef
    |38=>exact dd.undef
    |39=>exact dd.undef
    |40=>exact dd.undef
    |41=>exact dd.undef
    |t+42=>exact dd.undef
  have hV:wpOps (Call Tryz.prog) true ?vl (fun e _=>e 5=.ptr ⟨3,0⟩ 0 0/\e 6=.ptr ⟨4,0⟩ 0 0/\e 8=.int .i64 (iH s (aL l x0).br x2 (aL l x1).br)) (RB s l x0 x1 x2) ⟨QA s l x0 x1,1⟩:= ?hv
  gi_wp2
  refine B8 mixed (rrE (nt:=42) (site0:=205005000)) (MC (by kernel_rfl)) (l9 (fun _ _ _ _ h=>gS mixed h) lN (fun _ _ h=>h) _ _ _ hV) dC ?_
  rintro e1 σ1 ⟨tm,df⟩ w3 D1 ι1 ⟨h5,h6,h8⟩ T1 sI F2
  case hv=>
   refine GD ?_
   have e0:=fF Fe
   have e1:=fF Md
   (repeat(first|((repeat(revert hN;revert N;apply Pn.out));refine wk (tw @e0 (tw @e1 (tw @RB.eq_1 (tw @QA.eq_1 (tw @ab.eq_1 @ad.eq_1))))) ?_;(repeat(refine Pn.mk ?_;intro N hN)))|((try apply Or.inl);refine⟨_,au.x (Xx) (sd (tw @e0 (tw @e1 (tw @RB.eq_1 (tw @QA.eq_1 (tw @ab.eq_1 @ad.eq_1)))))),?_⟩;refine hN _ _ ?_;clear hN N)))
   exact⟨sd @RB.eq_1,sd @RB.eq_1,sd @RB.eq_1⟩
  ·have Dz:Below W.heap.size W w3:=T1.below
   have qw:∀id B,Lc w.heap.size Bx id=some B->ι1 id=some B:=T1.names
   have p5:tm.getD 5 undef=.pointer (some ⟨w.heap.size+1+1,0,none⟩):=by
    have g:=sI.env 5
    rw[h5]at g
    obtain⟨B,e,hB,_⟩:=iN g
    have h:=qw ⟨3,0⟩ ⟨w.heap.size+1+1,1,1,none⟩ rfl
    rw[h]at hB;injection hB with hB;subst hB
    simpa using e
   have p6:tm.getD 6 undef=.pointer (some ⟨Bx,0,none⟩):=by
    have g:=sI.env 6
    rw[h6]at g
    obtain⟨B,e,hB,_⟩:=iN g
    have h:=qw ⟨4,0⟩ ⟨Bx,2,2,none⟩ rfl
    rw[h]at hB;injection hB with hB;subst hB
    simpa using e
   have p8:tm.getD 8 undef=.int .i64 (iH s (aL l x0).br x2 (aL l x1).br):=by
    have g:=sI.env 8
    rw[h8]at g
    exact dq g
   have fm:=sI.size
   obtain⟨tl⟩:=tm
   obtain⟨f,Fb,hf⟩:∃f:Nat->Value,tl=[f 0,f 1,f 2,f 3,f 4,f 5,f 6,f 7,f 8,f 9,f 10,f 11,f 12,f 13,f 14,f 15,f 16,f 17,f 18,f 19,f 20,f 21,f 22,f 23,f 24,f 25,f 26,f 27,f 28,f 29,f 30,f 31,f 32,f 33,f 34,f 35,f 36,f 37,f 38,f 39,f 40,f 41]/\∀i,f i=(⟨tl⟩:Array Value).getD i undef:=by
    refine⟨fun i=>(⟨tl⟩:Array Value).getD i undef,?_,fun _=>rfl⟩
    have h:=Mr tl undef
    rw[show tl.length=42 from fm]at h
    exact h
   rw[<-hf]at p5 p6 p8
   have Zh:df=[]:=F2
   subst Zh
   clear hf sI dC hV
   subst Fb
   rw[p5,p6,p8]
   have SU:=hv.kept (grown_of Dz) (by simp)
   have HN:=fu.kept (grown_of Dz) (by rcases fu.2 with⟨e,_⟩|⟨_,_,_,e,_⟩<;>rw[e]<;>simp[Value.ownBlock])
   have hc3:=SU.cell
   have VT:w.heap.size<=w3.heap.size:=Nat.le_trans hB.size Dz.size
   have eX0:w3.cell? ⟨Bx,0,none⟩=some (.int .i64 (x0:Int)):=(Dz.cell (p:=⟨Bx,0,none⟩) (Array.getElem?_eq_some_iff.1 bX).1).trans Yr
   have eX1:w3.cell? ⟨Bx,1,none⟩=some (.int .i64 (x1:Int)):=(Dz.cell (p:=⟨Bx,1,none⟩) (Array.getElem?_eq_some_iff.1 bX).1).trans Ys
   have mj:(oV s l pre).length<=2097152:=by
    have h1:=K5 s l pre
    have h2:=Es l l.length
    omega
   have hKF:KeepsFrom (w.heap.size+4) W w3:=⟨Dz.size,fun k o _ hk _=>(Dz.block k (Array.getElem?_eq_some_iff.1 hk).1).trans hk⟩
   have hKT:iQ w.heap.size W w3:=iQ.of Dz
   have Ym:w3.heap[w.heap.size+1]? = _:=(Dz.block _ bA1.lt).trans bA1
   have Yn:=(Dz.block _ (Array.getElem?_eq_some_iff.1 bT1).1).trans bT1
   by_cases jO:0<iH s (aL l x0).br x2 (aL l x1).br
   ·have Ac:oV s l (pre++[⟨(x0,x1,x2),Fe,Md,zy⟩])=oV s l pre++[⟨x0,x1,iH s (aL l x0).br x2 (aL l x1).br⟩]:=by
     rw[zP];simp only[Bc,if_pos jO]
    gi_wp2_with (gi_at_builtin;refine wpListIn_append_own _ rfl _ _ 179 rfl w.heap.size 254 i0 (.agg #[.int .i64 0,.int .i64 0,.int .i64 0]) 3 24 (by kernel_rfl) hi HR w6 jP rfl (by decide) _ _ _ rfl (HN.alloc _) ⟨w3.heap.size,0,none⟩ 1 1 [.int .i64 (x0:Int),.int .i64 (x1:Int),.int .i64 (iH s (aL l x0).br x2 (aL l x1).br)] rfl rfl (xC _ _ _ _ _) (by simp[Value.oneCell']) (by unfold maxLen;omega) ah (by simp;omega) ?_;intro v' w4 DN Ae _;obtain⟨g',Yt,rfl⟩:=ownsRow_succ DN;obtain⟨uc,Fc,za,uE,Ab⟩:=SU.appended (by decide) HN VT ah DN Ae;have O4:=iQ.app SU HN Ae Ab;have qV:=uc.cell;have Uh:=uc.frozen)
    exact⟨hKF.trans (uE.from _),hKT.trans O4,⟨⟨_,Fc,by rw[Ac,K4,List.length_append];exact za,by rw[Ac];simp⟩,(O4.2.1 _ _ _ _ Ym (by decide) (by decide)).trans Ym,(O4.2.1 _ _ _ _ Yn (by decide) (by decide)).trans Yn⟩,hB.trans ((Dz.mono hB.size).trans Ab)⟩
   ·have Ac:oV s l (pre++[⟨(x0,x1,x2),Fe,Md,zy⟩])=oV s l pre:=by
     rw[zP];simp only[Bc,if_neg jO,List.append_nil]
    gi_wp2
    exact⟨hKF,hKT,⟨⟨v,SU,by rw[Ac];exact HN,by rw[Ac];exact hnil⟩,Ym,Yn⟩,hB.trans (Dz.mono hB.size)⟩
 case done=>
  rintro D ys W hD Ff ⟨⟨⟨v,hv,fu,hnil⟩,_⟩,hB⟩ hK
  have hc:=hv.cell
  have NS:oV s l ys=de s l:=by rw[K9,<-Ff];rfl
  rw[NS]at fu hnil
  gi_wp2
  refine⟨by simp,.inl ⟨_,_,rfl,run_takeDeferred hK,?_⟩⟩
  exact⟨_,results_tmp rfl _ _ _,v,rfl,ownsRow_putObj fu _ hK rfl,hnil,hB.trans (belowK_b (w:=w) (Nat.le_refl _) W D _ _ ah hK rfl rfl)⟩
 case stop=>
  rintro D c pre W _ _ h _
  exact h.elim
end Go.Proofs.YtgoljkjaameagaaGreat.V

namespace Go.Proofs.YtgoljkjaameagaaGreat.V
open Go.RowKit Go.Shelf
theorem Ht:∀{bs:List PB} {i j:Nat} {b:PB},bs[i]? =some b->j<3->(Oo bs)[i*3+j]? =([.int .i64 b.a,.int .i64 b.b,.int .i64 b.s]:List Value)[j]?
 |c::bs,0,j,b,h,hj=>by
  simp at h;subst h
  simp only[Oo,List.flatMap_cons,Nat.zero_mul,Nat.zero_add]
  rw[List.getElem?_append_left (by simpa using hj)]
 |c::bs,i+1,j,b,h,hj=>by
  simp only[List.getElem?_cons_succ]at h
  have:=Ht (bs:=bs) (i:=i) (j:=j) h hj
  simp only[Oo,List.flatMap_cons]at this ⊢
  rw[List.getElem?_append_right (by simp;omega),<-this]
  congr 1
  simp;omega
theorem tb {P:Program} {w:World} {D:Nat->Prop} {rows:List (List AV)} {v:Value} (h:kd P w D (.sl rows) v):∃A n c,v=.slice A n c:=by
 cases h with
 |CJ a c _=>exact⟨_,_,_,rfl⟩
 |sl=>exact⟨_,_,_,rfl⟩
theorem sj {P:Program} {w:World} {D:Nat->Prop} {ι:Names} {rows:List (List AV)} {v:Value} (h:dd P w D ι (.sl rows) v):kd P w D (.sl rows) v:=by
 cases h with
 |eV _ _ h=>exact h
theorem PW {P:Program} {w:World} {D:Nat->Prop} {l:List aa} {v:Value} (h:kd P w D (.sl (l.map ab)) v):qR w v l:=by
 generalize hr:l.map ab=rows at h
 cases h with
 |CJ a c hc=>
  have:l=[]:=by simpa using hr
  subst this
  exact⟨a,c,rfl,⟨Nat.zero_le _,hc⟩,.inl rfl⟩
 |sl _ b o n c sz vs h1 h2 h3 h4 h5 h5' h6 h7=>
  have hn:n=l.length:=by rw[<-h1,<-hr];simp
  subst hn
  refine⟨some ⟨b,o,none⟩,c,rfl,⟨h2,h3⟩,?_⟩
  by_cases hl:l=[]
  ·exact .inl hl
  refine .inr ⟨b,o,rfl,fun i hi=>?_⟩
  have hg:rows[i]? =some (ab (aL l i)):=by rw[<-hr];exact fF hi
  have fm:sz=3:=by rw[<-h5 _ (List.mem_of_getElem? hg)];rfl
  subst fm
  have k:∀(j:Nat) (x:Int),(ab (aL l i))[j]? =some (.int .i64 x)->j<3->w.cell? ⟨b,o+(i*3+j),none⟩=some (.int .i64 x):=fun j x hj h3=>by
   have:=h7 i j _ _ hg hj
   rw[h6 i j hi h3,dq (.eV (ι:=fun _=>none) _ _ this)]
  exact⟨k 0 _ rfl ah,k 1 _ rfl ah,k 2 _ rfl ah⟩
theorem RA:Fh:=by
 intro s l hS hA n
 refine fN ?_
 intro hs D ι w vs S U A
 obtain⟨u0,XV,r0⟩:=A.2 0 _ rfl
 obtain⟨u1,Mc,r1⟩:=A.2 1 _ rfl
 have ei:∀b,D b->b<w.heap.size:=S.dead
 obtain⟨v0,f0,rfl,HR,_,XB,ZX⟩:=iY r0
 obtain⟨v1,f1,rfl,w6,_,Uh,DO⟩:=iY r1
 have g0:=sj (ZX 0 _ rfl)
 have g1:=sj (ZX 1 _ rfl)
 have a0:=sj (DO 0 _ rfl)
 obtain⟨Ag,ng,cg,eg⟩:=tb g0
 obtain⟨At,nt,ct,et⟩:=tb g1
 have e0:v0= #[.slice Ag ng cg,.slice At nt ct]:=by
  obtain⟨vl⟩:=v0
  have q0:=XB 0 (by simp[ad])
  have q1:=XB 1 (by simp[ad])
  rw[eg]at q0;rw[et]at q1
  match vl,HR with
  |[a,b],_=>simp at q0 q1;rw[q0,q1]
 have e1:v1= #[f1 0]:=by
  obtain⟨vl⟩:=v1
  have q0:=Uh 0 (by simp)
  match vl,w6 with
  |[a],_=>simp at q0;rw[q0]
 subst e0 e1
 have evs:vs= #[.agg #[.slice Ag ng cg,.slice At nt ct],.agg #[f1 0]]:=by
  obtain⟨vl⟩:=vs
  have hz:=A.1
  match vl,hz with
  |[a,b],_=>simp at XV Mc;rw[XV,Mc]
 subst evs
 have up:∀{a v},kd Tryz.prog w D a v->kd Tryz.prog w (fun b=>b<w.heap.size) a v:=fun h=>h.frame (fun _ _=>rfl) ei
 have hT:kd Tryz.prog w (fun b=>b<w.heap.size) (.agg (ad s)) (.agg #[.slice Ag ng cg,.slice At nt ct]):=
  .agg _ _ f0 HR (fun a ha=>by simp[ad]at ha;rcases ha with rfl|rfl<;>rfl) XB (fun j a ha=>by
   match j,ha with
   |0,ha=>simp[ad]at ha;subst ha;exact up g0
   |1,ha=>simp[ad]at ha;subst ha;exact up g1
   |j+2,ha=>simp[ad]at ha)
 refine(callsIn_wide.1 (K8 s l hS.form hA w Ag At ng cg nt ct (f1 0) hT (PW a0))).mono ?_
 rintro e W' ⟨v,rfl,⟨hl,hown⟩,hnil,hB⟩
 have S':gR Tryz.prog hs D ι (fun _=>none) W':=S.stay (fun b hb=>hB.block b hb) hB.size (fun _ h=>h) (fun b hb=>Nat.lt_of_lt_of_le (ei b hb) hB.size) (fun _ h=>.inl h) (fun _ _ h=>h)
 have T:Step hs D ι w D ι W':=Step.stay S (fun b hb=>hB.block b hb) hB.size hB.os hB.tape hB.output (fun _ h=>h) (fun _ h=>.inl h) (fun _ _ h=>h)
 rcases hown with⟨rfl,h0⟩|⟨gb,cap,cur,rfl,Sr,hblk,hle,DE,dx,nj⟩
 ·have F0:de s l=[]:=hnil.1 rfl
  exact⟨.bI,_,n,D,ι,_,rfl,⟨.bI,kO _ _,by rw[F0];rfl⟩,T,S',U,Nat.le_refl _,.eV _ _ .bI⟩
 ·have F0:de s l≠[]:=fun h=>by have:=hnil.2 h;cases this
  have j4:ι ⟨0,n⟩=none:=fresh U (fun h=>h)
  have il:∀{a v},dd Tryz.prog W' D ι a v->dd Tryz.prog W' D (kW ι ⟨0,n⟩ ⟨gb,3,cap*3,none⟩) a v:=fun h=>h.frame (fun _ _=>rfl) (fun _ h=>h) (fj j4)
  have hR:iF Tryz.prog W' D (kW ι ⟨0,n⟩ ⟨gb,3,cap*3,none⟩) ⟨gb,3,cap*3,none⟩ ⟨true,3,(de s l).map aD⟩:=by
   refine lL.obj ⟨rfl,⟨cur,_,hblk,dx⟩,?_,fun cs hc=>?_,fun cs hc a ha=>?_,fun i j cs a hi hj=>?_⟩ rfl
   ·simp only[List.length_map];exact Nat.mul_le_mul_right 3 hle
   ·obtain⟨b,_,rfl⟩:=List.mem_map.1 hc;rfl
   ·obtain⟨b,_,rfl⟩:=List.mem_map.1 hc
    simp[aD]at ha
    rcases ha with rfl|rfl|rfl<;>rfl
   ·rw[List.getElem?_map]at hi
    simp only[Option.map_eq_some_iff]at hi
    obtain⟨b,hb,rfl⟩:=hi
    have Zr:j<3:=by have:=(List.getElem?_eq_some_iff.1 hj).1;simpa[aD]using this
    have mb:=(List.getElem?_eq_some_iff.1 hb).1
    have hg:=Ht hb Zr
    rw[<-nj,List.getElem?_take,if_pos ah]at hg
    have key:∀x:Value,([.int .i64 b.a,.int .i64 b.b,.int .i64 b.s]:List Value)[j]? =some x->W'.cell? ⟨gb,i*3+j,none⟩=some x:=fun x hx=>by
     rw[hx]at hg
     have e:W'.cell? ⟨gb,i*3+j,none⟩=cur[i*3+j]? :=by
      unfold World.cell?
      rw[show W'.heap[(⟨gb,i*3+j,none⟩:Addr).block]? = _ from hblk]
      rfl
     rw[e,<-Array.getElem?_toList];exact hg
    match j,hj with
    |0,hj=>simp[aD]at hj;subst hj;exact⟨_,key _ rfl,.eV _ _ (.int _ _)⟩
    |1,hj=>simp[aD]at hj;subst hj;exact⟨_,key _ rfl,.eV _ _ (.int _ _)⟩
    |2,hj=>simp[aD]at hj;subst hj;exact⟨_,key _ rfl,.eV _ _ (.int _ _)⟩
    |j+3,hj=>simp[aD]at hj
  have S2:=gR.add (r:=⟨true,3,(de s l).map aD⟩) S S' j4 Sr hR
  refine⟨.own ⟨0,n⟩ 0 (de s l).length,bE (fun _=>none) ⟨0,n⟩ ⟨true,3,(de s l).map aD⟩,n+1,D,kW ι ⟨0,n⟩ ⟨gb,3,cap*3,none⟩,_,rfl,⟨Ce (de s l),?_,rfl⟩,T.trans (Step.stay S' (fun _ _=>rfl) (Nat.le_refl _) rfl rfl rfl (fun _ h=>h) (fun _ h=>.inl h) (fj j4)),S2,U.upd.next,Nat.le_succ _,.own _ _ _ _ _ _ (ev _ _ _) rfl hle (.inr (by simp)) (by simp) DE⟩
  unfold Ce
  rw[if_neg F0]
  have hg:(bE (fun _=>none) (⟨0,n⟩:Id) ⟨true,3,(de s l).map aD⟩:Rows) ⟨0,n⟩=some ⟨true,3,(de s l).map aD⟩:=by simp[bE]
  have:=gq (n:=5) hg rfl fun b=>wV _ 4 b
  simpa using this
end Go.Proofs.YtgoljkjaameagaaGreat.V

namespace Go.Proofs.YtgoljkjaameagaaGreat.V
open Go.RowKit
theorem Tm {P:Program} {w:World} {D:Nat->Prop} {ι:Names} {x y:Int} {v:Value} (h:dd P w D ι (.agg [.int .i64 x,.int .i64 y]) v):v=.agg #[.int .i64 x,.int .i64 y]:=by
 obtain⟨vs,f,rfl,fm,_,h1,h2⟩:=iY h
 have v0:=h1 0 (by simp)
 have v1:=h1 1 (by simp)
 rw[dq (h2 0 _ rfl)]at v0
 rw[dq (h2 1 _ rfl)]at v1
 obtain⟨vl⟩:=vs
 match vl,fm with
 |[a,b],_=>
  simp at v0 v1
  rw[v0,v1]
theorem CW {σ:aw} {X O:Id} {b1 b2:Bool} {es:List En} (hX:σ.get X=some ⟨b1,1,[[.map O mP]]⟩) (hO:σ.get O=some ⟨b2,mP.lq,es.map o8⟩) (hl:es.length<=1000000):
  Call Tryz.prog 282 [.bI,.fn 232 [.ptr X 0 0]] σ (fun r σ'=>σ.next<=σ'.next/\(∀x:Id,x.bj<σ.next->σ'.get x=σ.get x)/\∃ss:List aq,ss.Perm (es.map (·.1))/\((ss=[]/\r=.bI)∨∃o:Id,r=.own o 0 ss.length/\σ'.get o=some ⟨true,2,ss.map ae⟩/\σ.next<=o.bj/\o.bj<σ'.next/\ss≠[])):=by
 refine fN fun hs D ι w vs S U A=>?_
 obtain⟨u1,us1,rfl,h1,h2⟩:=jy A
 obtain⟨u2,us2,h3,h4,h5⟩:=jy h2
 simp at h3;subst h3
 have:=tz h5
 simp at this;subst this
 obtain rfl:=ji h1
 obtain⟨vc,gf,rfl,_,zb,NW,hrc⟩:=uR h4
 obtain⟨BX,hp,hBX,hkX⟩:=iN (hrc 0 _ rfl)
 have Z9:vc= #[.pointer (some ⟨BX.b,0,none⟩)]:=by
  obtain⟨l⟩:=vc
  have q0:=NW 0 (by simp)
  match l,zb with
  |[a],_=>simp at q0;rw[q0,hp];simp
 subst Z9
 obtain⟨BX',OR,RX,_,_⟩:=S.row X _ hX
 rw[hBX]at OR;injection OR with OR;subst OR
 obtain⟨vm,Jh,L8⟩:=(RX.row hkX).at_ 0 0 _ _ rfl rfl
 obtain⟨BO,rfl,hBO,hkO⟩:=B9 L8
 obtain⟨BO',OQ,RO,_,_⟩:=S.row O _ hO
 rw[hBO]at OQ;injection OQ with OQ;subst OQ
 obtain⟨_,W5,clock,hblk,fm,⟨_,DV⟩,hM⟩:=RO.map mP hkO
 have hk:W5.toList.map (·.key)=(es.map (·.1)).map sV:=by
  have Ge:W5.toList.length=es.length:=by simpa using fm
  refine List.ext_getElem (by simpa using Ge) fun i h1 h2=>?_
  have hi:i<es.length:=by simpa using h2
  obtain⟨e,kv,vv,q1,q2,_,q4,_⟩:=hM i (o8 es[i]) (by simp[hi])
  have e1:kv=.agg [.int .i64 es[i].1.eE,.int .i64 es[i].1.ez]:=by
   simp[part,MK.ks,o8]at q2
   exact q2.symm
  subst e1
  have e2:=Tm q4
  simp only[List.getElem_map]
  have e3:W5.toList[i]'ah=e:=by
   have:=Array.getElem?_eq_some_iff.1 q1
   obtain⟨_,h⟩:=this
   simpa using h
  rw[e3,e2];rfl
 have ei:∀b,D b->b<w.heap.size:=S.dead
 have hbx:BX.b<w.heap.size:=RX.lt
 have Vs:w.cell? ⟨BX.b,0,none⟩=some (.map (some BO.b)):=by simpa using Jh
 refine(callsIn_wide.1 (A6 BX.b BO.b W5 clock DV (es.map (·.1)) hk (by simpa using hl) w hbx Vs hblk)).mono ?_
 rintro e W' ⟨ss,v,rn,rfl,⟨hle',hown⟩,hnil,hB⟩
 have S':gR Tryz.prog hs D ι σ.get W':=S.stay (fun b hb=>hB.block b hb) hB.size (fun _ h=>h) (fun b hb=>Nat.lt_of_lt_of_le (ei b hb) hB.size) (fun _ h=>.inl h) (fun _ _ h=>h)
 have T:Step hs D ι w D ι W':=Step.stay S (fun b hb=>hB.block b hb) hB.size hB.os hB.tape hB.output (fun _ h=>h) (fun _ h=>.inl h) (fun _ _ h=>h)
 rcases hown with⟨rfl,h0⟩|⟨gb,cap,cur,rfl,Sr,hblk2,hle,DE,dx,nj⟩
 ·have F0:ss=[]:=hnil.1 rfl
  exact⟨.bI,_,σ.next,D,ι,_,rfl,⟨Nat.le_refl _,fun _ _=>rfl,ss,rn,.inl ⟨F0,rfl⟩⟩,T,S',U,Nat.le_refl _,.eV _ _ .bI⟩
 ·have F0:ss≠[]:=fun h=>by have:=hnil.2 h;cases this
  have j4:ι ⟨0,σ.next⟩=none:=fresh U (fun h=>h)
  have hR:iF Tryz.prog W' D (kW ι ⟨0,σ.next⟩ ⟨gb,2,cap*2,none⟩) ⟨gb,2,cap*2,none⟩ ⟨true,2,ss.map ae⟩:=by
   refine lL.obj ⟨rfl,⟨cur,_,hblk2,dx⟩,?_,fun cs hc=>?_,fun cs hc a ha=>?_,fun i j cs a hi hj=>?_⟩ rfl
   ·simp only[List.length_map];exact Nat.mul_le_mul_right 2 hle
   ·obtain⟨b,_,rfl⟩:=List.mem_map.1 hc;rfl
   ·obtain⟨b,_,rfl⟩:=List.mem_map.1 hc
    simp[ae]at ha
    rcases ha with rfl|rfl<;>rfl
   ·rw[List.getElem?_map]at hi
    simp only[Option.map_eq_some_iff]at hi
    obtain⟨b,hb,rfl⟩:=hi
    have Zr:j<2:=by have:=(List.getElem?_eq_some_iff.1 hj).1;simpa[ae]using this
    have mb:=(List.getElem?_eq_some_iff.1 hb).1
    have hg:=PX hb Zr
    rw[<-nj,List.getElem?_take,if_pos ah]at hg
    have key:∀x:Value,([.int .i64 b.eE,.int .i64 b.ez]:List Value)[j]? =some x->W'.cell? ⟨gb,i*2+j,none⟩=some x:=fun x hx=>by
     rw[hx]at hg
     have e:W'.cell? ⟨gb,i*2+j,none⟩=cur[i*2+j]? :=by
      unfold World.cell?
      rw[show W'.heap[(⟨gb,i*2+j,none⟩:Addr).block]? = _ from hblk2]
      rfl
     rw[e,<-Array.getElem?_toList];exact hg
    match j,hj with
    |0,hj=>simp[ae]at hj;subst hj;exact⟨_,key _ rfl,.eV _ _ (.int _ _)⟩
    |1,hj=>simp[ae]at hj;subst hj;exact⟨_,key _ rfl,.eV _ _ (.int _ _)⟩
    |j+2,hj=>simp[ae]at hj
  have S2:=gR.add (r:=⟨true,2,ss.map ae⟩) S S' j4 Sr hR
  refine⟨.own ⟨0,σ.next⟩ 0 ss.length,bE σ.get ⟨0,σ.next⟩ ⟨true,2,ss.map ae⟩,σ.next+1,D,kW ι ⟨0,σ.next⟩ ⟨gb,2,cap*2,none⟩,_,rfl,⟨Nat.le_succ _,fun x hx=>?_,ss,rn,.inr ⟨_,rfl,by simp[bE],Nat.le_refl _,Nat.lt_succ_self _,F0⟩⟩,T.trans (Step.stay S' (fun _ _=>rfl) (Nat.le_refl _) rfl rfl rfl (fun _ h=>h) (fun _ h=>.inl h) (fj j4)),S2,U.upd.next,Nat.le_succ _,.own _ _ _ _ _ _ (ev _ _ _) rfl hle (.inr (by simp)) (by simp) DE⟩
  have:¬x=⟨0,σ.next⟩:=fun e=>by subst e;simp at hx
  simp[bE,this]
end Go.Proofs.YtgoljkjaameagaaGreat.V

namespace Go.Proofs.YtgoljkjaameagaaGreat.V
open Go.RowKit
attribute [local irreducible] dK wpOps gw Call
attribute [local go_sem] aM fE eM fV fS dc upd cr K.av cI AV.cells AV.cell rowOf rowsOf part ld rowAt bE cj dy dS gU bJ cY ee fQ e6 dp dX cW cV dI dJ bP bc cL bL cP cN dV dY dW cK bU cX dU bK aO cR cC gT bw cG bQ aY dj aZ dz AV.undef bD bG dM dQ dE dG cE ec eh cz ea dZ cQ cU List.getD_cons_zero List.getD_cons_succ List.getD_nil List.all_cons List.all_nil Bool.and_true Bool.true_and Bool.and_self Bool.not_true Bool.not_false Option.map_some Option.map_none Option.bind_some Option.bind_none List.length_cons List.length_nil List.take_succ_cons List.take_zero List.take_nil List.drop_succ_cons List.drop_zero List.drop_nil List.head?_cons List.map_cons List.map_nil List.getElem?_cons_zero List.getElem?_cons_succ List.cons_append List.nil_append List.append_nil List.length_map List.set_cons_zero List.set_cons_succ Nat.reduceMul eq_self Int.toNat_natCast Int.natCast_nonneg and_self true_and and_true decide_true decide_false Bool.false_eq_true Nat.zero_add Nat.add_zero List.contains_cons List.contains_nil Bool.or_false Bool.false_or beq_self_eq_true Nat.reduceBEq ne_eq not_true_eq_false not_false_eq_true Id.mk.injEq false_and and_false Nat.reduceLT Int.reduceLE Int.reduceLT Int.reduceToNat Int.reduceNeg Int.reduceAdd Nat.le_refl List.length_append beq_true beq_false Bool.not_eq_eq_eq_not or_false false_or dH aj ar aH bh bz ck aV bd aX bf cJ bB
theorem qc {α:Type} [DecidableEq α]:∀{xs ys:List α},xs.Nodup->(∀x∈xs,x∈ys)->xs.length=ys.length->xs.Perm ys
 |[],ys,_,_,h=>by
  have:ys=[]:=List.eq_nil_of_length_eq_zero h.symm
  subst this;exact List.Perm.nil
 |x::xs,ys,hn,hs,h=>by
  obtain⟨h1,h2⟩:=List.nodup_cons.1 hn
  have hx:=hs x (by simp)
  have hl:=List.length_erase_of_mem hx
  have:=@qc α _ xs (ys.erase x) h2 (fun y hy=>(List.mem_erase_of_ne fun e=>h1 (by rw[<-e];exact hy)).2 (hs y (by simp[hy]))) (by rw[hl];simp only[List.length_cons]at h;omega)
  exact(this.cons x).trans (List.perm_cons_erase hx).symm
theorem oj {L:List aq} (h:nq L):L.Nodup:=List.Pairwise.imp (fun {a b} nV e=>by rw[e,iM]at nV;cases nV) h
theorem Qc {L qs:List aq} (hR:nq L) (hp:qs.Perm L) (hs:∀i j:Nat,i<j->j<qs.length->iS (j7 qs j) (j7 qs i)=false):qs=L:=by
 have hd:qs.Nodup:=hp.nodup_iff.2 (oj hR)
 have hq:nq qs:=by
  unfold nq
  unfold List.Nodup at hd
  rw[List.pairwise_iff_getElem]at hd ⊢
  intro i j hi hj y9
  have h1:=hs i j y9 hj
  rw[kq hj,kq hi]at h1
  exact qz h1 fun e=>hd i j hi hj y9 e.symm
 exact H8 hq hR fun x=>hp.mem_iff
theorem J5 (σ:aw):Call Tryz.prog 231 [.bI,.fn 154 []] σ fun r σ'=>r=.gJ []/\σ'.next=σ.next/\σ'.get=σ.get:=by
 refine fN fun hs D ι w vs S U A=>?_
 obtain⟨u1,us1,rfl,h1,h2⟩:=jy A
 obtain⟨u2,us2,h3,h4,h5⟩:=jy h2
 simp at h3;subst h3
 have:=tz h5
 simp at this;subst this
 obtain rfl:=ji h1
 refine(Ra _ _ _ w).mono ?_
 rintro e w' ⟨rfl,rfl⟩
 exact⟨.gJ [],σ.get,σ.next,D,ι,_,rfl,⟨rfl,rfl,rfl⟩,Step.refl _ _ _ _,S,U,Nat.le_refl _,.gJ [] #[] (fun _=>Go.undef) rfl (fun j hj=>by simp at hj) (fun j a h=>by simp at h)⟩
theorem Mi (O:Id) (σ:aw):Call Tryz.prog 153 [.map O mP] σ (fun r σ'=>r=.fn 232 [.ptr ⟨153000000,σ.next⟩ 0 0]/\σ'.get ⟨153000000,σ.next⟩=some ⟨true,1,[[.map O mP]]⟩/\σ.next<σ'.next/\∀x:Id,x.bj<σ.next->σ'.get x=σ.get x):=by
 refine eA eF rfl fun hl=>?_
 clear hl
 (try((repeat(revert hN;revert N;apply Pn.out));refine wk @Nat.zero_add ?_;(repeat(refine Pn.mk ?_;intro N hN))))
 exact eS (.inl rfl) (vs:=[.fn 232 [.ptr ⟨153000000,σ.next⟩ 0 0]]) (sd @Nat.zero_add) ⟨rfl,sd @Nat.zero_add,aT,fun x hx=>by
  have:=db hx
  simp only[go_sem, ↓reduceIte,Nat.reduceEqDiff,Nat.reduceAdd,Nat.reduceSub,Nat.reduceLeDiff,reduceCtorEq,this]⟩
theorem IC {σ:aw} {X O:Id} {b1 b2:Bool} {es:List En} (hX:σ.get X=some ⟨b1,1,[[.map O mP]]⟩) (hO:σ.get O=some ⟨b2,mP.lq,es.map o8⟩) (hl:es.length<=1000000) (hXv:X.bj<σ.next) (Ue:O.bj<σ.next):
  Call Tryz.prog 230 [.fn 232 [.ptr X 0 0]] σ (fun r σ'=>σ.next<=σ'.next/\(∀x:Id,x.bj<σ.next->σ'.get x=σ.get x)/\∃ss:List aq,ss.Perm (es.map (·.1))/\((ss=[]/\r=.bI)∨∃o:Id,r=.own o 0 ss.length/\σ'.get o=some ⟨true,2,ss.map ae⟩/\σ.next<=o.bj/\o.bj<σ'.next/\ss≠[])):=by
 refine eA eF rfl fun kP=>?_
 clear kP
 (try((repeat(revert hN;revert N;apply Pn.out));refine wk @Nat.zero_add ?_;(repeat(refine Pn.mk ?_;intro N hN))))
 refine .inr (aI _ _ _ _ _ (fun r σ1 hq=>?_) (CW (σ:=⟨σ.get,_⟩) hX hO hl))
 obtain⟨g1,x1⟩:=σ1
 obtain⟨q1,q2,ss,q3,q4⟩:=hq
 (try dsimp only at q1 q2 q4)
 refine hN _ _ ?_
 clear hN N
 (try((repeat(revert hN;revert N;apply Pn.out));refine wk @Nat.zero_add ?_;(repeat(refine Pn.mk ?_;intro N hN))))
 exact eS (.inl rfl) (vs:=[r]) (sd @Nat.zero_add) ⟨aT,fun x hx=>q2 x ah,ss,q3,by
  rcases q4 with h|⟨o,h1,h2,h3,h4,h5⟩
  ·exact .inl h
  ·exact .inr ⟨o,h1,h2,ah,aT,h5⟩⟩
theorem Nb {σ:aw} {X O:Id} {b1 b2:Bool} {es:List En} (hX:σ.get X=some ⟨b1,1,[[.map O mP]]⟩) (hO:σ.get O=some ⟨b2,mP.lq,es.map o8⟩) (hl:es.length<=1000000) (hXv:X.bj<σ.next) (Ue:O.bj<σ.next) (L:List aq) (hR:nq L) (hn:(es.map (·.1)).Nodup) (hm:∀x,x∈L↔x∈es.map (·.1)):
  Call Tryz.prog 152 [.fn 232 [.ptr X 0 0],.fn 154 []] σ (fun r σ'=>σ.next<=σ'.next/\(∀x:Id,x.bj<σ.next->σ'.get x=σ.get x)/\((L=[]/\r=.bI)∨∃o:Id,r=.own o 0 L.length/\σ'.get o=some ⟨true,2,L.map ae⟩/\σ.next<=o.bj/\o.bj<σ'.next/\L≠[])):=by
 refine eA eF rfl fun kP=>?_
 clear kP
 (try((repeat(revert hN;revert N;apply Pn.out));refine wk @Nat.zero_add ?_;(repeat(refine Pn.mk ?_;intro N hN))))
 refine .inr (aI _ _ _ _ _ (fun r σ1 hq=>?_) (IC (σ:=⟨σ.get,_⟩) hX hO hl aT aT))
 obtain⟨g1,x1⟩:=σ1
 obtain⟨q1,q2,ss,q3,q4⟩:=hq
 (try dsimp only at q1 q2 q4)
 have lk:ss.Nodup:=q3.nodup_iff.2 hn
 have nY:∀x,x∈L↔x∈ss:=fun x=>(hm x).trans q3.mem_iff.symm
 refine hN _ _ ?_
 clear hN N
 rcases q4 with⟨hs,rfl⟩|⟨o,rfl,q5,q6,q7,q8⟩
 ·have hL:L=[]:=List.eq_nil_iff_forall_not_mem.2 fun x hx=>by have:=(nY x).1 hx;rw[hs]at this;cases this
  (try((repeat(revert hN;revert N;apply Pn.out));refine wk @Nat.zero_add ?_;(repeat(refine Pn.mk ?_;intro N hN))))
  refine .inr (aI _ _ _ _ _ (fun r σ2 hq=>?_) (J5 ⟨g1,_⟩))
  obtain⟨g2,x2⟩:=σ2
  obtain⟨rfl,u1,u2⟩:=hq
  (try dsimp only at u1 u2)
  refine hN _ _ ?_
  clear hN N
  (try((repeat(revert hN;revert N;apply Pn.out));refine wk @Nat.zero_add ?_;(repeat(refine Pn.mk ?_;intro N hN))))
  exact eS (.inl rfl) (vs:=[.bI]) (sd @Nat.zero_add) ⟨aT,fun x hx=>(congrFun u2 x).trans (q2 x ah),.inl ⟨hL,rfl⟩⟩
 ·have vJ:ss.length<=1048576:=by rw[q3.length_eq,List.length_map];omega
  (try((repeat(revert hN;revert N;apply Pn.out));refine wk @Nat.zero_add ?_;(repeat(refine Pn.mk ?_;intro N hN))))
  refine .inr (aI _ _ _ _ _ (fun r σ2 hq=>?_) (J7 WB Ra ss vJ ⟨g1,_⟩ o q5))
  obtain⟨g2,x2⟩:=σ2
  obtain⟨u1,u2,qs,u3,u4,u5,u6⟩:=hq
  (try dsimp only at u1 u2 u3)
  have XQ:qs=L:=Qc hR ((qc (oj hR) (fun x hx=>(u5 x).2 ((nY x).1 hx)) (by
   rw[u4]
   exact(qc (oj hR) (fun x hx=>(nY x).1 hx) (Nat.le_antisymm (qD (oj hR) fun x hx=>(nY x).1 hx) (qD lk fun x hx=>(nY x).2 hx))).length_eq)).symm) u6
  rw[XQ]at u3 u4
  have OV:L≠[]:=fun e=>by rw[e]at u4;exact q8 (List.eq_nil_of_length_eq_zero u4.symm)
  refine hN _ _ ?_
  clear hN N
  (try((repeat(revert hN;revert N;apply Pn.out));refine wk @Nat.zero_add ?_;(repeat(refine Pn.mk ?_;intro N hN))))
  exact eS (.inl rfl) (vs:=[.own o 0 ss.length]) (sd @Nat.zero_add) ⟨aT,fun x hx=>by
   have h1:x≠o:=fun e=>by rw[e]at hx;omega
   exact(u2 x h1).trans (q2 x ah),.inr ⟨o,by rw[u4];rfl,u3,ah,aT,OV⟩⟩
def NP (z m:Nat) (L:List aa) (v:AV) (g:Rows) (n:Nat):Prop:=(L=[]/\v=.bI)∨∃u:Id,v=.own u 0 L.length/\g u=some ⟨true,3,L.map ab⟩/\m<=u.bj/\u.bj<n/\0<L.length/\u.site=z
theorem NP.frame {z m:Nat} {L:List aa} {v v':AV} {g g':Rows} {n n':Nat} (h:NP z m L v g n) (he:v'=v) (hn:n<=n') (hf:∀x:Id,x.bj<n->g' x=g x):NP z m L v' g' n':=by
 subst he
 rcases h with h|⟨u,h1,h2,h3,h4,h5⟩
 ·exact .inl h
 ·exact .inr ⟨u,h1,(hf u h4).trans h2,h3,ah,h5⟩
def jT (p:aq) (ks:List Int) (j:Nat):List aa:=(ks.take j).map fun k=>⟨p,k⟩
theorem AB {p:aq} {ks:List Int} {j:Nat} (h:j<ks.length):jT p ks (j+1)=jT p ks j++[⟨p,ks.getD j 0⟩]:=by
 unfold jT
 rw[List.take_succ_eq_append_getElem h,List.map_append]
 simp[List.getD_eq_getElem?_getD,h]
theorem Ew (p:aq) (ks:List Int):jT p ks ks.length=ks.map fun k=>(⟨p,k⟩:aa):=by unfold jT;rw[List.take_length]
theorem HU {ks:List Int} {j:Nat} (h:j<ks.length):(ks.map aU)[j]? =some [.int .i64 (ks.getD j 0)]:=by simp[aU,List.getD_eq_getElem?_getD,h]
structure Ya (g:Rows) (n:Nat) (c T O:Id) (s:aE) (l:List aa):Prop where
 row:g c=some ⟨true,6,[[.sl (s.aC.aB.map cm),.sl (s.aC.ai.map bR),.sl (s.bY.ai.map ab),.int .i64 s.az,.map T mP,.map O mP]]⟩
 cv:c.bj<n
 ov:O.bj<n
 op:∃es:List En,g O=some ⟨true,mP.lq,es.map o8⟩/\xj g n es (gM s l) (fun _=>True)
theorem S8 {σ:aw} {c T O:Id} {s:aE} {l:List aa} (h:Ya σ.get σ.next c T O s l) (hT:1<=s.az) (hS:iG s.aC) (hA:jZ s.aC l):
  Call Tryz.prog 84 [.ptr c 0 0] σ (fun r σ'=>σ.next<=σ'.next/\(∀x:Id,x.bj<σ.next->σ'.get x=σ.get x)/\NP 84008005 σ.next (so (ew s l) s.aC.ai.length (jv l)) r σ'.get σ'.next):=by
 refine eA eF rfl fun kP=>?_
 clear kP
 obtain⟨es,hO,hE⟩:=h.op
 have fu:=h.row
 have v1:=db h.cv
 have v2:=db h.ov
 have Fb:=hS.wg
 have DH:=hA.1.zm
 have SB:∀q,q∈mN s l↔q∈es.map (·.1):=fun q=>by
  rw[ye hT hA]
  rcases hE.at_ q trivial with⟨h1,h2⟩|⟨h1,o,h2,_⟩
  ·refine⟨fun h=>absurd h1 h,fun h=>?_⟩
   obtain⟨e,he,rfl⟩:=List.mem_map.1 h
   exact absurd rfl (h2 e he)
  ·exact⟨fun _=>List.mem_map_of_mem (f:=(·.1)) h2,fun _=>h1⟩
 have Uq:(mN s l).length<=10000:=by
  have h1:(mN s l).length<=(jv l).length:=List.length_filter_le _ _
  have h2:(jv l).length<=l.length*4:=lV l l.length
  omega
 have hes:es.length<=1000000:=by
  have h1:=qD hE.nodup fun x hx=>(SB x).2 hx
  rw[List.length_map]at h1
  omega
 rw[Fy]
 have hR:=FO s l
 have s5:∀q∈mN s l,gM s l q≠[]:=fun q hq=>(ye hT hA q).1 hq
 generalize mN s l=ps at SB Uq hR s5
 (try((repeat(revert hN;revert N;apply Pn.out));refine wk (tw @fu @v1) ?_;(repeat(refine Pn.mk ?_;intro N hN))))
 refine .inr (aI _ _ _ _ _ (fun r σ1 hq=>?_) (Mi O _))
 obtain⟨g1,x1⟩:=σ1
 obtain⟨rfl,q1,q2,q3⟩:=hq
 (try dsimp only at q1 q2 q3)
 have hO1:g1 O=some ⟨true,mP.lq,es.map o8⟩:=(q3 O (by have:=h.ov;(try dsimp only);omega)).trans hO
 refine hN _ _ ?_
 clear hN N
 (try((repeat(revert hN;revert N;apply Pn.out));refine wk @Nat.zero_add ?_;(repeat(refine Pn.mk ?_;intro N hN))))
 refine .inr (aI _ _ _ _ _ (fun r σ2 hq=>?_) (Nb (σ:=⟨g1,_⟩) q1 hO1 hes aT (by have:=h.ov;(try dsimp only);omega) ps hR hE.nodup SB))
 obtain⟨g2,x2⟩:=σ2
 obtain⟨u1,u2,u3⟩:=hq
 (try dsimp only at u1 u2 u3)
 have CE:∀x:Id,x.bj<σ.next->g2 x=σ.get x:=fun x hx=>(u2 x ah).trans (q3 x aT)
 refine hN _ _ ?_
 clear hN N
 rcases u3 with⟨ZT,rfl⟩|⟨o,rfl,ho,sC,XN,hpne⟩
 ·(try((repeat(revert hN;revert N;apply Pn.out));refine wk @Nat.zero_add ?_;(repeat(refine Pn.mk ?_;intro N hN))))
  refine aQ (fun n env st=>(env 15=.int .i64 0/\env 14=.int .i64 0/\env 3=.bI)/\σ.next<=st.next/\∀x:Id,x.bj<σ.next->st.get x=σ.get x) 0 ⟨⟨sd @Nat.zero_add,sl @Nat.zero_add,sd @Nat.zero_add⟩,aT,fun x hx=>CE x hx⟩ ?_
  rintro m e st ⟨⟨a15,Oi,a3⟩,an,aF⟩ -
  have d0:decide ((0:Int)<0)=false:=rfl
  (try((repeat(revert hN;revert N;apply Pn.out));refine wk (tw @a3 (tw @Oi (tw @a15 @d0))) ?_;(repeat(refine Pn.mk ?_;intro N hN))))
  exact eS (.inl rfl) (vs:=[.bI]) (sd @a3) ⟨aT,fun x hx=>aF x hx,.inl ⟨by rw[ZT];rfl,rfl⟩⟩
 ·have F1:g2 c=some ⟨true,6,[[.sl (s.aC.aB.map cm),.sl (s.aC.ai.map bR),.sl (s.bY.ai.map ab),.int .i64 s.az,.map T mP,.map O mP]]⟩:=(CE c h.cv).trans fu
  have Vk:g2 O=some ⟨true,mP.lq,es.map o8⟩:=(CE O h.ov).trans hO
  have Vv:=h.cv
  have Ue:=h.ov
  (try((repeat(revert hN;revert N;apply Pn.out));refine wk @Nat.zero_add ?_;(repeat(refine Pn.mk ?_;intro N hN))))
  refine aQ (fun n env st=>∃k:Nat,n=(ps.length)-k/\k<=(ps.length)/\env 15=.int .i64 (k:Int)/\(x2<=st.next/\(∀x:Id,x.bj<x2->st.get x=g2 x)/\NP 84008005 x2 (so (ew s l) s.aC.ai.length (ps.take k)) (env 3) st.get st.next)) (ps.length) ⟨0,ah,ah,sl @Nat.zero_add,by(try dsimp only);exact⟨ah,fun x hx=>sd @Nat.zero_add,.inl ⟨rfl,sd @Nat.zero_add⟩⟩⟩ ?_
  rintro n_a env_a st_a ⟨k,rfl,ale,a15,ke⟩ dv
  have a0:=dv 0 (by kernel_rfl);have Rq:=dv 13 (by kernel_rfl);have Oi:=dv 14 (by kernel_rfl)
  simp only[go_sem, ↓reduceIte,Nat.reduceEqDiff,Nat.reduceAdd,Nat.reduceSub,Nat.reduceLeDiff,reduceCtorEq]at a0 Rq Oi
  clear dv
  obtain⟨an,dv,a3⟩:=ke
  have bl:(so (ew s l) s.aC.ai.length (ps.take k)).length<=10000*160:=by
   have h2:=wP (ew s l) s.aC.ai.length (ps.take k)
   have h3:(ps.take k).length*s.aC.ai.length<=10000*160:=Nat.mul_le_mul (by rw[List.length_take];omega) Fb
   omega
  by_cases hk:(k:Int)<(ps.length:Int)
  ·have cq:∀{e:Env} {gg:Rows} {nx:Nat},(e 15=.int .i64 (IntKind.i64.wrap ((k:Int)+1)))->(x2<=nx/\(∀x:Id,x.bj<x2->gg x=g2 x)/\NP 84008005 x2 (so (ew s l) s.aC.ai.length (ps.take (k+1))) (e 3) gg nx)->∃m0,m0<(ps.length)-k/\∃k:Nat,m0=(ps.length)-k/\k<=(ps.length)/\e 15=.int .i64 (k:Int)/\(x2<=nx/\(∀x:Id,x.bj<x2->gg x=g2 x)/\NP 84008005 x2 (so (ew s l) s.aC.ai.length (ps.take k)) (e 3) gg nx):=fun x1 x2=>⟨_,ah,k+1,rfl,ah,(by rw[x1,ay ah]),x2⟩
   have fy:k<ps.length:=ah
   have wI:=(dv o XN).trans ho
   have vao:=db (i:=o) (n:=st_a.next) ah
   have eR:=vZ fy
   have NW:=(dv c ah).trans F1
   have vac:=db (i:=c) (n:=st_a.next) ah
   have hgO:=(dv O ah).trans Vk
   have vaO:=db (i:=O) (n:=st_a.next) ah
   obtain⟨o',Bz,ZL,SG⟩:∃o':Id,(j7 ps k,AV.own o' 0 (gM s l (j7 ps k)).length)∈es/\o'.bj<σ.next/\σ.get o'=some ⟨true,1,(gM s l (j7 ps k)).map aU⟩:=by
    rcases hE.at_ (j7 ps k) trivial with⟨h1,_⟩|⟨_,o',h2⟩
    ·exact absurd h1 (s5 _ (B5 fy))
    ·exact⟨o',h2⟩
   obtain⟨fi,E4,_,_,DU,VW⟩:=uM (j7 ps k) es
   obtain⟨j0,rfl,Uj⟩:∃j,fi=some j/\(es.map o8)[j]? =some [.int .i64 (j7 ps k).eE,.int .i64 (j7 ps k).ez,.own o' 0 (gM s l (j7 ps k)).length]:=by
    cases fi with
    |none=>exact absurd rfl (VW rfl _ Bz)
    |some j=>
     obtain⟨v,hv⟩:=DU j rfl
     have e:=Pt hE.nodup (List.mem_of_getElem? hv) Bz
     subst e
     exact⟨j,rfl,by rw[List.getElem?_map,hv];rfl⟩
   have Kw:=C1 (B:=ew s l) (m:=s.aC.ai.length) fy
   have fR:Hp (ew s l) (j7 ps k) s.aC.ai.length=(gM s l (j7 ps k)).map fun t=>(⟨j7 ps k,t⟩:aa):=Bb _ _ _
   rw[fR,<-Ew]at Kw
   have Pg:(gM s l (j7 ps k)).length<=160:=by
    have:=sY (ew s l) (j7 ps k) s.aC.ai.length
    unfold gM;omega
   generalize j7 ps k=q at E4 Uj Bz SG eR Kw Pg
   generalize gM s l q=us at Uj Bz SG Kw Pg
   generalize so (ew s l) s.aC.ai.length (ps.take k)=L at a3 bl Kw
   (try((repeat(revert hN;revert N;apply Pn.out));refine wk (tw @a15 (tw @a0 (tw @Rq (tw @Oi (tw @hk (tw @wI (tw @vao (tw @eR (tw @NW (tw @vac (tw @hgO (tw @vaO (tw @E4 (tw @Uj @ae.eq_1)))))))))))))) ?_;(repeat(refine Pn.mk ?_;intro N hN))))
   refine aQ (fun n env st=>∃j:Nat,n=(us.length)-j/\j<=(us.length)/\env 26=.int .i64 (j:Int)/\st.get ⟨84004002,st_a.next+1⟩=some ⟨true,2,[ae q]⟩/\(st_a.next+2<=st.next/\(∀x:Id,x.bj<x2->st.get x=g2 x)/\NP 84008005 x2 (L++jT q us j) (env 3) st.get st.next)) (us.length) ⟨0,ah,ah,sl (tw @a15 (tw @a0 (tw @Rq (tw @Oi @ae.eq_1)))),sl (tw @a15 (tw @a0 (tw @Rq (tw @Oi @ae.eq_1)))),by(try dsimp only);exact⟨ah,fun x hx=>by
    have h2:=db (i:=x) (n:=st_a.next) ah
    have h3:=dv x hx
    simp only[go_sem, ↓reduceIte,Nat.reduceEqDiff,Nat.reduceAdd,Nat.reduceSub,Nat.reduceLeDiff,reduceCtorEq,h2,h3],by
    rw[show jT q us 0=[]from rfl,List.append_nil]
    exact a3.frame (sd @Nat.zero_add) ah fun x hx=>by
     have h2:=db hx
     simp only[go_sem, ↓reduceIte,Nat.reduceEqDiff,Nat.reduceAdd,Nat.reduceSub,Nat.reduceLeDiff,reduceCtorEq,h2]⟩⟩ ?_
   rintro n_b env_b st_b ⟨j,rfl,ble,b26,bg0,bI0⟩ eI
   have b0:=eI 0 (by kernel_rfl);have b5:=eI 5 (by kernel_rfl);have Fv:=eI 13 (by kernel_rfl);have Rv:=eI 14 (by kernel_rfl);have Rw:=eI 15 (by kernel_rfl);have Rx:=eI 24 (by kernel_rfl);have Ry:=eI 25 (by kernel_rfl)
   simp only[go_sem, ↓reduceIte,Nat.reduceEqDiff,Nat.reduceAdd,Nat.reduceSub,Nat.reduceLeDiff,reduceCtorEq,a15,a0,Rq,Oi,ae]at b0 b5 Fv Rv Rw Rx Ry
   clear eI
   obtain⟨bn,eI,b3⟩:=bI0
   have X6:=db (i:=⟨84004002,st_a.next+1⟩) (n:=st_b.next) aT
   have DD:(L++jT q us j).length<=16777214:=by
    have:(jT q us j).length<=us.length:=by unfold jT;simp;omega
    rw[List.length_append];omega
   by_cases hj:(j:Int)<(us.length:Int)
   ·have eZ:∀{e:Env} {gg:Rows} {nx:Nat},(e 26=.int .i64 (IntKind.i64.wrap ((j:Int)+1)))->(gg ⟨84004002,st_a.next+1⟩=some ⟨true,2,[ae q]⟩)->(st_a.next+2<=nx/\(∀x:Id,x.bj<x2->gg x=g2 x)/\NP 84008005 x2 (L++jT q us (j+1)) (e 3) gg nx)->∃m0,m0<(us.length)-j/\∃j:Nat,m0=(us.length)-j/\j<=(us.length)/\e 26=.int .i64 (j:Int)/\gg ⟨84004002,st_a.next+1⟩=some ⟨true,2,[ae q]⟩/\(st_a.next+2<=nx/\(∀x:Id,x.bj<x2->gg x=g2 x)/\NP 84008005 x2 (L++jT q us j) (e 3) gg nx):=fun x1 x2 x3=>⟨_,ah,j+1,rfl,ah,(by rw[x1,ay ah]),x2,x3⟩
    have ga:j<us.length:=ah
    have ly:=AB (p:=q) ga
    have y8:=HU ga
    have VH:=(eI o' ah).trans ((CE o' ZL).trans SG)
    have WE:=db (i:=o') (n:=st_b.next) ah
    have O5:(us.map aU).length=us.length:=by simp
    have I3:L++jT q us (j+1)=(L++jT q us j)++[⟨q,us.getD j 0⟩]:=by rw[ly,List.append_assoc]
    generalize us.getD j 0=t at y8 I3
    generalize L++jT q us j=M at b3 DD I3
    have qY:(M++[(⟨q,t⟩:aa)]).length=M.length+1:=by simp
    have qw:(M++[(⟨q,t⟩:aa)]).map ab=M.map ab++[[.int .i64 q.eE,.int .i64 q.ez,.int .i64 t]]:=by rw[List.map_append];rfl
    rcases b3 with⟨hM,b3⟩|⟨u,b3,hug,V7,huv,hul0,Z6⟩
    ·subst hM
     (try((repeat(revert hN;revert N;apply Pn.out));refine wk (tw @b26 (tw @bg0 (tw @b0 (tw @b5 (tw @Fv (tw @Rv (tw @Rw (tw @Rx (tw @Ry (tw @hj (tw @y8 (tw @VH (tw @WE (tw @O5 (tw @b3 (tw @X6 @ae.eq_1)))))))))))))))) ?_;(repeat(refine Pn.mk ?_;intro N hN))))
     refine eZ ?_ ?_ (by(try dsimp only);exact⟨ah,fun x hx=>by
      have h2:=db (i:=x) (n:=st_b.next) ah
      have h3:=eI x hx
      simp only[go_sem, ↓reduceIte,Nat.reduceEqDiff,Nat.reduceAdd,Nat.reduceSub,Nat.reduceLeDiff,reduceCtorEq,h2,h3],.inr ⟨⟨84008005,st_b.next+1+1⟩,by rw[I3,qY];simp only[go_sem, ↓reduceIte,Nat.reduceEqDiff,Nat.reduceAdd,Nat.reduceSub,Nat.reduceLeDiff,reduceCtorEq]<;>rfl,by rw[I3,qw];simp only[go_sem, ↓reduceIte,Nat.reduceEqDiff,Nat.reduceAdd,Nat.reduceSub,Nat.reduceLeDiff,reduceCtorEq]<;>rfl,aT,aT,by rw[I3,qY];omega,rfl⟩⟩)
     all_goals simp only[go_sem, ↓reduceIte,Nat.reduceEqDiff,Nat.reduceAdd,Nat.reduceSub,Nat.reduceLeDiff,reduceCtorEq,b26,bg0,b0,b5,Fv,Rv,Rw,Rx,Ry,X6,ae]
    ·have vub:=db huv
     have ik:(M.map ab).length=M.length:=by simp
     have hM1:M.length<=16777215:=ah
     have ux:=ib Z6 (b:=84004002) (v:=st_a.next+1) (by decide)
     (try((repeat(revert hN;revert N;apply Pn.out));refine wk (tw @b26 (tw @bg0 (tw @b0 (tw @b5 (tw @Fv (tw @Rv (tw @Rw (tw @Rx (tw @Ry (tw @hj (tw @y8 (tw @VH (tw @WE (tw @O5 (tw @b3 (tw @hug (tw @vub (tw @ik (tw @hM1 (tw @X6 (tw @ux @ae.eq_1))))))))))))))))))))) ?_;(repeat(refine Pn.mk ?_;intro N hN))))
     refine eZ ?_ ?_ (by(try dsimp only);exact⟨ah,fun x hx=>by
      have h2:=db (i:=x) (n:=st_b.next) ah
      have h4:=bH (a:=x) (b:=u) ah
      have h3:=eI x hx
      simp only[go_sem, ↓reduceIte,Nat.reduceEqDiff,Nat.reduceAdd,Nat.reduceSub,Nat.reduceLeDiff,reduceCtorEq,h2,h3,h4],.inr ⟨⟨84008005,st_b.next+1+1⟩,by rw[I3,qY];simp only[go_sem, ↓reduceIte,Nat.reduceEqDiff,Nat.reduceAdd,Nat.reduceSub,Nat.reduceLeDiff,reduceCtorEq]<;>rfl,by rw[I3,qw];simp only[go_sem, ↓reduceIte,Nat.reduceEqDiff,Nat.reduceAdd,Nat.reduceSub,Nat.reduceLeDiff,reduceCtorEq]<;>rfl,aT,aT,by rw[I3,qY];omega,rfl⟩⟩)
     all_goals simp only[go_sem, ↓reduceIte,Nat.reduceEqDiff,Nat.reduceAdd,Nat.reduceSub,Nat.reduceLeDiff,reduceCtorEq,b26,bg0,b0,b5,Fv,Rv,Rw,Rx,Ry,X6,ux,ae]
   ·have Zs:j=us.length:=ah
    subst Zs
    (try((repeat(revert hN;revert N;apply Pn.out));refine wk (tw @b26 (tw @bg0 (tw @b0 (tw @b5 (tw @Fv (tw @Rv (tw @Rw (tw @Rx (tw @Ry @hj))))))))) ?_;(repeat(refine Pn.mk ?_;intro N hN))))
    exact cq (sd (tw @a15 (tw @a0 (tw @Rq (tw @Oi (tw @b26 (tw @bg0 (tw @b0 (tw @b5 (tw @Fv (tw @Rv (tw @Rw (tw @Rx @Ry))))))))))))) (by(try dsimp only);exact⟨ah,fun x hx=>eI x hx,by
     rw[Kw]
     exact b3.frame (sd @Nat.zero_add) ah fun x hx=>rfl⟩)
  ·have lj:k=ps.length:=ah
   subst lj
   rw[List.take_length]at a3
   (try((repeat(revert hN;revert N;apply Pn.out));refine wk (tw @a15 (tw @a0 (tw @Rq (tw @Oi @hk)))) ?_;(repeat(refine Pn.mk ?_;intro N hN))))
   exact eS (.inl rfl) (vs:=[env_a 3]) (sd @Nat.zero_add) ⟨aT,fun x hx=>(dv x ah).trans (CE x hx),by
    rcases a3 with h1|⟨u,h1,h2,h3,h4,h5⟩
    ·exact .inl h1
    ·exact .inr ⟨u,h1,h2,ah,aT,h5⟩⟩
end Go.Proofs.YtgoljkjaameagaaGreat.V

namespace Go.Proofs.YtgoljkjaameagaaGreat.V
open Go.RowKit
def Ri:Code->Code
 | .seq a _=>a
 |c=>c
def KE:Code->Code
 | .seq _ b=>b
 |c=>c
def X8:Code->Code
 | .block _ c=>c
 |c=>c
def zsLp:Code->Code
 | .loop c=>c
 |c=>c
def WX:Code->List Oper
 | .region _ o _=>o.toList
 |_=>[]
def rg2 (k:Code):Code:=Ri (Ri (KE (KE k)))
def rgBl (k:Code):Code:=KE (Ri (KE (KE k)))
def rgL (k:Code):Code:=zsLp (X8 (rgBl k))
def To (k:Code):Code:=KE (KE (rgL k))
def TZ:Oper:={dst:=none,op:=.nilCheck (.tmp 0),type:=0,pos:= "",after:= #[],guard:=none}
def rgP (k:Code):List Oper:=(WX (rg2 k)).dropLast
def rgO (k:Code):Oper:=(WX (rg2 k)).getLastD TZ
def X3 (k:Code) (i:Nat):Oper:=(WX (Ri (rgL k))).getD i TZ
def Wx (k:Code):Oper:=(WX (Ri (X8 (To k)))).headD TZ
def Wy (k:Code):List Oper:=(WX (Ri (X8 (To k)))).tail
def rgR (k:Code):Code:=KE (X8 (To k))
def Wz (P:Program) (v0 v1:VC) (vA:List bx) (m:MK) (tm:O) (site it nx ok en:Nat) (vE:List bx) (vR:VC) (b b1:Nat) (vT:VC) (Q:Ex->Env->aw->Prop):Env->aw->Prop:=
 dK (Sound P) v0 (dj (dK (Sound P) v1 (dj (wpOps (Sound P) false vA (J0 m tm site it nx ok en (dK (Sound P) (.seq (.eQ false vE) vR)) b b1 (dj (dK (Sound P) vT Q) Q))) Q)) Q)
def Tp (P:Program) (v0 v1:VC) (vA:List bx) (m:MK) (tm:O) (site it nx ok en:Nat) (vE:List bx) (vR:VC) (b b1:Nat) (vT:VC) (Q:Ex->Env->aw->Prop):Env->aw->Prop:=
 dK (Call P) v0 (dj (dK (Call P) v1 (dj (wpOps (Call P) false vA (J0 m tm site it nx ok en (dK (Call P) (.seq (.eQ false vE) vR)) b b1 (dj (dK (Call P) vT Q) Q))) Q)) Q)
theorem yQ {F F':Env->aw->Prop} {Q:Ex->Env->aw->Prop} (h:∀e s,F e s->F' e s):∀x e s,dj F Q x e s->dj F' Q x e s:=fun x e s hx=>by
 cases x with
 |normal=>exact h e s hx
 |ret=>exact hx
 |exit id=>exact hx
theorem M4 {P:Program} (hm:P.follows .mixedOrders=true) {v0 v1:VC} {vA:List bx} {m:MK} {tm:O} {site it nx ok en:Nat} {vE:List bx} {vR:VC} {b b1:Nat} {vT:VC} {Q:Ex->Env->aw->Prop} {env:Env} {σ:aw}
  (h:Tp P v0 v1 vA m tm site it nx ok en vE vR b b1 vT Q env σ):Wz P v0 v1 vA m tm site it nx ok en vE vR b b1 vT Q env σ:=
 tU hm (yQ fun _ _ h=>tU hm (yQ fun _ _ h=>l9 (fun _ _ _ _ h=>gS hm h) lN (fun _ _ h=>J1 hm (yQ fun _ _ h=>tU hm (fun _ _ _ h=>h) h) h) _ _ _ h) h) h
noncomputable def pU:Go.Code:=Tryz.f101.body.getD .skip
def Hd:VC:=(.eQ false [⟨(some 2),(.new [.bI]),none,101000000,[]⟩])
def NC:VC:=(.eQ false [⟨(some 3),(.dr (.k .bI)),none,101001000,[]⟩])
def ND:List bx:=[⟨(some 6),(.dr (.t 0)),none,101002000,[]⟩,⟨(some 7),(.zU (.t 6)),none,101002001,[]⟩,⟨(some 8),(.gp 4 (.t 7)),none,101002002,[]⟩,⟨(some 9),(.load false 1 (.t 8)),none,101002003,[]⟩]
def Cp:List bx:=[⟨(some 14),(.extract 0 (.t 13)),none,101004001,[]⟩,⟨(some 15),(.extract 1 (.t 13)),none,101004002,[]⟩,⟨(some 4),(.new [(.int .i64 0),(.int .i64 0)]),none,101004003,[]⟩,⟨none,(.store 2 (.t 4) (.t 14)),none,101004004,[]⟩,⟨(some 5),(.dr (.t 15)),none,101004005,[]⟩]
def Cq:VC:=(.eQ false [⟨(some 16),(.dr (.t 3)),none,101005000,[]⟩,⟨(some 17),(.load true 2 (.t 4)),none,101005001,[]⟩,⟨(some 18),(.dr (.t 5)),none,101005002,[]⟩,⟨(some 19),(.build [(.int .i64 0),(.int .i64 0),(.int .i64 0)] [(0,(2,(.t 17))),(2,(1,(.t 18)))]),none,101005003,[]⟩,⟨(some 20),(.lO 3 1 [(.t 19)]),none,101005004,[]⟩,⟨(some 21),(.append 3 (.t 16) (.t 20)),none,101005005,[]⟩,⟨(some 3),(.dr (.t 21)),none,101005006,[]⟩])
def Cr:VC:=(.seq (.eQ false [⟨(some 22),(.dr (.t 3)),none,101006000,[]⟩,⟨(some 23),(.call 118 [(.t 22)]),none,101006001,[]⟩,⟨none,(.store 1 (.t 2) (.t 23)),none,101006002,[]⟩]) .ret)
def Cu:List oR:=[(.cell true 1 2)]
def G6:O:=(.t 9)
theorem Th:KP Tryz.prog [] Tryz.f101.ntmps 101 101004000 10 11 12 13 (X3 pU 0) (X3 pU 1) (Wx pU) (Wy pU) (rgR pU) Cp Cq:=⟨by kernel_rfl,by kernel_rfl,by kernel_rfl,by kernel_rfl,by kernel_rfl,by kernel_rfl,by kernel_rfl,by kernel_rfl,by kernel_rfl,by decide,by decide,by decide,by decide,by decide,by kernel_rfl,by kernel_rfl⟩
theorem Tr:pU=.seq (Ri pU) (.seq (Ri (KE pU)) (.seq (.seq (.region 2 (rgP pU++[rgO pU]).toArray false) (.block 0 (.loop (M3 3 4 0 1 12 (X3 pU 0) (X3 pU 1) (Wx pU) (Wy pU) (rgR pU))))) (KE (KE (KE pU))))):=by kernel_rfl
theorem RK (m:MK):CS Tryz.prog Tryz.f101.ntmps pU (Wz Tryz.prog Hd NC ND m G6 101002999 10 11 12 13 Cp Cq 0 1 Cr):=by
 rw[Tr]
 exact CS.seq (CS.code (md:=[]) (fid:=101) mixed (by kernel_rfl)) (CS.seq (CS.code (md:=[]) (fid:=101) mixed (by kernel_rfl)) (CS.seq (CS.rng (tm:=.tmp 9) (sA:=101002000) (t:=148) (k:=123) (e:=2) mixed Th (by kernel_rfl) (by kernel_rfl) (by kernel_rfl) (by decide) (by kernel_rfl) (by kernel_rfl) (by kernel_rfl)) (CS.code (md:=[]) (fid:=101) mixed (by kernel_rfl))))
theorem Tn {args:List AV} {σ:aw} {K:AV->aw->Prop} (ha:args.length=Tryz.f101.params.size) (m:MK) (h:Tp Tryz.prog Hd NC ND m G6 101002999 10 11 12 13 Cp Cq 0 1 Cr (lE Cu K) (cr args) σ):Call Tryz.prog 101 args σ K:=
 CS.fn Tryz.func101 (by kernel_rfl) (by kernel_rfl) ha.symm (by decide) (RK m) (M4 mixed h)
end Go.Proofs.YtgoljkjaameagaaGreat.V

namespace Go.Proofs.YtgoljkjaameagaaGreat.V
open Go.RowKit
attribute [local irreducible] dK wpOps gw Call
attribute [local go_sem] aM fE eM fV fS dc upd cr K.av cI AV.cells AV.cell rowOf rowsOf part ld rowAt bE cj dy dS gU bJ cY ee fQ e6 dp dX cW cV dI dJ bP bc cL bL cP cN dV dY dW cK bU cX dU bK aO cR cC gT bw cG bQ aY dj aZ dz AV.undef bD bG dM dQ dE dG cE ec eh cz ea dZ cQ cU List.getD_cons_zero List.getD_cons_succ List.getD_nil List.all_cons List.all_nil Bool.and_true Bool.true_and Bool.and_self Bool.not_true Bool.not_false Option.map_some Option.map_none Option.bind_some Option.bind_none List.length_cons List.length_nil List.take_succ_cons List.take_zero List.take_nil List.drop_succ_cons List.drop_zero List.drop_nil List.head?_cons List.map_cons List.map_nil List.getElem?_cons_zero List.getElem?_cons_succ List.cons_append List.nil_append List.append_nil List.length_map List.set_cons_zero List.set_cons_succ Nat.reduceMul eq_self Int.toNat_natCast Int.natCast_nonneg and_self true_and and_true decide_true decide_false Bool.false_eq_true Nat.zero_add Nat.add_zero List.contains_cons List.contains_nil Bool.or_false Bool.false_or beq_self_eq_true Nat.reduceBEq ne_eq not_true_eq_false not_false_eq_true Id.mk.injEq false_and and_false Nat.reduceLT Int.reduceLE Int.reduceLT Int.reduceToNat Int.reduceNeg Int.reduceAdd Nat.le_refl List.length_append beq_true beq_false Bool.not_eq_eq_eq_not or_false false_or dH aj ar aH bh bz ck aV bd aX bf cJ bB
def vN (p:aq->Bool) (l:List aq):List aq:=l.filter fun x=> !p x
theorem S6 {p:aq->Bool} {l:List aq} {j:Nat} (hj:j<l.length):vN p (l.take (j+1))=vN p (l.take j)++if p l[j]=true then[]else[l[j]]:=by
 unfold vN
 rw[List.take_succ_eq_append_getElem hj,List.filter_append]
 congr 1
 cases h:p l[j]<;>simp[h]
theorem S5 {p:aq->Bool} {l:List aq} (h:∀b∈l,p b=false):vN p l=l:=by
 unfold vN
 rw[List.filter_eq_self]
 intro b hb
 rw[h b hb];rfl
structure DlP (p:aq->Bool) (bs:List aq) (j:Nat) (R:List aq):Prop where
 len:R.length=bs.length
 pre:R.take (vN p (bs.take j)).length=vN p (bs.take j)
 post:∀x,j<=x->R[x]? =bs[x]?
 lt:(vN p (bs.take j)).length<j
theorem BI (s:aE) (hP:KT s) (l:List aa) (hA:jZ s.aC l):au Tryz.prog 78 [.dn (aA s),.dn [.sl (l.map ab)]] (.sl ((so (ew s l) s.aC.ai.length (jv l)).map ab)):=by
 refine au.body eF rfl fun kP n0=>?_
 clear kP
 have hS:=hP.set
 have Fb:=hS.wg
 have DH:=hA.1.zm
 have hlen:=lV l l.length
 have qY:eW l l.length=jv l:=rfl
 rw[qY]at hlen
 have hnp:∀x∈jv l,CL l x:=fun x hx=>(Aw l x).1 hx
 have hnv:=fun σ=>Jv l hA.1 σ
 clear qY
 generalize jv l=ps at hlen hnp hnv ⊢
 (try((repeat(revert hN;revert N;apply Pn.out));refine wk @Nat.zero_add ?_;(repeat(refine Pn.mk ?_;intro N hN))))
 refine .inr (aI _ _ _ _ _ (fun r σ1 hq=>?_) (hnv _))
 obtain⟨g1,x1⟩:=σ1
 obtain⟨o0,rfl,q1,q2,q3,q4,q5⟩:=hq
 (try dsimp only at q1 q2 q3 q4 q5)
 have q6:=q5 ⟨78001000,n0+1⟩ aT trivial
 simp only[go_sem, ↓reduceIte,Nat.reduceEqDiff,Nat.reduceAdd,Nat.reduceSub,Nat.reduceLeDiff,reduceCtorEq]at q6
 have on:n0+2<=o0.bj:=by rcases q4 with h|h;omega;exact absurd trivial h
 clear q4 q5
 refine hN _ _ ?_
 clear hN N
 (try((repeat(revert hN;revert N;apply Pn.out));refine wk (tw @q1 @q6) ?_;(repeat(refine Pn.mk ?_;intro N hN))))
 refine aQ (fun n env st=>∃k:Nat,n=(ps.length)-k/\k<=(ps.length)/\env 7=.int .i64 (k:Int)/\st.get o0=some ⟨true,2,ps.map ae⟩/\(∃o:Id,env 5=.own o 0 (so (ew s l) s.aC.ai.length (ps.take k)).length/\st.get o=some ⟨true,3,(so (ew s l) s.aC.ai.length (ps.take k)).map ab⟩/\o.bj<st.next/\o0.bj<st.next/\o≠o0)) (ps.length) ⟨0,ah,ah,sl (tw @q1 @q6),sl (tw @q1 @q6),by(try dsimp only);exact⟨⟨78001000,n0+1⟩,sl @Nat.zero_add,sl @q6,aT,ah,fun e=>by rw[<-e]at on;(try dsimp only at on);omega⟩⟩ ?_
 rintro n_a env_a st_a ⟨k,rfl,ale,a7,ag0,ke⟩ dv
 have a0:=dv 0 (by kernel_rfl);have a1:=dv 1 (by kernel_rfl);have a6:=dv 6 (by kernel_rfl)
 simp only[go_sem, ↓reduceIte,Nat.reduceEqDiff,Nat.reduceAdd,Nat.reduceSub,Nat.reduceLeDiff,reduceCtorEq,q1,q6]at a0 a1 a6
 clear dv
 obtain⟨o,a5,ao,KW,Qy,Yk⟩:=ke
 have vo:=db KW
 have v0:=db Qy
 have LZ:=eq_false Yk
 have hoo2:=eq_false (fun e:o0=o=>Yk e.symm)
 have hB:(so (ew s l) s.aC.ai.length (ps.take k)).length<=10000*160:=by
  have h2:=wP (ew s l) s.aC.ai.length (ps.take k)
  have h3:(ps.take k).length*s.aC.ai.length<=10000*160:=Nat.mul_le_mul (by rw[List.length_take];omega) Fb
  omega
 by_cases hk:(k:Int)<(ps.length:Int)
 ·have cq:∀{e:Env} {gg:Rows} {nx:Nat},(e 7=.int .i64 (IntKind.i64.wrap ((k:Int)+1)))->(gg o0=some ⟨true,2,ps.map ae⟩)->(∃o:Id,e 5=.own o 0 (so (ew s l) s.aC.ai.length (ps.take (k+1))).length/\gg o=some ⟨true,3,(so (ew s l) s.aC.ai.length (ps.take (k+1))).map ab⟩/\o.bj<nx/\o0.bj<nx/\o≠o0)->∃m0,m0<(ps.length)-k/\∃k:Nat,m0=(ps.length)-k/\k<=(ps.length)/\e 7=.int .i64 (k:Int)/\gg o0=some ⟨true,2,ps.map ae⟩/\(∃o:Id,e 5=.own o 0 (so (ew s l) s.aC.ai.length (ps.take k)).length/\gg o=some ⟨true,3,(so (ew s l) s.aC.ai.length (ps.take k)).map ab⟩/\o.bj<nx/\o0.bj<nx/\o≠o0):=fun x1 x2 x3=>⟨_,ah,k+1,rfl,ah,(by rw[x1,ay ah]),x2,x3⟩
  have fy:k<ps.length:=ah
  have eP:=vZ fy
  have rX:=hnp _ (B5 fy)
  obtain⟨hx,hy⟩:=sf rX.1
  have tW:=(Px s.aC hS l hA (j7 ps k) hx hy s.az).cut mixed (.ptr _ [.sl (s.bY.ai.map ab),.int .i64 s.az] (.same _ (.same _ (.same _ .nil))))
  have hfu:lH (A8 s.aC l s.az) (j7 ps k) s.aC.ai.length=gM s l (j7 ps k):=uz (fun t=>(Ol rX hA t).symm) _
  rw[hfu]at tW
  have Kw:=C1 (B:=ew s l) (m:=s.aC.ai.length) fy
  have fR:Hp (ew s l) (j7 ps k) s.aC.ai.length=(gM s l (j7 ps k)).map fun t=>(⟨j7 ps k,t⟩:aa):=Bb _ _ _
  rw[fR,<-Ew]at Kw
  have Pg:(gM s l (j7 ps k)).length<=160:=by
   have:=sY (ew s l) (j7 ps k) s.aC.ai.length
   unfold gM;omega
  have O5:(ps.map ae).length=ps.length:=by simp
  generalize j7 ps k=q at tW Kw eP Pg
  generalize gM s l q=us at tW Kw Pg
  generalize so (ew s l) s.aC.ai.length (ps.take k)=L at a5 ao hB Kw
  rw[ad]at tW
  (repeat(first|((repeat(revert hN;revert N;apply Pn.out));refine wk (tw @a7 (tw @ag0 (tw @a0 (tw @a1 (tw @a6 (tw @hk (tw @eP (tw @v0 (tw @O5 (tw @aA.eq_1 @ae.eq_1)))))))))) ?_;(repeat(refine Pn.mk ?_;intro N hN)))|((try apply Or.inl);refine⟨_,au.x (tW) (sd (tw @a7 (tw @ag0 (tw @a0 (tw @a1 (tw @a6 (tw @hk (tw @eP (tw @v0 (tw @O5 (tw @aA.eq_1 @ae.eq_1))))))))))),?_⟩;refine hN _ _ ?_;clear hN N)))
  refine aQ (fun n env st=>∃j:Nat,n=(us.length)-j/\j<=(us.length)/\env 9=.int .i64 (j:Int)/\st.get o0=some ⟨true,2,ps.map ae⟩/\(∃o:Id,env 5=.own o 0 (L++jT q us j).length/\st.get o=some ⟨true,3,(L++jT q us j).map ab⟩/\o.bj<st.next/\o0.bj<st.next/\o≠o0)) (us.length) ⟨0,ah,ah,sl (tw @a7 (tw @ag0 (tw @a0 (tw @a1 @a6)))),sl (tw @a7 (tw @ag0 (tw @a0 (tw @a1 @a6)))),by(try dsimp only);exact⟨o,by rw[show jT q us 0=[]from rfl,List.append_nil];simp only[go_sem, ↓reduceIte,Nat.reduceEqDiff,Nat.reduceAdd,Nat.reduceSub,Nat.reduceLeDiff,reduceCtorEq,a5],by rw[show jT q us 0=[]from rfl,List.append_nil];simp only[go_sem, ↓reduceIte,Nat.reduceEqDiff,Nat.reduceAdd,Nat.reduceSub,Nat.reduceLeDiff,reduceCtorEq,ao,vo],ah,ah,Yk⟩⟩ ?_
  rintro n_b env_b st_b ⟨j,rfl,ble,b9,bg0,bI0⟩ eI
  have b0:=eI 0 (by kernel_rfl);have b1:=eI 1 (by kernel_rfl);have b6:=eI 6 (by kernel_rfl);have b7:=eI 7 (by kernel_rfl);have b8:=eI 8 (by kernel_rfl)
  simp only[go_sem, ↓reduceIte,Nat.reduceEqDiff,Nat.reduceAdd,Nat.reduceSub,Nat.reduceLeDiff,reduceCtorEq,a7,ag0,a0,a1,a6]at b0 b1 b6 b7 b8
  clear eI
  obtain⟨u,b5,bu,buv,Qz,Yp⟩:=bI0
  have DD:(L++jT q us j).length<=16777215:=by
   have:(jT q us j).length<=us.length:=by unfold jT;simp;omega
   rw[List.length_append];omega
  have vu:=db buv
  have v0b:=db Qz
  have hou:=eq_false Yp
  have VZ:=eq_false (fun e:o0=u=>Yp e.symm)
  by_cases hj:(j:Int)<(us.length:Int)
  ·have eZ:∀{e:Env} {gg:Rows} {nx:Nat},(e 9=.int .i64 (IntKind.i64.wrap ((j:Int)+1)))->(gg o0=some ⟨true,2,ps.map ae⟩)->(∃o:Id,e 5=.own o 0 (L++jT q us (j+1)).length/\gg o=some ⟨true,3,(L++jT q us (j+1)).map ab⟩/\o.bj<nx/\o0.bj<nx/\o≠o0)->∃m0,m0<(us.length)-j/\∃j:Nat,m0=(us.length)-j/\j<=(us.length)/\e 9=.int .i64 (j:Int)/\gg o0=some ⟨true,2,ps.map ae⟩/\(∃o:Id,e 5=.own o 0 (L++jT q us j).length/\gg o=some ⟨true,3,(L++jT q us j).map ab⟩/\o.bj<nx/\o0.bj<nx/\o≠o0):=fun x1 x2 x3=>⟨_,ah,j+1,rfl,ah,(by rw[x1,ay ah]),x2,x3⟩
   have ga:j<us.length:=ah
   have ly:=AB (p:=q) ga
   have y8:=HU ga
   have I3:L++jT q us (j+1)=(L++jT q us j)++[⟨q,us.getD j 0⟩]:=by rw[ly,List.append_assoc]
   generalize us.getD j 0=t at y8 I3
   generalize L++jT q us j=M at b5 bu DD I3
   have qY:(M++[(⟨q,t⟩:aa)]).length=M.length+1:=by simp
   have qw:(M++[(⟨q,t⟩:aa)]).map ab=M.map ab++[[.int .i64 q.eE,.int .i64 q.ez,.int .i64 t]]:=by rw[List.map_append];rfl
   have ik:(M.map ab).length=M.length:=by simp
   have hmu:(us.map aU).length=us.length:=by simp
   (try((repeat(revert hN;revert N;apply Pn.out));refine wk (tw @b9 (tw @bg0 (tw @b0 (tw @b1 (tw @b6 (tw @b7 (tw @b8 (tw @b5 (tw @bu (tw @hj (tw @hk (tw @y8 (tw @eP (tw @vu (tw @v0b (tw @hou (tw @VZ (tw @O5 (tw @ik (tw @hmu (tw @DD @ae.eq_1))))))))))))))))))))) ?_;(repeat(refine Pn.mk ?_;intro N hN))))
   refine eZ ?_ ?_ (by(try dsimp only);exact⟨⟨78010011,st_b.next+1⟩,by rw[I3,qY];simp only[go_sem, ↓reduceIte,Nat.reduceEqDiff,Nat.reduceAdd,Nat.reduceSub,Nat.reduceLeDiff,reduceCtorEq]<;>rfl,by rw[I3,qw];simp only[go_sem, ↓reduceIte,Nat.reduceEqDiff,Nat.reduceAdd,Nat.reduceSub,Nat.reduceLeDiff,reduceCtorEq]<;>rfl,aT,aT,fun e=>by rw[<-e]at Qz;(try dsimp only at Qz);omega⟩)
   all_goals simp only[go_sem, ↓reduceIte,Nat.reduceEqDiff,Nat.reduceAdd,Nat.reduceSub,Nat.reduceLeDiff,reduceCtorEq,b9,bg0,b0,b1,b6,b7,b8,v0b,VZ]
  ·have Zs:j=us.length:=ah
   subst Zs
   (try((repeat(revert hN;revert N;apply Pn.out));refine wk (tw @b9 (tw @bg0 (tw @b0 (tw @b1 (tw @b6 (tw @b7 (tw @b8 @hj))))))) ?_;(repeat(refine Pn.mk ?_;intro N hN))))
   refine cq ?_ ?_ (by(try dsimp only);exact⟨u,by rw[Kw];simp only[go_sem, ↓reduceIte,Nat.reduceEqDiff,Nat.reduceAdd,Nat.reduceSub,Nat.reduceLeDiff,reduceCtorEq,b5],by rw[Kw];simp only[go_sem, ↓reduceIte,Nat.reduceEqDiff,Nat.reduceAdd,Nat.reduceSub,Nat.reduceLeDiff,reduceCtorEq,bu],ah,ah,Yp⟩)
   all_goals simp only[go_sem, ↓reduceIte,Nat.reduceEqDiff,Nat.reduceAdd,Nat.reduceSub,Nat.reduceLeDiff,reduceCtorEq,a7,ag0,a0,a1,a6,b9,bg0,b0,b1,b6,b7,b8]
 ·have lj:k=ps.length:=ah
  subst lj
  rw[List.take_length]at a5 ao
  (try((repeat(revert hN;revert N;apply Pn.out));refine wk (tw @a7 (tw @ag0 (tw @a0 (tw @a1 (tw @a6 (tw @hk @a5)))))) ?_;(repeat(refine Pn.mk ?_;intro N hN))))
  exact oP (.inl rfl) (vs:=[.own o 0 (so (ew s l) s.aC.ai.length ps).length]) (sd @a5) (by
   simp only[fc]
   exact gq (e:=ab) (n:=5) ao rfl fun x=>Va _ 4 x)
theorem H4 {g:Rows} {X o:Id} {L:List aa} (hX:g X=some ⟨true,1,[[.own o 0 L.length]]⟩) (ho:g o=some ⟨true,3,L.map ab⟩):fz (dH g) 6 (.ptr X 0 0)=some (.dn [.sl (L.map ab)]):=by
 have h1:fz (dH g) 5 (.own o 0 L.length)=some (.sl (L.map ab)):=fB (e:=ab) (sz:=3) (by simp[dH,ho]) rfl fun x=>by simp[ab,aj,ar,aH]
 exact rT (n:=5) (sz:=1) (rows:=[[.own o 0 L.length]]) (cs:=[.own o 0 L.length]) (by simp[dH,hX]) rfl (by simp[aj,ar,h1])
def InL (X:Id) (st:Io) (e7:AV) (g:Rows) (n:Nat):Prop:=∃o u:Id,g X=some ⟨true,1,[[.own o 0 st.2.length]]⟩/\g o=some ⟨true,3,st.2.map ab⟩/\e7=.own u 0 st.1.length/\g u=some ⟨true,3,st.1.map ab⟩/\o.bj<u.bj/\X.bj<u.bj/\u.bj<n/\o≠X
end Go.Proofs.YtgoljkjaameagaaGreat.V

namespace Go.Proofs.YtgoljkjaameagaaGreat.V
open Go.RowKit Go.Shelf Go.Lib Go.Sort
instance:Inhabited aa:=⟨⟨⟨0,0⟩,0⟩⟩
variable {P:Program} {w:World} {D:Nat->Prop} {ι:Names}
def IA (a b:aa):Int:=pD a.aJ b.aJ
theorem wR (a b:aa):ltOf IA a b=iS a.aJ b.aJ:=by rw[ltOf,IA,mB]
def KR:Prop:=∀(tV off cap:Nat) (d:Array aa) (w:World),HoldsK fe 3 w tV off d->tV<w.heap.size->d.size<4611686018427387904->
 Calls Tryz.prog 185 #[.slice (some ⟨tV,off,none⟩) d.size cap,.func (.func 186) #[] #[]] w fun e w'=>e=.returned (.tuple #[])/\∃d' n os,PermIn 0 d.size d d'/\SortedIn (ltOf IA) 0 d.size d'/\w'=sortWorldK fe 3 w tV off n d' os
def KS:Prop:=∀(p:Option Addr) (cap:Nat) (fv:Value) (w:World),Calls Tryz.prog 185 #[.slice p 0 cap,fv] w fun e w'=>e=.returned (.tuple #[])/\w'=w
theorem Ll (p:aa) (j:Nat) (a:AV) (h:(ab p)[j]? =some a) (P:Program) (w:World) (D:Nat->Prop) (ι:Names):dd P w D ι a (fe p)[j]! :=by
 match j,h with
 |0,h=>simp[ab]at h;subst h;exact .eV _ _ (.int _ _)
 |1,h=>simp[ab]at h;subst h;exact .eV _ _ (.int _ _)
 |2,h=>simp[ab]at h;subst h;exact .eV _ _ (.int _ _)
 |j+3,h=>simp[ab]at h
theorem J6 (hC:KR) (hN:KS) (ps:List aa) (hlen:ps.length<=1048576) (σ:aw) (id:Id) (hg:σ.get id=some ⟨true,3,ps.map ab⟩):
  Call Tryz.prog 185 [.own id 0 ps.length,.fn 186 []] σ fun r σ'=>σ'.next=σ.next/\(∀x,x≠id->σ'.get x=σ.get x)/\∃qs,σ'.get id=some ⟨true,3,qs.map ab⟩/\qs.length=ps.length/\qs.Perm ps/\∀i j:Nat,i<j->j<qs.length->iS (aL qs j).aJ (aL qs i).aJ=false:=by
 refine fN fun hs D ι w vs S U A=>?_
 obtain⟨u1,us1,rfl,h1,h2⟩:=jy A
 obtain⟨u2,us2,h3,h4,h5⟩:=jy h2
 simp at h3;subst h3
 have:=tz h5
 simp at this;subst this
 obtain⟨o,cap,B,rfl,hB,DE,ho,s5,Zz,hk⟩:=ja h1
 obtain⟨WI,gf,rfl,_,hz,_,_⟩:=uR h4
 have hz':WI= #[]:=Array.eq_empty_of_size_eq_zero (by simpa using hz)
 subst hz'
 by_cases h0:ps=[]
 ·subst h0
  refine(hN _ _ _ w).mono ?_
  rintro e w' ⟨rfl,rfl⟩
  exact⟨.gJ [],σ.get,σ.next,D,ι,_,rfl,⟨rfl,fun _ _=>rfl,[],hg,rfl,List.Perm.refl _,fun i j _ hj=>by simp at hj⟩,Step.refl _ _ _ _,S,U,Nat.le_refl _,.gJ [] #[] (fun _=>Go.undef) rfl (fun j hj=>by simp at hj) (fun j a h=>by simp at h)⟩
 have jO:0<ps.length:=List.length_pos_iff.2 h0
 obtain⟨B',dL,R,j6,lk⟩:=S.row id _ hg
 rw[hB]at dL;injection dL with dL;subst dL
 replace R:=R.row hk
 have fm:B.sz=3:=R.sz
 have BD:o=0:=by rcases ho with h|h<;>omega
 subst BD
 obtain⟨cur,T,hblk,dx,tW⟩:=R.cur
 have xS:ps.length*3<=B.C:=by simpa using R.fits
 have hH:HoldsK fe 3 w B.b 0 ps.toArray:=by
  intro t ht
  rw[size_flatK]at ht
  have Z3:t<ps.length*3:=by simpa using ht
  have hi:t / 3<ps.length:=ah
  have CF:w.frozen? ⟨B.b,0+t,none⟩=false:=by
   simp only[World.frozen?,hblk];simp
  refine⟨?_,CF⟩
  rw[get_flatK _ _ _ _ ht]
  have hd:(ps.toArray)[t / 3]! =ps[t / 3]:=by simp[getElem!_pos,hi]
  rw[hd]
  have hj:t % 3=0∨t % 3=1∨t % 3=2:=ah
  have Z4:0+t=(t / 3)*3+t % 3:=ah
  rw[Z4]
  rcases hj with hj|hj|hj
  ·obtain⟨v,hv,hr⟩:=R.at_ (t / 3) 0 (ab ps[t / 3]) _ (by simp[hi]) rfl
   rw[dq hr]at hv
   rw[hj];exact hv
  ·obtain⟨v,hv,hr⟩:=R.at_ (t / 3) 1 (ab ps[t / 3]) _ (by simp[hi]) rfl
   rw[dq hr]at hv
   rw[hj];exact hv
  ·obtain⟨v,hv,hr⟩:=R.at_ (t / 3) 2 (ab ps[t / 3]) _ (by simp[hi]) rfl
   rw[dq hr]at hv
   rw[hj];exact hv
 have nW:B.b<w.heap.size:=(Array.getElem?_eq_some_iff.1 hblk).1
 have LM:=hC B.b 0 cap ps.toArray w hH nW (by simp;omega)
 rw[show ps.toArray.size=ps.length from by simp]at LM
 refine LM.mono ?_
 rintro e w' ⟨rfl,d',m,os,⟨Fa,_,rn⟩,hsort,rfl⟩
 have LO:d'.size=ps.length:=by rw[Fa];simp
 have Uq:d'.toList.length=ps.length:=by simpa using LO
 have hP:d'.toList.Perm ps:=by
  have e1:d'.extract 0 ps.length=d':=by rw[<-LO];exact Array.extract_size
  have e2:ps.toArray.extract 0 ps.length=ps.toArray:=by
   have:ps.length=ps.toArray.size:=by simp
   rw[this];exact Array.extract_size
  rw[e1,e2]at rn
  simpa using rn
 have hF:∀t,t<ps.length*3->(flatK fe 3 d')[t]! =(fe d'[t / 3]!)[t % 3]! :=fun t ht=>get_flatK _ _ _ _ (by rw[LO];exact ht)
 have Vf:(flatK fe 3 d').size=ps.length*3:=by rw[size_flatK,LO]
 have hw:sortWorldK fe 3 w B.b 0 m d' os=Go.Sort.grow (Go.Sort.putRow (fun v:Value=>v) (Go.Sort.ahead w m) B.b 0 (flatK fe 3 d')) os:=rfl
 rw[hw]
 clear hw hH
 generalize flatK fe 3 d'=Fl at hF Vf ⊢
 have pb:=S.put (r':=⟨true,3,d'.toList.map ab⟩) (cur':=Go.Sort.putCells (fun v:Value=>v) 0 Fl cur) hg rfl hB hblk (by simp[Go.Sort.putCells]) rfl rfl (by simpa[LO]using xS) (fun cs dx=>by
   obtain⟨x,_,rfl⟩:=List.mem_map.1 dx;rfl) (fun cs dx a ha=>by
   obtain⟨x,_,rfl⟩:=List.mem_map.1 dx
   simp[ab]at ha;rcases ha with rfl|rfl|rfl<;>rfl) (fun i j cs a hi hj=>by
   have su:i<d'.toList.length:=by
    have:=(List.getElem?_eq_some_iff.1 hi).1
    simpa using this
   have Ky:j<3:=by
    have:=List.mem_of_getElem? hi
    obtain⟨x,_,rfl⟩:=List.mem_map.1 this
    exact(List.getElem?_eq_some_iff.1 hj).1
   have Sj:cs=ab d'[i]! :=by
    rw[List.getElem?_map,List.getElem?_eq_getElem su]at hi
    simp at hi
    rw[<-hi,getElem!_pos d' i (by simpa using su)]
   subst Sj
   have Fb:i*3+j<ps.length*3:=ah
   refine⟨(fe d'[i]!)[j]!,?_,Ll _ _ _ hj _ _ _ _⟩
   have mO:i*3+j<cur.size:=by rw[dx];omega
   show(Go.Sort.putCells (fun v:Value=>v) 0 Fl cur)[i*3+j]? = _
   simp only[Go.Sort.putCells,Array.getElem?_mapIdx,Array.getElem?_eq_getElem mO,Option.map_some]
   rw[if_pos ⟨Nat.zero_le _,by rw[Vf];omega⟩,Nat.sub_zero,hF _ Fb,show(i*3+j) / 3=i from by omega,show(i*3+j) % 3=j from by omega])
 obtain⟨S1,sI⟩:=pb
 have Ge:(Go.Sort.putRow (fun v:Value=>v) (Go.Sort.ahead w m) B.b 0 Fl).heap.size=w.heap.size:=by simp
 have DI:∀k,k<(w.setRow B.b (Go.Sort.putCells (fun v:Value=>v) 0 Fl cur)).heap.size->(Go.Sort.grow (Go.Sort.putRow (fun v:Value=>v) (Go.Sort.ahead w m) B.b 0 Fl) os).heap[k]? =(w.setRow B.b (Go.Sort.putCells (fun v:Value=>v) 0 Fl cur)).heap[k]? :=fun k hk=>by
  have DJ:k<w.heap.size:=by simpa using hk
  rw[heap_grow_old _ _ (by rw[Ge];exact DJ)]
  simp only[Go.Sort.putRow,Go.Sort.mapBlock,heap_ahead,Array.getElem?_modify]
  by_cases SA:B.b=k
  ·subst SA
   rw[setRow_heap w B.b cur _ T _ hblk,if_pos rfl,hblk];rfl
  ·rw[if_neg SA,setRow_other w B.b k _ (fun h=>SA h.symm)]
 have jP:(w.setRow B.b (Go.Sort.putCells (fun v:Value=>v) 0 Fl cur)).heap.size<=(Go.Sort.grow (Go.Sort.putRow (fun v:Value=>v) (Go.Sort.ahead w m) B.b 0 Fl) os).heap.size:=by
  rw[size_grow,Ge];simp
 have S2:=S1.stay (D':=D) (ι':=ι) DI jP (fun _ h=>h) (fun b hb=>Nat.lt_of_lt_of_le (S1.dead b hb) jP) (fun _ h=>.inl h) (fun _ _ h=>h)
 have Oh:=sI.trans (Step.stay (D':=D) (ι':=ι) S1 DI jP (by simp[Go.Sort.grow,Go.Sort.putRow,Go.Sort.mapBlock,Go.Sort.ahead]) (by simp[Go.Sort.grow,Go.Sort.putRow,Go.Sort.mapBlock,Go.Sort.ahead]) (by simp[Go.Sort.grow,Go.Sort.putRow,Go.Sort.mapBlock,Go.Sort.ahead]) (fun _ h=>h) (fun _ h=>.inl h) (fun _ _ h=>h))
 refine⟨.gJ [],bE σ.get id ⟨true,3,d'.toList.map ab⟩,σ.next,D,ι,_,rfl,⟨rfl,fun x hx=>by simp[bE,hx],d'.toList,by simp[bE],Uq,hP,fun i j y9 hj=>?_⟩,Oh,S2,U,Nat.le_refl _,.gJ [] #[] (fun _=>Go.undef) rfl (fun j hj=>by simp at hj) (fun j a h=>by simp at h)⟩
 have h:=hsort i j (Nat.zero_le _) y9 ah
 rw[wR]at h
 have e1:d'[j]! =aL d'.toList j:=by rw[fa hj,getElem!_pos d' j (by simpa using hj)];rfl
 have hi:i<d'.toList.length:=ah
 have e2:d'[i]! =aL d'.toList i:=by rw[fa hi,getElem!_pos d' i (by simpa using hi)];rfl
 rw[<-e1,<-e2];exact h
theorem Rk {w w':World} (h:Grown w w') (os:Array Obj):Grown w (Go.Sort.grow w' os):=by
 obtain⟨q,os0,rfl⟩:=h
 exact⟨q,os0++os,by rw[grow_grow]⟩
theorem Ov (w:World) (a b:aa):Calls Tryz.prog 186 #[.agg #[.int .i64 a.aJ.eE,.int .i64 a.aJ.ez,.int .i64 a.br],.agg #[.int .i64 b.aJ.eE,.int .i64 b.aJ.ez,.int .i64 b.br]] w fun e w'=>e=.returned (.int .i64 (IA a b))/\Grown w w':=by
 go_enter Tryz.func186,Tryz.ntmps186
 go_wp2_with (first|(go_at_call 154;refine(oJ _ a.aJ b.aJ).mono ?_;rintro e w' ⟨rfl,hG⟩))
 obtain⟨q,os,rfl⟩:=hG
 go_ret
 refine⟨rfl,Rk (Grown.dN ?_ q) os⟩
 repeat(first|(with_reducible exact Grown.refl _)|(refine Grown.alloc ?_ _)|(refine Grown.drew ?_)|(refine Grown.dN ?_ _))
theorem swoA:SWO (ltOf IA) where
 irrefl x:=by rw[wR];exact iM
 trans x y z h1 h2:=by rw[wR]at *;exact iK h1 h2
 ntrans x y z h1 h2:=by rw[wR]at *;rw[nA]at *;omega
theorem Tu:KR:=fun tV off cap d w hH hblk fm=>by
 have eg:∀args w,(callFunc 186 args).run Tryz.prog w=.ok (.enter 186 args) w:=enters_of Tryz.func186 (by kernel_rfl) rfl
 have h:=AnyQ.slices_SortFunc Tryz.M9 3 Tryz.isAgg171 Tryz.sizeOf171 fe (fun _=>rfl) (fun x v hv=>by simp[fe]at hv;rcases hv with rfl|rfl|rfl<;>rfl) IA swoA 186 #[] tV off cap d w eg (fun m os dk _ x y=>(Ov _ x y).mono fun _ _ ⟨he,q,os',hw⟩=>⟨he,q,os',hw⟩) hH hblk fm
 exact h
theorem Tv:KS:=fun p cap fv w=>AnyF.slices_SortFunc_none Tryz.M9 p cap fv w
end Go.Proofs.YtgoljkjaameagaaGreat.V

namespace Go.Proofs.YtgoljkjaameagaaGreat.V
open Go.RowKit
attribute [local irreducible] dK wpOps gw Call
attribute [local go_sem] aM fE eM fV fS dc upd cr K.av cI AV.cells AV.cell rowOf rowsOf part ld rowAt bE cj dy dS gU bJ cY ee fQ e6 dp dX cW cV dI dJ bP bc cL bL cP cN dV dY dW cK bU cX dU bK aO cR cC gT bw cG bQ aY dj aZ dz AV.undef bD bG dM dQ dE dG cE ec eh cz ea dZ cQ cU List.getD_cons_zero List.getD_cons_succ List.getD_nil List.all_cons List.all_nil Bool.and_true Bool.true_and Bool.and_self Bool.not_true Bool.not_false Option.map_some Option.map_none Option.bind_some Option.bind_none List.length_cons List.length_nil List.take_succ_cons List.take_zero List.take_nil List.drop_succ_cons List.drop_zero List.drop_nil List.head?_cons List.map_cons List.map_nil List.getElem?_cons_zero List.getElem?_cons_succ List.cons_append List.nil_append List.append_nil List.length_map List.set_cons_zero List.set_cons_succ Nat.reduceMul eq_self Int.toNat_natCast Int.natCast_nonneg and_self true_and and_true decide_true decide_false Bool.false_eq_true Nat.zero_add Nat.add_zero List.contains_cons List.contains_nil Bool.or_false Bool.false_or beq_self_eq_true Nat.reduceBEq ne_eq not_true_eq_false not_false_eq_true Id.mk.injEq false_and and_false Nat.reduceLT Int.reduceLE Int.reduceLT Int.reduceToNat Int.reduceNeg Int.reduceAdd Nat.le_refl List.length_append beq_true beq_false Bool.not_eq_eq_eq_not or_false false_or dH aj ar aH bh bz ck aV bd aX bf cJ bB
theorem AK:∀{ps qs:List aa},(ps.Pairwise fun a b=>iS a.aJ b.aJ=true)->(qs.Pairwise fun a b=>iS a.aJ b.aJ=true)->(∀x,x∈ps↔x∈qs)->ps=qs
 |[],[],_,_,_=>rfl
 |[],q::qs,_,_,h=>absurd ((h q).2 (by simp)) (by simp)
 |p::ps,[],_,_,h=>absurd ((h p).1 (by simp)) (by simp)
 |p::ps,q::qs,hp,hq,h=>by
  obtain⟨p1,p2⟩:=List.pairwise_cons.1 hp
  obtain⟨q1,q2⟩:=List.pairwise_cons.1 hq
  have e:p=q:=by
   rcases List.mem_cons.1 ((h p).1 (by simp))with e|e
   ·exact e
   ·rcases List.mem_cons.1 ((h q).2 (by simp))with e'|e'
    ·exact e'.symm
    ·have:=ya (q1 p e)
     rw[p1 q e']at this;cases this
  subst e
  congr 1
  refine AK p2 q2 fun x=>⟨fun hx=>?_,fun hx=>?_⟩
  ·rcases List.mem_cons.1 ((h x).1 (List.mem_cons_of_mem _ hx))with e|e
   ·subst e;have:=p1 x hx;rw[iM]at this;cases this
   ·exact e
  ·rcases List.mem_cons.1 ((h x).2 (List.mem_cons_of_mem _ hx))with e|e
   ·subst e;have:=q1 x hx;rw[iM]at this;cases this
   ·exact e
theorem GX {L qs:List aa} (hR:qS L) (hp:qs.Perm L) (hs:∀i j:Nat,i<j->j<qs.length->iS (aL qs j).aJ (aL qs i).aJ=false):qs=L:=by
 rw[tC]at hR
 have hd:L.Pairwise fun a b=>a.aJ≠b.aJ:=hR.imp fun {a b} h e=>by rw[e,iM]at h;cases h
 have hdq:qs.Pairwise fun a b=>a.aJ≠b.aJ:=hp.symm.pairwise hd fun {a b} h e=>h e.symm
 refine AK ?_ hR fun x=>hp.mem_iff
 rw[List.pairwise_iff_getElem]at hdq ⊢
 intro i j hi hj y9
 have h1:=hs i j y9 hj
 rw[fa hj,fa hi]at h1
 exact qz h1 fun e=>hdq i j hi hj y9 e.symm
theorem FG (ps:List aa) (h0:ps≠[]) (hlen:ps.length<=1048576) (σ:aw) (id:Id) (hv:id.bj<σ.next) (hg:σ.get id=some ⟨true,3,ps.map ab⟩):
  Call Tryz.prog 166 [.own id 0 ps.length] σ fun a σ'=>∃o:Id,a=.own o 0 ps.length/\σ'.get o=some ⟨true,3,ps.map ab⟩/\σ.next<=o.bj/\o.bj<σ'.next/\∀x:Id,x.bj<σ.next->σ'.get x=σ.get x:=by
 refine eA eF rfl fun hl=>?_
 clear hl
 have h2:ps.length<=16777216:=ah
 have hm:(ps.map ab).length=ps.length:=by simp
 have v1:=db hv
 have ht:(ps.map ab).take ps.length=ps.map ab:=by rw[<-hm,List.take_length]
 have ha:(ps.map ab).all (fun c=>c.length==3&&c.all AV.cell)=true:=all_map fun x=>by simp[ab,AV.cell]
 (try((repeat(revert hN;revert N;apply Pn.out));refine wk (tw @hg (tw @h2 (tw @hm (tw @v1 (tw @ht @ha))))) ?_;(repeat(refine Pn.mk ?_;intro N hN))))
 exact eS (vs:=[.own ⟨166003002,σ.next+2⟩ 0 ps.length]) (.inl rfl) (sd @Nat.zero_add) ⟨_,rfl,sd @Nat.zero_add,aT,aT,fun x hx=>by
  have:=db hx
  simp only[go_sem, ↓reduceIte,Nat.reduceEqDiff,Nat.reduceAdd,Nat.reduceSub,Nat.reduceLeDiff,reduceCtorEq,this]⟩
theorem A7 (ps L:List aa) (hlen:ps.length<=1000000) (h0:ps≠[]) (hR:qS L) (hp:ps.Perm L) (σ:aw) (id:Id) (hv:id.bj<σ.next) (hg:σ.get id=some ⟨true,3,ps.map ab⟩):
  Call Tryz.prog 118 [.own id 0 ps.length] σ fun a σ'=>∃o:Id,a=.agg [.own o 0 L.length]/\σ'.get o=some ⟨true,3,L.map ab⟩/\σ.next<=o.bj/\o.bj<σ'.next/\∀x:Id,x.bj<σ.next->σ'.get x=σ.get x:=by
 refine eA eF rfl fun hl=>?_
 clear hl
 have v1:=db hv
 (try((repeat(revert hN;revert N;apply Pn.out));refine wk (tw @hg @v1) ?_;(repeat(refine Pn.mk ?_;intro N hN))))
 refine .inr (aI _ _ _ _ _ (fun r σ1 hq=>?_) (FG ps h0 ah ⟨_,_⟩ id aT (sd (tw @v1 @hg))))
 obtain⟨g1,x1⟩:=σ1
 obtain⟨o,rfl,q1,q2,q3,q4⟩:=hq
 (try dsimp only at q1 q2 q3 q4)
 have k2:=q4 ⟨118000000,σ.next⟩ aT
 simp only[go_sem, ↓reduceIte,Nat.reduceEqDiff,Nat.reduceAdd,Nat.reduceSub,Nat.reduceLeDiff,reduceCtorEq]at k2
 refine hN _ _ ?_
 clear hN N
 (try((repeat(revert hN;revert N;apply Pn.out));refine wk @Nat.zero_add ?_;(repeat(refine Pn.mk ?_;intro N hN))))
 refine .inr (aI _ _ _ _ _ (fun r σ2 hq=>?_) (J6 Tu Tv ps ah ⟨g1,_⟩ o q1))
 obtain⟨g2,x2⟩:=σ2
 obtain⟨u1,u2,ss,u3,u4,u5,u6⟩:=hq
 (try dsimp only at u1 u2 u3)
 have XS:ss=L:=GX hR (u5.trans hp) u6
 rw[XS]at u3 u4
 have o2:(⟨118000000,σ.next⟩:Id)≠o:=fun e=>by rw[<-e]at q2;(try dsimp only at q2);omega
 have k3:=(u2 _ o2).trans k2
 have of:=eq_false (fun e:o=(⟨118000000,σ.next⟩:Id)=>o2 e.symm)
 refine hN _ _ ?_
 clear hN N
 (try((repeat(revert hN;revert N;apply Pn.out));refine wk @k3 ?_;(repeat(refine Pn.mk ?_;intro N hN))))
 exact eS (.inl rfl) (vs:=[.agg [.own o 0 ps.length]]) (sd @Nat.zero_add) ⟨o,by rw[u4];rfl,sd (tw @of @u3),ah,aT,fun x hx=>by
  have h1:x≠o:=fun e=>by rw[e]at hx;omega
  have h2:=u2 x h1
  have h3:=q4 x aT
  have h4:=db hx
  simp only[go_sem, ↓reduceIte,Nat.reduceEqDiff,Nat.reduceAdd,Nat.reduceSub,Nat.reduceLeDiff,reduceCtorEq,h4]at h3
  simp only[go_sem, ↓reduceIte,Nat.reduceEqDiff,Nat.reduceAdd,Nat.reduceSub,Nat.reduceLeDiff,reduceCtorEq,h4,h2,h3]⟩
def AsI (σ:aw) (T:Id) (ts:List aa) (pre:List (List AV)) (e0:Env) (s0:aw):Prop:=
 ∃l':List aa,pre=l'.map ab/\((l'=[]/\e0 3=.bI)∨∃o:Id,e0 3=.own o 0 l'.length/\s0.get o=some ⟨true,3,l'.map ab⟩/\σ.next<o.bj/\o.bj<s0.next)/\σ.next<s0.next/\(∀x:Id,x.bj<σ.next->x≠T->s0.get x=σ.get x)/\s0.get T=some ⟨false,mP.lq,ts.map ab⟩/\s0.get ⟨101000000,σ.next⟩=some ⟨true,1,[[.bI]]⟩/\e0 2=.ptr ⟨101000000,σ.next⟩ 0 0
theorem JA (L:List aa) (x:aa):(L++[x]).length=L.length+1:=by rw[List.length_append];rfl
theorem xo {σ:aw} {c T O:Id} {s:aE} {ts L:List aa} (h:me σ.get σ.next c T O s ts) (hlen:ts.length<=100000) (h0:ts≠[]) (hR:qS L) (hp:ts.Perm L):
  Call Tryz.prog 101 [.ptr c 0 0] σ (fun r σ'=>∃o:Id,r=.agg [.own o 0 L.length]/\σ'.get o=some ⟨true,3,L.map ab⟩/\σ.next<=o.bj/\o.bj<σ'.next/\σ.next<=σ'.next/\∀x:Id,x.bj<σ.next->x≠T->σ'.get x=σ.get x):=by
 refine Tn rfl mP ?_
 have fu:=h.row
 have Fb:=h.tl
 have v1:=db h.cv
 have v2:=db h.tv
 unfold Tp
 rw[Hd]
 (try((repeat(revert hN;revert N;apply Pn.out));refine wk (tw @fu @v1) ?_;(repeat(refine Pn.mk ?_;intro N hN))))
 refine EX (WJ (id:=T) (r:=⟨true,mP.lq,ts.map ab⟩) (AsI σ T ts) (sd @G6.eq_1) (sd (tw @Fb @v2)) rfl (by decide) ?_ ?_ ?_)
 ·have vT:(T=(⟨101000000,σ.next⟩:Id))=False:=eq_false fun e=>by have:=h.tv;rw[e]at this;(try dsimp only at this);omega
  have vT2:((⟨101000000,σ.next⟩:Id)=T)=False:=eq_false fun e=>by have:=h.tv;rw[<-e]at this;(try dsimp only at this);omega
  exact⟨[],rfl,.inl ⟨rfl,sd @Nat.zero_add⟩,aT,fun x hx hT=>by
   have h1:=db hx
   have h2:=eq_false hT
   simp only[go_sem, ↓reduceIte,Nat.reduceEqDiff,Nat.reduceAdd,Nat.reduceSub,Nat.reduceLeDiff,reduceCtorEq,h1,h2],sd @Nat.zero_add,sd @vT2,sd @Nat.zero_add⟩
 ·rintro pre cs rest e0 s0 kv vv hpp ⟨l',rfl,hout,E8,j4,hT,h5,e2⟩ hK hpart hvv
  have nY:cs∈ts.map ab:=hpp.subset (by simp)
  obtain⟨tl,hx,rfl⟩:=List.mem_map.1 nY
  have HM:=hpp.length_eq
  simp only[List.length_append,List.length_map,List.length_cons]at HM
  simp[part,ab,MK.ks]at hpart hvv
  subst hpart hvv
  rw[Cp,Cq]
  have NR:=h.tv
  have vT:=db (i:=T) (n:=s0.next) ah
  have v5:=db (i:=⟨101000000,σ.next⟩) (n:=s0.next) aT
  clear hpp nY hK
  have XK:l'.map ab++[ab tl]=(l'++[tl]).map ab:=by simp
  have qY:=JA l' tl
  have qw:(l'++[tl]).map ab=l'.map ab++[[.int .i64 tl.aJ.eE,.int .i64 tl.aJ.ez,.int .i64 tl.br]]:=by rw[List.map_append];rfl
  rcases hout with⟨N6,e3⟩|⟨o,e3,og,on,ov⟩
  ·subst N6
   (try((repeat(revert hN;revert N;apply Pn.out));refine wk (tw @e3 @e2) ?_;(repeat(refine Pn.mk ?_;intro N hN))))
   exact⟨[]++[tl],XK,.inr ⟨⟨101005005,s0.next+1+1⟩,sl @Nat.zero_add,sl @Nat.zero_add,aT,aT⟩,aT,fun y hy Wd=>by
    have h1:=db (i:=y) (n:=s0.next) ah
    have h2:=j4 y hy Wd
    simp only[go_sem, ↓reduceIte,Nat.reduceEqDiff,Nat.reduceAdd,Nat.reduceSub,Nat.reduceLeDiff,reduceCtorEq,h1,h2],sd (tw @vT @hT),sd (tw @v5 @h5),sd @e2⟩
  ·have vo:=db ov
   have oT:=bH (a:=T) (b:=o) ah
   have o5:=bH (a:=⟨101000000,σ.next⟩) (b:=o) aT
   have ik:(l'.map ab).length=l'.length:=by simp
   have e1:l'.length<=16777215:=ah
   (try((repeat(revert hN;revert N;apply Pn.out));refine wk (tw @e3 (tw @e2 (tw @og (tw @vo (tw @ik @e1))))) ?_;(repeat(refine Pn.mk ?_;intro N hN))))
   exact⟨l'++[tl],XK,.inr ⟨⟨101005005,s0.next+1+1⟩,by rw[qY];simp only[go_sem, ↓reduceIte,Nat.reduceEqDiff,Nat.reduceAdd,Nat.reduceSub,Nat.reduceLeDiff,reduceCtorEq]<;>rfl,by rw[qw];simp only[go_sem, ↓reduceIte,Nat.reduceEqDiff,Nat.reduceAdd,Nat.reduceSub,Nat.reduceLeDiff,reduceCtorEq]<;>rfl,aT,aT⟩,aT,fun y hy Wd=>by
    have h1:=db (i:=y) (n:=s0.next) ah
    have h2:=j4 y hy Wd
    have h3:=bH (a:=y) (b:=o) ah
    simp only[go_sem, ↓reduceIte,Nat.reduceEqDiff,Nat.reduceAdd,Nat.reduceSub,Nat.reduceLeDiff,reduceCtorEq,h1,h2,h3],sd (tw @vT (tw @oT @hT)),sd (tw @v5 (tw @o5 @h5)),sd @e2⟩
 ·rintro pre e0 s0 hpp ⟨l',rfl,hout,E8,j4,hT,h5,e2⟩ hK
  clear hK
  have mj:l'.Perm ts:=by
   have:∀{a b:List aa},(a.map ab).Perm (b.map ab)->a.Perm b:=fun {a b} nV=>by
    have h2:=nV.map (fun cs:List AV=>match cs with|[.int _ x,.int _ y,.int _ t]=>(⟨⟨x,y⟩,t⟩:aa)|_=>default)
    simpa[List.map_map,Function.comp_def,ab]using h2
   exact this hpp
  have XG:=mj.length_eq
  rcases hout with⟨N6,e3⟩|⟨o,e3,og,on,ov⟩
  ·exfalso
   subst N6
   exact h0 (List.eq_nil_of_length_eq_zero XG.symm)
  have iD:l'≠[]:=fun e=>h0 (List.eq_nil_of_length_eq_zero (by rw[<-XG,e];rfl))
  (try((repeat(revert hN;revert N;apply Pn.out));refine wk (tw @Cr.eq_1 (tw @Cu.eq_1 (tw @e3 @e2))) ?_;(repeat(refine Pn.mk ?_;intro N hN))))
  refine .inr (aI _ _ _ _ _ (fun r σ1 hq=>?_) (A7 l' L ah iD hR (mj.trans hp) ⟨s0.get,_⟩ o aT og))
  obtain⟨g1,x1⟩:=σ1
  obtain⟨o2,rfl,q1,q2,q3,q4⟩:=hq
  (try dsimp only at q1 q2 q3 q4)
  have k5:=(q4 ⟨101000000,σ.next⟩ aT).trans h5
  have o25:=bH (a:=⟨101000000,σ.next⟩) (b:=o2) aT
  refine hN _ _ ?_
  clear hN N
  (try((repeat(revert hN;revert N;apply Pn.out));refine wk (tw @Cr.eq_1 (tw @Cu.eq_1 (tw @e2 @k5))) ?_;(repeat(refine Pn.mk ?_;intro N hN))))
  exact eS (.inl rfl) (vs:=[.agg [.own o2 0 L.length]]) (by rw[Cu];simp only[fM,iU,go_sem, ↓reduceIte,Nat.reduceEqDiff,Nat.reduceAdd,Nat.reduceSub,Nat.reduceLeDiff,reduceCtorEq,e2]) ⟨o2,rfl,sd (tw @o25 @q1),ah,aT,aT,fun y hy Wd=>by
   have h1:=db (i:=y) (n:=σ.next) hy
   simp only[go_sem, ↓reduceIte,Nat.reduceEqDiff,Nat.reduceAdd,Nat.reduceSub,Nat.reduceLeDiff,reduceCtorEq,h1]
   exact(q4 y ah).trans (j4 y hy Wd)⟩
theorem me.three {g g':Rows} {n n':Nat} {c T O:Id} {s:aE} {ts:List aa} (h:me g n c T O s ts) (hn:n<=n') (hc:g' c=g c) (hT:g' T=g T) (hO:g' O=g O):me g' n' c T O s ts:=
 ⟨hc.trans h.row,hT.trans h.tl,by rw[hO];exact h.op,Nat.lt_of_lt_of_le h.cv hn,Nat.lt_of_lt_of_le h.tv hn,Nat.lt_of_lt_of_le h.ov hn,h.cT,h.cO,h.TO⟩
theorem AG (q:aa):∀l:List aa,(l++[q]).Perm (iO l q)
 |[]=>List.Perm.refl _
 |x::l=>by
  have ih:=AG q l
  rw[iO]
  split
  ·exact List.perm_append_comm (l₁:=x::l) (l₂:=[q])
  ·exact ih.cons x
structure SameT (s:aE) (S:Io):Prop where
 at_:∀q,fU (s.bY.ai++S.1) q=fU S.2 q
 perm:(s.bY.ai++S.1).Perm S.2
structure InR (σ:aw) (m:Nat) (c T O:Id) (s:aE) (l:List aa) (S:Io) (e7:AV) (g:Rows) (n:Nat):Prop where
 RJ:me g n c T O s (s.bY.ai++S.1)
 u:(S.1=[]/\e7=.bI)∨∃u:Id,e7=.own u 0 S.1.length/\g u=some ⟨true,3,S.1.map ab⟩/\m<=u.bj/\u.bj<n/\0<S.1.length
 lo:m<=n
 fr:∀x:Id,x.bj<m->x≠T->x≠O->x≠c->g x=σ.get x
end Go.Proofs.YtgoljkjaameagaaGreat.V

namespace Go.Proofs.YtgoljkjaameagaaGreat.V
open Go.RowKit
theorem qq {B:aq->Int->Bool} {p:aq}:∀{t:Nat} {x:aa},x∈Hp B p t->∃k:Nat,k<t/\x=⟨p,k⟩/\B p k=true
 |0,x,h=>by simp[Hp]at h
 |t+1,x,h=>by
  rw[Hp]at h
  split at h
  ·rename_i hb
   rcases List.mem_append.1 h with h|h
   ·obtain⟨k,hk,h1⟩:=qq h
    exact⟨k,ah,h1⟩
   ·exact⟨t,ah,by simpa using h,hb⟩
  ·obtain⟨k,hk,h1⟩:=qq h
   exact⟨k,ah,h1⟩
theorem Hr {B:aq->Int->Bool} {m:Nat} {ps:List aq} {x:aa} (h:x∈so B m ps):x.aJ∈ps/\∃k:Nat,k<m/\x.br=k/\B x.aJ x.br=true:=by
 obtain⟨p,hp,hx⟩:=List.mem_flatMap.1 h
 obtain⟨k,hk,rfl,hb⟩:=qq hx
 exact⟨hp,k,hk,rfl,hb⟩
def CV (L:List aa):Prop:=L.Pairwise fun a b=>iS b.aJ a.aJ=false
theorem C2 {B:aq->Int->Bool} {m:Nat}:∀{ps:List aq},nq ps->CV (so B m ps)
 |[],_=>List.Pairwise.nil
 |p::ps,h=>by
  obtain⟨h1,h2⟩:=List.pairwise_cons.1 h
  unfold so CV
  rw[List.flatMap_cons,List.pairwise_append]
  refine⟨?_,C2 h2,fun a ha b hb=>?_⟩
  ·rw[List.pairwise_iff_getElem]
   intro i j hi hj _
   obtain⟨k,_,hk,_⟩:=qq (List.getElem_mem hi)
   obtain⟨k',_,DJ,_⟩:=qq (List.getElem_mem hj)
   rw[hk,DJ];exact iM
  ·obtain⟨k,_,rfl,_⟩:=qq ha
   exact ya (h1 _ (Hr (B:=B) (m:=m) hb).1)
def im (L:List aa):Nat->List aa
 |0=>[]
 |k+1=>if 0<k/\(aL L k).aJ=(aL L (k-1)).aJ then im L k else im L k++[aL L k]
theorem B6 (L:List aa):∀k,(im L k).length<=k
 |0=>Nat.le_refl _
 |k+1=>by
  have:=B6 L k
  rw[im]
  split
  ·omega
  ·rw[List.length_append,List.length_singleton];omega
theorem H5 (L:List aa):∀k,0<k->0<(im L k).length
 |0,h=>by omega
 |k+1,_=>by
  rw[im]
  split
  ·rename_i h;exact H5 L k h.1
  ·rw[List.length_append,List.length_singleton];omega
theorem EC {L:List aa}:∀{k:Nat},0<k->∃r y,im L k=r++[y]/\y.aJ=(aL L (k-1)).aJ
 |0,h=>by omega
 |k+1,_=>by
  rw[im]
  split
  ·rename_i h
   obtain⟨r,y,h1,h2⟩:=EC (L:=L) h.1
   exact⟨r,y,h1,by rw[h2,Nat.add_sub_cancel,h.2]⟩
  ·exact⟨_,_,rfl,rfl⟩
theorem qG {L:List aa}:∀{k:Nat},∀x∈im L k,∃i,i<k/\x=aL L i
 |0,x,h=>by cases h
 |k+1,x,h=>by
  rw[im]at h
  split at h
  ·obtain⟨i,hi,e⟩:=qG x h
   exact⟨i,ah,e⟩
  ·rcases List.mem_append.1 h with h|h
   ·obtain⟨i,hi,e⟩:=qG x h
    exact⟨i,ah,e⟩
   ·exact⟨k,ah,by simpa using h⟩
theorem Cz {L:List aa} (h:CV L) {i j:Nat} (y9:i<=j) (hj:j<L.length):iS (aL L j).aJ (aL L i).aJ=false:=by
 rcases Nat.lt_or_eq_of_le y9 with h1|rfl
 ·rw[fa hj,fa ah]
  exact List.pairwise_iff_getElem.1 h i j ah hj h1
 ·exact iM
theorem H6 {L:List aa} (hW:CV L):∀{k:Nat},k<=L.length->(im L k).Pairwise fun a b=>iS a.aJ b.aJ=true
 |0,_=>List.Pairwise.nil
 |k+1,hk=>by
  have ih:=H6 hW (k:=k) ah
  rw[im]
  split
  ·exact ih
  ·rename_i hn
   rw[List.pairwise_append]
   refine⟨ih,List.pairwise_singleton ..,fun x hx y hy=>?_⟩
   rw[List.mem_singleton.1 hy]
   obtain⟨i,hi,rfl⟩:=qG x hx
   refine qz (Cz hW ah ah) fun e=>hn ⟨ah,?_⟩
   have h1:=Cz hW (i:=i) (j:=k-1) ah ah
   have h2:=Cz hW (i:=k-1) (j:=k) ah ah
   by_cases h3:(aL L k).aJ=(aL L (k-1)).aJ
   ·exact h3
   ·have h4:=qz h2 h3
    rw[e,h1]at h4;cases h4
theorem yG (L:List aa) (k:Nat):∀d,(im L k).length<=(im L (k+d)).length
 |0=>Nat.le_refl _
 |d+1=>by
  have ih:=yG L k d
  show _<=(im L (k+d+1)).length
  rw[im]
  split
  ·exact ih
  ·rw[List.length_append];omega
noncomputable def kT (s:aE) (l:List aa):List aa:=so (ew s l) s.aC.ai.length (jv l)
noncomputable def Fg (s:aE) (l:List aa):List aa:=im (kT s l) (kT s l).length
theorem JR (s:aE) (l:List aa):CV (kT s l):=C2 (oe l _)
theorem yv {s:aE} {l:List aa} {x:aa} (h:x∈kT s l):eH s.aC x.br=true/\ew s l x.aJ x.br=true:=by
 obtain⟨_,k,hk,h2,h3⟩:=Hr h
 exact⟨by unfold eH;rw[h2];exact jm ah,h3⟩
theorem Ey {s:aE} {l:List aa} (hS:iG s.aC) (hA:jZ s.aC l):(kT s l).length<=320000:=by
 have h1:=wP (ew s l) s.aC.ai.length (jv l)
 have h2:(jv l).length<=l.length*4:=lV l l.length
 have h3:=hA.1.zm
 have h4:=hS.wg
 have h5:(jv l).length*s.aC.ai.length<=2000*160:=Nat.mul_le_mul ah h4
 unfold kT;omega
def sg (l R:List aa) (k:Nat):List aa:=(R.take k).foldl (fun n x=>iO n x) l
theorem JV (l R:List aa):sg l R 0=l:=rfl
theorem uP {l R:List aa} {k:Nat} (h:k<R.length):sg l R (k+1)=iO (sg l R k) (aL R k):=by
 unfold sg
 rw[yY h,List.foldl_append];rfl
theorem tx {l R:List aa}:∀{k:Nat},k<=R.length->(sg l R k).length=l.length+k
 |0,_=>rfl
 |k+1,h=>by rw[uP ah,qd,tx ah];omega
theorem KX {s:aE} {l:List aa} (hA:jZ s.aC l) {x:aa} (hlen:l.length<500) (ht:eH s.aC x.br=true) (hp:zd x.aJ=true) (h0:eG l x.aJ<0) (hs:s.aC.ai.length<=160):jZ s.aC (iO l x):=by
 have fZ:iV x.br 0 159=true:=jm (by have h:=ht;unfold eH at h;have:=dB h;omega)
 have hR:=MP hA.1.P8 h0
 refine⟨⟨by rw[qd];omega,fun i su=>?_⟩,fun t Z3=>?_⟩
 ·rcases pV.1 (gO su)with h|h
  ·rw[Fo,h]
   exact⟨hp,fZ,fun h1=>by have z:=hR (i-1) i ah su;rw[h]at z;exact z⟩
  ·obtain⟨j,hj,gY⟩:=List.getElem_of_mem h
   have h1:=hA.1.ok j hj
   rw[Fo,fa hj,gY]at h1
   exact⟨h1.1,h1.2.1,fun h0=>hR _ _ ah su⟩
 ·rcases pV.1 Z3 with rfl|h
  ·exact ht
  ·exact hA.2 t h
theorem yM {s:aE} {l:List aa} (hS:iG s.aC) (hA:jZ s.aC l) {m:Nat} (hm:m<=(kT s l).length):∀k,k<=(im (kT s l) m).length->l.length+k<=500->jZ s.aC (sg l (im (kT s l) m) k)/\∀j,k<=j->j<(im (kT s l) m).length->eG (sg l (im (kT s l) m) k) (aL (im (kT s l) m) j).aJ<0
 |0,_,_=>by
  rw[JV]
  refine⟨hA,fun j _ hj=>?_⟩
  obtain⟨i,hi,e⟩:=qG _ (gO hj)
  have h1:=(yv (gO (l:=kT s l) (i:=i) ah)).2
  rw[e]
  simp only[ew,Bool.and_eq_true]at h1
  exact(Ft hA _).1 (of_decide_eq_true h1.1.2)
 |k+1,hk,hl=>by
  obtain⟨h1,h2⟩:=yM hS hA hm k ah ah
  obtain⟨i,hi,e⟩:=qG _ (gO (l:=im (kT s l) m) (i:=k) ah)
  obtain⟨ht,hf⟩:=yv (gO (l:=kT s l) (i:=i) ah)
  rw[<-e]at ht hf
  simp only[ew,Bool.and_eq_true]at hf
  have h0:=h2 k (Nat.le_refl _) ah
  rw[uP ah]
  refine⟨KX h1 (by rw[tx ah];omega) ht hf.1.1 h0 hS.wg,fun j hj Ky=>?_⟩
  rw[kF]
  intro t KA e2
  rcases pV.1 KA with rfl|KA
  ·have h3:=H6 (JR s l) hm
   rw[List.pairwise_iff_getElem]at h3
   have h4:=h3 k j ah Ky ah
   rw[fa Ky,fa (show k<_ by omega)]at e2
   rw[e2,iM]at h4;cases h4
  ·exact kF.1 (h2 j ah Ky) t KA e2
noncomputable def uB (s:aE):Nat->List (List aa)->List aa->List (List aa)×List aa×Int
 |0,out,l=>(out,l,0)
 |n+1,out,l=>if (kT s l).length=0 then(out,l,0)else if 500<l.length+(Fg s l).length then([],[],4)else uB s n (out++[Fg s l]) (sg l (Fg s l) (Fg s l).length)
end Go.Proofs.YtgoljkjaameagaaGreat.V

namespace Go.Proofs.YtgoljkjaameagaaGreat.V
open Go.RowKit
attribute [local irreducible] dK wpOps gw Call
attribute [local go_sem] aM fE eM fV fS dc upd cr K.av cI AV.cells AV.cell rowOf rowsOf part ld rowAt bE cj dy dS gU bJ cY ee fQ e6 dp dX cW cV dI dJ bP bc cL bL cP cN dV dY dW cK bU cX dU bK aO cR cC gT bw cG bQ aY dj aZ dz AV.undef bD bG dM dQ dE dG cE ec eh cz ea dZ cQ cU List.getD_cons_zero List.getD_cons_succ List.getD_nil List.all_cons List.all_nil Bool.and_true Bool.true_and Bool.and_self Bool.not_true Bool.not_false Option.map_some Option.map_none Option.bind_some Option.bind_none List.length_cons List.length_nil List.take_succ_cons List.take_zero List.take_nil List.drop_succ_cons List.drop_zero List.drop_nil List.head?_cons List.map_cons List.map_nil List.getElem?_cons_zero List.getElem?_cons_succ List.cons_append List.nil_append List.append_nil List.length_map List.set_cons_zero List.set_cons_succ Nat.reduceMul eq_self Int.toNat_natCast Int.natCast_nonneg and_self true_and and_true decide_true decide_false Bool.false_eq_true Nat.zero_add Nat.add_zero List.contains_cons List.contains_nil Bool.or_false Bool.false_or beq_self_eq_true Nat.reduceBEq ne_eq not_true_eq_false not_false_eq_true Id.mk.injEq false_and and_false Nat.reduceLT Int.reduceLE Int.reduceLT Int.reduceToNat Int.reduceNeg Int.reduceAdd Nat.le_refl List.length_append beq_true beq_false Bool.not_eq_eq_eq_not or_false false_or dH aj ar aH bh bz ck aV bd aX bf cJ bB
def AtK (n:Nat) (l:List aa) (x:aa) (r:AV) (σ':aw):Prop:=(500<=l.length/\r=.gJ [.agg [.bI],.int .i64 4])∨(l.length<500/\∃o:Id,r=.gJ [.agg [.own o 0 (iO l x).length],.int .i64 0]/\σ'.get o=some ⟨true,3,(iO l x).map ab⟩/\n<=o.bj/\o.bj<σ'.next)
theorem Eg (l:List aa) (hl:l.length<=1048576) (x:aa) (n0:Nat):Call Tryz.prog 91 [.dn [.sl (l.map ab)],.agg (ab x)] ⟨fun _=>none,n0⟩ (AtK n0 l x):=by
 refine eA eF rfl fun kP=>?_
 clear kP
 by_cases h5:500<=l.length
 ·have hd:((500:Nat):Int)<=(l.length:Int):=ah
  have nw:(500:Int)<=(l.length:Int):=ah
  (try((repeat(revert hN;revert N;apply Pn.out));refine wk (tw @ab.eq_1 (tw @hd @nw)) ?_;(repeat(refine Pn.mk ?_;intro N hN))))
  exact eS (.inl rfl) (vs:=[.agg [.bI],.int .i64 4]) (sd @Nat.zero_add) (.inl ⟨h5,rfl⟩)
 ·have nw:¬(500:Int)<=(l.length:Int):=ah
  (try((repeat(revert hN;revert N;apply Pn.out));refine wk (tw @ab.eq_1 @nw) ?_;(repeat(refine Pn.mk ?_;intro N hN))))
  refine .inr (aI _ _ _ _ _ (fun r σ1 hq=>?_) (Rl.val (fun n=>Mm l hl x.aJ x.br n) (by simp only[aj,ar,aX,bd,aH,Option.map_some];rfl)))
  obtain⟨⟨o,rfl,q1,q2,q3⟩,hK⟩:=hq
  obtain⟨g1,x1⟩:=σ1
  (try dsimp only at q1 q2 q3 hK)
  have hx:(⟨x.aJ,x.br⟩:aa)=x:=rfl
  rw[hx]at q1 ⊢
  have k4:=hK.2 ⟨91000001,n0⟩ aT
  simp only[go_sem, ↓reduceIte,Nat.reduceEqDiff,Nat.reduceAdd,Nat.reduceSub,Nat.reduceLeDiff,reduceCtorEq]at k4
  have vo:=bH (a:=⟨91000001,n0⟩) (b:=o) (by(try dsimp only at q2);(try dsimp only);omega)
  refine hN _ _ ?_
  clear hN N
  (try((repeat(revert hN;revert N;apply Pn.out));refine wk @k4 ?_;(repeat(refine Pn.mk ?_;intro N hN))))
  exact eS (.inl rfl) (vs:=[.agg [.own o 0 (iO l x).length],.int .i64 0]) (sd @Nat.zero_add) (.inr ⟨ah,o,rfl,sd (tw @vo @q1),by(try dsimp only at q2);omega,aT⟩)
theorem CY {X o:Id} {l:List aa} {σ:aw} (hl:l.length<=1048576) (x:aa) (hX:σ.get X=some ⟨true,1,[[.own o 0 l.length]]⟩) (ho:σ.get o=some ⟨true,3,l.map ab⟩):
  Call Tryz.prog 91 [.ptr X 0 0,.agg (ab x)] σ (fun r σ'=>AtK σ.next l x r σ'/\Kept σ σ'):=by
 refine xg mixed (args':=[.dn [.sl (l.map ab)],.agg (ab x)]) (by
  have hp:=H4 hX ho
  simp only[aj,ar,hp,Option.map_some,ab,bd,aH]) (aI _ _ _ _ _ (fun r σ' hq=>?_) (ug mixed (Eg l hl x σ.next)))
 obtain⟨hq,hn⟩:=hq
 rcases hq with⟨h5,rfl⟩|⟨h5,o2,rfl,h2,h3,h4⟩
 ·exact⟨[],rfl,fun i hi=>by(cases hi),.inl ⟨h5,rfl⟩,hn,fun j hj=>lJ (g':=σ'.get) (List.not_mem_nil)⟩
 ·refine⟨[o2],rfl,fun i hi=>?_,.inr ⟨h5,o2,rfl,(ql (by simp)).trans h2,h3,h4⟩,hn,fun j hj=>lJ fun hc=>?_⟩
  ·rw[List.mem_singleton.1 hi]
   exact⟨_,h2,rfl,fun cs dx a ha=>by
    obtain⟨y,_,rfl⟩:=List.mem_map.1 dx
    simp[ab]at ha
    rcases ha with rfl|rfl|rfl<;>rfl⟩
  ·rw[List.mem_singleton.1 hc]at hj;omega
end Go.Proofs.YtgoljkjaameagaaGreat.V
