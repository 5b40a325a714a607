/- The reference sends one more: the walk. -/
import Derived.Test.YtainmfbpilopaaaGreatDoorSqC
import Derived.Test.YtainmfbpilopaaaGreatDoorSqB
import Derived.Shelf.SlSortCmp.WholeK
import Derived.Shelf.SlSortCmp.NoneTotal
import Derived.Ground.SlsfProg
import Derived.Test.YtainmfbpilopaaaGreatDoorProg
import Derived.Maps.RangeRun
import Derived.Test.YtainmfbpilopaaaGreatDoorChecked
set_option linter.unusedVariables false
set_option linter.unusedSimpArgs false
set_option maxRecDepth 100000
set_option maxHeartbeats 16000000
namespace Go.Proofs.YtainmfbpilopaaaGreatDoor.V
open Go.RowKit
attribute [local irreducible] dW wpOps fu Call
theorem zN {bs:List PB} {f:Nat->Int} (dZ:∀e,e<bs.length->0<=(dc bs e).s/\(dc bs e).s<=4) (h:∀i,i<bs.length->f i<=(dc bs i).s/\-(dc bs i).s<=f i):Small bs f:=fun e he=>by
 have:=dZ e he;have:=h e he;omega
theorem tr.at_ {A:Id} {lo nx v:Nat} {L:List (List Nat)} {l:List Nat} {g:Rows} (h:tr A lo L g nx) (hv:L[v]? =some l) (hl:0<l.length):∃(rows:List (List AV)) (id:Id),g A=some ⟨true,1,rows⟩/\rows.length=L.length/\rows[v]? =some [.own id 0 l.length]/\g id=some ⟨true,1,l.map eN⟩/\lo<id.bG/\id.bG<nx:=by
 obtain⟨rows,ids,h1,h2,h3,h4⟩:=h
 have hk:v<L.length:=(List.getElem?_eq_some_iff.1 hv).1
 obtain⟨cs,ic,dY,hR,Xa⟩:=h2.at_ v hk
 rw[mb hv hk]at hR
 rcases hR with⟨h5,_⟩|⟨id,rfl,_,h6,rfl⟩
 ·subst h5;simp at hl
 ·have:=h4 id (Xa id (by simp))
  exact⟨rows,id,h1,h2.len,dY,h6,this.1,this.2⟩
theorem S8 (cnt:Nat) (hn:cnt<=1048576) (bs:List PB) (ok:pw cnt bs) (oV:bs.length<=1048576) (dZ:∀e,e<bs.length->0<=(dc bs e).s/\(dc bs e).s<=4) (f:Nat->Int) (x y:Nat) (hx:x<cnt) (hy:y<cnt) (Uh:x≠y) (val:Int) (hf:lg bs f x y val)
  (X A F:Id) (σ:aw) (nb:Nat) (hS:p9 cnt bs f X A F σ.get nb) (qZ:nb<=σ.next):
  Call Tryz.prog 268 [.ptr X 0 0,.int .i64 x,.int .i64 y] σ fun r σ'=>∃b f',r=.bool b/\p9 cnt bs f' X A F σ'.get nb/\σ.next<=σ'.next/\(∀i:Id,i.bG<nb->(i=F)=False->σ'.get i=σ.get i)/\
   (b=false->f'=f/\∃S:Nat->Bool,S x=true/\S y=false/\val=jP S bs)/\(b=true->lg bs f' x y (val+1)):=by
 refine eB eI rfl fun hl=>?_
 clear hl
 have F1:(x:Int)<(cnt:Int):=ah
 have hz:∀(g:Rows),(∀i:Id,i.bG<nb->g i=σ.get i)->dx (ea g) 6 [.ptr X 0 0,.int .i64 (y:Int)]=some [.dQ (gJ cnt bs f),.int .i64 y]:=fun g hg=>by
  have:=(hS.frame hg (Nat.le_refl _)).fz
  simp only[ai,ar,this,aB,Option.map_some]
 (try((repeat(revert N;apply Pn.out));refine wk @Nat.zero_add ?_;(repeat(apply Pn.mk;intro N hN))))
 refine .inr (az _ _ _ _ _ (fun r σ1 hq=>?_) ((IW cnt hn bs ok oV f (zN dZ hf.le) y hy).x mixed (hz _ (fun i hi=>rfl))))
 obtain⟨⟨out,rfl,T8⟩,rfl⟩:=hq
 apply hN
 clear hN N
 have YX:=eC (f:=out) hx
 have tl:=ek out cnt
 by_cases ll:out x<0
 ·(try((repeat(revert N;apply Pn.out));refine wk (tw @YX (tw @ll (tw @F1 (tw @tl @aC.eq_1)))) ?_;(repeat(apply Pn.mk;intro N hN))))
  exact er (.inl rfl) (vs:=[.bool false]) (sd @Nat.zero_add) ⟨false,f,rfl,hS.frame (fun i hi=>rfl) (Nat.le_refl _),bc,fun i _ _=>rfl,fun _=>⟨rfl,HE T8 ok hf ll⟩,fun h=>by cases h⟩
 (try((repeat(revert N;apply Pn.out));refine wk (tw @YX (tw @ll (tw @F1 (tw @tl @aC.eq_1)))) ?_;(repeat(apply Pn.mk;intro N hN))))
 refine bf (fun m env st=>∃(v:Nat) (f':Nat->Int),m=(out v).toNat/\v<cnt/\0<=out v/\env 8=.int .i64 (v:Int)/\qa bs out f f' x v/\p9 cnt bs f' X A F st.get nb/\(∀i:Id,i.bG<nb->(i=F)=False->st.get i=σ.get i)/\σ.next<=st.next) (out x).toNat ⟨x,f,rfl,hx,ah,by(simp only[go_sem, ↓reduceIte,Nat.reduceEqDiff,Nat.reduceAdd,Nat.reduceSub,Nat.reduceLeDiff,reduceCtorEq]),qa.start hf.le,hS.frame (fun i hi=>rfl) (Nat.le_refl _),fun i _ _=>rfl,bc⟩ ?_
 rintro m env_b st_b ⟨v,f',rfl,hv,pK,b8,hW,hN1,jy,hle⟩ fh
 have b0:=fh 0 (by kernel_rfl)
 have b2:=fh 2 (by kernel_rfl)
 have b7:=fh 7 (by kernel_rfl)
 simp only[go_sem, ↓reduceIte,Nat.reduceEqDiff,Nat.reduceAdd,Nat.reduceSub,Nat.reduceLeDiff,reduceCtorEq]at b0 b2 b7
 clear fh
 by_cases Y5:v=y
 ·have hd:decide ((v:Int)=(y:Int))=true:=decide_eq_true (by rw[Y5])
  subst Y5
  (try((repeat(revert N;apply Pn.out));refine wk (tw @b0 (tw @b2 (tw @b7 (tw @b8 @hd)))) ?_;(repeat(apply Pn.mk;intro N hN))))
  exact er (.inl rfl) (vs:=[.bool true]) (sd @Nat.zero_add) ⟨true,f',rfl,hN1,bc,jy,fun h=>(by cases h),fun _=>hW.done hf⟩
 have hd:decide ((v:Int)=(y:Int))=false:=decide_eq_false fun h=>Y5 ah
 have Dl:0<out v:=by
  have:=T8.zero v hv
  rcases Int.lt_or_eq_of_le pK with h|h
  ·exact h
  ·exact absurd (this h.symm) Y5
 have RK:=hW.goes T8 hv Dl
 have hIm:∀ed∈jE bs bs.length v,ed<bs.length/\H0 bs ed v:=fun ed h=>ug.1 h
 have hIL:(mW cnt bs bs.length)[v]? =some (jE bs bs.length v):=by simp[mW,hv]
 have hIl:=uf bs bs.length v
 generalize jE bs bs.length v=I at *
 have hIp:0<I.length:=by
  obtain⟨ed,h,_⟩:=RK
  exact List.length_pos_of_mem h
 obtain⟨rows,id,hgA,uV,nr,hid,hid1,hid2⟩:=hN1.a.at_ hIL hIp
 rw[kc]at uV
 have hgX:=hN1.x
 have GX:(v:Int)<(cnt:Int):=ah
 have uc:=eC (f:=out) hv
 have nv:IntKind.i64.wrap (out v-1)=out v-1:=cq (by have:=T8.lo v hv;omega)
 have sL:(I.map eN).length=I.length:=by simp
 have P0:=zN dZ hW.le
 have kJ:∀(g:Rows),(∀i:Id,i.bG<nb->g i=st_b.get i)->∀ed:Nat,dx (ea g) 6 [.ptr X 0 0,.int .i64 (v:Int),.int .i64 (ed:Int)]=some [.dQ (gJ cnt bs f'),.int .i64 v,.int .i64 ed]:=fun g hg ed=>by
  have:=(hN1.frame hg (Nat.le_refl _)).fz
  simp only[ai,ar,this,aB,Option.map_some]
 rw[aC]at uc
 (try((repeat(revert N;apply Pn.out));refine wk (tw @b0 (tw @b2 (tw @b7 (tw @b8 @hd)))) ?_;(repeat(apply Pn.mk;intro N hN))))
 refine bf (fun n env st=>∃k:Nat,n=(I.length)-k/\k<=(I.length)/\env 11=.int .i64 (k:Int)/\(∃(xh Ib:Int),env 9=.int .i64 xh/\env 10=.int .i64 Ib/\((xh<0/\∀z,z<k->¬(0<gy bs f' (I.getD z 0) v/\out (cX bs (I.getD z 0) v)=out v-1))∨∃ed:Nat,ed∈I/\Ib=(ed:Int)/\xh=(cX bs ed v:Int)/\0<gy bs f' ed v/\out (cX bs ed v)=out v-1))/\((∀i:Id,st.get i=st_b.get i)/\st_b.next<=st.next)) (I.length) ⟨0,ah,ah,sl (tw @b0 (tw @b2 (tw @b7 @b8))),⟨-1,0,by(simp only[go_sem, ↓reduceIte,Nat.reduceEqDiff,Nat.reduceAdd,Nat.reduceSub,Nat.reduceLeDiff,reduceCtorEq]),by(simp only[go_sem, ↓reduceIte,Nat.reduceEqDiff,Nat.reduceAdd,Nat.reduceSub,Nat.reduceLeDiff,reduceCtorEq]),.inl ⟨ah,fun z hz=>ah⟩⟩,⟨fun i=>rfl,bc⟩⟩ ?_
 rintro n_c env_c st_c ⟨k,rfl,cle,pQ,cI0,cI1⟩ jq
 have c0:=jq 0 (by kernel_rfl);have c2:=jq 2 (by kernel_rfl);have c7:=jq 7 (by kernel_rfl);have c8:=jq 8 (by kernel_rfl)
 simp only[go_sem, ↓reduceIte,Nat.reduceEqDiff,Nat.reduceAdd,Nat.reduceSub,Nat.reduceLeDiff,reduceCtorEq,b0,b2,b7,b8]at c0 c2 c7 c8
 clear jq
 obtain⟨xh,Ib,c9,kq,Mz⟩:=cI0
 obtain⟨om,YI⟩:=cI1
 have GL:=(om X).trans hgX
 have GK:=(om A).trans hgA
 have Cp:=(om id).trans hid
 by_cases hk:(k:Int)<(I.length:Int)
 ·have ik:∀{e:Env} {gg:Rows} {nx:Nat},(e 11=.int .i64 (IntKind.i64.wrap ((k:Int)+1)))->(∃(xh Ib:Int),e 9=.int .i64 xh/\e 10=.int .i64 Ib/\((xh<0/\∀z,z<(k+1)->¬(0<gy bs f' (I.getD z 0) v/\out (cX bs (I.getD z 0) v)=out v-1))∨∃ed:Nat,ed∈I/\Ib=(ed:Int)/\xh=(cX bs ed v:Int)/\0<gy bs f' ed v/\out (cX bs ed v)=out v-1))->((∀i:Id,gg i=st_b.get i)/\st_b.next<=nx)->∃m0,m0<(I.length)-k/\∃k:Nat,m0=(I.length)-k/\k<=(I.length)/\e 11=.int .i64 (k:Int)/\(∃(xh Ib:Int),e 9=.int .i64 xh/\e 10=.int .i64 Ib/\((xh<0/\∀z,z<k->¬(0<gy bs f' (I.getD z 0) v/\out (cX bs (I.getD z 0) v)=out v-1))∨∃ed:Nat,ed∈I/\Ib=(ed:Int)/\xh=(cX bs ed v:Int)/\0<gy bs f' ed v/\out (cX bs ed v)=out v-1))/\((∀i:Id,gg i=st_b.get i)/\st_b.next<=nx):=fun x1 x2 x3=>⟨_,ah,k+1,rfl,ah,(by rw[x1,aE ah]),x2,x3⟩
  have fC:k<I.length:=ah
  have fa:(I.map eN)[k]? =some (eN (I.getD k 0)):=getD_map eN fC
  have o3:I.getD k 0∈I:=by rw[List.getD_eq_getElem?_getD,List.getElem?_eq_getElem fC];exact List.getElem_mem fC
  obtain⟨he,rQ⟩:=hIm _ o3
  have PZ:=N6 cnt bs f' P0 (I.getD k 0) v he
  have w8:=kJ st_c.get (fun i _=>om i) (I.getD k 0)
  have hq:=qE ok (v:=v) he
  have VL:=eC (f:=out) hq
  obtain⟨ed,hed⟩:∃ed,ed=I.getD k 0:=⟨_,rfl⟩
  rw[<-hed]at fa he rQ PZ w8 hq VL o3
  rw[aC]at VL
  rw[eN]at fa
  (try((repeat(revert N;apply Pn.out));refine wk (tw @pQ (tw @c0 (tw @c2 (tw @c7 (tw @c8 (tw @c9 (tw @kq (tw @hk (tw @GL (tw @GK (tw @Cp (tw @nr (tw @uV (tw @GX (tw @fa (tw @sL @cR.eq_1)))))))))))))))) ?_;(repeat(apply Pn.mk;intro N hN))))
  refine .inl ⟨_,au.x PZ w8,?_⟩
  apply hN
  clear hN N
  have stay:∀k',k'=k+1->(¬(0<gy bs f' ed v/\out (cX bs ed v)=out v-1))->((xh<0/\∀z,z<k'->¬(0<gy bs f' (I.getD z 0) v/\out (cX bs (I.getD z 0) v)=out v-1))∨∃ed:Nat,ed∈I/\Ib=(ed:Int)/\xh=(cX bs ed v:Int)/\0<gy bs f' ed v/\out (cX bs ed v)=out v-1):=fun k' GO lS=>by
   rcases Mz with⟨h1,h2⟩|h
   ·refine .inl ⟨h1,fun z hz=>?_⟩
    by_cases GZ:z=k
    ·subst GZ;rw[<-hed];exact lS
    ·exact h2 z ah
   ·exact .inr h
  by_cases hr:0<gy bs f' ed v
  ·by_cases JT:out (cX bs ed v)=out v-1
   ·have nJ:decide (out (cX bs ed v)=out v-1)=true:=decide_eq_true JT
    have found:∃Wm:Nat,Wm∈I/\(ed:Int)=(Wm:Int)/\(cX bs ed v:Int)=(cX bs Wm v:Int)/\0<gy bs f' Wm v/\out (cX bs Wm v)=out v-1:=⟨ed,o3,rfl,rfl,hr,JT⟩
    by_cases Lr:xh<0
    ·(try((repeat(revert N;apply Pn.out));refine wk (tw @pQ (tw @c0 (tw @c2 (tw @c7 (tw @c8 (tw @c9 (tw @kq (tw @hk (tw @GL (tw @GK (tw @Cp (tw @nr (tw @uV (tw @GX (tw @fa (tw @sL (tw @hr (tw @VL (tw @uc (tw @nv (tw @nJ (tw @Lr @cR.eq_1)))))))))))))))))))))) ?_;(repeat(apply Pn.mk;intro N hN))))
     exact ik (sd (tw @pQ (tw @c0 (tw @c2 (tw @c7 @c8))))) (⟨_,_,sd @Nat.zero_add,sd @Nat.zero_add,.inr found⟩) (⟨om,bc⟩)
    ·by_cases eu:(cX bs ed v:Int)<xh
     ·(try((repeat(revert N;apply Pn.out));refine wk (tw @pQ (tw @c0 (tw @c2 (tw @c7 (tw @c8 (tw @c9 (tw @kq (tw @hk (tw @GL (tw @GK (tw @Cp (tw @nr (tw @uV (tw @GX (tw @fa (tw @sL (tw @hr (tw @VL (tw @uc (tw @nv (tw @nJ (tw @Lr (tw @eu @cR.eq_1))))))))))))))))))))))) ?_;(repeat(apply Pn.mk;intro N hN))))
      exact ik (sd (tw @pQ (tw @c0 (tw @c2 (tw @c7 @c8))))) (⟨_,_,sd @Nat.zero_add,sd @Nat.zero_add,.inr found⟩) (⟨om,bc⟩)
     ·(try((repeat(revert N;apply Pn.out));refine wk (tw @pQ (tw @c0 (tw @c2 (tw @c7 (tw @c8 (tw @c9 (tw @kq (tw @hk (tw @GL (tw @GK (tw @Cp (tw @nr (tw @uV (tw @GX (tw @fa (tw @sL (tw @hr (tw @VL (tw @uc (tw @nv (tw @nJ (tw @Lr (tw @eu @cR.eq_1))))))))))))))))))))))) ?_;(repeat(apply Pn.mk;intro N hN))))
      exact ik (sd (tw @pQ (tw @c0 (tw @c2 (tw @c7 @c8))))) (⟨xh,Ib,sd @c9,sd @kq,by
       rcases Mz with⟨h1,_⟩|h
       ·exact absurd h1 Lr
       ·exact .inr h⟩) (⟨om,bc⟩)
   ·have nJ:decide (out (cX bs ed v)=out v-1)=false:=decide_eq_false JT
    (try((repeat(revert N;apply Pn.out));refine wk (tw @pQ (tw @c0 (tw @c2 (tw @c7 (tw @c8 (tw @c9 (tw @kq (tw @hk (tw @GL (tw @GK (tw @Cp (tw @nr (tw @uV (tw @GX (tw @fa (tw @sL (tw @hr (tw @VL (tw @uc (tw @nv (tw @nJ @cR.eq_1))))))))))))))))))))) ?_;(repeat(apply Pn.mk;intro N hN))))
    exact ik (sd (tw @pQ (tw @c0 (tw @c2 (tw @c7 @c8))))) (⟨xh,Ib,sd @c9,sd @kq,stay _ rfl fun h=>JT h.2⟩) (⟨om,bc⟩)
  ·(try((repeat(revert N;apply Pn.out));refine wk (tw @pQ (tw @c0 (tw @c2 (tw @c7 (tw @c8 (tw @c9 (tw @kq (tw @hk (tw @GL (tw @GK (tw @Cp (tw @nr (tw @uV (tw @GX (tw @fa (tw @sL (tw @hr @cR.eq_1))))))))))))))))) ?_;(repeat(apply Pn.mk;intro N hN))))
   exact ik (sd (tw @pQ (tw @c0 (tw @c2 (tw @c7 @c8))))) (⟨xh,Ib,sd @c9,sd @kq,stay _ rfl fun h=>hr h.1⟩) (⟨om,bc⟩)
 ·have lN:k=I.length:=ah
  have hfnd:∃ed:Nat,ed∈I/\Ib=(ed:Int)/\xh=(cX bs ed v:Int)/\0<gy bs f' ed v/\out (cX bs ed v)=out v-1:=by
   rcases Mz with⟨h1,h2⟩|h
   ·exfalso
    obtain⟨ed,he,hq⟩:=RK
    obtain⟨z,hz,rfl⟩:=List.getElem_of_mem he
    refine h2 z ah ?_
    rw[List.getD_eq_getElem?_getD,List.getElem?_eq_getElem hz];exact hq
   ·exact h
  obtain⟨ed,o3,rfl,rfl,hr,JT⟩:=hfnd
  obtain⟨he,rQ⟩:=hIm _ o3
  (try((repeat(revert N;apply Pn.out));refine wk (tw @pQ (tw @c0 (tw @c2 (tw @c7 (tw @c8 (tw @c9 (tw @kq (tw @hk (tw @GL (tw @GK (tw @Cp (tw @nr (tw @uV (tw @GX (tw @sL @cR.eq_1))))))))))))))) ?_;(repeat(apply Pn.mk;intro N hN))))
  refine .inr (az _ _ _ _ _ (fun r σ1 hq=>?_) (UB cnt bs f' P0 ed v he X A F ⟨st_c.get,_⟩ nb (hN1.frame (fun i _=>om i) (Nat.le_refl _)) bc))
  obtain⟨YD,oZ,MJ⟩:=hq
  (try dsimp only at oZ MJ)
  apply hN
  clear hN N
  (try((repeat(revert N;apply Pn.out));refine wk (tw @pQ (tw @c0 (tw @c2 (tw @c7 (tw @c8 @c9))))) ?_;(repeat(apply Pn.mk;intro N hN))))
  refine⟨_,?_,cX bs ed v,xi bs f' ed v,rfl,qE ok he,ah,sd @Nat.zero_add,hW.step he rQ hr JT,YD,fun i hi hF=>by rw[MJ i hF,om i,jy i hi hF],bc⟩
  omega
def nf (P:Program) (f:Nat) (args:List AV) (R:AV->Prop):Prop:=∀σ:aw,Call P f args ⟨V.ro σ.get,σ.next⟩ fun r0 σ'=>∃r',V.fz σ'.get 6 r0=some r'/\R r'
theorem Gy {P:Program} {f:Nat} {args:List AV} {g:Rows} {n:Nat} {R:AV->Prop} (h:Sound P f args ⟨V.ro g,n⟩ fun r0 σ'=>∃r',V.fz σ'.get 6 r0=some r'/\R r'):Sound P f args ⟨g,n⟩ fun r σ'=>R r/\σ'=⟨g,n⟩:=by
 intro hs D ι w vs S U A
 refine(Dt (g0:=g) (K:=R) h (fun _ _ h=>h) S U A).mono ?_
 rintro e w' ⟨r,D',u,rfl,hR,T,S',hr⟩
 exact⟨r,g,n,D',ι,u,rfl,⟨hR,rfl⟩,T,S',U,Nat.le_refl _,hr⟩
theorem nf.x {P:Program} (hm:P.follows .mixedOrders=true) {f:Nat} {args:List AV} {R:AV->Prop} (h:nf P f args R) {σ:aw}:Call P f args σ fun r σ'=>R r/\σ'=σ:=
 eW (Gy (gD hm (h σ)))
theorem nf.body {P:Program} {f:Nat} {args:List AV} {R:AV->Prop} {nt na:Nat} {body:VC} {res:List pN} (hf:nU P f=some ⟨nt,na,body,res⟩) (ha:na=args.length) (h:(∀a∈args,eZ a)->∀σ:aw,dW (Call P) body (lU res fun r0 σ'=>∃r',V.fz σ'.get 6 r0=some r'/\R r') (bW args) ⟨V.ro σ.get,σ.next⟩):nf P f args R:=fun σ=>nV hf ha fun hl=>h hl σ
theorem Qs {g:Rows} {rows:List (List AV)} {xs:List (List Nat)} {ids:List Id} (n:Nat) (h:eV Vt g rows xs ids):eJ g (n+2) rows=some (xs.map fun l=>[UK l]):=by
 induction h with
 |nil=>rw[eJ];rfl
 |cons h1 _ ih=>
  rename_i x _ _ _ _ _
  rcases h1 with⟨h0,h1,_⟩|⟨id,h1,h0,h2,_⟩
  ·subst h0 h1;rw[eJ,ih,ai,ar,aO];rfl
  ·have gM:x≠[]:=by rintro rfl;simp at h0
   subst h1
   rw[eJ,ih,ai,ar,gF (e:=eN) (sz:=1) h2 rfl fun a=>fzN _ n a]
   simp[UK,gM]
theorem p9.fz0 {cnt:Nat} {bs:List PB} {f:Nat->Int} {X A F:Id} {g:Rows} {nx:Nat} (h:p9 cnt bs f X A F g nx):V.fz g 5 (.ptr X 0 0)=some (.dQ (gJ cnt bs f)):=by
 have hf:V.fz g 4 (.own F 0 bs.length)=some (.sl (eG f bs.length)):=by
  rw[jb]
  simp only[h.f,if_true]
  rw[if_pos (by rw[ek];omega),List.drop_zero,List.take_of_length_le (by rw[ek];omega),C4];rfl
 have ha:V.fz g 4 (.own A 0 cnt)=some (.sl (sk cnt bs bs.length)):=by
  obtain⟨rows,ids,h1,h2,_,_⟩:=h.a
  have hl:=h2.len
  rw[kc]at hl
  rw[jb]
  simp only[h1,if_true]
  rw[if_pos ah,List.drop_zero,List.take_of_length_le ah,Qs 1 h2]
  simp[mW,sk]
 rw[aV]
 simp only[h.x,if_true,List.getElem?_cons_zero,List.drop_zero,cR,ai,ar,aB,bP,ha,hf,Option.map_some,gJ]
theorem Ic {S:Nat->Bool}:∀bs:List PB,(∀b∈bs,b.s<=4)->jP S bs<=4*bs.length
 |[],_=>by simp[jP]
 |b::bs,h=>by
  rw[vh]
  have:=Ic (S:=S) bs fun x hx=>h x (List.mem_cons_of_mem _ hx)
  have:=h b (by simp)
  simp only[List.length_cons]
  split<;>omega
theorem lg.zero {bs:List PB} {x y:Nat} (h:∀e,e<bs.length->0<=(dc bs e).s/\(dc bs e).s<=4):lg bs (fun _=>0) x y 0:=
 ⟨fun i hi=>by have:=h i hi;omega,fun S _ _=>k6 fun i _=>by simp⟩
theorem Ph {bs:List PB} {b:PB} (h:b∈bs):∃e,e<bs.length/\dc bs e=b:=by
 obtain⟨e,he,rfl⟩:=List.getElem_of_mem h
 exact⟨e,he,by simp[dc,List.getD_eq_getElem?_getD,he]⟩
theorem Kd (cnt:Nat) (hn:cnt<=1048576) (bs:List PB) (ok:pw cnt bs) (oV:bs.length<=1048576) (dZ:∀e,e<bs.length->0<=(dc bs e).s/\(dc bs e).s<=4) (x y:Nat) (hx:x<cnt) (hy:y<cnt) (Uh:x≠y):
  nf Tryz.prog 239 [.int .i64 cnt,.sl (bs.map aL),.int .i64 x,.int .i64 y] fun r=>∃f val,r=.fD [.dQ (gJ cnt bs f),.int .i64 val]/\lg bs f x y val/\∃S:Nat->Bool,S x=true/\S y=false/\val=jP S bs:=by
 refine nf.body eI rfl fun hl σ=>?_
 clear hl
 (try((repeat(revert N;apply Pn.out));refine wk @Nat.zero_add ?_;(repeat(apply Pn.mk;intro N hN))))
 refine .inr (az _ _ _ _ _ (fun r σ1 hq=>?_) (Ni cnt hn bs ok oV _))
 obtain⟨X,A,F,rfl,hX,hS⟩:=hq
 apply hN
 clear hN N
 have hS0:∀f val,lg bs f x y val->val<=jP (fun v=>decide (v=x)) bs:=fun f val hf=>hf.bound (decide_eq_true rfl) (decide_eq_false fun h=>Uh h.symm)
 have htot:=Ic (S:=fun v=>decide (v=x)) bs fun b hb=>by
  obtain⟨e,he,rfl⟩:=Ph hb
  exact(dZ e he).2
 generalize jP (fun v=>decide (v=x)) bs=T at *
 (try((repeat(revert N;apply Pn.out));refine wk @Nat.zero_add ?_;(repeat(apply Pn.mk;intro N hN))))
 refine bf (fun m env st=>∃(f:Nat->Int) (val:Int),m=(T-val).toNat/\0<=val/\env 10=.ptr X 0 0/\env 11=.int .i64 val/\lg bs f x y val/\p9 cnt bs f X A F st.get σ1.next/\σ1.next<=st.next) T.toNat ⟨_,0,by simp,ah,by(simp only[go_sem, ↓reduceIte,Nat.reduceEqDiff,Nat.reduceAdd,Nat.reduceSub,Nat.reduceLeDiff,reduceCtorEq]),by(simp only[go_sem, ↓reduceIte,Nat.reduceEqDiff,Nat.reduceAdd,Nat.reduceSub,Nat.reduceLeDiff,reduceCtorEq]),lg.zero dZ,hS.frame (fun i hi=>rfl) (Nat.le_refl _),bc⟩ ?_
 rintro m env_b st_b ⟨f,val,rfl,pK,b10,b11,hf,hN1,hle⟩ fh
 have b2:=fh 2 (by kernel_rfl)
 have b3:=fh 3 (by kernel_rfl)
 simp only[go_sem, ↓reduceIte,Nat.reduceEqDiff,Nat.reduceAdd,Nat.reduceSub,Nat.reduceLeDiff,reduceCtorEq]at b2 b3
 clear fh
 (try((repeat(revert N;apply Pn.out));refine wk (tw @b2 (tw @b3 @b10)) ?_;(repeat(apply Pn.mk;intro N hN))))
 refine .inr (az _ _ _ _ _ (fun r σ2 hq=>?_) (S8 cnt hn bs ok oV dZ f x y hx hy Uh val hf X A F ⟨st_b.get,_⟩ σ1.next hN1 bc))
 obtain⟨b,f',rfl,YD,oZ,_,lS,hyes⟩:=hq
 (try dsimp only at oZ)
 apply hN
 clear hN N
 cases b with
 |true=>
  have mU:=hyes rfl
  have Iu:=hS0 _ _ hf
  have A9:=hS0 _ _ mU
  have hw:IntKind.i64.wrap (val+1)=val+1:=cq ah
  (try((repeat(revert N;apply Pn.out));refine wk (tw @b10 (tw @b11 @hw)) ?_;(repeat(apply Pn.mk;intro N hN))))
  exact⟨_,ah,f',val+1,rfl,ah,sd @b10,sd (tw @b11 @hw),mU,YD,bc⟩
 |false=>
  obtain⟨rfl,S,h1,h2,h3⟩:=lS rfl
  (try((repeat(revert N;apply Pn.out));refine wk (tw @b10 @b11) ?_;(repeat(apply Pn.mk;intro N hN))))
  have hz:=YD.fz0
  exact⟨[.ptr X 0 0,.int .i64 val],sd @Nat.zero_add,.fD [.dQ (gJ cnt bs f'),.int .i64 val],by simp only[fb,bp,ai,ar,hz,aB,Option.map_some],f',val,rfl,hf,S,h1,h2,h3⟩
theorem Ke (cnt:Nat) (hn:cnt<=1048576) (bs:List PB) (ok:pw cnt bs) (oV:bs.length<=1048576) (f:Nat->Int) (hs:Small bs f) (y:Nat) (hy:y<cnt):
  jV Tryz.prog 240 [.dQ (gJ cnt bs f),.int .i64 y] fun r=>∃l:List Nat,r=.sl (l.map eN)/\l.length<=cnt:=by
 refine jV.body eI rfl fun hl n0=>?_
 clear hl
 have hz:∀g:Rows,dx (ea g) 6 [.dQ (gJ cnt bs f),.int .i64 (y:Int)]=some [.dQ (gJ cnt bs f),.int .i64 y]:=fun g=>by simp only[ai,ar,aP,aB,Option.map_some]
 (try((repeat(revert N;apply Pn.out));refine wk @Nat.zero_add ?_;(repeat(apply Pn.mk;intro N hN))))
 refine .inr (az _ _ _ _ _ (fun r σ1 hq=>?_) ((IW cnt hn bs ok oV f hs y hy).x mixed (hz _)))
 obtain⟨⟨out,rfl,T8⟩,rfl⟩:=hq
 apply hN
 clear hN N
 (try((repeat(revert N;apply Pn.out));refine wk @gJ.eq_1 ?_;(repeat(apply Pn.mk;intro N hN))))
 refine bf (fun n env st=>∃k:Nat,n=(cnt)-k/\k<=(cnt)/\env 7=.int .i64 (k:Int)/\(∃(o:Id) (l:List Nat),env 6=.own o 0 l.length/\st.get o=some ⟨true,1,l.map eN⟩/\o.bG<st.next/\l.length<=k)) (cnt) ⟨0,ah,ah,sl @gJ.eq_1,⟨⟨240002000,n0+1+1+1⟩,[],by(simp only[go_sem, ↓reduceIte,Nat.reduceEqDiff,Nat.reduceAdd,Nat.reduceSub,Nat.reduceLeDiff,reduceCtorEq])<;>rfl,by(simp only[go_sem, ↓reduceIte,Nat.reduceEqDiff,Nat.reduceAdd,Nat.reduceSub,Nat.reduceLeDiff,reduceCtorEq])<;>rfl,bc,by simp⟩⟩ ?_
 rintro n_a env_a st_a ⟨k,rfl,ale,a7,kz⟩ dX
 have a0:=dX 0 (by kernel_rfl);have a5:=dX 5 (by kernel_rfl)
 simp only[go_sem, ↓reduceIte,Nat.reduceEqDiff,Nat.reduceAdd,Nat.reduceSub,Nat.reduceLeDiff,reduceCtorEq,gJ]at a0 a5
 clear dX
 obtain⟨o,l,a6,ag,uc,Iy⟩:=kz
 have pK:=db uc
 have gL:(l.map eN).length=l.length:=by simp
 by_cases hk:(k:Int)<(cnt:Int)
 ·have cV:∀{e:Env} {gg:Rows} {nx:Nat},(e 7=.int .i64 (IntKind.i64.wrap ((k:Int)+1)))->(∃(o:Id) (l:List Nat),e 6=.own o 0 l.length/\gg o=some ⟨true,1,l.map eN⟩/\o.bG<nx/\l.length<=(k+1))->∃m0,m0<(cnt)-k/\∃k:Nat,m0=(cnt)-k/\k<=(cnt)/\e 7=.int .i64 (k:Int)/\(∃(o:Id) (l:List Nat),e 6=.own o 0 l.length/\gg o=some ⟨true,1,l.map eN⟩/\o.bG<nx/\l.length<=k):=fun x1 x2=>⟨_,ah,k+1,rfl,ah,(by rw[x1,aE ah]),x2⟩
  have y4:=eC (f:=out) (show k<cnt by omega)
  rw[aC]at y4
  have e1:l.length+1<=16777216:=ah
  by_cases h0:0<=out k
  ·(try((repeat(revert N;apply Pn.out));refine wk (tw @a7 (tw @a0 (tw @a5 (tw @a6 (tw @ag (tw @pK (tw @hk (tw @y4 (tw @h0 (tw @e1 (tw @gL @gJ.eq_1))))))))))) ?_;(repeat(apply Pn.mk;intro N hN))))
   exact cV (sd (tw @a7 (tw @a0 (tw @a5 @gJ.eq_1)))) (⟨⟨240007003,st_a.next+1+1⟩,l++[k],by rw[List.length_append];simp only[go_sem, ↓reduceIte,Nat.reduceEqDiff,Nat.reduceAdd,Nat.reduceSub,Nat.reduceLeDiff,reduceCtorEq,List.length_cons,List.length_nil],by rw[List.map_append,List.map_cons,List.map_nil];simp only[go_sem, ↓reduceIte,Nat.reduceEqDiff,Nat.reduceAdd,Nat.reduceSub,Nat.reduceLeDiff,reduceCtorEq,eN],bc,by simp;omega⟩)
  ·(try((repeat(revert N;apply Pn.out));refine wk (tw @a7 (tw @a0 (tw @a5 (tw @a6 (tw @ag (tw @pK (tw @hk (tw @y4 (tw @h0 (tw @gL @gJ.eq_1)))))))))) ?_;(repeat(apply Pn.mk;intro N hN))))
   exact cV (sd (tw @a7 (tw @a0 (tw @a5 @gJ.eq_1)))) (⟨o,l,sd @a6,sd @ag,bc,ah⟩)
 ·(try((repeat(revert N;apply Pn.out));refine wk (tw @a7 (tw @a0 (tw @a5 (tw @a6 (tw @hk @gJ.eq_1))))) ?_;(repeat(apply Pn.mk;intro N hN))))
  have vH:gS st_a.get 6 (.own o 0 l.length)=some (.sl (l.map eN)):=fH ag rfl fun b=>S3 _ 4 b
  exact⟨_,rfl,_,by simp only[go_sem, ↓reduceIte,Nat.reduceEqDiff,Nat.reduceAdd,Nat.reduceSub,Nat.reduceLeDiff,reduceCtorEq,fb];exact vH,l,rfl,ah⟩
theorem ES (v1 v2:Int) (l1 l2:List Nat) (h1:l1.length<=1048576) (h2:l2.length<=1048576):
  jV Tryz.prog 241 [.int .i64 v1,.sl (l1.map eN),.int .i64 v2,.sl (l2.map eN)] fun r=>∃b,r=.bool b/\(v1<v2->b=true)/\(v2<v1->b=false):=by
 refine jV.body eI rfl fun hl n0=>?_
 clear hl
 have ret:∀{t:Nat} {env:Env} {σ:aw} {b:Bool} {x:Ex},(x=.ret∨x=.normal)->env t=.bool b->((v1<v2->b=true)/\(v2<v1->b=false))->lU [.tmp t] (fun r0 σ'=>∃r',gS σ'.get 6 r0=some r'/\∃b,r'=.bool b/\(v1<v2->b=true)/\(v2<v1->b=false)) x env σ:=by
  intro t env σ b x hx he hb
  have:∃vs,ga env σ.get [.tmp t]=some vs/\∃r',gS σ.get 6 (fb vs)=some r'/\∃b,r'=.bool b/\(v1<v2->b=true)/\(v2<v1->b=false):=⟨[env t],rfl,.bool b,by rw[he];exact fN _ _ _,b,rfl,hb⟩
  rcases hx with rfl|rfl
  ·exact this
  ·exact this
 have m1:(l1.map eN).length=l1.length:=by simp
 have m2:(l2.map eN).length=l2.length:=by simp
 by_cases hv:v1=v2
 ·have hd:decide (v1=v2)=true:=decide_eq_true hv
  by_cases Iy:(l1.length:Int)=(l2.length:Int)
  ·have nJ:decide ((l1.length:Int)=(l2.length:Int))=true:=decide_eq_true Iy
   have WS:decide (l1.length=l2.length)=true:=decide_eq_true ah
   (try((repeat(revert N;apply Pn.out));refine wk (tw @hd (tw @nJ (tw @WS (tw @m1 @m2)))) ?_;(repeat(apply Pn.mk;intro N hN))))
   refine bf (fun n env st=>∃k:Nat,n=(l1.length)-k/\k<=(l1.length)/\env 9=.int .i64 (k:Int)) (l1.length) ⟨0,ah,ah,sl @Nat.zero_add⟩ ?_
   rintro n_a env_a st_a ⟨k,rfl,ale,a9⟩ dX
   have a1:=dX 1 (by kernel_rfl);have a3:=dX 3 (by kernel_rfl)
   simp only[go_sem, ↓reduceIte,Nat.reduceEqDiff,Nat.reduceAdd,Nat.reduceSub,Nat.reduceLeDiff,reduceCtorEq]at a1 a3
   clear dX
   by_cases hk:(k:Int)<(l1.length:Int)
   ·have cV:∀{e:Env},(e 9=.int .i64 (IntKind.i64.wrap ((k:Int)+1)))->∃m0,m0<(l1.length)-k/\∃k:Nat,m0=(l1.length)-k/\k<=(l1.length)/\e 9=.int .i64 (k:Int):=fun x1=>⟨_,ah,k+1,rfl,ah,(by rw[x1,aE ah])⟩
    have g1:(l1.map eN)[k]? =some (eN (l1.getD k 0)):=getD_map eN ah
    have g2:(l2.map eN)[k]? =some (eN (l2.getD k 0)):=getD_map eN ah
    rw[eN]at g1 g2
    by_cases he:((l1.getD k 0:Nat):Int)=((l2.getD k 0:Nat):Int)
    ·have Tx:decide (((l1.getD k 0:Nat):Int)=((l2.getD k 0:Nat):Int))=true:=decide_eq_true he
     have hd5:decide (l1.getD k 0=l2.getD k 0)=true:=decide_eq_true ah
     (try((repeat(revert N;apply Pn.out));refine wk (tw @a9 (tw @a1 (tw @a3 (tw @hk (tw @m1 (tw @g1 (tw @g2 (tw @Tx @hd5)))))))) ?_;(repeat(apply Pn.mk;intro N hN))))
     exact cV (sd (tw @a9 (tw @a1 @a3)))
    ·have Tx:decide (((l1.getD k 0:Nat):Int)=((l2.getD k 0:Nat):Int))=false:=decide_eq_false he
     have hd5:decide (l1.getD k 0=l2.getD k 0)=false:=decide_eq_false ah
     (try((repeat(revert N;apply Pn.out));refine wk (tw @a9 (tw @a1 (tw @a3 (tw @hk (tw @m1 (tw @g1 (tw @g2 (tw @Tx @hd5)))))))) ?_;(repeat(apply Pn.mk;intro N hN))))
     exact ret (.inl rfl) (by simp only[go_sem, ↓reduceIte,Nat.reduceEqDiff,Nat.reduceAdd,Nat.reduceSub,Nat.reduceLeDiff,reduceCtorEq];rfl) ⟨fun h=>ah,fun h=>ah⟩
   ·(try((repeat(revert N;apply Pn.out));refine wk (tw @a9 (tw @a1 (tw @a3 (tw @hk @m1)))) ?_;(repeat(apply Pn.mk;intro N hN))))
    exact ret (b:=false) (.inl rfl) (sd @Nat.zero_add) ⟨fun h=>ah,fun h=>ah⟩
  ·have nJ:decide ((l1.length:Int)=(l2.length:Int))=false:=decide_eq_false Iy
   have WS:decide (l1.length=l2.length)=false:=decide_eq_false ah
   (try((repeat(revert N;apply Pn.out));refine wk (tw @hd (tw @nJ (tw @WS (tw @m1 @m2)))) ?_;(repeat(apply Pn.mk;intro N hN))))
   exact ret (.inl rfl) (by simp only[go_sem, ↓reduceIte,Nat.reduceEqDiff,Nat.reduceAdd,Nat.reduceSub,Nat.reduceLeDiff,reduceCtorEq];rfl) ⟨fun h=>ah,fun h=>ah⟩
 ·have hd:decide (v1=v2)=false:=decide_eq_false hv
  (try((repeat(revert N;apply Pn.out));refine wk @hd ?_;(repeat(apply Pn.mk;intro N hN))))
  exact ret (b:=decide (v1<v2)) (.inl rfl) (sd @Nat.zero_add) ⟨fun h=>decide_eq_true h,fun h=>decide_eq_false ah⟩
def yj (bs:List PB) (cnt:Nat) (j4:Int) (k:Nat):Prop:=(k=1/\j4= -1)∨(0<=j4/\(∀z,1<=z->z<k->∀S:Nat->Bool,S 0=true->S z=false->j4<=jP S bs)/\∃S:Nat->Bool,S 0=true/\(∃z,z<cnt/\S z=false)/\j4=jP S bs)
theorem lg.nn {bs:List PB} {val:Int} {S:Nat->Bool} (dZ:∀e,e<bs.length->0<=(dc bs e).s/\(dc bs e).s<=4) (h:val=jP S bs):0<=val:=by
 rw[h,yH]
 have:=rG (f:=fun _=>0) (g:=fun i=>if S (dc bs i).a=S (dc bs i).b then 0 else(dc bs i).s) (n:=bs.length) fun i hi=>by
  have:=dZ i hi
  split<;>omega
 rw[k6 fun _ _=>rfl]at this
 exact this
theorem yj.done {bs:List PB} {cnt:Nat} {j4:Int} (hc:2<=cnt) (h:yj bs cnt j4 cnt) (t:Int):t<=j4↔l5 cnt bs t:=by
 rcases h with⟨h,_⟩|⟨_,h1,S,h2,⟨z,hz,kJ⟩,h3⟩
 ·omega
 ·constructor
  ·intro ht S h0 ⟨y,hy,hy2⟩
   have:y≠0:=by rintro rfl;rw[h0]at hy2;cases hy2
   have:=h1 y ah hy S h0 hy2
   omega
  ·intro hH
   rw[h3];exact hH S h2 ⟨z,hz,kJ⟩
theorem Cw (cnt:Nat) (h2:2<=cnt) (hn:cnt<=1048576) (bs:List PB) (ok:pw cnt bs) (oV:bs.length<=1048576) (dZ:∀e,e<bs.length->0<=(dc bs e).s/\(dc bs e).s<=4):
  nf Tryz.prog 194 [.int .i64 cnt,.sl (bs.map aL)] fun r=>∃j4 p,r=.fD [.int .i64 j4,p]/\∀t:Int,t<=j4↔l5 cnt bs t:=by
 refine nf.body eI rfl fun hl σ=>?_
 clear hl
 (try((repeat(revert N;apply Pn.out));refine wk @Nat.zero_add ?_;(repeat(apply Pn.mk;intro N hN))))
 have z0:∀(g:Rows) (id:Id),g id=some ⟨true,1,[]⟩->V.fz (ea g) 6 (.own id 0 0)=some (.sl (([]:List Nat).map eN))/\V.fz g 5 (.own id 0 0)=some (.sl (([]:List Nat).map eN)):=fun g id h=>by
  have h':ea g id=some ⟨true,1,[]⟩:=by simp[ea,h]
  constructor
  ·rw[jb];simp only[h',if_true];rw[if_pos (by simp)];simp[qo]
  ·rw[jb];simp only[h,if_true];rw[if_pos (by simp)];simp[qo]
 refine bf (fun m env st=>∃(k:Nat) (j4:Int) (l:List Nat) (p:AV),m=cnt-k/\1<=k/\k<=cnt/\env 8=.int .i64 (k:Int)/\env 6=.int .i64 j4/\env 7=p/\V.fz (ea st.get) 6 p=some (.sl (l.map eN))/\V.fz st.get 5 p=some (.sl (l.map eN))/\l.length<=cnt/\yj bs cnt j4 k) (cnt-1) ⟨1,-1,[],.own ⟨194002000,σ.next+1+1⟩ 0 0,rfl,ah,ah,by(simp only[go_sem, ↓reduceIte,Nat.reduceEqDiff,Nat.reduceAdd,Nat.reduceSub,Nat.reduceLeDiff,reduceCtorEq])<;>rfl,by(simp only[go_sem, ↓reduceIte,Nat.reduceEqDiff,Nat.reduceAdd,Nat.reduceSub,Nat.reduceLeDiff,reduceCtorEq])<;>rfl,by(simp only[go_sem, ↓reduceIte,Nat.reduceEqDiff,Nat.reduceAdd,Nat.reduceSub,Nat.reduceLeDiff,reduceCtorEq])<;>rfl,(z0 _ _ (sd @Nat.zero_add)).1,(z0 _ _ (sd @Nat.zero_add)).2,by simp,.inl ⟨rfl,rfl⟩⟩ ?_
 rintro m env_b st_b ⟨k,j4,l,p,rfl,tk,vJ,b8,b6,b7,y7,kJ,hl,hB⟩ fh
 have b0:=fh 0 (by kernel_rfl)
 have b1:=fh 1 (by kernel_rfl)
 simp only[go_sem, ↓reduceIte,Nat.reduceEqDiff,Nat.reduceAdd,Nat.reduceSub,Nat.reduceLeDiff,reduceCtorEq]at b0 b1
 clear fh z0
 by_cases hk:(k:Int)<(cnt:Int)
 ·have fC:k<cnt:=ah
  have hFl:=Kd cnt hn bs ok oV dZ 0 k ah fC ah
  rw[show(((0:Nat):Int))=0 from rfl]at hFl
  (try((repeat(revert N;apply Pn.out));refine wk (tw @b0 (tw @b1 (tw @b6 (tw @b7 (tw @b8 @hk))))) ?_;(repeat(apply Pn.mk;intro N hN))))
  refine .inr (az _ _ _ _ _ (fun r σ1 hq=>?_) (hFl.x mixed))
  obtain⟨⟨f,val,rfl,hf,S,PK,JP,VB⟩,rfl⟩:=hq
  apply hN
  clear hN N
  have P0:=zN dZ hf.le
  have vL:=lg.nn (val:=val) dZ VB
  (try((repeat(revert N;apply Pn.out));refine wk (tw @b0 (tw @b1 (tw @b6 (tw @b7 @b8)))) ?_;(repeat(apply Pn.mk;intro N hN))))
  refine .inr (az _ _ _ _ _ (fun r σ1 hq=>?_) ((Ke cnt hn bs ok oV f P0 k fC).x mixed (by simp only[ai,ar,aP,aB,Option.map_some])))
  obtain⟨⟨l',rfl,O1⟩,rfl⟩:=hq
  apply hN
  clear hN N
  have hw:IntKind.i64.wrap ((k:Int)+1)=((k+1:Nat):Int):=aE ah
  have X4:(∀z,1<=z->z<k->∀S:Nat->Bool,S 0=true->S z=false->val<=jP S bs)->yj bs cnt val (k+1):=fun h=>.inr ⟨vL,fun z y7 kJ S' h0 h1=>by
   by_cases w8:z=k
   ·subst w8;exact hf.bound h0 h1
   ·exact h z y7 ah S' h0 h1,S,PK,⟨k,fC,JP⟩,VB⟩
  by_cases ll:j4<0
  ·have zZ:k=1:=by
    rcases hB with⟨h,_⟩|⟨h,_⟩
    ·exact h
    ·omega
   (try((repeat(revert N;apply Pn.out));refine wk (tw @b0 (tw @b1 (tw @b6 (tw @b7 (tw @b8 (tw @ll @hw)))))) ?_;(repeat(apply Pn.mk;intro N hN))))
   refine⟨_,?_,k+1,val,l',.sl (l'.map eN),rfl,ah,ah,sd (tw @b8 @hw),sd @Nat.zero_add,sd @Nat.zero_add,bP _ _ _,bP _ _ _,O1,X4 fun z h1 h2=>ah⟩
   omega
  ·have zZ:(∀z,1<=z->z<k->∀S:Nat->Bool,S 0=true->S z=false->j4<=jP S bs)/\∃S:Nat->Bool,S 0=true/\(∃z,z<cnt/\S z=false)/\j4=jP S bs:=by
    rcases hB with⟨_,h⟩|⟨_,h⟩
    ·omega
    ·exact h
   (try((repeat(revert N;apply Pn.out));refine wk (tw @b0 (tw @b1 (tw @b6 (tw @b7 (tw @b8 (tw @ll @hw)))))) ?_;(repeat(apply Pn.mk;intro N hN))))
   refine .inr (az _ _ _ _ _ (fun r σ1 hq=>?_) ((ES val j4 l' l ah ah).x mixed (by simp only[ai,ar,bP,aB,y7,Option.map_some])))
   obtain⟨⟨b,rfl,Iu,A9⟩,rfl⟩:=hq
   apply hN
   clear hN N
   cases b with
   |true=>
    have VQ:val<=j4:=by
     rcases Int.lt_or_le j4 val with h|h
     ·exact absurd (A9 h) (by simp)
     ·exact h
    (try((repeat(revert N;apply Pn.out));refine wk (tw @b0 (tw @b1 (tw @b6 (tw @b7 (tw @b8 @hw))))) ?_;(repeat(apply Pn.mk;intro N hN))))
    refine⟨_,?_,k+1,val,l',.sl (l'.map eN),rfl,ah,ah,sd (tw @b8 @hw),sd @Nat.zero_add,sd @Nat.zero_add,bP _ _ _,bP _ _ _,O1,X4 fun z h1 h2 S' h3 h4=>by have:=zZ.1 z h1 h2 S' h3 h4;omega⟩
    omega
   |false=>
    have VQ:j4<=val:=by
     rcases Int.lt_or_le val j4 with h|h
     ·exact absurd (Iu h) (by simp)
     ·exact h
    (try((repeat(revert N;apply Pn.out));refine wk (tw @b0 (tw @b1 (tw @b6 (tw @b7 (tw @b8 @hw))))) ?_;(repeat(apply Pn.mk;intro N hN))))
    refine⟨_,?_,k+1,j4,l,p,rfl,ah,ah,sd (tw @b8 @hw),sd @b6,sd @b7,y7,kJ,hl,.inr ⟨ah,fun z h1 h2 S' h3 h4=>?_,zZ.2⟩⟩
    ·omega
    ·by_cases w8:z=k
     ·subst w8;have:=hf.bound h3 h4;omega
     ·exact zZ.1 z h1 ah S' h3 h4
 ·have lN:k=cnt:=ah
  (try((repeat(revert N;apply Pn.out));refine wk (tw @b0 (tw @b1 (tw @b6 (tw @b7 (tw @b8 @hk))))) ?_;(repeat(apply Pn.mk;intro N hN))))
  exact⟨[.int .i64 j4,p],sd @Nat.zero_add,.fD [.int .i64 j4,.sl (l.map eN)],by simp only[fb,bp,ai,ar,kJ,aB,Option.map_some],j4,_,rfl,yj.done h2 (lN▸hB)⟩
def L4 (Q:Nat->Prop) [DecidablePred Q] (S:Nat->Bool) (bs:List PB):Int:=(bs.map fun b=>if Q b.a/\Q b.b then(if S b.a=S b.b then 0 else b.s)else 0).sum
theorem AS {P Q:Nat->Prop} [DecidablePred P] [DecidablePred Q] {S:Nat->Bool} (h:∀x,P x->Q x):∀{bs:List PB},(∀b∈bs,0<=b.s)->L4 P S bs<=L4 Q S bs
 |[],_=>Int.le_refl _
 |b::bs,hs=>by
  have ih:=AS (S:=S) h (bs:=bs) fun x hx=>hs x (List.mem_cons_of_mem _ hx)
  have h0:=hs b List.mem_cons_self
  unfold L4 at ih ⊢
  simp only[List.map_cons,List.sum_cons]
  have:(if P b.a/\P b.b then(if S b.a=S b.b then 0 else b.s)else 0)<=(if Q b.a/\Q b.b then(if S b.a=S b.b then 0 else b.s)else 0):=by
   by_cases hp:P b.a/\P b.b
   ·have hq:Q b.a/\Q b.b:=⟨h _ hp.1,h _ hp.2⟩
    rw[if_pos hp,if_pos hq];exact Int.le_refl _
   ·rw[if_neg hp]
    split
    ·split<;>omega
    ·exact Int.le_refl _
  omega
def LI (bs:List PB) (t:Int) (P:List Nat):Prop:=∀S:Nat->Bool,(∃x∈P,S x=true)->(∃y∈P,S y=false)->t<=L4 (·∈P) S bs
theorem UL {bs:List PB} {t:Int} {P Q:List Nat} (hs:∀b∈bs,0<=b.s) (hP:LI bs t P) (h:∀x∈P,x∈Q) {S:Nat->Bool} (hc:L4 (·∈Q) S bs<t):(∀x∈P,S x=true)∨∀x∈P,S x=false:=by
 by_cases h1:∃x∈P,S x=true
 ·refine .inl fun y hy=>?_
  cases h2:S y
  ·have:=hP S h1 ⟨y,hy,h2⟩
   have:=AS (P:=(·∈P)) (Q:=(·∈Q)) (S:=S) h hs
   omega
  ·rfl
 ·refine .inr fun y hy=>?_
  cases h2:S y
  ·rfl
  ·exact absurd ⟨y,hy,h2⟩ h1
structure Zx (n:Nat) (bs:List PB) (t:Int) (R:List (List Nat)):Prop where
 some:∀p∈R,p≠[]
 asc:∀p∈R,p.Pairwise (· < ·)
 lt:∀p∈R,∀x∈p,x<n
 apart:R.Pairwise fun p q=>∀x∈p,x∉q
 solid:∀P:List Nat,P≠[]->(∀x∈P,x<n)->LI bs t P->∃p∈R,∀x∈P,x∈p
theorem HH {f g:Nat->Int}:∀{n:Nat},(∀i,i<n->f i<=g i)->lr f n=lr g n->∀i,i<n->f i=g i
 |0,_,_,i,hi=>absurd hi ah
 |n+1,h,he,i,hi=>by
  simp only[lr]at he
  have h1:=rG (n:=n) fun i hi=>h i ah
  have h2:=h n ah
  by_cases gh:i=n
  ·subst gh;omega
  ·have e:lr f n=lr g n:=ah
   exact HH (n:=n) (fun i hi=>h i ah) e i ah
end Go.Proofs.YtainmfbpilopaaaGreatDoor.V

namespace Go.Proofs.YtainmfbpilopaaaGreatDoor.V
end Go.Proofs.YtainmfbpilopaaaGreatDoor.V

namespace Go.Proofs.YtainmfbpilopaaaGreatDoor.V
open Go.RowKit
inductive rL:List AV->List AV->Prop
 |nil:rL [] []
 |same (a) {l l'}:rL l l'->rL (a::l) (a::l')
 |ptr (cs rest) {l l'}:rL l l'->rL (.dQ (cs++rest)::l) (.dQ cs::l')
 |bU {l l'}:rL l l'->rL (.bU::l) (.sl []::l')
theorem QP {P:Program} {w:World} {D:Nat->Prop} {ι:Names} {cs rest:List AV} {v:Value} (h:dm P w D ι (.dQ (cs++rest)) v):dm P w D ι (.dQ cs) v:=by
 obtain⟨b,o,vs,rfl,h1,h2,h3,h4⟩:=mv h
 exact .eP _ _ (.dQ cs b o vs h1 (fun a ha=>h2 a (List.mem_append_left _ ha)) (fun j hj=>h3 j (by rw[List.length_append];omega)) fun j a ha=>h4 j a (by
  have:=(List.getElem?_eq_some_iff.1 ha).1
  rw[List.getElem?_append_left this];exact ha))
theorem QR {P:Program} {w:World} {D:Nat->Prop} {ι:Names} {v:Value} (h:dm P w D ι .bU v):dm P w D ι (.sl []) v:=by
 cases h with
 |eP _ _ h=>
  cases h with
  |bU=>exact .eP _ _ (.Dn none 0 (Nat.zero_le _))
theorem rL.len {l l':List AV} (h:rL l l'):l'.length=l.length:=by induction h<;>simp_all
theorem rL.get {P:Program} {w:World} {D:Nat->Prop} {ι:Names} {l l':List AV} (h:rL l l'):∀{j:Nat} {a':AV},l'[j]? =some a'->∃a,l[j]? =some a/\∀v,dm P w D ι a v->dm P w D ι a' v:=by
 induction h with
 |nil=>intro j a' hj;simp at hj
 |same a _ ih=>
  intro j a' hj
  cases j with
  |zero=>simp at hj;subst hj;exact⟨a,rfl,fun _ h=>h⟩
  |succ j=>exact ih (by simpa using hj)
 |ptr cs rest _ ih=>
  intro j a' hj
  cases j with
  |zero=>simp at hj;subst hj;exact⟨_,rfl,fun _ h=>QP h⟩
  |succ j=>exact ih (by simpa using hj)
 |bU _ ih=>
  intro j a' hj
  cases j with
  |zero=>simp at hj;subst hj;exact⟨_,rfl,fun _ h=>QR h⟩
  |succ j=>exact ih (by simpa using hj)
theorem Call.cut {P:Program} (hm:P.follows .mixedOrders=true) {f:Nat} {args args':List AV} {σ:aw} {K:AV->aw->Prop} (hc:rL args args') (h:Call P f args' σ K):Call P f args σ K:=
 eW fun hs D ι w vs S U A=>gD hm h hs D ι w vs S U ⟨by rw[A.1,hc.len],fun j a' hj=>by
  obtain⟨a,ha,hr⟩:=hc.get (P:=P) (w:=w) (D:=D) (ι:=ι) hj
  obtain⟨u,hu,hv⟩:=A.2 j a ha
  exact⟨u,hu,hr u hv⟩⟩
theorem au.cut {P:Program} (hm:P.follows .mixedOrders=true) {f:Nat} {args args':List AV} {r:AV} (hc:rL args args') (h:au P f args' r):au P f args r:=fun n=>(h n).cut hm hc
end Go.Proofs.YtainmfbpilopaaaGreatDoor.V

namespace Go.Proofs.YtainmfbpilopaaaGreatDoor.V
open Go.RowKit
attribute [local irreducible] dW wpOps fu Call
theorem Q1 {s:ay} (hS:iz s) (a d:Int):rY s (dS (dU s a) d)<=4:=by
 have hF:=hS.form
 have gh:dS (dU s a) d=0∨(0<=dS (dU s a) d/\dS (dU s a) d<=s.aI.length):=by
  unfold dS dU
  rw[List.getD_eq_getElem?_getD,List.getD_eq_getElem?_getD]
  rcases ht:s.aj[a.toNat]? with _|t
  ·exact .inl (by simp[CK])
  ·have Xr:=List.mem_of_getElem? ht
   simp only[Option.getD_some]
   rcases hg:t.cz[d.toNat]? with _|g
   ·exact .inl rfl
   ·exact .inr (hF.wS t Xr g (List.mem_of_getElem? hg))
 unfold rY
 by_cases h0:dS (dU s a) d=0
 ·rw[if_pos h0];omega
 ·rw[if_neg h0]
  have hk:(dS (dU s a) d-1).toNat<s.aI.length:=ah
  have:=ej (hS.Yr _ hk).2.1
  unfold rO at this
  unfold sJ
  omega
theorem DI {s:ay} (hS:iz s) (a d b:Int):iw s a d b<=4:=by
 unfold iw
 split
 ·exact Q1 hS a d
 ·omega
theorem Jn {s:ay} {l:List aa} (hS:iz s) {i:Nat} (hi:i<l.length) {d:Int}:∀b∈oQ s l i d,b.a<l.length/\b.b<l.length/\0<=b.s/\b.s<=4:=by
 intro b hb
 unfold oQ at hb
 split at hb
 ·rename_i h
  simp only[List.mem_singleton]at hb
  subst hb
  exact⟨hi,(kb h.1).1,by simp only;omega,DI hS ..⟩
 ·cases hb
theorem AP {s:ay} {l:List aa} (hS:iz s):∀b∈du s l,b.a<l.length/\b.b<l.length/\0<=b.s/\b.s<=4:=by
 intro b hb
 simp only[du,iA,gR,List.mem_flatMap,List.mem_range]at hb
 obtain⟨i,hi,j,_,hb⟩:=hb
 exact Jn hS hi b hb
theorem sn {s:ay} {l:List aa} (hF:lJ l):(du s l).length<=1000:=by
 have:=wL s l l.length
 have:=hF.xD
 rw[du];omega
theorem LR {bs:List PB} {e:Nat} (h:e<bs.length):dc bs e∈bs:=by
 rw[dc,List.getD_eq_getElem?_getD,List.getElem?_eq_getElem h];exact List.getElem_mem h
theorem JZ {n:Nat} {bs:List PB} {t:Int} (h:n<2):l5 n bs t:=fun S h0 ⟨y,hy,hf⟩=>by
 have:y=0:=ah
 subst this;rw[h0]at hf;cases hf
def iY (s:ay) (l:List aa) (t:Int):Nat:=(leads l.length (eT (bh t (du s l)))).length
noncomputable def pM (s:ay) (l:List aa) (t:Int):Bool:=@decide (qS l.length (du s l) t) (Classical.propDecidable _)
def vn (s:ay) (l:List aa) (t:Int):Int:=if 64<iY s l t then 4 else 0
theorem oF {s:ay} {l:List aa} {t:Int} {p:Prop} [Decidable p] (h:p↔qS l.length (du s l) t):decide p=pM s l t:=by
 letI:=Classical.propDecidable (qS l.length (du s l) t)
 unfold pM
 by_cases hp:p
 ·rw[decide_eq_true hp];exact(decide_eq_true (h.1 hp)).symm
 ·rw[decide_eq_false hp];exact(decide_eq_false fun k=>hp (h.2 k)).symm
theorem EU (s:ay) (l:List aa) (t:Int) (hS:iz s) (hA:jN s l):au Tryz.prog 140 [.dQ (ae s),.dQ [.sl (l.map ab)],.int .i64 t] (.fD [.bool (pM s l t),.int .i64 (vn s l t)]):=by
 refine au.body eI rfl fun hl n0=>?_
 clear hl
 have hb:=AP (l:=l) hS
 have oV:=sn (s:=s) hA.1
 have vG:=hA.1.xD
 have Bb:=G6 s l hS.form hA
 have O4:=ET l.length ah (du s l) (fun b h=>⟨(hb b h).1,(hb b h).2.1⟩) ah t
 have hL:=xd (bh t (du s l))
 have gh:=Hx hL (fun b h=>⟨(hb b h).1,(hb b h).2.1⟩)
 have hlen:=(pg (eT (bh t (du s l))) (du s l)).2
 have nH:=kN l.length (eT (bh t (du s l)))
 have fm:(l.map ab).length=l.length:=by simp
 by_cases xE:(64:Int)<(iY s l t:Int)
 ·have xF:64<iY s l t:=ah
  have hd:pM s l t=false:=(oF (p:=False) ⟨False.elim,fun h=>by have:=h.1;unfold iY at xF;omega⟩).symm.trans (by simp)
  rw[iY]at xE
  (have zF:=tw @ae.eq_1 (tw @xE @fm);(repeat(first|((repeat(revert N;apply Pn.out));refine wk zF ?_;(repeat(apply Pn.mk;intro N hN)))|((try apply Or.inl);refine⟨_,au.x (Bb) (sd zF),?_⟩;apply hN;clear hN N)|((try apply Or.inl);refine⟨_,au.x (O4) (sd zF),?_⟩;apply hN;clear hN N)));try clear zF)
  exact ki (.inl rfl) (r1:=.bool false) (r2:=.int .i64 4) (sd @Nat.zero_add) (sd @Nat.zero_add) (by rw[hd,vn,if_pos xF];simp only[fK,cu,cZ,fN,eL,Option.map_some])
 have xF:¬64<iY s l t:=ah
 have hf:vn s l t=0:=by rw[vn,if_neg xF]
 by_cases h2:(iY s l t:Int)<2
 ·have hd:pM s l t=true:=(oF (p:=True) ⟨fun _=>⟨by unfold iY at xF;omega,JZ (by unfold iY at h2;omega)⟩,fun _=>trivial⟩).symm.trans (by simp)
  rw[iY]at xE h2
  (have zF:=tw @ae.eq_1 (tw @xE (tw @h2 @fm));(repeat(first|((repeat(revert N;apply Pn.out));refine wk zF ?_;(repeat(apply Pn.mk;intro N hN)))|((try apply Or.inl);refine⟨_,au.x (Bb) (sd zF),?_⟩;apply hN;clear hN N)|((try apply Or.inl);refine⟨_,au.x (O4) (sd zF),?_⟩;apply hN;clear hN N)));try clear zF)
  exact ki (.inl rfl) (r1:=.bool true) (r2:=.int .i64 0) (sd @Nat.zero_add) (sd @Nat.zero_add) (by rw[hd,hf];simp only[fK,cu,cZ,fN,eL,Option.map_some])
 have Uf:=Cw (iY s l t) ah (by unfold iY;omega) (fM (eT (bh t (du s l))) (du s l)) (fun e he=>by have:=gh _ (LR he);exact⟨this.1,this.2.1,this.2.2.1⟩) ah (fun e he=>by
  obtain⟨_,_,_,c,hc,dY⟩:=gh _ (LR he)
  rw[dY];have:=hb c hc;omega)
 rw[iY]at xE h2 Uf
 (have zF:=tw @ae.eq_1 (tw @xE (tw @h2 @fm));(repeat(first|((repeat(revert N;apply Pn.out));refine wk zF ?_;(repeat(apply Pn.mk;intro N hN)))|((try apply Or.inl);refine⟨_,au.x (Bb) (sd zF),?_⟩;apply hN;clear hN N)|((try apply Or.inl);refine⟨_,au.x (O4) (sd zF),?_⟩;apply hN;clear hN N)));try clear zF)
 refine .inr (az _ _ _ _ _ (fun r σ1 hq=>?_) (Uf.x mixed))
 obtain⟨⟨j4,p,rfl,WN⟩,rfl⟩:=hq
 apply hN
 clear hN N
 (try((repeat(revert N;apply Pn.out));refine wk @Nat.zero_add ?_;(repeat(apply Pn.mk;intro N hN))))
 exact ki (.inl rfl) (r1:=.bool (decide (t<=j4))) (r2:=.int .i64 0) (sd @Nat.zero_add) (sd @Nat.zero_add) (by
  rw[hf,oF (s:=s) (l:=l) (t:=t) (p:=t<=j4) ((WN t).trans (GQ.trans ⟨fun h=>⟨by unfold iY at xF;omega,h⟩,fun h=>h.2⟩))]
  simp only[fK,cu,cZ,fN,eL,Option.map_some])
theorem vU (t:Int):au Tryz.prog 139 [.int .i64 t] (.bool (iE t 1 16)):=by
 refine au.body eI rfl fun hl n0=>?_
 clear hl
 have h:=lT t 1 16
 (repeat(first|((repeat(revert N;apply Pn.out));refine wk @Nat.zero_add ?_;(repeat(apply Pn.mk;intro N hN)))|((try apply Or.inl);refine⟨_,au.x (h) (sd @Nat.zero_add),?_⟩;apply hN;clear hN N)))
 exact bQ (b:=iE t 1 16) (.inl rfl) (sd @Nat.zero_add) rfl
structure rN (s:ax):Prop where
 set:iz s.aD
 Ft:jN s.aD s.bH.aj
 some:1<=s.bH.aj.length
 K3:iE s.aA 1 16=true
 holds:qS s.bH.aj.length (du s.aD s.bH.aj) s.aA
noncomputable def jw (s:ax):Bool:=@decide (rN s) (Classical.propDecidable _)
theorem mD {s:ax}:jw s=true↔rN s:=by simp[jw]
theorem lf {s:ax} (h:¬rN s):false=jw s:=by simp[jw,h]
theorem FA {s:ax} (h:rN s):true=jw s:=by simp[jw,h]
theorem rE {s:ay} {l:List aa} {t:Int}:pM s l t=true↔qS l.length (du s l) t:=by simp[pM]
theorem Qo (s:ax) (hn:iy s.aD) (hg:s.aD.aI.length<=1048576) (ht:s.aD.aj.length<=1048576):au Tryz.prog 79 [.dQ (aM s)] (.bool (jw s)):=by
 refine au.body eI rfl fun hl n0=>?_
 clear hl
 have h1:=(Qk s.aD hn hg ht).cut mixed (.ptr _ [.sl (s.bH.aj.map ab),.int .i64 s.aA] .nil)
 by_cases hS:iz s.aD
 ·rw[qL.2 hS]at h1
  have h2:=(Qm s.aD s.bH.aj).cut mixed (.ptr _ [.sl (s.bH.aj.map ab),.int .i64 s.aA] (.ptr _ [.int .i64 s.aA] .nil))
  by_cases hA:jN s.aD s.bH.aj
  ·rw[nW.2 hA]at h2
   by_cases h0:(s.bH.aj.length:Int)=0
   ·have hd:decide ((s.bH.aj.length:Int)=0)=true:=decide_eq_true h0
    have lS:false=jw s:=lf fun h=>by have:=h.some;omega
    generalize fm:(s.bH.aj.map ab).length=len at *
    (have zF:=tw @aM.eq_1 (tw @ae.eq_1 @hd);(repeat(first|((repeat(revert N;apply Pn.out));refine wk zF ?_;(repeat(apply Pn.mk;intro N hN)))|((try apply Or.inl);refine⟨_,au.x (h1) (sd zF),?_⟩;apply hN;clear hN N)|((try apply Or.inl);refine⟨_,au.x (h2) (sd zF),?_⟩;apply hN;clear hN N)));try clear zF)
    exact bQ (b:=false) (.inl rfl) (sd @Nat.zero_add) lS
   ·have hd:decide ((s.bH.aj.length:Int)=0)=false:=decide_eq_false h0
    have h3:=vU s.aA
    cases hT:iE s.aA 1 16
    ·rw[hT]at h3
     (have zF:=tw @aM.eq_1 (tw @ae.eq_1 @hd);(repeat(first|((repeat(revert N;apply Pn.out));refine wk zF ?_;(repeat(apply Pn.mk;intro N hN)))|((try apply Or.inl);refine⟨_,au.x (h1) (sd zF),?_⟩;apply hN;clear hN N)|((try apply Or.inl);refine⟨_,au.x (h2) (sd zF),?_⟩;apply hN;clear hN N)|((try apply Or.inl);refine⟨_,au.x (h3) (sd zF),?_⟩;apply hN;clear hN N)));try clear zF)
     exact bQ (b:=false) (.inl rfl) (sd @Nat.zero_add) (lf fun h=>by have:=h.K3;rw[hT]at this;cases this)
    ·rw[hT]at h3
     have h4:=(EU s.aD s.bH.aj s.aA hS hA).cut mixed (.ptr _ [.sl (s.bH.aj.map ab),.int .i64 s.aA] (.ptr _ [.int .i64 s.aA] (.same _ .nil)))
     cases hB:pM s.aD s.bH.aj s.aA
     ·rw[hB]at h4
      (have zF:=tw @aM.eq_1 (tw @ae.eq_1 @hd);(repeat(first|((repeat(revert N;apply Pn.out));refine wk zF ?_;(repeat(apply Pn.mk;intro N hN)))|((try apply Or.inl);refine⟨_,au.x (h1) (sd zF),?_⟩;apply hN;clear hN N)|((try apply Or.inl);refine⟨_,au.x (h2) (sd zF),?_⟩;apply hN;clear hN N)|((try apply Or.inl);refine⟨_,au.x (h3) (sd zF),?_⟩;apply hN;clear hN N)|((try apply Or.inl);refine⟨_,au.x (h4) (sd zF),?_⟩;apply hN;clear hN N)));try clear zF)
      exact bQ (b:=false) (.inl rfl) (sd @Nat.zero_add) (lf fun h=>by have:=rE.2 h.holds;rw[hB]at this;cases this)
     ·have hP:=rE.1 hB
      have hf:vn s.aD s.bH.aj s.aA=0:=by
       have:=hP.1
       rw[vn,if_neg (by unfold iY;omega)]
      rw[hB,hf]at h4
      (have zF:=tw @aM.eq_1 (tw @ae.eq_1 @hd);(repeat(first|((repeat(revert N;apply Pn.out));refine wk zF ?_;(repeat(apply Pn.mk;intro N hN)))|((try apply Or.inl);refine⟨_,au.x (h1) (sd zF),?_⟩;apply hN;clear hN N)|((try apply Or.inl);refine⟨_,au.x (h2) (sd zF),?_⟩;apply hN;clear hN N)|((try apply Or.inl);refine⟨_,au.x (h3) (sd zF),?_⟩;apply hN;clear hN N)|((try apply Or.inl);refine⟨_,au.x (h4) (sd zF),?_⟩;apply hN;clear hN N)));try clear zF)
      exact bQ (b:=true) (.inl rfl) (sd @Nat.zero_add) (FA ⟨hS,hA,ah,hT,hP⟩)
  ·have hb:tD s.aD s.bH.aj=false:=Bool.eq_false_iff.2 fun h=>hA (nW.1 h)
   rw[hb]at h2
   (repeat(first|((repeat(revert N;apply Pn.out));refine wk (tw @aM.eq_1 @ae.eq_1) ?_;(repeat(apply Pn.mk;intro N hN)))|((try apply Or.inl);refine⟨_,au.x (h1) (sd (tw @aM.eq_1 @ae.eq_1)),?_⟩;apply hN;clear hN N)|((try apply Or.inl);refine⟨_,au.x (h2) (sd (tw @aM.eq_1 @ae.eq_1)),?_⟩;apply hN;clear hN N)))
   exact bQ (b:=false) (.inl rfl) (sd @Nat.zero_add) (lf fun h=>hA h.Ft)
 ·have hb:uH s.aD=false:=Bool.eq_false_iff.2 fun h=>hS (qL.1 h)
  rw[hb]at h1
  (repeat(first|((repeat(revert N;apply Pn.out));refine wk (tw @aM.eq_1 @ae.eq_1) ?_;(repeat(apply Pn.mk;intro N hN)))|((try apply Or.inl);refine⟨_,au.x (h1) (sd (tw @aM.eq_1 @ae.eq_1)),?_⟩;apply hN;clear hN N)))
  exact bQ (b:=false) (.inl rfl) (sd @Nat.zero_add) (lf fun h=>hS h.set)
theorem Q0 {s:ay} (hS:iz s) (a d:Int):0<=rY s (dS (dU s a) d):=by
 have hF:=hS.form
 have gh:dS (dU s a) d=0∨(0<=dS (dU s a) d/\dS (dU s a) d<=s.aI.length):=by
  unfold dS dU
  rw[List.getD_eq_getElem?_getD,List.getD_eq_getElem?_getD]
  rcases ht:s.aj[a.toNat]? with _|t
  ·exact .inl (by simp[CK])
  ·have Xr:=List.mem_of_getElem? ht
   simp only[Option.getD_some]
   rcases hg:t.cz[d.toNat]? with _|g
   ·exact .inl rfl
   ·exact .inr (hF.wS t Xr g (List.mem_of_getElem? hg))
 unfold rY
 by_cases h0:dS (dU s a) d=0
 ·rw[if_pos h0];omega
 ·rw[if_neg h0]
  have hk:(dS (dU s a) d-1).toNat<s.aI.length:=ah
  have:=ej (hS.Yr _ hk).2.1
  unfold rO at this
  unfold sJ
  omega
theorem yz {s:ay} (hS:iz s) (a d b:Int):0<=iw s a d b/\iw s a d b<=4:=by
 refine⟨?_,DI hS a d b⟩
 unfold iw
 split
 ·exact Q0 hS a d
 ·omega
def dr (s:ay) (f:aq->Int) (p:aq) (t:Int):Nat->Int
 |0=>0
 |d+1=>dr s f p t d+if 0<=f (bR p d)then iw s t d (f (bR p d))else 0
def nj (s:ay) (f:aq->Int) (p:aq) (t:Int):Int:=dr s f p t 4
theorem lh {s:ay} (hS:iz s) (f:aq->Int) (p:aq) (t:Int):∀d,0<=dr s f p t d/\dr s f p t d<=4*(d:Int)
 |0=>⟨Int.le_refl _,Int.le_refl _⟩
 |d+1=>by
  have:=lh hS f p t d
  have hb:=yz hS t d (f (bR p d))
  simp only[dr]
  split<;>omega
theorem LO {s:ay} {l:List aa} (hA:jN s l) {p:aq} (h:0<=fG l p):eO s (fG l p)=true:=by
 unfold fG at h ⊢
 split at h
 ·rename_i h0
  rw[if_pos h0]
  exact hA.2 _ (gI (kb h0).1)
 ·omega
def yh (la lb:List aa):Bool:=la.all fun t=>decide (fG lb t.aQ=t.bK)
noncomputable def SA (s:ax) (l:List aa):Bool:=jw s&&tD s.aD l
theorem Wc {s:ax} {l:List aa}:SA s l=true↔rN s/\jN s.aD l:=by simp[SA,mD,nW]
noncomputable def overN (s:ax) (l:List aa):Int:=if SA s l then(if yh s.bH.aj l then 0 else 2)else 1
theorem FD {s:ay} {k:Nat} (h:k<s.aj.length):eO s k=true:=by
 unfold eO;exact jD ah
theorem BY {s:ay} {l:List aa} (hA:jN s l) (p:aq):fG l p<0↔ez l p<0:=by
 constructor
 ·intro h
  rcases Int.lt_or_le (ez l p) 0 with h0|h0
  ·exact h0
  ·exfalso
   obtain⟨h1,_⟩:=kb h0
   have h2:=(ej (hA.2 _ (gI h1))).1
   rw[fG,if_pos h0]at h
   omega
 ·intro h
  rw[fG,if_neg ah];omega
def jU (ps:List aq) (i:Nat):aq:=ps.getD i ⟨0,0⟩
theorem kU {ps:List aq} {i:Nat} (h:i<ps.length):jU ps i=ps[i]:=by simp[jU,List.getD_eq_getElem?_getD,h]
theorem CN {ps:List aq} {i:Nat} (h:i<ps.length):jU ps i∈ps:=by rw[kU h];exact List.getElem_mem h
theorem xj {ps:List aq} {i:Nat} (h:i<ps.length):(ps.map ad)[i]? =some (ad (jU ps i)):=by simp[jU,List.getD_eq_getElem?_getD,h]
def oM (ps:List aq):Prop:=ps.Pairwise fun a b=>jj a b=true
theorem oM.at_ {ps:List aq} (h:oM ps) {i j:Nat} (Be:i<j) (hj:j<ps.length):jj (jU ps i) (jU ps j)=true:=by
 rw[kU hj,kU ah]
 exact List.pairwise_iff_getElem.1 h i j ah hj Be
def kP (ps:List aq) (p:aq):Nat:=ps.findIdx fun q=> !jj q p
theorem CC (ps:List aq) (p:aq):kP ps p<=ps.length:=List.findIdx_le_length
theorem IK {ps:List aq} {p:aq} {x:Nat} (h:x<kP ps p):jj (jU ps x) p=true:=by
 have hx:x<ps.length:=Nat.lt_of_lt_of_le h (CC ps p)
 have:=List.not_of_lt_findIdx h
 rw[kU hx]
 simpa using this
theorem CB {ps:List aq} {p:aq} (hR:oM ps) {x:Nat} (h:kP ps p<=x) (hx:x<ps.length):jj (jU ps x) p=false:=by
 have h0:kP ps p<ps.length:=ah
 have h1:jj (jU ps (kP ps p)) p=false:=by
  have:=List.findIdx_getElem (p:=fun q=> !jj q p) (xs:=ps) (w:=h0)
  rw[kU h0]
  have e:(!jj ps[kP ps p] p)=true:=this
  simpa using e
 by_cases he:kP ps p=x
 ·rw[<-he];exact h1
 ·have h2:=hR.at_ (show kP ps p<x by omega) hx
  cases hc:jj (jU ps x) p
  ·rfl
  ·rw[iL h2 hc]at h1;cases h1
def rW (ps:List aq) (p:aq):List aq:=if kP ps p<ps.length/\jU ps (kP ps p)=p then ps else ps.take (kP ps p)++p::ps.drop (kP ps p)
theorem NV (ps:List aq) (p:aq):(rW ps p).length<=ps.length+1:=by
 unfold rW
 have:=CC ps p
 split
 ·omega
 ·simp;omega
theorem Nt (ps:List aq) (p x:aq):x∈rW ps p↔x=p∨x∈ps:=by
 unfold rW
 split
 ·rename_i h
  refine⟨.inr,fun hx=>hx.elim (fun e=>?_) id⟩
  rw[e,<-h.2];exact CN h.1
 ·have:x∈ps↔x∈ps.take (kP ps p)++ps.drop (kP ps p):=by rw[List.take_append_drop]
  rw[this]
  simp only[List.mem_append,List.mem_cons]
  constructor
  ·rintro(h|h|h)
   ·exact .inr (.inl h)
   ·exact .inl h
   ·exact .inr (.inr h)
  ·rintro(h|h|h)
   ·exact .inr (.inl h)
   ·exact .inl h
   ·exact .inr (.inr h)
theorem NW {ps:List aq} (hR:oM ps) (p:aq):oM (rW ps p):=by
 unfold rW
 split
 ·exact hR
 ·rename_i lS
  have hd:∀x∈ps.drop (kP ps p),jj p x=true:=fun x hx=>by
   obtain⟨j,hj,rfl⟩:=List.getElem_of_mem hx
   rw[List.length_drop]at hj
   rw[List.getElem_drop]
   have gZ:kP ps p+j<ps.length:=ah
   have h1:=CB (p:=p) hR (Nat.le_add_right _ j) gZ
   rw[<-kU gZ]
   refine ya h1 fun he=>?_
   by_cases h0:j=0
   ·subst h0
    exact lS ⟨ah,by simpa using he⟩
   ·have:=hR.at_ (show kP ps p<kP ps p+j by omega) gZ
    rw[he]at this
    have h2:=CB (p:=p) hR (Nat.le_refl _) (show kP ps p<ps.length by omega)
    rw[this]at h2;cases h2
  have ht:∀x∈ps.take (kP ps p),jj x p=true:=fun x hx=>by
   obtain⟨j,hj,rfl⟩:=List.getElem_of_mem hx
   rw[List.length_take]at hj
   rw[List.getElem_take]
   have:=IK (ps:=ps) (p:=p) (x:=j) ah
   rwa [kU ah]at this
  refine List.pairwise_append.2 ⟨hR.sublist (List.take_sublist _ _),List.pairwise_cons.2 ⟨hd,hR.sublist (List.drop_sublist _ _)⟩,fun x hx y hy=>?_⟩
  rcases List.mem_cons.1 hy with rfl|hy
  ·exact ht x hx
  ·exact iL (ht x hx) (hd y hy)
theorem IT:∀{ps qs:List aq},oM ps->oM qs->(∀x,x∈ps↔x∈qs)->ps=qs
 |[],[],_,_,_=>rfl
 |[],q::qs,_,_,h=>absurd ((h q).2 (by simp)) (by simp)
 |p::ps,[],_,_,h=>absurd ((h p).1 (by simp)) (by simp)
 |p::ps,q::qs,hp,hq,h=>by
  obtain⟨p1,p2⟩:=List.pairwise_cons.1 hp
  obtain⟨q1,q2⟩:=List.pairwise_cons.1 hq
  have e:p=q:=by
   rcases List.mem_cons.1 ((h p).1 (by simp))with e|e
   ·exact e
   ·rcases List.mem_cons.1 ((h q).2 (by simp))with e'|e'
    ·exact e'.symm
    ·have:=EX (q1 p e)
     rw[p1 q e']at this;cases this
  subst e
  congr 1
  refine IT p2 q2 fun x=>⟨fun hx=>?_,fun hx=>?_⟩
  ·rcases List.mem_cons.1 ((h x).1 (List.mem_cons_of_mem _ hx))with e|e
   ·subst e;have:=p1 x hx;rw[jc]at this;cases this
   ·exact e
  ·rcases List.mem_cons.1 ((h x).2 (List.mem_cons_of_mem _ hx))with e|e
   ·subst e;have:=q1 x hx;rw[jc]at this;cases this
   ·exact e
def V8 (σ:aw) (kp:Id->Prop) (ps:List aq) (r:AV) (σ':aw):Prop:=
 ∃o:Id,r=.own o 0 ps.length/\σ'.get o=some ⟨true,2,ps.map ad⟩/\σ.next<=σ'.next/\o.bG<σ'.next/\(σ.next<=o.bG∨¬kp o)/\∀x:Id,x.bG<σ.next->kp x->σ'.get x=σ.get x
theorem R8 {ps:List aq} {i:Nat} {q:aq}:(ps.map ad).set i (ad q)=(ps.set i q).map ad:=List.map_set.symm
def BP (ps:List aq) (p:aq) (i:Nat):List aq:=(ps++[p]).take (i+1)++ps.drop i
theorem rJ (ps:List aq) (p:aq) {i:Nat} (h:i<=ps.length):(BP ps p i).length=ps.length+1:=by simp[BP];omega
theorem UU {ps:List aq} {p:aq} {i j:Nat} (hi:i<=ps.length) (hj:j<i):jU (BP ps p i) j=jU ps j:=by
 unfold jU BP
 rw[List.getD_eq_getElem?_getD,List.getD_eq_getElem?_getD,List.getElem?_append_left (by simp;omega),List.getElem?_take,if_pos ah,List.getElem?_append_left ah]
theorem Lc (ps:List aq) (p:aq):BP ps p ps.length=ps++[p]:=by
 unfold BP
 rw[List.drop_length,List.append_nil,List.take_of_length_le (by simp)]
theorem OB {ps:List aq} {p:aq} {i:Nat} (hi:i<ps.length):(BP ps p (i+1)).set (i+1) (jU ps i)=BP ps p i:=by
 refine List.ext_getElem? fun j=>?_
 rw[List.getElem?_set,rJ ps p ah]
 unfold BP
 by_cases hj:i+1=j
 ·subst hj
  rw[if_pos rfl,if_pos ah,List.getElem?_append_right (by simp;omega)]
  simp only[List.length_take,List.length_append,List.length_cons,List.length_nil]
  rw[show i+1-min (i+1) (ps.length+(0+1))=0 by omega,List.getElem?_drop,Nat.add_zero,List.getElem?_eq_getElem hi,kU hi]
 ·rw[if_neg hj]
  by_cases eu:j<i+1
  ·rw[List.getElem?_append_left (by simp;omega),List.getElem?_append_left (by simp;omega),List.getElem?_take,List.getElem?_take,if_pos ah,if_pos eu]
  ·rw[List.getElem?_append_right (by simp;omega),List.getElem?_append_right (by simp;omega)]
   simp only[List.length_take,List.length_append,List.length_cons,List.length_nil,List.getElem?_drop]
   congr 1
   omega
theorem Q6 {ps:List aq} {p:aq} {i:Nat} (hi:i<=ps.length):(BP ps p i).set i p=ps.take i++p::ps.drop i:=by
 refine List.ext_getElem? fun j=>?_
 rw[List.getElem?_set,rJ ps p hi]
 unfold BP
 by_cases hj:i=j
 ·subst hj
  rw[if_pos rfl,if_pos ah,List.getElem?_append_right (by simp;omega)]
  simp[Nat.min_eq_left hi]
 ·rw[if_neg hj]
  by_cases eu:j<i
  ·rw[List.getElem?_append_left (by simp;omega),List.getElem?_append_left (by simp;omega),List.getElem?_take,List.getElem?_take,if_pos ah,if_pos eu,List.getElem?_append_left ah]
  ·rw[List.getElem?_append_right (by simp;omega),List.getElem?_append_right (by simp;omega)]
   simp only[List.length_take,List.length_append,List.length_cons,List.length_nil]
   rw[show j-min i ps.length=(j-i-1)+1 by omega,List.getElem?_cons_succ]
   congr 1
   omega
theorem Q8 {X:gx} {Q:Ex->Env->aw->Prop} {N:Env->aw->Prop} {c:VC} {env:Env} {σ:aw} {id:Nat} (I:Env->aw->Prop) (h2:∀e s,I e s->N e s) (h1:∀N':Env->aw->Prop,(∀e s,I e s->N' e s)->dW X c (aX id (da N' Q)) env σ):dW X c (aX id (da N Q)) env σ:=h1 N h2
theorem Az (ps:List aq) (hR:oM ps) (hlen:ps.length<=1048576) (p:aq) (o:Id) (σ:aw) (ho:σ.get o=some ⟨true,2,ps.map ad⟩) (uc:o.bG<σ.next):
  Call Tryz.prog 85 [.own o 0 ps.length,.agg (ad p)] σ (V8 σ (fun x=>(x=o)=False) (rW ps p)):=by
 refine eB eI rfl fun iD=>?_
 clear iD
 have pK:=db uc
 have YV:=CC ps p
 have ub:(ps.map ad).length=ps.length:=by simp
 (try((repeat(revert N;apply Pn.out));refine wk (tw @ad.eq_1 @pK) ?_;(repeat(apply Pn.mk;intro N hN))))
 refine Q8 (fun e s=>e 5=.int .i64 (kP ps p:Int)/\e 0=.own o 0 ps.length/\e 3=.ptr ⟨85000000,σ.next⟩ 0 0/\s.get ⟨85000000,σ.next⟩=some ⟨true,2,[ad p]⟩/\s.get o=some ⟨true,2,ps.map ad⟩/\σ.next<s.next/\∀x:Id,x.bG<σ.next->s.get x=σ.get x) ?_ ?_
 ·rintro e s ⟨f5,f0,f3,fg0,fg1,fn,ffr⟩
  apply hN
  clear hN N
  have P7:=db (i:=o) (n:=s.next) ah
  obtain⟨a,ha⟩:∃a,kP ps p=a:=⟨_,rfl⟩
  rw[ha]at f5 YV
  by_cases hex:a<ps.length/\jU ps a=p
  ·have eu:(a:Int)<(ps.length:Int):=ah
   have hg:=xj hex.1
   have hx:decide ((jU ps a).eS=p.eS)=true:=decide_eq_true (by rw[hex.2])
   have hy:decide ((jU ps a).eM=p.eM)=true:=decide_eq_true (by rw[hex.2])
   (try((repeat(revert N;apply Pn.out));refine wk (tw @f5 (tw @f0 (tw @f3 (tw @fg0 (tw @fg1 (tw @eu (tw @hg (tw @hx (tw @hy (tw @ub @ad.eq_1)))))))))) ?_;(repeat(apply Pn.mk;intro N hN))))
   have hp:rW ps p=ps:=by unfold rW;rw[ha,if_pos hex]
   rw[hp]
   exact er (.inl rfl) (vs:=[.own o 0 ps.length]) (sd @Nat.zero_add) ⟨o,rfl,sd @fg1,bc,bc,.inr (by simp),fun x hx _=>sd (ffr x hx)⟩
  refine FP (fun N hN=>?_)
  refine Dc (fun e s=>e 5=.int .i64 (a:Int)/\e 0=.own o 0 ps.length/\e 3=.ptr ⟨85000000,σ.next⟩ 0 0/\s.get ⟨85000000,σ.next⟩=some ⟨true,2,[ad p]⟩/\s.get o=some ⟨true,2,ps.map ad⟩/\σ.next<s.next/\∀x:Id,x.bG<σ.next->s.get x=σ.get x) ?_ ?_
  ·clear f5 f0 f3 fg0 fg1 fn ffr P7
   rintro e s ⟨f5,f0,f3,fg0,fg1,fn,ffr⟩
   apply hN
   clear hN N
   have P7:=db (i:=o) (n:=s.next) ah
   have VQ:=db (i:=⟨85000000,σ.next⟩) (n:=s.next) fn
   have e1:ps.length+1<=16777216:=ah
   have rT:ps.map ad++[[.int .i64 p.eS,.int .i64 p.eM]]=(BP ps p ps.length).map ad:=by rw[Lc];simp[ad]
   have nv:IntKind.i64.wrap ((ps.length:Int)+1-1)=(ps.length:Int):=by rw[cq ah];omega
   have hp:rW ps p=ps.take a++p::ps.drop a:=by unfold rW;rw[ha,if_neg hex]
   have RQ:((⟨85000000,σ.next⟩:Id)=o)=False:=by
    refine eq_false fun h=>?_
    rw[<-h]at uc;exact Nat.lt_irrefl _ uc
   (try((repeat(revert N;apply Pn.out));refine wk (tw @f5 (tw @f0 (tw @f3 (tw @fg0 (tw @fg1 (tw @P7 (tw @VQ (tw @RQ (tw @ub (tw @e1 (tw @rT (tw @nv (tw @Int.natCast_add (tw @Int.cast_ofNat_Int @ad.eq_1)))))))))))))) ?_;(repeat(apply Pn.mk;intro N hN))))
   refine bf (fun m env st=>∃i:Nat,m=i/\a<=i/\i<=ps.length/\env 6=.int .i64 (i:Int)/\st.get ⟨85006003,s.next⟩=some ⟨true,2,(BP ps p i).map ad⟩/\st.get ⟨85000000,σ.next⟩=some ⟨true,2,[ad p]⟩/\s.next<st.next/\∀x:Id,x.bG<σ.next->(x=o)=False->st.get x=σ.get x) ps.length ⟨ps.length,rfl,YV,Nat.le_refl _,sd (tw @nv (tw @Int.natCast_add @Int.cast_ofNat_Int)),sd @rT,sd (tw @fg0 (tw @VQ (tw @RQ @ad.eq_1))),bc,fun x hx Dm=>by
    have h1:=db (i:=x) (n:=s.next) ah
    have h2:=ffr x hx
    simp only[go_sem, ↓reduceIte,Nat.reduceEqDiff,Nat.reduceAdd,Nat.reduceSub,Nat.reduceLeDiff,reduceCtorEq,h1,h2,Dm]⟩ ?_
   rintro m env_b st_b ⟨i,hmi,bl,ble,b6,bg0,bg1,bn,fh⟩ bkp
   have b0:=bkp 0 (by kernel_rfl)
   have b3:=bkp 3 (by kernel_rfl)
   have b5:=bkp 5 (by kernel_rfl)
   simp only[go_sem, ↓reduceIte,Nat.reduceEqDiff,Nat.reduceAdd,Nat.reduceSub,Nat.reduceLeDiff,reduceCtorEq,f0,f3,f5,ad]at b0 b3 b5
   clear bkp
   have P4:((BP ps p i).map ad).length=ps.length+1:=by rw[List.length_map,rJ ps p ble]
   by_cases OU:(a:Int)<(i:Int)
   ·obtain⟨k,rfl⟩:∃k,i=k+1:=⟨i-1,ah⟩
    have fC:k<ps.length:=ah
    have mO:IntKind.i64.wrap (((k+1:Nat):Int)-1)=(k:Int):=by rw[cq ah];omega
    have hq:((BP ps p (k+1)).map ad)[k]? =some (ad (jU ps k)):=by rw[xj (by rw[rJ ps p ble];omega),UU ble (Nat.lt_succ_self _)]
    have z8:∃z,((BP ps p (k+1)).map ad)[k+1]? =some (ad z):=⟨_,xj (by rw[rJ ps p ble];omega)⟩
    obtain⟨z,z8⟩:=z8
    have ew:((BP ps p (k+1)).map ad).set (k+1) (ad (jU ps k))=(BP ps p k).map ad:=by rw[R8,OB fC]
    have c1:(k:Int)<(ps.length:Int)+1:=ah
    have c2:(k:Int)+1<(ps.length:Int)+1:=ah
    have c3:(0:Int)<=(k:Int)+1:=ah
    have c4:((k:Int)+1).toNat=k+1:=ah
    have c5:(a:Int)<(k:Int)+1:=ah
    have c6:IntKind.i64.wrap ((k:Int)+1-1)=(k:Int):=by rw[cq ah];omega
    rw[ad]at ew hq z8
    (try((repeat(revert N;apply Pn.out));refine wk (tw @b0 (tw @b3 (tw @b5 (tw @b6 (tw @bg0 (tw @bg1 (tw @OU (tw @mO (tw @hq (tw @z8 (tw @ew (tw @P4 (tw @c1 (tw @c2 (tw @c3 (tw @c4 (tw @c5 (tw @c6 (tw @Int.natCast_add @Int.cast_ofNat_Int))))))))))))))))))) ?_;(repeat(apply Pn.mk;intro N hN))))
    exact⟨k,ah,k,rfl,ah,ah,sd @c6,sd @ew,sd (tw @bg1 @RQ),bc,fun x hx Dm=>by
     have h1:=db (i:=x) (n:=s.next) ah
     have h2:=fh x hx Dm
     simp only[go_sem, ↓reduceIte,Nat.reduceEqDiff,Nat.reduceAdd,Nat.reduceSub,Nat.reduceLeDiff,reduceCtorEq,h1,h2]⟩
   ·obtain rfl:i=a:=ah
    have ew:((BP ps p i).map ad).set i (ad p)=(rW ps p).map ad:=by rw[R8,Q6 YV,hp]
    have z8:∃z,((BP ps p i).map ad)[i]? =some (ad z):=⟨_,xj (by rw[rJ ps p ble];omega)⟩
    obtain⟨z,z8⟩:=z8
    have lY:(rW ps p).length=ps.length+1:=by rw[hp];simp;omega
    have c1:(i:Int)<(ps.length:Int)+1:=ah
    rw[ad]at ew z8
    (try((repeat(revert N;apply Pn.out));refine wk (tw @b0 (tw @b3 (tw @b5 (tw @b6 (tw @bg0 (tw @bg1 (tw @OU (tw @z8 (tw @ew (tw @P4 (tw @c1 (tw @Int.natCast_add (tw @Int.cast_ofNat_Int @ad.eq_1))))))))))))) ?_;(repeat(apply Pn.mk;intro N hN))))
    rw[<-lY]
    exact er (.inl rfl) (vs:=[.own ⟨85006003,s.next⟩ 0 (rW ps p).length]) (sd (tw @b0 @lY)) ⟨⟨85006003,s.next⟩,rfl,sd @ew,bc,bc,.inl bc,fun x hx Dm=>by
     have h1:=db (i:=x) (n:=s.next) ah
     have h2:=fh x hx Dm
     simp only[go_sem, ↓reduceIte,Nat.reduceEqDiff,Nat.reduceAdd,Nat.reduceSub,Nat.reduceLeDiff,reduceCtorEq,h1,h2]⟩
  ·intro N hN
   by_cases Mw:(a:Int)<(ps.length:Int)
   ·have hg:=xj (ps:=ps) (i:=a) ah
    by_cases hx:(jU ps a).eS=p.eS
    ·have w7:decide ((jU ps a).eS=p.eS)=true:=decide_eq_true hx
     have Za:decide ((jU ps a).eM=p.eM)=false:=decide_eq_false fun h=>hex ⟨ah,zt hx h⟩
     (try((repeat(revert N;apply Pn.out));refine wk (tw @f5 (tw @f0 (tw @f3 (tw @fg0 (tw @fg1 (tw @Mw (tw @hg (tw @w7 (tw @Za (tw @ub @ad.eq_1)))))))))) ?_;(repeat(apply Pn.mk;intro N hN))))
     exact⟨sd @f5,sd @f0,sd @f3,sd (tw @fg0 @ad.eq_1),sd @fg1,bc,fun x hx=>sd (ffr x hx)⟩
    ·have w7:decide ((jU ps a).eS=p.eS)=false:=decide_eq_false hx
     (try((repeat(revert N;apply Pn.out));refine wk (tw @f5 (tw @f0 (tw @f3 (tw @fg0 (tw @fg1 (tw @Mw (tw @hg (tw @w7 (tw @Bool.false_and (tw @ub @ad.eq_1)))))))))) ?_;(repeat(apply Pn.mk;intro N hN))))
     exact⟨sd @f5,sd @f0,sd @f3,sd (tw @fg0 @ad.eq_1),sd @fg1,bc,fun x hx=>sd (ffr x hx)⟩
   ·(try((repeat(revert N;apply Pn.out));refine wk (tw @f5 (tw @f0 (tw @f3 (tw @fg0 (tw @fg1 (tw @Mw (tw @ub @ad.eq_1))))))) ?_;(repeat(apply Pn.mk;intro N hN))))
    exact⟨sd @f5,sd @f0,sd @f3,sd (tw @fg0 @ad.eq_1),sd @fg1,bc,fun x hx=>sd (ffr x hx)⟩
 intro N hN
 refine bf (fun m env st=>∃a:Nat,m=a/\kP ps p<=a/\a<=ps.length/\env 5=.int .i64 (a:Int)/\st.get ⟨85000000,σ.next⟩=some ⟨true,2,[ad p]⟩/\st.get o=some ⟨true,2,ps.map ad⟩/\σ.next<st.next/\∀x:Id,x.bG<σ.next->st.get x=σ.get x) ps.length ⟨ps.length,rfl,YV,Nat.le_refl _,sd @Nat.zero_add,sd @ad.eq_1,sd (tw @pK @ho),bc,fun x hx=>by have:=db hx;simp only[go_sem, ↓reduceIte,Nat.reduceEqDiff,Nat.reduceAdd,Nat.reduceSub,Nat.reduceLeDiff,reduceCtorEq,this]⟩ ?_
 rintro m env_a st_a ⟨a,hma,al,ale,a5,ag0,ag1,an,dX⟩ akp
 have a0:=akp 0 (by kernel_rfl)
 have a3:=akp 3 (by kernel_rfl)
 simp only[go_sem, ↓reduceIte,Nat.reduceEqDiff,Nat.reduceAdd,Nat.reduceSub,Nat.reduceLeDiff,reduceCtorEq,ad]at a0 a3
 clear akp
 by_cases h0:(0:Int)<(a:Int)
 ·obtain⟨b,rfl⟩:∃b,a=b+1:=⟨a-1,ah⟩
  have oV:b<ps.length:=ah
  have gj:(b:Int)<(ps.length:Int):=ah
  have hg:=xj oV
  have hw:IntKind.i64.wrap (((b+1:Nat):Int)-1)=(b:Int):=by rw[cq ah];omega
  have hq:=ni (jU ps b) p
  cases hc:jj (jU ps b) p
  ·rw[hc]at hq
   (have zF:=tw @a0 (tw @a3 (tw @a5 (tw @ag0 (tw @ag1 (tw @h0 (tw @gj (tw @hg (tw @hw (tw @ub @ad.eq_1)))))))));(repeat(first|((repeat(revert N;apply Pn.out));refine wk zF ?_;(repeat(apply Pn.mk;intro N hN)))|((try apply Or.inl);refine⟨_,au.x (hq) (sd zF),?_⟩;apply hN;clear hN N)));try clear zF)
   refine⟨b,ah,b,rfl,?_,ah,sd @hw,sd (tw @ag0 @ad.eq_1),sd @ag1,bc,fun x hx=>sd (dX x hx)⟩
   rcases Nat.lt_or_ge b (kP ps p)with h|h
   ·rw[IK h]at hc;cases hc
   ·exact h
  ·rw[hc]at hq
   have j9:kP ps p=b+1:=by
    rcases Nat.lt_or_ge b (kP ps p)with h|h
    ·omega
    ·have:=CB (p:=p) hR h oV
     rw[hc]at this;cases this
   (have zF:=tw @a0 (tw @a3 (tw @a5 (tw @ag0 (tw @ag1 (tw @h0 (tw @gj (tw @hg (tw @hw (tw @ub @ad.eq_1)))))))));(repeat(first|((repeat(revert N;apply Pn.out));refine wk zF ?_;(repeat(apply Pn.mk;intro N hN)))|((try apply Or.inl);refine⟨_,au.x (hq) (sd zF),?_⟩;apply hN;clear hN N)));try clear zF)
   exact⟨sd (tw @a5 @j9),sd @a0,sd @a3,sd (tw @ag0 @ad.eq_1),sd @ag1,bc,fun x hx=>sd (dX x hx)⟩
 ·have j9:kP ps p=a:=ah
  (try((repeat(revert N;apply Pn.out));refine wk (tw @a0 (tw @a3 (tw @a5 (tw @ag0 (tw @ag1 (tw @h0 (tw @ub @ad.eq_1))))))) ?_;(repeat(apply Pn.mk;intro N hN))))
  exact⟨sd (tw @a5 @j9),sd @a0,sd @a3,sd (tw @ag0 @ad.eq_1),sd @ag1,bc,fun x hx=>sd (dX x hx)⟩
end Go.Proofs.YtainmfbpilopaaaGreatDoor.V

namespace Go.Proofs.YtainmfbpilopaaaGreatDoor.V
open Go.RowKit Go.Shelf Go.Lib Go.Sort
instance:Inhabited aq:=⟨⟨0,0⟩⟩
variable {P:Program} {w:World} {D:Nat->Prop} {ι:Names}
theorem uz {vs:Array Value} (h:fQ P w D ι [] vs):vs= #[]:=Array.eq_empty_of_size_eq_zero h.1
theorem jL {a:AV} {r:List AV} {vs:Array Value} (h:fQ P w D ι (a::r) vs):∃u us,vs=(u::us).toArray/\dm P w D ι a u/\fQ P w D ι r us.toArray:=by
 obtain⟨h1,h2⟩:=h
 obtain⟨l⟩:=vs
 cases l with
 |nil=>simp at h1
 |cons u us=>
  obtain⟨u',hu,hr⟩:=h2 0 a rfl
  simp at hu;subst hu
  exact⟨u,us,rfl,hr,by simpa using h1,fun j b hj=>by
   obtain⟨v,hv,nr⟩:=h2 (j+1) b (by simpa using hj)
   exact⟨v,by simpa using hv,nr⟩⟩
def Rr:Prop:=∀(uR off cap:Nat) (d:Array aq) (w:World),HoldsK gz 2 w uR off d->uR<w.heap.size->d.size<4611686018427387904->
 Calls Tryz.prog 244 #[.slice (some ⟨uR,off,none⟩) d.size cap,.func (.func 189) #[] #[]] w fun e w'=>e=.returned (.tuple #[])/\∃d' n os,PermIn 0 d.size d d'/\SortedIn (ltOf qh) 0 d.size d'/\w'=sortWorldK gz 2 w uR off n d' os
def Rs:Prop:=∀(p:Option Addr) (cap:Nat) (fv:Value) (w:World),Calls Tryz.prog 244 #[.slice p 0 cap,fv] w fun e w'=>e=.returned (.tuple #[])/\w'=w
theorem Py (p:aq) (j:Nat) (a:AV) (h:(ad p)[j]? =some a) (P:Program) (w:World) (D:Nat->Prop) (ι:Names):dm P w D ι a (gz p)[j]! :=by
 match j,h with
 |0,h=>simp[ad]at h;subst h;exact .eP _ _ (.int _ _)
 |1,h=>simp[ad]at h;subst h;exact .eP _ _ (.int _ _)
 |j+2,h=>simp[ad]at h
theorem KT (hC:Rr) (hN:Rs) (ps:List aq) (hlen:ps.length<=1048576) (σ:aw) (id:Id) (hg:σ.get id=some ⟨true,2,ps.map ad⟩):
  Call Tryz.prog 244 [.own id 0 ps.length,.fn 189 []] σ fun r σ'=>σ'.next=σ.next/\(∀x,x≠id->σ'.get x=σ.get x)/\∃qs,σ'.get id=some ⟨true,2,qs.map ad⟩/\qs.length=ps.length/\(∀x,x∈qs↔x∈ps)/\∀i j:Nat,i<j->j<qs.length->jj (jU qs j) (jU qs i)=false:=by
 refine eW fun hs D ι w vs S U A=>?_
 obtain⟨u1,us1,rfl,h1,h2⟩:=jL A
 obtain⟨u2,us2,h3,h4,h5⟩:=jL h2
 simp at h3;subst h3
 have:=uz h5
 simp at this;subst this
 obtain⟨o,cap,B,rfl,hB,Ej,ho,rP,hmax,hk⟩:=je h1
 obtain⟨X8,gf,rfl,_,hz,_,_⟩:=wg h4
 have hz':X8= #[]:=Array.eq_empty_of_size_eq_zero (by simpa using hz)
 subst hz'
 by_cases h0:ps=[]
 ·subst h0
  refine(hN _ _ _ w).mono ?_
  rintro e w' ⟨rfl,rfl⟩
  exact⟨.fD [],σ.get,σ.next,D,ι,_,rfl,⟨rfl,fun _ _=>rfl,[],hg,rfl,fun x=>Iff.rfl,fun i j _ hj=>by simp at hj⟩,Step.refl _ _ _ _,S,U,Nat.le_refl _,.fD [] #[] (fun _=>Go.undef) rfl (fun j hj=>by simp at hj) (fun j a h=>by simp at h)⟩
 have lp:0<ps.length:=List.length_pos_iff.2 h0
 obtain⟨B',ec,R,j9,mV⟩:=S.row id _ hg
 rw[hB]at ec;injection ec with ec;subst ec
 replace R:=R.row hk
 have fI:B.sz=2:=R.sz
 have Dj:o=0:=by rcases ho with h|h<;>omega
 subst Dj
 obtain⟨cur,T,hblk,dY,tX⟩:=R.cur
 have yY:ps.length*2<=B.C:=by simpa using R.fits
 have hH:HoldsK gz 2 w B.b 0 ps.toArray:=by
  intro t ht
  rw[size_flatK]at ht
  have ht2:t<ps.length*2:=by simpa using ht
  have hi:t / 2<ps.length:=ah
  have Di:w.frozen? ⟨B.b,0+t,none⟩=false:=by
   simp only[World.frozen?,hblk];simp
  refine⟨?_,Di⟩
  rw[get_flatK _ _ _ _ ht]
  have hd:(ps.toArray)[t / 2]! =ps[t / 2]:=by simp[getElem!_pos,hi]
  rw[hd]
  have hj:t % 2=0∨t % 2=1:=ah
  have ht3:0+t=(t / 2)*2+t % 2:=ah
  rw[ht3]
  rcases hj with hj|hj
  ·obtain⟨v,hv,hr⟩:=R.at_ (t / 2) 0 (ad ps[t / 2]) _ (by simp[hi]) rfl
   rw[dR hr]at hv
   rw[hj];exact hv
  ·obtain⟨v,hv,hr⟩:=R.at_ (t / 2) 1 (ad ps[t / 2]) _ (by simp[hi]) rfl
   rw[dR hr]at hv
   rw[hj];exact hv
 have oV:B.b<w.heap.size:=(Array.getElem?_eq_some_iff.1 hblk).1
 have MC:=hC B.b 0 cap ps.toArray w hH oV (by simp;omega)
 rw[show ps.toArray.size=ps.length from by simp]at MC
 refine MC.mono ?_
 rintro e w' ⟨rfl,d',m,os,⟨Dk,_,r8⟩,hsort,rfl⟩
 have ME:d'.size=ps.length:=by rw[Dk];simp
 have VO:d'.toList.length=ps.length:=by simpa using ME
 have hP:d'.toList.Perm ps:=by
  have e1:d'.extract 0 ps.length=d':=by rw[<-ME];exact Array.extract_size
  have e2:ps.toArray.extract 0 ps.length=ps.toArray:=by
   have:ps.length=ps.toArray.size:=by simp
   rw[this];exact Array.extract_size
  rw[e1,e2]at r8
  simpa using r8
 have hF:∀t,t<ps.length*2->(flatK gz 2 d')[t]! =(gz d'[t / 2]!)[t % 2]! :=fun t ht=>get_flatK _ _ _ _ (by rw[ME];exact ht)
 have Wx:(flatK gz 2 d').size=ps.length*2:=by rw[size_flatK,ME]
 have hw:sortWorldK gz 2 w B.b 0 m d' os=Go.Sort.grow (Go.Sort.putRow (fun v:Value=>v) (Go.Sort.ahead w m) B.b 0 (flatK gz 2 d')) os:=rfl
 rw[hw]
 clear hw hH
 generalize flatK gz 2 d'=Fl at hF Wx ⊢
 have rS:=S.put (r':=⟨true,2,d'.toList.map ad⟩) (cur':=Go.Sort.putCells (fun v:Value=>v) 0 Fl cur) hg rfl hB hblk (by simp[Go.Sort.putCells]) rfl rfl (by simpa[ME]using yY) (fun cs dY=>by
   obtain⟨x,_,rfl⟩:=List.mem_map.1 dY;rfl) (fun cs dY a ha=>by
   obtain⟨x,_,rfl⟩:=List.mem_map.1 dY
   simp[ad]at ha;rcases ha with rfl|rfl<;>rfl) (fun i j cs a hi hj=>by
   have vI:i<d'.toList.length:=by
    have:=(List.getElem?_eq_some_iff.1 hi).1
    simpa using this
   have RN:j<2:=by
    have:=List.mem_of_getElem? hi
    obtain⟨x,_,rfl⟩:=List.mem_map.1 this
    exact(List.getElem?_eq_some_iff.1 hj).1
   have Tv:cs=ad d'[i]! :=by
    rw[List.getElem?_map,List.getElem?_eq_getElem vI]at hi
    simp at hi
    rw[<-hi,getElem!_pos d' i (by simpa using vI)]
   subst Tv
   have GW:i*2+j<ps.length*2:=ah
   refine⟨(gz d'[i]!)[j]!,?_,Py _ _ _ hj _ _ _ _⟩
   have nH:i*2+j<cur.size:=by rw[dY];omega
   show(Go.Sort.putCells (fun v:Value=>v) 0 Fl cur)[i*2+j]? = _
   simp only[Go.Sort.putCells,Array.getElem?_mapIdx,Array.getElem?_eq_getElem nH,Option.map_some]
   rw[if_pos ⟨Nat.zero_le _,by rw[Wx];omega⟩,Nat.sub_zero,hF _ GW,show(i*2+j) / 2=i from by omega,show(i*2+j) % 2=j from by omega])
 obtain⟨S1,tA⟩:=rS
 have GV:(Go.Sort.putRow (fun v:Value=>v) (Go.Sort.ahead w m) B.b 0 Fl).heap.size=w.heap.size:=by simp
 have Eo:∀k,k<(w.setRow B.b (Go.Sort.putCells (fun v:Value=>v) 0 Fl cur)).heap.size->(Go.Sort.grow (Go.Sort.putRow (fun v:Value=>v) (Go.Sort.ahead w m) B.b 0 Fl) os).heap[k]? =(w.setRow B.b (Go.Sort.putCells (fun v:Value=>v) 0 Fl cur)).heap[k]? :=fun k hk=>by
  have GO:k<w.heap.size:=by simpa using hk
  rw[heap_grow_old _ _ (by rw[GV];exact GO)]
  simp only[Go.Sort.putRow,Go.Sort.mapBlock,heap_ahead,Array.getElem?_modify]
  by_cases TG:B.b=k
  ·subst TG
   rw[setRow_heap w B.b cur _ T _ hblk,if_pos rfl,hblk];rfl
  ·rw[if_neg TG,setRow_other w B.b k _ (fun h=>TG h.symm)]
 have kJ:(w.setRow B.b (Go.Sort.putCells (fun v:Value=>v) 0 Fl cur)).heap.size<=(Go.Sort.grow (Go.Sort.putRow (fun v:Value=>v) (Go.Sort.ahead w m) B.b 0 Fl) os).heap.size:=by
  rw[size_grow,GV];simp
 have S2:=S1.stay (D':=D) (ι':=ι) Eo kJ (fun _ h=>h) (fun b hb=>Nat.lt_of_lt_of_le (S1.dead b hb) kJ) (fun _ h=>.inl h) (fun _ _ h=>h)
 have Pc:=tA.trans (Step.stay (D':=D) (ι':=ι) S1 Eo kJ (by simp[Go.Sort.grow,Go.Sort.putRow,Go.Sort.mapBlock,Go.Sort.ahead]) (by simp[Go.Sort.grow,Go.Sort.putRow,Go.Sort.mapBlock,Go.Sort.ahead]) (by simp[Go.Sort.grow,Go.Sort.putRow,Go.Sort.mapBlock,Go.Sort.ahead]) (fun _ h=>h) (fun _ h=>.inl h) (fun _ _ h=>h))
 refine⟨.fD [],bJ σ.get id ⟨true,2,d'.toList.map ad⟩,σ.next,D,ι,_,rfl,⟨rfl,fun x hx=>by simp[bJ,hx],d'.toList,by simp[bJ],VO,fun x=>hP.mem_iff,fun i j Be hj=>?_⟩,Pc,S2,U,Nat.le_refl _,.fD [] #[] (fun _=>Go.undef) rfl (fun j hj=>by simp at hj) (fun j a h=>by simp at h)⟩
 have h:=hsort i j (Nat.zero_le _) Be ah
 rw[ltOf,nk]at h
 have e1:d'[j]! =jU d'.toList j:=by rw[kU hj,getElem!_pos d' j (by simpa using hj)];rfl
 have hi:i<d'.toList.length:=ah
 have e2:d'[i]! =jU d'.toList i:=by rw[kU hi,getElem!_pos d' i (by simpa using hi)];rfl
 rw[<-e1,<-e2];exact h
end Go.Proofs.YtainmfbpilopaaaGreatDoor.V

namespace Go.Proofs
open Go.Shelf
def Tryz.Hz:Go.Shelf.Ren:=⟨fun|6=>244|15=>254|14=>270|28=>281|29=>282|20=>292|21=>293|22=>294|23=>295|24=>296|25=>297|26=>298|27=>299|46=>309|47=>302|48=>303|49=>310|50=>311|57=>315|n=>n,fun|22=>56|24=>51|25=>237|3=>3|39=>234|0=>0|53=>353|55=>174|4=>4|46=>347|45=>346|50=>213|5=>5|9=>9|66=>371|70=>375|76=>381|77=>382|n=>n,fun|n=>n⟩
theorem Tryz.Od:Go.Proofs.SlLaysF0.n6 Tryz.prog Tryz.Hz:={
 mixed:=by kernel_rfl
 f6:=⟨Tryz.f244.name,by decide,Tryz.func244.trans (congrArg some (by kernel_rfl))⟩
 f14:=⟨Tryz.f270.name,by decide,Tryz.func270.trans (congrArg some (by kernel_rfl))⟩
 f15:=Tryz.func254.trans (congrArg some (by kernel_rfl))
 f20:=⟨Tryz.f292.name,by decide,Tryz.func292.trans (congrArg some (by kernel_rfl))⟩
 f21:=⟨Tryz.f293.name,by decide,Tryz.func293.trans (congrArg some (by kernel_rfl))⟩
 f22:=⟨Tryz.f294.name,by decide,Tryz.func294.trans (congrArg some (by kernel_rfl))⟩
 f23:=⟨Tryz.f295.name,by decide,Tryz.func295.trans (congrArg some (by kernel_rfl))⟩
 f24:=⟨Tryz.f296.name,by decide,Tryz.func296.trans (congrArg some (by kernel_rfl))⟩
 f25:=⟨Tryz.f297.name,by decide,Tryz.func297.trans (congrArg some (by kernel_rfl))⟩
 f26:=⟨Tryz.f298.name,by decide,Tryz.func298.trans (congrArg some (by kernel_rfl))⟩
 f27:=⟨Tryz.f299.name,by decide,Tryz.func299.trans (congrArg some (by kernel_rfl))⟩
 f28:=Tryz.func281.trans (congrArg some (by kernel_rfl))
 f29:=Tryz.func282.trans (congrArg some (by kernel_rfl))
 f46:=⟨Tryz.f309.name,by decide,Tryz.func309.trans (congrArg some (by kernel_rfl))⟩
 f47:=Tryz.func302.trans (congrArg some (by kernel_rfl))
 f48:=Tryz.func303.trans (congrArg some (by kernel_rfl))
 f49:=⟨Tryz.f310.name,by decide,Tryz.func310.trans (congrArg some (by kernel_rfl))⟩
 f50:=⟨Tryz.f311.name,by decide,Tryz.func311.trans (congrArg some (by kernel_rfl))⟩
 f57:=⟨Tryz.f315.name,by decide,Tryz.func315.trans (congrArg some (by kernel_rfl))⟩
 t0:=Tryz.underlying0
 a0:=Tryz.isAgg0
 z0:=Tryz.sizeOf0
 v0:=Tryz.zeroValue0
 t3:=Tryz.underlying3
 a3:=Tryz.isAgg3
 z3:=Tryz.sizeOf3
 v3:=Tryz.zeroValue3
 t4:=Tryz.underlying4
 a4:=Tryz.isAgg4
 z4:=Tryz.sizeOf4
 v4:=Tryz.zeroValue4
 t5:=Tryz.underlying5
 a5:=Tryz.isAgg5
 z5:=Tryz.sizeOf5
 v5:=Tryz.zeroValue5
 t9:=Tryz.underlying9
 a9:=Tryz.isAgg9
 z9:=Tryz.sizeOf9
 v9:=Tryz.zeroValue9
 t22:=Tryz.underlying56
 a22:=Tryz.isAgg56
 z22:=Tryz.sizeOf56
 v22:=Tryz.zeroValue56
 t25:=Tryz.underlying237
 a25:=Tryz.isAgg237
 z25:=Tryz.sizeOf237
 v25:=Tryz.zeroValue237
 t39:=Tryz.underlying234
 a39:=Tryz.isAgg234
 z39:=Tryz.sizeOf234
 v39:=Tryz.zeroValue234
 t45:=Tryz.underlying346
 a45:=Tryz.isAgg346
 z45:=Tryz.sizeOf346
 v45:=Tryz.zeroValue346
 t46:=Tryz.underlying347
 a46:=Tryz.isAgg347
 z46:=Tryz.sizeOf347
 v46:=Tryz.zeroValue347
 t50:=Tryz.underlying213
 a50:=Tryz.isAgg213
 z50:=Tryz.sizeOf213
 v50:=Tryz.zeroValue213
 t53:=Tryz.underlying353
 a53:=Tryz.isAgg353
 z53:=Tryz.sizeOf353
 v53:=Tryz.zeroValue353
 t55:=Tryz.underlying174
 a55:=Tryz.isAgg174
 z55:=Tryz.sizeOf174
 v55:=Tryz.zeroValue174
 t66:=Tryz.underlying371
 a66:=Tryz.isAgg371
 z66:=Tryz.sizeOf371
 v66:=Tryz.zeroValue371
 t70:=Tryz.underlying375
 a70:=Tryz.isAgg375
 z70:=Tryz.sizeOf375
 v70:=Tryz.zeroValue375
 t76:=Tryz.underlying381
 a76:=Tryz.isAgg381
 z76:=Tryz.sizeOf381
 v76:=Tryz.zeroValue381
 t77:=Tryz.underlying382
 a77:=Tryz.isAgg382
 z77:=Tryz.sizeOf382
 v77:=Tryz.zeroValue382}
def Tryz.Hy:Go.Shelf.Ren:=⟨fun|6=>213|15=>254|14=>253|28=>281|29=>282|20=>273|21=>274|22=>275|23=>276|24=>277|25=>278|26=>279|27=>280|46=>301|47=>302|48=>303|49=>304|50=>305|57=>312|n=>n,fun|22=>29|24=>64|25=>261|3=>3|39=>234|0=>0|53=>353|55=>174|4=>4|46=>347|45=>346|50=>213|5=>5|9=>9|66=>371|70=>375|76=>381|77=>382|n=>n,fun|n=>n⟩
theorem Tryz.Ob:Go.Proofs.SlLaysF0.n6 Tryz.prog Tryz.Hy:={
 mixed:=by kernel_rfl
 f6:=⟨Tryz.f213.name,by decide,Tryz.func213.trans (congrArg some (by kernel_rfl))⟩
 f14:=⟨Tryz.f253.name,by decide,Tryz.func253.trans (congrArg some (by kernel_rfl))⟩
 f15:=Tryz.func254.trans (congrArg some (by kernel_rfl))
 f20:=⟨Tryz.f273.name,by decide,Tryz.func273.trans (congrArg some (by kernel_rfl))⟩
 f21:=⟨Tryz.f274.name,by decide,Tryz.func274.trans (congrArg some (by kernel_rfl))⟩
 f22:=⟨Tryz.f275.name,by decide,Tryz.func275.trans (congrArg some (by kernel_rfl))⟩
 f23:=⟨Tryz.f276.name,by decide,Tryz.func276.trans (congrArg some (by kernel_rfl))⟩
 f24:=⟨Tryz.f277.name,by decide,Tryz.func277.trans (congrArg some (by kernel_rfl))⟩
 f25:=⟨Tryz.f278.name,by decide,Tryz.func278.trans (congrArg some (by kernel_rfl))⟩
 f26:=⟨Tryz.f279.name,by decide,Tryz.func279.trans (congrArg some (by kernel_rfl))⟩
 f27:=⟨Tryz.f280.name,by decide,Tryz.func280.trans (congrArg some (by kernel_rfl))⟩
 f28:=Tryz.func281.trans (congrArg some (by kernel_rfl))
 f29:=Tryz.func282.trans (congrArg some (by kernel_rfl))
 f46:=⟨Tryz.f301.name,by decide,Tryz.func301.trans (congrArg some (by kernel_rfl))⟩
 f47:=Tryz.func302.trans (congrArg some (by kernel_rfl))
 f48:=Tryz.func303.trans (congrArg some (by kernel_rfl))
 f49:=⟨Tryz.f304.name,by decide,Tryz.func304.trans (congrArg some (by kernel_rfl))⟩
 f50:=⟨Tryz.f305.name,by decide,Tryz.func305.trans (congrArg some (by kernel_rfl))⟩
 f57:=⟨Tryz.f312.name,by decide,Tryz.func312.trans (congrArg some (by kernel_rfl))⟩
 t0:=Tryz.underlying0
 a0:=Tryz.isAgg0
 z0:=Tryz.sizeOf0
 v0:=Tryz.zeroValue0
 t3:=Tryz.underlying3
 a3:=Tryz.isAgg3
 z3:=Tryz.sizeOf3
 v3:=Tryz.zeroValue3
 t4:=Tryz.underlying4
 a4:=Tryz.isAgg4
 z4:=Tryz.sizeOf4
 v4:=Tryz.zeroValue4
 t5:=Tryz.underlying5
 a5:=Tryz.isAgg5
 z5:=Tryz.sizeOf5
 v5:=Tryz.zeroValue5
 t9:=Tryz.underlying9
 a9:=Tryz.isAgg9
 z9:=Tryz.sizeOf9
 v9:=Tryz.zeroValue9
 t22:=Tryz.underlying29
 a22:=Tryz.isAgg29
 z22:=Tryz.sizeOf29
 v22:=Tryz.zeroValue29
 t25:=Tryz.underlying261
 a25:=Tryz.isAgg261
 z25:=Tryz.sizeOf261
 v25:=Tryz.zeroValue261
 t39:=Tryz.underlying234
 a39:=Tryz.isAgg234
 z39:=Tryz.sizeOf234
 v39:=Tryz.zeroValue234
 t45:=Tryz.underlying346
 a45:=Tryz.isAgg346
 z45:=Tryz.sizeOf346
 v45:=Tryz.zeroValue346
 t46:=Tryz.underlying347
 a46:=Tryz.isAgg347
 z46:=Tryz.sizeOf347
 v46:=Tryz.zeroValue347
 t50:=Tryz.underlying213
 a50:=Tryz.isAgg213
 z50:=Tryz.sizeOf213
 v50:=Tryz.zeroValue213
 t53:=Tryz.underlying353
 a53:=Tryz.isAgg353
 z53:=Tryz.sizeOf353
 v53:=Tryz.zeroValue353
 t55:=Tryz.underlying174
 a55:=Tryz.isAgg174
 z55:=Tryz.sizeOf174
 v55:=Tryz.zeroValue174
 t66:=Tryz.underlying371
 a66:=Tryz.isAgg371
 z66:=Tryz.sizeOf371
 v66:=Tryz.zeroValue371
 t70:=Tryz.underlying375
 a70:=Tryz.isAgg375
 z70:=Tryz.sizeOf375
 v70:=Tryz.zeroValue375
 t76:=Tryz.underlying381
 a76:=Tryz.isAgg381
 z76:=Tryz.sizeOf381
 v76:=Tryz.zeroValue381
 t77:=Tryz.underlying382
 a77:=Tryz.isAgg382
 z77:=Tryz.sizeOf382
 v77:=Tryz.zeroValue382}
end Go.Proofs

namespace Go.Proofs.YtainmfbpilopaaaGreatDoor.V
open Go.RowKit Go.Shelf Go.Lib Go.Sort
theorem DO (w:World) (a b:Int):Calls Tryz.prog 233 #[.int .i64 a,.int .i64 b] w fun e w'=>e=.returned (.int .i64 (tO a b))/\w=w':=by
 go_enter Tryz.func233,Tryz.ntmps233
 go_wp2_with go_in
 all_goals
  go_ret
  exact⟨IS (by unfold tO;split<;>(try split)<;>omega),rfl⟩
theorem QE (w:World) (a b:Int) (g:Nat) (ha:w.cell? ⟨g,0,none⟩=some (.int .i64 a)) (hb:w.cell? ⟨g,1,none⟩=some (.int .i64 b)):Calls Tryz.prog 232 #[.slice (some ⟨g,0,none⟩) 2 2] w fun e w'=>e=.returned (.int .i64 (QF a b))/\w=w':=by
 go_enter Tryz.func232,Tryz.ntmps232
 go_wp2_with fail
 go_loop [8] (fun i=>∃k:Nat,k<=2/\i=.int .i64 k/\Hid ((1<=k->a=0)/\(2<=k->b=0))) (fun i=>2-(intOf i).toNat)
 case atStart=>exact⟨0,ah,rfl,Lib.hid ⟨fun h=>ah,fun h=>ah⟩⟩
 case round=>
  obtain⟨k,hk,rfl,hz⟩:=hrel
  have h3:k=0∨k=1∨k=2:=ah
  rcases h3 with rfl|rfl|rfl
  ·go_wp2_with fail
   ·rename_i h
    go_ret
    exact⟨IS (by unfold QF;simp_all),rfl⟩
   ·rename_i h
    go_round
    case rel=>exact⟨1,ah,rfl,Lib.hid ⟨fun _=>by simpa using h,fun h=>ah⟩⟩
    case measure=>simp[intOf]
  ·have h0:=hz.out.1 ah
   replace h0:=Lib.hid h0
   go_wp2_with fail
   ·go_ret
    exact⟨IS (by unfold QF;rw[if_pos h0.out]),rfl⟩
   ·rename_i h
    go_round
    case rel=>exact⟨2,ah,rfl,Lib.hid ⟨fun _=>h0.out,fun _=>by simpa using h⟩⟩
    case measure=>simp[intOf]
  ·have h0:=Lib.hid (hz.out.1 ah)
   have h1:=Lib.hid (hz.out.2 ah)
   go_wp2_with fail
   go_ret
   exact⟨IS (by unfold QF;rw[if_pos h0.out,h1.out]),rfl⟩
def Grown (w w':World):Prop:=∃(q:Nat) (os:Array Obj),w'=Go.Sort.grow (w.drewN q) os
theorem Grown.refl (w:World):Grown w w:=⟨0, #[],by rw[grow_empty];rfl⟩
theorem Grown.alloc {w w':World} (h:Grown w w') (o:Obj):Grown w (w'.alloc o):=by
 obtain⟨q,os,rfl⟩:=h
 exact⟨q,os++ #[o],by rw[alloc_eq_grow,grow_grow]⟩
theorem Grown.drew {w w':World} (h:Grown w w'):Grown w w'.drew:=by
 obtain⟨q,os,rfl⟩:=h
 exact⟨q+1,os,by rw[drew_grow];rfl⟩
theorem Grown.dN {w w':World} (h:Grown w w') (n:Nat):Grown w (w'.drewN n):=by
 obtain⟨q,os,rfl⟩:=h
 exact⟨q+n,os,by
  show Go.Sort.grow ((w.drewN q).drewN n) os=Go.Sort.grow (w.drewN (q+n)) os
  simp[World.drewN,Nat.add_assoc]⟩
theorem pD (w:World) (a b:aq):Calls Tryz.prog 189 #[.agg #[.int .i64 a.eS,.int .i64 a.eM],.agg #[.int .i64 b.eS,.int .i64 b.eM]] w fun e w'=>e=.returned (.int .i64 (qh a b))/\Grown w w':=by
 go_enter Tryz.func189,Tryz.ntmps189
 go_wp2_with fail
 go_region_held3 (fun w'=>w'.cell? ⟨w.heap.size,0,none⟩=some (.int .i64 a.eS)/\w'.cell? ⟨w.heap.size,1,none⟩=some (.int .i64 a.eM)/\
   w'.cell? ⟨w.heap.size+1,0,none⟩=some (.int .i64 b.eS)/\w'.cell? ⟨w.heap.size+1,1,none⟩=some (.int .i64 b.eM))
  (first|go_keep)
  (first|(go_at_call 233;refine(DO _ _ _).mono ?_;rintro e w' ⟨rfl,rfl⟩)|(go_at_call 232;refine(QE _ (tO a.eM b.eM) (tO a.eS b.eS) _ (by simp[go_sem]) (by simp[go_sem])).mono ?_;rintro e w' ⟨rfl,rfl⟩))
 go_wp2_with fail
 go_ret
 refine⟨rfl,?_⟩
 repeat(first|(with_reducible exact Grown.refl _)|(refine Grown.alloc ?_ _)|(refine Grown.drew ?_)|(refine Grown.dN ?_ _))
theorem swoP:SWO (ltOf qh) where
 irrefl x:=by rw[ltOf,nk];exact jc
 trans x y z h1 h2:=by rw[ltOf,nk]at *;exact iL h1 h2
 ntrans x y z h1 h2:=by rw[ltOf,nk]at *;rw[ot]at *;omega
theorem X2:Rr:=fun uR off cap d w hH hblk fI=>by
 have eg:∀args w,(callFunc 189 args).run Tryz.prog w=.ok (.enter 189 args) w:=enters_of Tryz.func189 (by kernel_rfl) rfl
 have h:=AnyQ.slices_SortFunc Tryz.Od 2 Tryz.isAgg51 Tryz.sizeOf51 gz (fun _=>rfl) (fun x v hv=>by simp[gz]at hv;rcases hv with rfl|rfl<;>rfl) qh swoP 189 #[] uR off cap d w eg (fun m os dk _ x y=>(pD _ x y).mono fun _ _ ⟨he,q,os',hw⟩=>⟨he,q,os',hw⟩) hH hblk fI
 exact h
theorem R9:Rs:=fun p cap fv w=>AnyF.slices_SortFunc_none Tryz.Od p cap fv w
end Go.Proofs.YtainmfbpilopaaaGreatDoor.V

namespace Go.Proofs.YtainmfbpilopaaaGreatDoor.V
open Go.RowKit
attribute [local irreducible] dW wpOps fu Call
abbrev mP:MK:=⟨true,[.tI,.tI]⟩
theorem E8 (p:aq):∀(ts:List aa) (i:Nat),gO mP (ad p) (ts.map ab) i=some (if rU ts p<ts.length then some (i+rU ts p)else none)
 |[],i=>by simp[gO,rU]
 |t::ts,i=>by
  have e:eK mP.ts (ad p) ((ab t).take mP.ks)=some (decide (p=t.aQ)):=by
   have h:(p=t.aQ)↔(p.eS=t.aQ.eS/\p.eM=t.aQ.eM):=⟨fun h=>by rw[h];exact⟨rfl,rfl⟩,fun h=>zt h.1 h.2⟩
   simp[MK.ks,ad,ab,eK,fj,h]
  have ih:=E8 p ts (i+1)
  rw[List.map_cons]
  unfold gO
  rw[e]
  by_cases h:p=t.aQ
  ·rw[decide_eq_true h]
   have h0:rU (t::ts) p=0:=by simp[rU,List.findIdx_cons,h]
   simp[h0]
  ·rw[decide_eq_false h]
   have h0:rU (t::ts) p=rU ts p+1:=by
    simp[rU,List.findIdx_cons,Ne.symm h]
   simp only[ih,h0,List.length_cons,Nat.add_lt_add_iff_right]
   congr 1
   split<;>simp;omega
theorem Bv (ts:List aa) (p:aq):gH mP (.agg [.int .i64 p.eS,.int .i64 p.eM]) (ts.map ab)=some (if 0<=ez ts p then some (ez ts p).toNat else none):=by
 have h:=E8 p ts 0
 unfold gH
 rw[if_pos ⟨rfl,rfl,rfl⟩]
 show gO mP (ad p) _ 0= _
 rw[h]
 unfold ez
 split<;>simp
theorem Kw {ts:List aa} {p:aq} (h:0<=ez ts p):gH mP (.agg [.int .i64 p.eS,.int .i64 p.eM]) (ts.map ab)=some (some (ez ts p).toNat):=by rw[Bv,if_pos h]
theorem sU {ts:List aa} {p:aq} (h:ez ts p<0):gH mP (.agg [.int .i64 p.eS,.int .i64 p.eM]) (ts.map ab)=some none:=by rw[Bv,if_neg ah]
structure Dq (g:Rows) (n:Nat) (c T O:Id) (s:ax) (ts:List aa):Prop where
 row:∃b,g c=some ⟨b,6,[[.sl (s.aD.aI.map cU),.sl (s.aD.aj.map ck),.sl (s.bH.aj.map ab),.int .i64 s.aA,.map T mP,.map O mP]]⟩
 tl:∃b,g T=some ⟨b,mP.lP,ts.map ab⟩
 cv:c.bG<n
 tv:T.bG<n
 ov:O.bG<n
theorem Dq.ro {g:Rows} {n:Nat} {c T O:Id} {s:ax} {ts:List aa} (h:Dq g n c T O s ts):Dq (V.ro g) n c T O s ts:=by
 obtain⟨b,h1⟩:=h.row
 obtain⟨b2,h2⟩:=h.tl
 exact⟨⟨false,by simp[V.ro,h1]⟩,⟨false,by simp[V.ro,h2]⟩,h.cv,h.tv,h.ov⟩
theorem Dq.frame {g g':Rows} {n n':Nat} {c T O:Id} {s:ax} {ts:List aa} (h:Dq g n c T O s ts) (hn:n<=n') (hc:g' c=g c) (hT:g' T=g T):Dq g' n' c T O s ts:=
 ⟨by rw[hc];exact h.row,by rw[hT];exact h.tl,Nat.lt_of_lt_of_le h.cv hn,Nat.lt_of_lt_of_le h.tv hn,Nat.lt_of_lt_of_le h.ov hn⟩
theorem ZD {σ:aw} {c T O:Id} {s:ax} {ts:List aa} (h:Dq σ.get σ.next c T O s ts) (p:aq):Call Tryz.prog 152 [.ptr c 0 0,.agg (ad p)] σ (fun r _=>r=.int .i64 (fG ts p)):=by
 refine eB eI rfl fun iD=>?_
 clear iD
 obtain⟨b,h1⟩:=h.row
 obtain⟨b2,h2⟩:=h.tl
 have v1:=db h.cv
 have v2:=db h.tv
 by_cases h0:0<=ez ts p
 ·have hm:=Kw h0
  have hg:=fV (kb h0).1
  have ho:(some (ez ts p).toNat).isSome=true:=rfl
  (try((repeat(revert N;apply Pn.out));refine wk (tw @h1 (tw @h2 (tw @v1 (tw @v2 (tw @hm (tw @hg (tw @ho (tw @ad.eq_1 @ab.eq_1)))))))) ?_;(repeat(apply Pn.mk;intro N hN))))
  exact er (.inl rfl) (vs:=[.int .i64 (bd ts (ez ts p).toNat).bK]) (sd @Nat.zero_add) (by rw[fG,if_pos h0];rfl)
 ·have hm:=sU (ts:=ts) (p:=p) ah
  have ho:(none:Option Nat).isSome=false:=rfl
  (try((repeat(revert N;apply Pn.out));refine wk (tw @h1 (tw @h2 (tw @v1 (tw @v2 (tw @hm (tw @ho @ad.eq_1)))))) ?_;(repeat(apply Pn.mk;intro N hN))))
  exact er (.inl rfl) (vs:=[.int .i64 (-1)]) (sd @Nat.zero_add) (by rw[fG,if_neg h0];rfl)
theorem SB {σ:aw} {c T O:Id} {s:ax} {ts:List aa} (h:Dq σ.get σ.next c T O s ts) (p:aq):fu (Call Tryz.prog) 152 [.ptr c 0 0,.agg (ad p)] σ (fun r=>r=.int .i64 (fG ts p)):=by
 unfold fu PC
 exact Or.inl (az _ _ _ _ _ (fun r σ' hr=>⟨_,by rw[hr];exact aB _ _ _ _,rfl⟩) (ZD (σ:=⟨V.ro σ.get,σ.next⟩) h.ro p))
theorem Jl {σ:aw} (s:ay) (hS:iz s) (F:aq->Int) (hF:∀q,0<=F q->eO s (F q)=true) (p:aq) (hx:iB p.eS) (hy:iB p.eM) (t:Int) (ht:eO s t=true) (f:Nat) (first:List AV)
  (tX:∀σ':aw,σ.next<=σ'.next->(∀x:Id,x.bG<σ.next->σ'.get x=σ.get x)->∀q,fu (Call Tryz.prog) f (first++[.agg (ad q)]) σ' (fun r=>r=.int .i64 (F q))):
  Call Tryz.prog 151 [.agg (ae s),.agg (ad p),.int .i64 t,.xf f first] σ (fun r _=>r=.int .i64 (nj s F p t)):=by
 refine eB eI rfl fun iD=>?_
 clear iD
 (try((repeat(revert N;apply Pn.out));refine wk (tw @ad.eq_1 @ae.eq_1) ?_;(repeat(apply Pn.mk;intro N hN))))
 refine bf (fun n env st=>∃k:Nat,n=(4)-k/\k<=(4)/\env 12=.int .i64 (k:Int)/\env 9=.int .i64 (dr s F p t k)/\st.get ⟨151000000,σ.next⟩=some ⟨true,2,[ae s]⟩/\st.get ⟨151000001,σ.next⟩=some ⟨true,2,[ad p]⟩/\(σ.next<st.next/\∀x:Id,x.bG<σ.next->st.get x=σ.get x)) (4) ⟨0,ah,ah,sl (tw @ad.eq_1 @ae.eq_1),sl (tw @ad.eq_1 @ae.eq_1),sl (tw @ad.eq_1 @ae.eq_1),sl (tw @ad.eq_1 @ae.eq_1),⟨bc,fun x hx=>by
  have:=db hx
  simp only[go_sem, ↓reduceIte,Nat.reduceEqDiff,Nat.reduceAdd,Nat.reduceSub,Nat.reduceLeDiff,reduceCtorEq,this]⟩⟩ ?_
 rintro n_a env_a st_a ⟨k,rfl,ale,a12,a9,ag0,ag1,kz⟩ dX
 have a2:=dX 2 (by kernel_rfl);have a3:=dX 3 (by kernel_rfl);have a4:=dX 4 (by kernel_rfl);have a5:=dX 5 (by kernel_rfl)
 simp only[go_sem, ↓reduceIte,Nat.reduceEqDiff,Nat.reduceAdd,Nat.reduceSub,Nat.reduceLeDiff,reduceCtorEq,ad,ae]at a2 a3 a4 a5
 clear dX
 obtain⟨an,dX⟩:=kz
 by_cases hk:(k:Int)<4
 ·have cV:∀{e:Env} {gg:Rows} {nx:Nat},(e 12=.int .i64 (IntKind.i64.wrap ((k:Int)+1)))->(e 9=.int .i64 (dr s F p t (k+1)))->(gg ⟨151000000,σ.next⟩=some ⟨true,2,[ae s]⟩)->(gg ⟨151000001,σ.next⟩=some ⟨true,2,[ad p]⟩)->(σ.next<nx/\∀x:Id,x.bG<σ.next->gg x=σ.get x)->∃m0,m0<(4)-k/\∃k:Nat,m0=(4)-k/\k<=(4)/\e 12=.int .i64 (k:Int)/\e 9=.int .i64 (dr s F p t k)/\gg ⟨151000000,σ.next⟩=some ⟨true,2,[ae s]⟩/\gg ⟨151000001,σ.next⟩=some ⟨true,2,[ad p]⟩/\(σ.next<nx/\∀x:Id,x.bG<σ.next->gg x=σ.get x):=fun x1 x2 x3 x4 x5=>⟨_,ah,k+1,rfl,ah,(by rw[x1,aE ah]),x2,x3,x4,x5⟩
  have dZ:=HD p k (jD ah) hx hy
  have gh:=lh hS F p t k
  (have zF:=tw @a12 (tw @a9 (tw @ag0 (tw @ag1 (tw @a2 (tw @a3 (tw @a4 (tw @a5 (tw @hk @ad.eq_1))))))));(repeat(first|((repeat(revert N;apply Pn.out));refine wk zF ?_;(repeat(apply Pn.mk;intro N hN)))|((try apply Or.inl);refine⟨_,au.x (dZ) (sd zF),?_⟩;apply hN;clear hN N)));try clear zF)
  refine .inl ⟨_,tX _ bc (fun x hx=>sd (dX x hx)) (bR p k),?_⟩
  apply hN
  clear hN N
  by_cases h0:0<=F (bR p k)
  ·have Bb:=LY s hS.form t k (F (bR p k)) ht (hF _ h0) (jD ah)
   have gj:=yz hS t k (F (bR p k))
   have hw:IntKind.i64.wrap (dr s F p t k+iw s t k (F (bR p k)))=dr s F p t (k+1):=by
    rw[cq ah,dr,if_pos h0]
   rw[ae]at Bb
   (have zF:=tw @a12 (tw @a9 (tw @ag0 (tw @ag1 (tw @a2 (tw @a3 (tw @a4 (tw @a5 (tw @h0 @ae.eq_1))))))));(repeat(first|((repeat(revert N;apply Pn.out));refine wk zF ?_;(repeat(apply Pn.mk;intro N hN)))|((try apply Or.inl);refine⟨_,au.x (Bb) (sd zF),?_⟩;apply hN;clear hN N)));try clear zF)
   refine cV ?_ ?_ ?_ ?_ (⟨bc,fun x hx=>by
    have h1:=dX x hx
    simp only[go_sem, ↓reduceIte,Nat.reduceEqDiff,Nat.reduceAdd,Nat.reduceSub,Nat.reduceLeDiff,reduceCtorEq,h1]⟩)
   all_goals simp only[go_sem, ↓reduceIte,Nat.reduceEqDiff,Nat.reduceAdd,Nat.reduceSub,Nat.reduceLeDiff,reduceCtorEq,a12,a9,ag0,ag1,a2,a3,a4,a5,hw,ad,ae]
  ·have hw:dr s F p t (k+1)=dr s F p t k:=by rw[dr,if_neg h0,Int.add_zero]
   (try((repeat(revert N;apply Pn.out));refine wk (tw @a12 (tw @a9 (tw @ag0 (tw @ag1 (tw @a2 (tw @a3 (tw @a4 (tw @a5 @h0)))))))) ?_;(repeat(apply Pn.mk;intro N hN))))
   refine cV ?_ ?_ ?_ ?_ (⟨bc,fun x hx=>by
    have h1:=dX x hx
    simp only[go_sem, ↓reduceIte,Nat.reduceEqDiff,Nat.reduceAdd,Nat.reduceSub,Nat.reduceLeDiff,reduceCtorEq,h1]⟩)
   all_goals simp only[go_sem, ↓reduceIte,Nat.reduceEqDiff,Nat.reduceAdd,Nat.reduceSub,Nat.reduceLeDiff,reduceCtorEq,a12,a9,ag0,ag1,a2,a3,a4,a5,hw,ad,ae]
 ·(try((repeat(revert N;apply Pn.out));refine wk (tw @a12 (tw @a9 (tw @ag0 (tw @ag1 (tw @a2 (tw @a3 (tw @a4 (tw @a5 @hk)))))))) ?_;(repeat(apply Pn.mk;intro N hN))))
  exact er (.inl rfl) (vs:=[.int .i64 (dr s F p t k)]) (sd (tw @a12 (tw @a9 (tw @ag0 (tw @ag1 (tw @a2 (tw @a3 (tw @a4 @a5)))))))) (by rw[show k=4 by omega];rfl)
noncomputable def ei (s:ax) (ts:List aa) (p:aq) (t:Int):Bool:=Ac p&&decide (fG ts p<0)&&decide (s.aA<=nj s.aD (fG ts) p t)
theorem Jm {σ:aw} {c T O:Id} {s:ax} {ts:List aa} (h:Dq σ.get σ.next c T O s ts) (hS:iz s.aD) (hF:∀q,0<=fG ts q->eO s.aD (fG ts q)=true) (p:aq) (hx:iB p.eS) (hy:iB p.eM) (t:Int) (ht:eO s.aD t=true):
  fu (Call Tryz.prog) 151 [.agg (ae s.aD),.agg (ad p),.int .i64 t,.xf 152 [.ptr c 0 0]] σ (fun r=>r=.int .i64 (nj s.aD (fG ts) p t)):=by
 unfold fu PC
 exact Or.inl (az _ _ _ _ _ (fun r σ' hr=>⟨_,by rw[hr];exact aB _ _ _ _,rfl⟩) (Jl (σ:=⟨V.ro σ.get,σ.next⟩) s.aD hS (fG ts) hF p hx hy t ht _ _
  (fun σ' hn hk q=>SB (h.ro.frame hn (hk _ h.cv) (hk _ h.tv)) q)))
theorem SX {σ:aw} {c T O:Id} {s:ax} {ts:List aa} (h:Dq σ.get σ.next c T O s ts) (hS:iz s.aD) (hF:∀q,0<=fG ts q->eO s.aD (fG ts q)=true) (p:aq) (t:Int) (ht:eO s.aD t=true):
  Call Tryz.prog 101 [.ptr c 0 0,.agg (ad p),.int .i64 t] σ (fun r _=>r=.bool (ei s ts p t)):=by
 refine eB eI rfl fun iD=>?_
 clear iD
 obtain⟨b,h1⟩:=h.row
 have v1:=db h.cv
 have hw:=tC p
 have v2:=db h.tv
 by_cases h0:Ac p=true
 ·rw[h0]at hw
  obtain⟨hx,hy⟩:=s6 h0
  by_cases h2:fG ts p<0
  ·(have zF:=tw @h1 (tw @v1 (tw @h2 @ad.eq_1));(repeat(first|((repeat(revert N;apply Pn.out));refine wk zF ?_;(repeat(apply Pn.mk;intro N hN)))|((try apply Or.inl);refine⟨_,au.x (hw) (sd zF),?_⟩;apply hN;clear hN N)));try clear zF)
   refine⟨_,SB (h.frame bc (sd @v1) (sd @v2)) p,?_⟩
   apply hN
   clear hN N
   (have zF:=tw @h1 (tw @v1 (tw @h2 (tw @ad.eq_1 @ae.eq_1)));(repeat(first|((repeat(revert N;apply Pn.out));refine wk zF ?_;(repeat(apply Pn.mk;intro N hN)))|((try apply Or.inl);refine⟨_,au.x (hw) (sd zF),?_⟩;apply hN;clear hN N)));try clear zF)
   refine⟨_,Jm (h.frame bc (sd @v1) (sd @v2)) hS hF p hx hy t ht,?_⟩
   apply hN
   clear hN N
   have hb:=lh hS (fG ts) p t 4
   (have zF:=tw @h1 (tw @v1 (tw @h2 (tw @ad.eq_1 @ae.eq_1)));(repeat(first|((repeat(revert N;apply Pn.out));refine wk zF ?_;(repeat(apply Pn.mk;intro N hN)))|((try apply Or.inl);refine⟨_,au.x (hw) (sd zF),?_⟩;apply hN;clear hN N)));try clear zF)
   exact er (.inl rfl) (vs:=[.bool (decide (s.aA<=nj s.aD (fG ts) p t))]) (sd @Nat.zero_add) (by rw[show ei s ts p t=decide (s.aA<=nj s.aD (fG ts) p t) by simp[ei,h0,h2]];rfl)
  ·(have zF:=tw @h1 (tw @v1 (tw @h2 @ad.eq_1));(repeat(first|((repeat(revert N;apply Pn.out));refine wk zF ?_;(repeat(apply Pn.mk;intro N hN)))|((try apply Or.inl);refine⟨_,au.x (hw) (sd zF),?_⟩;apply hN;clear hN N)));try clear zF)
   refine⟨_,SB (h.frame bc (sd @v1) (sd @v2)) p,?_⟩
   apply hN
   clear hN N
   (have zF:=tw @h1 (tw @v1 (tw @h2 @ad.eq_1));(repeat(first|((repeat(revert N;apply Pn.out));refine wk zF ?_;(repeat(apply Pn.mk;intro N hN)))|((try apply Or.inl);refine⟨_,au.x (hw) (sd zF),?_⟩;apply hN;clear hN N)));try clear zF)
   exact er (.inl rfl) (vs:=[.bool false]) (sd @Nat.zero_add) (by rw[show ei s ts p t=false by simp[ei,h2]];rfl)
 ·rw[Bool.not_eq_true]at h0
  rw[h0]at hw
  (have zF:=tw @h1 (tw @v1 @ad.eq_1);(repeat(first|((repeat(revert N;apply Pn.out));refine wk zF ?_;(repeat(apply Pn.mk;intro N hN)))|((try apply Or.inl);refine⟨_,au.x (hw) (sd zF),?_⟩;apply hN;clear hN N)));try clear zF)
  exact er (.inl rfl) (vs:=[.bool false]) (sd @Nat.zero_add) (by rw[show ei s ts p t=false by simp[ei,h0]];rfl)
def OW (rows:List (List AV)):Prop:=∀r∈rows,∃(x y:Int) (v:AV),r=[.int .i64 x,.int .i64 y,v]
def Rp (σ:aw) (O:Id) (g:Rows) (n:Nat):Prop:=σ.next<=n/\(∀x:Id,x.bG<σ.next->x≠O->g x=σ.get x)/\∃rows,g O=some ⟨true,mP.lP,rows⟩/\OW rows
theorem SY {σ:aw} {c T O:Id} {s:ax} {ts:List aa} (h:Dq σ.get σ.next c T O s ts) (hS:iz s.aD) (hF:∀q,0<=fG ts q->eO s.aD (fG ts q)=true) (p:aq) (t:Int) (ht:eO s.aD t=true):
  fu (Call Tryz.prog) 101 [.ptr c 0 0,.agg (ad p),.int .i64 t] σ (fun r=>r=.bool (ei s ts p t)):=by
 unfold fu PC
 exact Or.inl (az _ _ _ _ _ (fun r σ' hr=>⟨_,by rw[hr];exact aW _ _ _,rfl⟩) (SX (σ:=⟨V.ro σ.get,σ.next⟩) h.ro hS hF p t ht))
structure mQ (g:Rows) (n:Nat) (c T O:Id) (s:ax) (ts:List aa):Prop where
 row:g c=some ⟨true,6,[[.sl (s.aD.aI.map cU),.sl (s.aD.aj.map ck),.sl (s.bH.aj.map ab),.int .i64 s.aA,.map T mP,.map O mP]]⟩
 tl:g T=some ⟨true,mP.lP,ts.map ab⟩
 op:∃rows,g O=some ⟨true,mP.lP,rows⟩/\OW rows
 cv:c.bG<n
 tv:T.bG<n
 ov:O.bG<n
 cT:c≠T
 cO:c≠O
 TO:T≠O
theorem mQ.SM {g:Rows} {n:Nat} {c T O:Id} {s:ax} {ts:List aa} (h:mQ g n c T O s ts):Dq g n c T O s ts:=⟨⟨_,h.row⟩,⟨_,h.tl⟩,h.cv,h.tv,h.ov⟩
theorem mQ.look {σ:aw} {g:Rows} {n:Nat} {c T O:Id} {s:ax} {ts:List aa} (h:mQ σ.get σ.next c T O s ts) (k:Rp σ O g n):mQ g n c T O s ts:=
 ⟨(k.2.1 _ h.cv h.cO).trans h.row,(k.2.1 _ h.tv h.TO).trans h.tl,k.2.2,Nat.lt_of_lt_of_le h.cv k.1,Nat.lt_of_lt_of_le h.tv k.1,Nat.lt_of_lt_of_le h.ov k.1,h.cT,h.cO,h.TO⟩
theorem mQ.frame {g g':Rows} {n n':Nat} {c T O:Id} {s:ax} {ts:List aa} (h:mQ g n c T O s ts) (hn:n<=n') (hf:∀x:Id,x.bG<n->g' x=g x):mQ g' n' c T O s ts:=
 ⟨(hf _ h.cv).trans h.row,(hf _ h.tv).trans h.tl,by rw[hf _ h.ov];exact h.op,Nat.lt_of_lt_of_le h.cv hn,Nat.lt_of_lt_of_le h.tv hn,Nat.lt_of_lt_of_le h.ov hn,h.cT,h.cO,h.TO⟩
theorem y8 {l:List aa} {p:aq}:ez l p<0↔∀t∈l,t.aQ≠p:=by
 unfold ez rU
 by_cases h:(l.findIdx fun c=>decide (c.aQ=p))<l.length
 ·rw[if_pos h]
  obtain⟨t,ht,h2⟩:=List.findIdx_lt_length.1 h
  exact⟨fun h=>ah,fun h=>absurd (by simpa using h2) (h t ht)⟩
 ·rw[if_neg h]
  exact⟨fun _ t ht e=>h (List.findIdx_lt_length.2 ⟨t,ht,by simp[e]⟩),fun _=>ah⟩
theorem Ou {l:List aa} (h:nC l) {k:Nat} (hk:k<l.length):ez (l.take k) (bd l k).aQ<0:=by
 rw[y8]
 intro t ht e
 obtain⟨j,hj,rfl⟩:=List.getElem_of_mem ht
 have OX:j<k:=by rw[List.length_take]at hj;omega
 have:=h j k OX hk
 rw[List.getElem_take]at e
 have e2:bd l j=l[j]'ah:=by unfold bd;rw[List.getD_eq_getElem?_getD,List.getElem?_eq_getElem ah];rfl
 rw[e2,e]at this
 simp[jj]at this
theorem Q3 {l:List aa} {k:Nat} (hk:k<l.length):(l.take k).map ab++[[.int .i64 (bd l k).aQ.eS,.int .i64 (bd l k).aQ.eM,.int .i64 (bd l k).bK]]=(l.take (k+1)).map ab:=by
 have e2:bd l k=l[k]:=by unfold bd;rw[List.getD_eq_getElem?_getD,List.getElem?_eq_getElem hk];rfl
 rw[List.take_succ_eq_append_getElem hk,List.map_append,e2]
 rfl
theorem iz.LP {s:ay} {l:List aa} (hA:jN s l):∀q,0<=fG l q->eO s (fG l q)=true:=fun _ h=>LO hA h
end Go.Proofs.YtainmfbpilopaaaGreatDoor.V

namespace Go.Proofs.YtainmfbpilopaaaGreatDoor.V
open Go.RowKit
def iO:List aa->aa->List aa
 |[],q=>[q]
 |x::r,q=>if jj q.aQ x.aQ=true then q::x::r else x::iO r q
theorem uq {q x:aa}:∀{l:List aa},x∈iO l q↔x=q∨x∈l
 |[]=>by simp[iO]
 |y::r=>by
  have ih:=@uq q x r
  rw[iO]
  split
  ·simp
  ·simp only[List.mem_cons,ih]
   constructor
   ·rintro(h|h|h)<;>simp[h]
   ·rintro(h|h|h)<;>simp[h]
theorem oz (q:aa):∀l:List aa,(iO l q).length=l.length+1
 |[]=>rfl
 |y::r=>by
  have ih:=oz q r
  rw[iO]
  split
  ·simp
  ·simp[ih]
theorem uB {l:List aa}:nC l↔l.Pairwise fun a b=>jj a.aQ b.aQ=true:=by
 rw[List.pairwise_iff_getElem]
 constructor
 ·intro h i j hi hj Be
  have:=h i j Be hj
  rwa [fx hi,fx hj]at this
 ·intro h i j Be hj
  have:=h i j ah hj Be
  rwa [fx ah,fx hj]
theorem nw {l:List aa} {p:aq}:ez l p<0↔∀t∈l,t.aQ≠p:=y8
theorem NU {q:aa}:∀{l:List aa},nC l->ez l q.aQ<0->nC (iO l q):=by
 intro l
 rw[uB,uB,nw]
 induction l with
 |nil=>intro _ _;exact List.pairwise_singleton _ _
 |cons y r ih=>
  intro h hn
  obtain⟨h1,h2⟩:=List.pairwise_cons.1 h
  rw[iO]
  split
  ·rename_i hl
   refine List.pairwise_cons.2 ⟨fun x hx=>?_,h⟩
   rcases List.mem_cons.1 hx with rfl|hx
   ·exact hl
   ·exact iL hl (h1 x hx)
  ·rename_i hl
   rw[Bool.not_eq_true]at hl
   refine List.pairwise_cons.2 ⟨fun x hx=>?_,ih h2 fun t ht=>hn t (by simp[ht])⟩
   rcases uq.1 hx with rfl|hx
   ·exact ya hl fun e=>hn y (by simp) e.symm
   ·exact h1 x hx
theorem kM (x:aa) (r:List aa) (p:aq):fG (x::r) p=if x.aQ=p then x.bK else fG r p:=by
 unfold fG ez rU
 rw[List.findIdx_cons]
 by_cases h:x.aQ=p
 ·simp[h,bd]
 ·simp only[h,decide_false,cond_false,List.length_cons,Nat.add_lt_add_iff_right,if_false]
  by_cases hl:(r.findIdx fun c=>decide (c.aQ=p))<r.length
  ·rw[if_pos hl,if_pos hl,if_pos ah,if_pos ah]
   simp[bd]
  ·rw[if_neg hl,if_neg hl];rfl
theorem DD {q:aa} (p:aq):∀{l:List aa},(∀t∈l,t.aQ≠q.aQ)->fG (iO l q) p=if q.aQ=p then q.bK else fG l p
 |[],_=>by rw[iO,kM]
 |x::r,h=>by
  have ih:=@DD q p r fun t ht=>h t (by simp[ht])
  rw[iO]
  split
  ·rw[kM]
  ·rw[kM,ih,kM]
   by_cases h1:x.aQ=p
   ·have h2:q.aQ≠p:=fun e=>h x (by simp) (h1.trans e.symm)
    rw[if_pos h1,if_neg h2,if_pos h1]
   ·rw[if_neg h1,if_neg h1]
theorem tF {q:aa} (p:aq):∀{l:List aa},(∀t∈l,t.aQ≠q.aQ)->fG (l++[q]) p=if q.aQ=p then q.bK else fG l p
 |[],_=>by rw[List.nil_append,kM]
 |x::r,h=>by
  have ih:=@tF q p r fun t ht=>h t (by simp[ht])
  rw[List.cons_append,kM,ih,kM]
  by_cases h1:x.aQ=p
  ·have h2:q.aQ≠p:=fun e=>h x (by simp) (h1.trans e.symm)
   rw[if_pos h1,if_neg h2,if_pos h1]
  ·rw[if_neg h1,if_neg h1]
theorem rh {α:Type} [DecidableEq α]:∀{xs ys:List α},xs.Nodup->(∀x∈xs,x∈ys)->xs.length<=ys.length
 |[],_,_,_=>Nat.zero_le _
 |x::xs,ys,hn,h=>by
  obtain⟨h1,h2⟩:=List.nodup_cons.1 hn
  have hx:=h x (by simp)
  have:=@rh α _ xs (ys.erase x) h2 fun y hy=>(List.mem_erase_of_ne fun e=>h1 (by rw[<-e];exact hy)).2 (h y (by simp[hy]))
  rw[List.length_erase_of_mem hx]at this
  have:=List.length_pos_of_mem hx
  rw[List.length_cons];omega
theorem V1 {l:List aa} (h:nC l):l.Nodup:=by
 rw[uB]at h
 refine List.Pairwise.imp (fun {a b} oi e=>?_) h
 rw[e,jc]at oi;cases oi
abbrev sj:=List aa×List aa
noncomputable def Qe (s:ax) (st:sj) (x:aa):sj:=if ei s st.2 x.aQ x.bK=true then(st.1++[x],iO st.2 x)else st
noncomputable def Cu (s:ax) (l:List aa) (st:sj):sj:=l.foldl (Qe s) st
noncomputable def XC (s:ax) (l:List aa):Nat->sj->sj
 |0,st=>st
 |n+1,st=>if (Cu s l st).1.length=st.1.length then Cu s l st else XC s l n (Cu s l st)
noncomputable def insA (s:ax) (l:List aa):sj:=XC s l (l.length+1) ([],s.bH.aj)
structure InsI (s:ax) (l:List aa) (st:sj):Prop where
 QS:nC st.2
 sub:∀x∈st.2,x∈l
 done:∀x∈st.1,x∈l
 len:st.2.length=s.bH.aj.length+st.1.length
theorem Mj {s:ax} {l:List aa} (hA:jN s.aD l) {now:List aa} (hs:∀x∈now,x∈l) {p:aq} {t:Int} (h:ei s now p t=true):ez now p<0:=by
 rcases Int.lt_or_le (ez now p) 0 with h0|h0
 ·exact h0
 ·exfalso
  obtain⟨h1,_⟩:=kb h0
  have h2:=(ej (hA.2 _ (hs _ (gI h1)))).1
  simp[ei,fG,h0]at h
  omega
structure SysW (s:ax):Prop where
 set:iz s.aD
 Ft:jN s.aD s.bH.aj
 some:1<=s.bH.aj.length
 K3:iE s.aA 1 16=true
end Go.Proofs.YtainmfbpilopaaaGreatDoor.V

namespace Go.Proofs.YtainmfbpilopaaaGreatDoor.V
open Go.RowKit Go.Shelf Go.Lib Go.Sort
instance:Inhabited aa:=⟨⟨⟨0,0⟩,0⟩⟩
variable {P:Program} {w:World} {D:Nat->Prop} {ι:Names}
def Jp (a b:aa):Int:=qh a.aQ b.aQ
theorem xS (a b:aa):ltOf Jp a b=jj a.aQ b.aQ:=by rw[ltOf,Jp,nk]
def LJ:Prop:=∀(uR off cap:Nat) (d:Array aa) (w:World),HoldsK fw 3 w uR off d->uR<w.heap.size->d.size<4611686018427387904->
 Calls Tryz.prog 213 #[.slice (some ⟨uR,off,none⟩) d.size cap,.func (.func 214) #[] #[]] w fun e w'=>e=.returned (.tuple #[])/\∃d' n os,PermIn 0 d.size d d'/\SortedIn (ltOf Jp) 0 d.size d'/\w'=sortWorldK fw 3 w uR off n d' os
def LK:Prop:=∀(p:Option Addr) (cap:Nat) (fv:Value) (w:World),Calls Tryz.prog 213 #[.slice p 0 cap,fv] w fun e w'=>e=.returned (.tuple #[])/\w'=w
theorem Ma (p:aa) (j:Nat) (a:AV) (h:(ab p)[j]? =some a) (P:Program) (w:World) (D:Nat->Prop) (ι:Names):dm P w D ι a (fw p)[j]! :=by
 match j,h with
 |0,h=>simp[ab]at h;subst h;exact .eP _ _ (.int _ _)
 |1,h=>simp[ab]at h;subst h;exact .eP _ _ (.int _ _)
 |2,h=>simp[ab]at h;subst h;exact .eP _ _ (.int _ _)
 |j+3,h=>simp[ab]at h
theorem KS (hC:LJ) (hN:LK) (ps:List aa) (hlen:ps.length<=1048576) (σ:aw) (id:Id) (hg:σ.get id=some ⟨true,3,ps.map ab⟩):
  Call Tryz.prog 213 [.own id 0 ps.length,.fn 214 []] σ fun r σ'=>σ'.next=σ.next/\(∀x,x≠id->σ'.get x=σ.get x)/\∃qs,σ'.get id=some ⟨true,3,qs.map ab⟩/\qs.length=ps.length/\qs.Perm ps/\∀i j:Nat,i<j->j<qs.length->jj (bd qs j).aQ (bd qs i).aQ=false:=by
 refine eW fun hs D ι w vs S U A=>?_
 obtain⟨u1,us1,rfl,h1,h2⟩:=jL A
 obtain⟨u2,us2,h3,h4,h5⟩:=jL h2
 simp at h3;subst h3
 have:=uz h5
 simp at this;subst this
 obtain⟨o,cap,B,rfl,hB,Ej,ho,rP,hmax,hk⟩:=je h1
 obtain⟨X8,gf,rfl,_,hz,_,_⟩:=wg h4
 have hz':X8= #[]:=Array.eq_empty_of_size_eq_zero (by simpa using hz)
 subst hz'
 by_cases h0:ps=[]
 ·subst h0
  refine(hN _ _ _ w).mono ?_
  rintro e w' ⟨rfl,rfl⟩
  exact⟨.fD [],σ.get,σ.next,D,ι,_,rfl,⟨rfl,fun _ _=>rfl,[],hg,rfl,List.Perm.refl _,fun i j _ hj=>by simp at hj⟩,Step.refl _ _ _ _,S,U,Nat.le_refl _,.fD [] #[] (fun _=>Go.undef) rfl (fun j hj=>by simp at hj) (fun j a h=>by simp at h)⟩
 have lp:0<ps.length:=List.length_pos_iff.2 h0
 obtain⟨B',ec,R,j9,mV⟩:=S.row id _ hg
 rw[hB]at ec;injection ec with ec;subst ec
 replace R:=R.row hk
 have fI:B.sz=3:=R.sz
 have Dj:o=0:=by rcases ho with h|h<;>omega
 subst Dj
 obtain⟨cur,T,hblk,dY,tX⟩:=R.cur
 have yY:ps.length*3<=B.C:=by simpa using R.fits
 have hH:HoldsK fw 3 w B.b 0 ps.toArray:=by
  intro t ht
  rw[size_flatK]at ht
  have ht2:t<ps.length*3:=by simpa using ht
  have hi:t / 3<ps.length:=ah
  have Di:w.frozen? ⟨B.b,0+t,none⟩=false:=by
   simp only[World.frozen?,hblk];simp
  refine⟨?_,Di⟩
  rw[get_flatK _ _ _ _ ht]
  have hd:(ps.toArray)[t / 3]! =ps[t / 3]:=by simp[getElem!_pos,hi]
  rw[hd]
  have hj:t % 3=0∨t % 3=1∨t % 3=2:=ah
  have ht3:0+t=(t / 3)*3+t % 3:=ah
  rw[ht3]
  rcases hj with hj|hj|hj
  ·obtain⟨v,hv,hr⟩:=R.at_ (t / 3) 0 (ab ps[t / 3]) _ (by simp[hi]) rfl
   rw[dR hr]at hv
   rw[hj];exact hv
  ·obtain⟨v,hv,hr⟩:=R.at_ (t / 3) 1 (ab ps[t / 3]) _ (by simp[hi]) rfl
   rw[dR hr]at hv
   rw[hj];exact hv
  ·obtain⟨v,hv,hr⟩:=R.at_ (t / 3) 2 (ab ps[t / 3]) _ (by simp[hi]) rfl
   rw[dR hr]at hv
   rw[hj];exact hv
 have oV:B.b<w.heap.size:=(Array.getElem?_eq_some_iff.1 hblk).1
 have MC:=hC B.b 0 cap ps.toArray w hH oV (by simp;omega)
 rw[show ps.toArray.size=ps.length from by simp]at MC
 refine MC.mono ?_
 rintro e w' ⟨rfl,d',m,os,⟨Dk,_,r8⟩,hsort,rfl⟩
 have ME:d'.size=ps.length:=by rw[Dk];simp
 have VO:d'.toList.length=ps.length:=by simpa using ME
 have hP:d'.toList.Perm ps:=by
  have e1:d'.extract 0 ps.length=d':=by rw[<-ME];exact Array.extract_size
  have e2:ps.toArray.extract 0 ps.length=ps.toArray:=by
   have:ps.length=ps.toArray.size:=by simp
   rw[this];exact Array.extract_size
  rw[e1,e2]at r8
  simpa using r8
 have hF:∀t,t<ps.length*3->(flatK fw 3 d')[t]! =(fw d'[t / 3]!)[t % 3]! :=fun t ht=>get_flatK _ _ _ _ (by rw[ME];exact ht)
 have Wx:(flatK fw 3 d').size=ps.length*3:=by rw[size_flatK,ME]
 have hw:sortWorldK fw 3 w B.b 0 m d' os=Go.Sort.grow (Go.Sort.putRow (fun v:Value=>v) (Go.Sort.ahead w m) B.b 0 (flatK fw 3 d')) os:=rfl
 rw[hw]
 clear hw hH
 generalize flatK fw 3 d'=Fl at hF Wx ⊢
 have rS:=S.put (r':=⟨true,3,d'.toList.map ab⟩) (cur':=Go.Sort.putCells (fun v:Value=>v) 0 Fl cur) hg rfl hB hblk (by simp[Go.Sort.putCells]) rfl rfl (by simpa[ME]using yY) (fun cs dY=>by
   obtain⟨x,_,rfl⟩:=List.mem_map.1 dY;rfl) (fun cs dY a ha=>by
   obtain⟨x,_,rfl⟩:=List.mem_map.1 dY
   simp[ab]at ha;rcases ha with rfl|rfl|rfl<;>rfl) (fun i j cs a hi hj=>by
   have vI:i<d'.toList.length:=by
    have:=(List.getElem?_eq_some_iff.1 hi).1
    simpa using this
   have RN:j<3:=by
    have:=List.mem_of_getElem? hi
    obtain⟨x,_,rfl⟩:=List.mem_map.1 this
    exact(List.getElem?_eq_some_iff.1 hj).1
   have Tv:cs=ab d'[i]! :=by
    rw[List.getElem?_map,List.getElem?_eq_getElem vI]at hi
    simp at hi
    rw[<-hi,getElem!_pos d' i (by simpa using vI)]
   subst Tv
   have GW:i*3+j<ps.length*3:=ah
   refine⟨(fw d'[i]!)[j]!,?_,Ma _ _ _ hj _ _ _ _⟩
   have nH:i*3+j<cur.size:=by rw[dY];omega
   show(Go.Sort.putCells (fun v:Value=>v) 0 Fl cur)[i*3+j]? = _
   simp only[Go.Sort.putCells,Array.getElem?_mapIdx,Array.getElem?_eq_getElem nH,Option.map_some]
   rw[if_pos ⟨Nat.zero_le _,by rw[Wx];omega⟩,Nat.sub_zero,hF _ GW,show(i*3+j) / 3=i from by omega,show(i*3+j) % 3=j from by omega])
 obtain⟨S1,tA⟩:=rS
 have GV:(Go.Sort.putRow (fun v:Value=>v) (Go.Sort.ahead w m) B.b 0 Fl).heap.size=w.heap.size:=by simp
 have Eo:∀k,k<(w.setRow B.b (Go.Sort.putCells (fun v:Value=>v) 0 Fl cur)).heap.size->(Go.Sort.grow (Go.Sort.putRow (fun v:Value=>v) (Go.Sort.ahead w m) B.b 0 Fl) os).heap[k]? =(w.setRow B.b (Go.Sort.putCells (fun v:Value=>v) 0 Fl cur)).heap[k]? :=fun k hk=>by
  have GO:k<w.heap.size:=by simpa using hk
  rw[heap_grow_old _ _ (by rw[GV];exact GO)]
  simp only[Go.Sort.putRow,Go.Sort.mapBlock,heap_ahead,Array.getElem?_modify]
  by_cases TG:B.b=k
  ·subst TG
   rw[setRow_heap w B.b cur _ T _ hblk,if_pos rfl,hblk];rfl
  ·rw[if_neg TG,setRow_other w B.b k _ (fun h=>TG h.symm)]
 have kJ:(w.setRow B.b (Go.Sort.putCells (fun v:Value=>v) 0 Fl cur)).heap.size<=(Go.Sort.grow (Go.Sort.putRow (fun v:Value=>v) (Go.Sort.ahead w m) B.b 0 Fl) os).heap.size:=by
  rw[size_grow,GV];simp
 have S2:=S1.stay (D':=D) (ι':=ι) Eo kJ (fun _ h=>h) (fun b hb=>Nat.lt_of_lt_of_le (S1.dead b hb) kJ) (fun _ h=>.inl h) (fun _ _ h=>h)
 have Pc:=tA.trans (Step.stay (D':=D) (ι':=ι) S1 Eo kJ (by simp[Go.Sort.grow,Go.Sort.putRow,Go.Sort.mapBlock,Go.Sort.ahead]) (by simp[Go.Sort.grow,Go.Sort.putRow,Go.Sort.mapBlock,Go.Sort.ahead]) (by simp[Go.Sort.grow,Go.Sort.putRow,Go.Sort.mapBlock,Go.Sort.ahead]) (fun _ h=>h) (fun _ h=>.inl h) (fun _ _ h=>h))
 refine⟨.fD [],bJ σ.get id ⟨true,3,d'.toList.map ab⟩,σ.next,D,ι,_,rfl,⟨rfl,fun x hx=>by simp[bJ,hx],d'.toList,by simp[bJ],VO,hP,fun i j Be hj=>?_⟩,Pc,S2,U,Nat.le_refl _,.fD [] #[] (fun _=>Go.undef) rfl (fun j hj=>by simp at hj) (fun j a h=>by simp at h)⟩
 have h:=hsort i j (Nat.zero_le _) Be ah
 rw[xS]at h
 have e1:d'[j]! =bd d'.toList j:=by rw[fx hj,getElem!_pos d' j (by simpa using hj)];rfl
 have hi:i<d'.toList.length:=ah
 have e2:d'[i]! =bd d'.toList i:=by rw[fx hi,getElem!_pos d' i (by simpa using hi)];rfl
 rw[<-e1,<-e2];exact h
theorem Sp {w w':World} (h:Grown w w') (os:Array Obj):Grown w (Go.Sort.grow w' os):=by
 obtain⟨q,os0,rfl⟩:=h
 exact⟨q,os0++os,by rw[grow_grow]⟩
theorem Pq (w:World) (a b:aa):Calls Tryz.prog 214 #[.agg #[.int .i64 a.aQ.eS,.int .i64 a.aQ.eM,.int .i64 a.bK],.agg #[.int .i64 b.aQ.eS,.int .i64 b.aQ.eM,.int .i64 b.bK]] w fun e w'=>e=.returned (.int .i64 (Jp a b))/\Grown w w':=by
 go_enter Tryz.func214,Tryz.ntmps214
 go_wp2_with (first|(go_at_call 189;refine(pD _ a.aQ b.aQ).mono ?_;rintro e w' ⟨rfl,hG⟩))
 obtain⟨q,os,rfl⟩:=hG
 go_ret
 refine⟨rfl,Sp (Grown.dN ?_ q) os⟩
 repeat(first|(with_reducible exact Grown.refl _)|(refine Grown.alloc ?_ _)|(refine Grown.drew ?_)|(refine Grown.dN ?_ _))
theorem swoA:SWO (ltOf Jp) where
 irrefl x:=by rw[xS];exact jc
 trans x y z h1 h2:=by rw[xS]at *;exact iL h1 h2
 ntrans x y z h1 h2:=by rw[xS]at *;rw[ot]at *;omega
theorem UM:LJ:=fun uR off cap d w hH hblk fI=>by
 have eg:∀args w,(callFunc 214 args).run Tryz.prog w=.ok (.enter 214 args) w:=enters_of Tryz.func214 (by kernel_rfl) rfl
 have h:=AnyQ.slices_SortFunc Tryz.Ob 3 Tryz.isAgg64 Tryz.sizeOf64 fw (fun _=>rfl) (fun x v hv=>by simp[fw]at hv;rcases hv with rfl|rfl|rfl<;>rfl) Jp swoA 214 #[] uR off cap d w eg (fun m os dk _ x y=>(Pq _ x y).mono fun _ _ ⟨he,q,os',hw⟩=>⟨he,q,os',hw⟩) hH hblk fI
 exact h
theorem UN:LK:=fun p cap fv w=>AnyF.slices_SortFunc_none Tryz.Ob p cap fv w
end Go.Proofs.YtainmfbpilopaaaGreatDoor.V

namespace Go.Proofs.YtainmfbpilopaaaGreatDoor.V
open Go.RowKit
attribute [local irreducible] dW wpOps fu Call
end Go.Proofs.YtainmfbpilopaaaGreatDoor.V

namespace Go.Proofs.YtainmfbpilopaaaGreatDoor.V
open Go.RowKit
def Fq (m:MK) (it nx ok en:Nat) (id:Id) (B:(Ex->Env->aw->Prop)->Env->aw->Prop) (b b1:Nat) (Q:Ex->Env->aw->Prop):Nat->List (List AV)->Env->aw->Prop
 |0,_,env,σ=>env it=.ptr id 0 0/\Q .normal (upd (upd env (some nx) (.fD [.bool false])) (some ok) (.bool false)) ⟨σ.get,σ.next+1⟩
 |n+1,left,env,σ=>env it=.ptr id 0 0/\∀i cs kv vv,left[i]? =some cs->part m.ka m.ks cs=some kv->cs[m.ks]? =some vv->
   B (aX b1 (da (Fq m it nx ok en id B b b1 Q n (left.eraseIdx i)) (aX b Q))) (upd (upd (upd env (some nx) (.fD [.bool true,kv,vv])) (some ok) (.bool true)) (some en) (.fD [kv,vv])) ⟨σ.get,σ.next+1⟩
def KM (m:MK) (tm:O) (site it nx ok en:Nat) (B:(Ex->Env->aw->Prop)->Env->aw->Prop) (b b1:Nat) (Q:Ex->Env->aw->Prop) (env:Env) (σ:aw):Prop:=
 ∃id r,dh env tm=.map id m/\σ.get id=some r/\r.w=true/\Fq m it nx ok en ⟨site,σ.next⟩ B b b1 Q r.rows.length r.rows (upd env (some it) (.ptr ⟨site,σ.next⟩ 0 0)) ⟨bJ σ.get id {r with w:=false},σ.next+1⟩
variable {P:Program} {w w':World} {D D':Nat->Prop} {ι ι':Names} {hs:Nat} {g:Rows}
theorem ko.Gx (hc:∀b x,D b->w'.cell? ⟨b,x,none⟩=w.cell? ⟨b,x,none⟩) (hz:∀(b:Nat) c ty z,w.heap[b]? =some (.cells c ty z)->w'.heap[b]? =w.heap[b]?) {a:AV} {v:Value} (h:ko P w D a v):ko P w' D a v:=by
 induction h with
 |int k n=>exact .int k n
 |bool b=>exact .bool b
 |str s=>exact .str s
 |bU=>exact .bU
 |iH=>exact .iH
 |jF=>exact .jF
 |jS=>exact .jS
 |jn=>exact .jn
 |err g t s a c ty h1 h2 h3 h4 h5=>exact .err g t s a c ty h1 ((hc g 0 h1).trans h2) h3 ((hz _ _ _ _ h4).trans h4) ((World.cell?_of_block (hz _ _ _ _ h4)).trans h5)
 |Dn a c h=>exact .Dn a c h
 |sl rows b o n c sz vs h1 h2 h3 h4 h5 h5' h6 _ ih=>exact .sl rows b o n c sz vs h1 h2 h3 h4 h5 h5' (fun i j hi hj=>(hc b _ h4).trans (h6 i j hi hj)) ih
 |dQ cs b o vs h1 S9 h2 _ ih=>exact .dQ cs b o vs h1 S9 (fun j hj=>(hc b _ h1).trans (h2 j hj)) ih
 |agg cs vs f h1 h2 h3 _ ih=>exact .agg cs vs f h1 h2 h3 ih
 |fn f dv vs g h1 h2 h3 _ ih=>exact .fn f dv vs g h1 h2 h3 ih
theorem dm.Gx (hc:∀b x,D b->w'.cell? ⟨b,x,none⟩=w.cell? ⟨b,x,none⟩) (hz:∀(b:Nat) c ty z,w.heap[b]? =some (.cells c ty z)->w'.heap[b]? =w.heap[b]?) {a:AV} {v:Value} (h:dm P w D ι a v):dm P w' D ι a v:=by
 induction h with
 |eP a v h=>exact .eP a v (h.Gx hc hz)
 |map id m B h1 h2=>exact .map id m B h1 h2
 |tN id c B h1 h2=>exact .tN id c B h1 h2
 |own id off len o cap B h1 h2 h3 h4 h5 h6=>exact .own id off len o cap B h1 h2 h3 h4 h5 h6
 |ptr id i off B h1 h2=>exact .ptr id i off B h1 h2
 |agg cs vs f h1 h2 h3 _ ih=>exact .agg cs vs f h1 h2 h3 ih
 |fD cs vs f h1 h2 _ ih=>exact .fD cs vs f h1 h2 ih
 |fn f dv vs g h1 h2 h3 _ ih=>exact .fn f dv vs g h1 h2 h3 ih
 |xf f dv vs g h1 h2 h3 _ ih=>exact .xf f dv vs g h1 h2 h3 ih
def oK (w:World) (rr:Nat):Prop:=∃m s seen c,w.heap[rr]? =some (.mapIter m s seen c)
theorem oK.cell {rr:Nat} (h:oK w rr) (x:Nat):w.cell? ⟨rr,x,none⟩=none:=by
 obtain⟨m,s,seen,c,h⟩:=h
 simp[World.cell?,h]
theorem iv.ND {B:uX} {r:Row} (R:iv P w D ι B r):¬oK w B.b:=by
 rintro⟨m,s,seen,c,h⟩
 cases hk:B.k with
 |none=>obtain⟨c',T,h3,_⟩:=(R.row hk).uR;rw[h]at h3;cases h3
 |some k=>
  cases k with
  |map m=>obtain⟨_,es,c',h3,_⟩:=R.map m hk;rw[h]at h3;cases h3
  |chan c=>obtain⟨_,buf,s',q,h3,_⟩:=R.chan c hk;rw[h]at h3;cases h3
theorem Bn {rr:Nat} (h:oK w rr) (h':oK w' rr) (ho:∀b,b≠rr->w'.heap[b]? =w.heap[b]?):(∀{a v},dm P w D ι a v->dm P w' D ι a v):=fun hr=>hr.Gx (fun b x _=>by
 by_cases hb:b=rr
 ·subst hb;rw[h.cell,h'.cell]
 ·exact World.cell?_of_block (ho b hb)) (fun b c ty z hb=>ho b fun e=>by
  subst e;obtain⟨m,s,seen,cc,h⟩:=h;rw[h]at hb;cases hb)
theorem gK.iter {rr:Nat} (S:gK P hs D ι g w) (h:oK w rr) (h':oK w' rr) (ho:∀b,b≠rr->w'.heap[b]? =w.heap[b]?) (hz:w'.heap.size=w.heap.size):gK P hs D ι g w':=
 ⟨by rw[hz];exact S.lo,fun b hb=>by rw[hz];exact S.dead b hb,fun id r hg=>by
  obtain⟨B,hB,R,k1,k2⟩:=S.row id r hg
  exact⟨B,hB,R.frame (ho _ fun e=>R.ND (e▸h)) fun a v hr=>Bn h h' ho hr,k1,k2⟩,S.inj⟩
theorem oJ {ops:Array Oper} {Q:Exit->Act->World->Prop} {a:Act} {o:Oper} {l:List Oper} {v:Value} (hg:o.guard=none) (gi:(execOp a.eval o).run P w=.ok (.value v) w') (h:wpList P ops Q l (a.put o.dst v) w'):wpList P ops Q (o::l) a w:=by
 unfold wpList
 rw[if_pos (by simp[Region.wanted,hg])]
 exact .inl (by unfold Oper.wp;rw[gi];exact h)
theorem NZ {x y:AV} {u v:Value} (h1:dm P w D ι x u) (h2:dm P w D ι y v):dm P w D ι (.fD [x,y]) (.tuple #[u,v]):=
 .fD _ _ (fun j=>if j=0 then u else v) rfl (fun j hj=>by match j,hj with|0,_=>rfl|1,_=>rfl|j+2,hj=>simp at hj;omega) (fun j a ha=>by match j,ha with|0,ha=>simp at ha;subst ha;exact h1|1,ha=>simp at ha;subst ha;exact h2|j+2,ha=>simp at ha)
theorem N0 {x y z:AV} {u v t:Value} (h1:dm P w D ι x u) (h2:dm P w D ι y v) (h3:dm P w D ι z t):dm P w D ι (.fD [x,y,z]) (.tuple #[u,v,t]):=
 .fD _ _ (fun j=>if j=0 then u else if j=1 then v else t) rfl (fun j hj=>by match j,hj with|0,_=>rfl|1,_=>rfl|2,_=>rfl|j+3,hj=>simp at hj;omega) (fun j a ha=>by match j,ha with|0,ha=>simp at ha;subst ha;exact h1|1,ha=>simp at ha;subst ha;exact h2|2,ha=>simp at ha;subst ha;exact h3|j+3,ha=>simp at ha)
theorem NY {x:AV} {u:Value} (h1:dm P w D ι x u):dm P w D ι (.fD [x]) (.tuple #[u]):=
 .fD _ _ (fun _=>u) rfl (fun j hj=>by match j,hj with|0,_=>rfl|j+1,hj=>simp at hj) (fun j a ha=>by match j,ha with|0,ha=>simp at ha;subst ha;exact h1|j+1,ha=>simp at ha)
structure Ro (P:Program) (w:World) (D:Nat->Prop) (ι:Names) (m:MK) (L:List MapEntry) (left:List (List AV)):Prop where
 len:left.length=L.length
 at_:∀(i:Nat) (cs:List AV),left[i]? =some cs->∃(e:MapEntry) (kv vv:AV),L[i]? =some e/\part m.ka m.ks cs=some kv/\cs[m.ks]? =some vv/\dm P w D ι kv e.key/\dm P w D ι vv e.val
theorem Ro.rep {m:MK} {L:List MapEntry} {left:List (List AV)} (h:Ro P w D ι m L left) (hr:∀{a v},dm P w D ι a v->dm P w' D' ι' a v):Ro P w' D' ι' m L left:=⟨h.len,fun i cs hi=>by
 obtain⟨e,kv,vv,h1,h2,h3,h4,h5⟩:=h.at_ i cs hi
 exact⟨e,kv,vv,h1,h2,h3,hr h4,hr h5⟩⟩
theorem oR {α β:Type} {l:List α} {k:List β} {i j:Nat} {x:α} (hl:l.length=k.length) (h:(l.eraseIdx i)[j]? =some x):∃q:Nat,l[q]? =some x/\(k.eraseIdx i)[j]? =k[q]? :=by
 rw[List.getElem?_eraseIdx]at h
 split at h
 ·rename_i hj;exact⟨j,h,by rw[List.getElem?_eraseIdx,if_pos hj]⟩
 ·rename_i hj;exact⟨j+1,h,by rw[List.getElem?_eraseIdx,if_neg hj]⟩
theorem Ro.erase {m:MK} {L:List MapEntry} {left:List (List AV)} (h:Ro P w D ι m L left) {i:Nat} (hi:i<L.length):Ro P w D ι m (L.eraseIdx i) (left.eraseIdx i):=⟨by
 rw[List.length_eraseIdx,List.length_eraseIdx,h.len],fun j cs hj=>by
 obtain⟨q,hq,he⟩:=oR h.len hj
 obtain⟨e,kv,vv,h1,h2⟩:=h.at_ q cs hq
 exact⟨e,kv,vv,he.trans h1,h2⟩⟩
theorem pH:∀{l:List MapEntry} {i:Nat} {e:MapEntry},(l.map (·.born)).Nodup->l[i]? =some e->l.filter (fun x=>x.born !=e.born)=l.eraseIdx i
 |x::l,0,e,hn,h=>by
  simp at h;subst h
  obtain⟨h1,h2⟩:=List.nodup_cons.1 (show(x.born::l.map (·.born)).Nodup from hn)
  rw[List.filter_cons,if_neg (by simp),List.eraseIdx_cons_zero]
  refine List.filter_eq_self.2 fun y hy=>?_
  have:y.born≠x.born:=fun hc=>h1 (by rw[<-hc];exact List.mem_map_of_mem hy)
  simpa using this
 |x::l,i+1,e,hn,h=>by
  obtain⟨h1,h2⟩:=List.nodup_cons.1 (show(x.born::l.map (·.born)).Nodup from hn)
  simp only[List.getElem?_cons_succ]at h
  have hx:x.born≠e.born:=fun hc=>h1 (by rw[hc];exact List.mem_map_of_mem (List.mem_of_getElem? h))
  rw[List.filter_cons,if_pos (by simpa using hx),List.eraseIdx_cons_succ,pH h2 h]
theorem zd {es:Array MapEntry} {clock:Nat} {seen:Array Nat} {i:Nat} {e:MapEntry} (hs:H6 es clock) (h:(leftOf es seen).toList[i]? =some e):(leftOf es (seen.push e.born)).toList=(leftOf es seen).toList.eraseIdx i:=by
 have hn:((leftOf es seen).toList.map (·.born)).Nodup:=by
  unfold leftOf
  rw[Array.toList_filter]
  exact((List.filter_sublist (p:=fun e=> !seen.contains e.born) (l:=es.toList)).map MapEntry.born).nodup hs.2
 rw[<-pH hn h]
 unfold leftOf
 rw[Array.toList_filter,Array.toList_filter,List.filter_filter]
 refine List.filter_congr fun x _=>?_
 rw[contains_push]
 cases seen.contains x.born<;>cases hb:(x.born==e.born)<;>simp_all
theorem eval_put {a:Act} {d:Nat} {v:Value} (h:d<a.tmps.size):(a.put (some d) v).eval (.tmp d)=v:=by
 simp[Act.put,Act.eval,h]
def N4 (ix ie b b1 ok:Nat) (Hj KC Hi:Oper) (uy:List Oper) (pG:Code):Code:=
 .seq (.region ix #[Hj,KC] false) (.seq (.cond (.tmp ok) .skip (.exit b)) (.block b1 (.seq (.region ie (Hi::uy).toArray false) pG)))
structure LG (P:Program) (md:List (Nat×Nat)) (nt fid s0 it nx ok en:Nat) (Hj KC Hi:Oper) (uy:List Oper) (pG:Code) (vE:List bL) (uP:VC):Prop where
 h1:Hj.op=.next (.tmp it) false
 h2:Hj.dst=some nx
 h3:Hj.guard=none
 h4:KC.op=.extract (.tmp nx) 0
 h5:KC.dst=some ok
 h6:KC.guard=none
 h7:Hi.op=.entry (.tmp it)
 h8:Hi.dst=some en
 h9:Hi.guard=none
 VZ:nx<nt
 Zc:ok<nt
 lt3:en<nt
 ne1:it≠nx
 ne2:it≠ok
 hE:allM (l8 P (Hi::uy).toArray nt s0 false false #[] []) uy 1=some vE
 hR:jh P md nt fid pG=some uP
theorem Hr (hm:P.follows .mixedOrders=true) {md:List (Nat×Nat)} {nt fid s0 ix ie b b1 it nx ok en:Nat} {m:MK} {id:Id} {Hj KC Hi:Oper} {uy:List Oper} {pG:Code} {vE:List bL} {uP:VC}
  (O:LG P md nt fid s0 it nx ok en Hj KC Hi uy pG vE uP) {rr bm:Nat} {es:Array MapEntry} {clock:Nat} (EB:H6 es clock) {ds:List Deferred} {n0:Nat} {D0:Nat->Prop} {ι0:Names} {w0:World} {Q:Ex->Env->aw->Prop} {Q':Exit->Act->World->Prop}
  (hQ:wH P hs nt ds Q n0 D0 ι0 w0 Q') (hD0:¬D0 rr) (hrr:hs<=rr) (gM:bm≠rr):
  ∀(n:Nat) (left:List (List AV)) (env:Env) (σ:aw) (a:Act) (w:World) (D:Nat->Prop) (ι:Names) (seen:Array Nat),
   Fq m it nx ok en id (dW (Sound P) (.seq (.fF false vE) uP)) b b1 Q n left env σ->St P hs nt D ι env σ a w->a.defers=ds->n0<=σ.next->Step hs D0 ι0 w0 D ι w->
   (∃sz C,ι id=some ⟨rr,sz,C,none⟩)->D rr->D bm->w.heap[rr]? =some (.mapIter (some bm) clock seen clock)->w.heap[bm]? =some (.map es clock)->left.length=n->Ro P w D ι m (leftOf es seen).toList left->
   rf P (N4 ix ie b b1 ok Hj KC Hi uy pG) (Exit.inBlock b Q') (n+1) a w:=by
 intro n
 induction n with
 |zero=>
  intro left env σ a w D ι seen hv dZ hd Lr T hid Z0 ZX hr hb hlen hL
  obtain⟨Lp,hq⟩:=hv
  have ha:a.tmps.getD it undef=.pointer (some ⟨rr,0,none⟩):=by
   have:=dZ.env it
   rw[Lp]at this
   obtain⟨B,e,hB,_⟩:=iR this
   obtain⟨sz,C,hid⟩:=hid
   rw[hid]at hB;injection hB with hB;subst hB
   simpa using e
  have YE:a.eval (.tmp it)=.pointer (some ⟨rr,0,none⟩):=ha
  rcases run_next_at (P:=P) w Hj.type rr bm clock clock seen es clock hr hb EB.1 (Nat.le_refl _)with⟨_,gi⟩|⟨e,he,_⟩
  rotate_left
  ·have h0:(leftOf es seen).toList=[]:=List.eq_nil_of_length_eq_zero (by rw[<-hL.len,hlen])
   rw[h0]at he;simp at he
  have Dk:nx<a.tmps.size:=by rw[dZ.size];exact O.VZ
  have E2:=ja (ja dZ.env (NY (.eP _ _ (.bool false))) (dst:=some nx) (fun d h=>by cases h;exact O.VZ) dZ.size) (.eP _ _ (.bool false)) (dst:=some ok) (fun d h=>by cases h;exact O.Zc) (by rw[fy];exact dZ.size)
  show AI P (.seq _ _) _ a w
  refine nz (kR (wp_region_list ?_))
  refine oJ (v:=.tuple #[.bool false]) (w':=w) O.h3 (by simp[execOp,O.h1,YE,gi,Result.andThen]) ?_
  refine oJ (v:=.bool false) (w':=w) O.h6 (by rw[O.h2];simp[execOp,O.h4,eval_put Dk,Instr.extract]) ?_
  rw[O.h2,O.h5]
  refine nz (zo (t:=false) (eval_put (by rw[fy,dZ.size];exact O.Zc)) (kR (wp_exit ?_)))
  show Exit.inBlock b Q' (.exit b) _ _
  simp only[Exit.inBlock,if_true]
  exact hQ .normal _ ⟨σ.get,σ.next+1⟩ _ w D ι hq T ⟨dZ.wi,dZ.used.next,E2,by rw[fy,fy];exact dZ.size⟩ (by rw[put_defers,put_defers];exact hd) (Nat.le_succ_of_le Lr)
 |succ n ih=>
  intro left env σ a w D ι seen hv dZ hd Lr T hid Z0 ZX hr hb hlen hL
  obtain⟨Lp,hq⟩:=hv
  have ha:a.tmps.getD it undef=.pointer (some ⟨rr,0,none⟩):=by
   have:=dZ.env it
   rw[Lp]at this
   obtain⟨B,e,hB,_⟩:=iR this
   obtain⟨sz,C,hid⟩:=hid
   rw[hid]at hB;injection hB with hB;subst hB
   simpa using e
  have YE:a.eval (.tmp it)=.pointer (some ⟨rr,0,none⟩):=ha
  rcases run_next_at (P:=P) w Hj.type rr bm clock clock seen es clock hr hb EB.1 (Nat.le_refl _)with⟨h0,_⟩|⟨e,he,w1,nv,gi⟩
  ·have:=hL.len
   rw[hlen,Array.length_toList]at this;omega
  obtain⟨i,hi,GN⟩:=List.getElem_of_mem he
  have Xb:(leftOf es seen).toList[i]? =some e:=by rw[List.getElem?_eq_getElem hi,GN]
  have mL:i<left.length:=by rw[hL.len];exact hi
  obtain⟨e',kv,vv,q1,q2,q3,q4,q5⟩:=hL.at_ i left[i] (List.getElem?_eq_getElem mL)
  rw[Xb]at q1;injection q1 with q1;subst q1
  replace hq:=hq i left[i] kv vv (List.getElem?_eq_getElem mL) q2 q3
  have MZ:w1.heap[rr]? =some (.mapIter (some bm) clock seen clock):=by rcases nv with rfl|rfl<;>exact hr
  have ew:=MapKept.heap_set (o':=.mapIter (some bm) clock (seen.push e.born) clock) MZ
  obtain⟨w2,mO⟩:∃w2,ChangeMaps.setBlock w1 rr (.mapIter (some bm) clock (seen.push e.born) clock)=w2:=⟨_,rfl⟩
  have ho:∀k,k≠rr->w2.heap[k]? =w.heap[k]? :=fun k hk=>by
   rw[<-mO]
   refine(ew.2 k hk).trans ?_
   rcases nv with rfl|rfl<;>rfl
  have hz:w2.heap.size=w.heap.size:=by
   rw[<-mO]
   rcases nv with rfl|rfl<;>simp[ChangeMaps.setBlock]
  have Aa:w2.heap[rr]? =some (.mapIter (some bm) clock (seen.push e.born) clock):=by rw[<-mO];exact ew.1
  have xI:w2.os=w.os/\w2.tape=w.tape/\w2.output=w.output:=by
   rw[<-mO]
   rcases nv with rfl|rfl<;>exact⟨rfl,rfl,rfl⟩
  rw[mO]at gi
  clear mO ew
  have I1:oK w rr:=⟨_,_,_,_,hr⟩
  have I2:oK w2 rr:=⟨_,_,_,_,Aa⟩
  have rt:∀{a v},dm P w D ι a v->dm P w2 D ι a v:=Bn I1 I2 ho
  have S2:=dZ.wi.iter I1 I2 ho hz
  have T2:Step hs D0 ι0 w0 D ι w2:=⟨⟨xI.1.trans T.below.os,xI.2.1.trans T.below.tape,xI.2.2.trans T.below.output,by rw[hz];exact T.below.size,fun k hk=>(ho k ah).trans (T.below.block k hk)⟩,fun k hk=>(ho k (fun hc=>hD0 (hc▸hk))).trans (T.rV k hk),T.dead,T.names,T.new⟩
  have A9:w2.heap[bm]? =some (.map es clock):=(ho bm gM).trans hb
  have Dk:nx<a.tmps.size:=by rw[dZ.size];exact O.VZ
  have E1:cY P w2 D ι env a:=fun t=>rt (dZ.env t)
  have E2:=ja (ja E1 (N0 (.eP _ _ (.bool true)) (rt q4) (rt q5)) (dst:=some nx) (fun d h=>by cases h;exact O.VZ) dZ.size) (.eP _ _ (.bool true)) (dst:=some ok) (fun d h=>by cases h;exact O.Zc) (by rw[fy];exact dZ.size)
  have E3:=ja E2 (NZ (rt q4) (rt q5)) (dst:=some en) (fun d h=>by cases h;exact O.lt3) (by rw[fy,fy];exact dZ.size)
  have El:=run_entry_at (P:=P) w2 rr bm clock seen es clock e Aa A9 (mem_left he).1 EB.2
  show AI P (.seq _ _) _ a w
  refine nz (kR (wp_region_list ?_))
  refine oJ (v:=.tuple #[.bool true,e.key,e.val]) (w':=w2) O.h3 (by simp[execOp,O.h1,YE,gi,Result.andThen]) ?_
  refine oJ (v:=.bool true) (w':=w2) O.h6 (by rw[O.h2];simp[execOp,O.h4,eval_put Dk,Instr.extract]) ?_
  rw[O.h2,O.h5]
  refine nz (zo (t:=true) (eval_put (by rw[fy,dZ.size];exact O.Zc)) (kR (wp_skip ?_)))
  refine wb (nz (kR (wp_region_list ?_)))
  show wpList P _ _ (Hi::uy) _ _
  have ha3:(((a.put (some nx) (.tuple #[.bool true,e.key,e.val])).put (some ok) (.bool true)).eval (.tmp it))=.pointer (some ⟨rr,0,none⟩):=by
   have n1:=O.ne1
   have n2:=O.ne2
   rw[<-YE]
   simp[Act.put,Act.eval,Array.getD_eq_getD_getElem?,Array.getElem?_setIfInBounds,Ne.symm n1,Ne.symm n2]
  refine oJ (v:=.tuple #[e.key,e.val]) (w':=w2) O.h9 (by simp[execOp,O.h7,ha3,El,Result.andThen]) ?_
  rw[O.h8]
  refine BA uy vE 1 _ ⟨σ.get,σ.next+1⟩ _ w2 D ι (fun _=>False) O.hE hq S2 dZ.used.next (fun _ h=>h.elim) E3 (by rw[fy,fy,fy];exact dZ.size) fun ZL σ3 a3 w3 D3 ι3 hk T3 St3 WS hle3=>?_
  refine su hm pG uP O.hR _ ZL σ3 a3 w3 D3 ι3 _ hk St3 fun ex Mc σ4 a4 w4 D4 ι4 MX T4 Zy Tx hle4=>?_
  have hdd:a4.defers=ds:=by rw[Tx,WS,put_defers,put_defers,put_defers];exact hd
  have hnn:n0<=σ4.next:=Nat.le_trans Lr (Nat.le_trans (Nat.le_succ _) (Nat.le_trans hle3 hle4))
  have Su:=T3.trans T4
  have TT:=T2.trans Su
  have xh:Fq m it nx ok en id (dW (Sound P) (.seq (.fF false vE) uP)) b b1 Q n (left.eraseIdx i) Mc σ4->rf P (N4 ix ie b b1 ok Hj KC Hi uy pG) (Exit.inBlock b Q') (n+1) a4 w4:=fun hq5=>by
   refine ih (left.eraseIdx i) Mc σ4 a4 w4 D4 ι4 (seen.push e.born) hq5 Zy hdd hnn TT ?_ (Su.dead _ Z0) (Su.dead _ ZX) ((Su.rV _ Z0).trans Aa) ((Su.rV _ ZX).trans A9) ?_ ?_
   ·obtain⟨sz,C,hid⟩:=hid;exact⟨sz,C,Su.names _ _ hid⟩
   ·rw[List.length_eraseIdx,if_pos mL,hlen];rfl
   ·rw[zd EB Xb]
    exact(hL.erase hi).rep fun hr=>Su.rep (rt hr)
  have out:∀ex,ex≠.normal->Q ex Mc σ4->Q' (Yq ex) a4 w4:=fun ex _ h=>hQ ex Mc σ4 a4 w4 D4 ι4 h TT Zy hdd hnn
  cases ex with
  |normal=>exact xh MX
  |ret=>exact out .ret (by simp) MX
  |exit kK=>
   simp only[aX]at MX
   simp only[Yq,Exit.inBlock]
   by_cases h1:kK=b1
   ·rw[if_pos h1]at MX ⊢
    exact xh MX
   ·rw[if_neg h1]at MX ⊢
    simp only[da,aX]at MX
    show Exit.inBlock b Q' (.exit kK) a4 w4
    simp only[Exit.inBlock]
    by_cases h2:kK=b
    ·rw[if_pos h2]at MX ⊢
     exact hQ .normal Mc σ4 a4 w4 D4 ι4 MX TT Zy hdd hnn
    ·rw[if_neg h2]at MX ⊢
     exact out (.exit kK) (by simp) MX
def CS (P:Program) (nt:Nat) (c:Code) (W:(Ex->Env->aw->Prop)->Env->aw->Prop):Prop:=
 ∀(hs:Nat) (Q:Ex->Env->aw->Prop) (env:Env) (σ:aw) (a:Act) (w:World) (D:Nat->Prop) (ι:Names) (Q':Exit->Act->World->Prop),W Q env σ->St P hs nt D ι env σ a w->wH P hs nt a.defers Q σ.next D ι w Q'->AI P c Q' a w
theorem CS.code (hm:P.follows .mixedOrders=true) {md:List (Nat×Nat)} {nt fid:Nat} {c:Code} {vc:VC} (h:jh P md nt fid c=some vc):CS P nt c (dW (Sound P) vc):=
 fun _ Q env σ a w D ι Q' hv dZ hQ=>su hm c vc h Q env σ a w D ι Q' hv dZ hQ
theorem CS.seq {nt:Nat} {x y:Code} {V W:(Ex->Env->aw->Prop)->Env->aw->Prop} (h:CS P nt x V) (k:CS P nt y W):CS P nt (.seq x y) (fun Q=>V (da (W Q) Q)):=fun hs Q env σ a w D ι Q' hv dZ hQ=>by
 refine nz (h hs _ env σ a w D ι _ hv dZ fun ex jr σ1 a1 w1 D1 ι1 hq T kD hd hle=>?_)
 cases ex with
 |normal=>exact k hs Q jr σ1 a1 w1 D1 ι1 Q' hq kD (by rw[hd];exact hQ.later T hle)
 |exit id=>exact hQ (.exit id) jr σ1 a1 w1 D1 ι1 hq T kD hd hle
 |ret=>exact hQ .ret jr σ1 a1 w1 D1 ι1 hq T kD hd hle
theorem CS.rng (hm:P.follows .mixedOrders=true) {md:List (Nat×Nat)} {nt fid s0 sA site ia ix ie b b1 it nx ok en:Nat} {m:MK} {Hj KC Hi Hm:Oper} {NS uy:List Oper} {pG:Code} {vA vE:List bL} {uP:VC} {t k e:TypeId} {tm:Operand} {tm':O}
  (O:LG P md nt fid s0 it nx ok en Hj KC Hi uy pG vE uP) (h1:Hm.op=.range t tm) (h2:Hm.dst=some it) (h3:Hm.guard=none) (eu:it<nt) (ht:P.underlying t=some (.map k e)) (Xr:cO P tm=some tm') (hA:allM (l8 P (NS++[Hm]).toArray nt sA false false #[] []) NS 0=some vA):
  CS P nt (.seq (.region ia (NS++[Hm]).toArray false) (.block b (.loop (N4 ix ie b b1 ok Hj KC Hi uy pG))))
   (fun Q=>wpOps (Sound P) false vA (KM m tm' site it nx ok en (dW (Sound P) (.seq (.fF false vE) uP)) b b1 Q)):=fun hs Q env σ a w D ι Q' hv dZ hQ=>by
 refine nz (kR (wp_region_list ?_))
 show wpList P _ _ (NS++[Hm]) a w
 refine zp [Hm] NS vA 0 env σ a w D ι (fun _=>False) hA hv dZ.wi dZ.used (fun _ h=>h.elim) dZ.env dZ.size fun jr σ1 a1 w1 D1 ι1 hk T tA th JX=>?_
 obtain⟨id,r,hid,hg,hw,hr⟩:=hk
 have iu:=dV tA.env Xr
 rw[hid]at iu
 obtain⟨B,hv,hB,hk⟩:=CP iu
 obtain⟨B',ec,R,j9,mV⟩:=tA.wi.row id r hg
 rw[hB]at ec;injection ec with ec;subst ec
 obtain⟨hrsz,es,clock,hb,fI,⟨hlen,EB⟩,hM⟩:=R.map m hk
 have Iq:=R.lt
 have gi:=run_range_map (P:=P) w1 t k e B.b es clock ht hb
 refine oJ (v:=.pointer (some ⟨w1.heap.size,0,none⟩)) (w':=w1.alloc (.mapIter (some B.b) clock #[] clock)) h3 (by simp[execOp,h1,hv,gi,Result.andThen]) ?_
 rw[h2]
 obtain⟨w2,mO⟩:∃w2,w1.alloc (.mapIter (some B.b) clock #[] clock)=w2:=⟨_,rfl⟩
 have hblk:∀b,b<w1.heap.size->w2.heap[b]? =w1.heap[b]? :=fun b hb=>by rw[<-mO];exact Below.heap_alloc _ _ _ hb
 have lG:w2.heap[w1.heap.size]? =some (.mapIter (some B.b) clock #[] clock):=by rw[<-mO];exact heap_alloc_new _ _
 have hz:w2.heap.size=w1.heap.size+1:=by rw[<-mO];simp
 have xI:w2.os=w1.os/\w2.tape=w1.tape/\w2.output=w1.output:=by rw[<-mO];exact⟨rfl,rfl,rfl⟩
 rw[mO]
 clear mO gi
 let D2:Nat->Prop:=fun x=>D1 x∨x=B.b∨x=w1.heap.size
 let ι2:Names:=lx ι1 ⟨site,σ1.next⟩ ⟨w1.heap.size,1,0,none⟩
 have jy:ι1 ⟨site,σ1.next⟩=none:=fresh tA.used (fun h=>h)
 have Y1:∀{a v},dm P w1 D1 ι1 a v->dm P w2 D2 ι2 a v:=fun h=>h.frame (fun b hd=>hblk b (tA.wi.dead b hd)) (fun _ h=>.inl h) (fA jy)
 have yd:∀{j q C},σ1.get j=some q->ι2 j=some C->ι1 j=some C:=fun {j q C} hj hC=>by
  obtain⟨C',xG,_⟩:=tA.wi.row j q hj
  have:=fA (B:=⟨w1.heap.size,1,0,none⟩) jy j C' xG
  have e:=this.symm.trans hC
  injection e with e;rw[<-e];exact xG
 have lt:∀{j q C},σ1.get j=some q->ι1 j=some C->C.b<w1.heap.size:=fun {j q C} hj hC=>by
  obtain⟨C',xG,R',_⟩:=tA.wi.row j q hj
  rw[hC]at xG;injection xG with xG;subst xG
  exact R'.lt
 have S6:∀{j q},bJ σ1.get id {r with w:=false} j=some q->∃q0,σ1.get j=some q0/\(q.w=true->q=q0/\j≠id)/\(j=id->q={r with w:=false}/\q0=r)/\(j≠id->q=q0):=fun {j q} h=>by
  unfold bJ at h
  split at h
  ·rename_i e
   injection h with h;subst h
   exact⟨r,e▸hg,fun h=>(by cases h),fun _=>⟨rfl,rfl⟩,fun hc=>absurd e hc⟩
  ·rename_i e
   exact⟨q,h,fun _=>⟨rfl,e⟩,fun hc=>absurd hc e,fun _=>rfl⟩
 have S2:gK P hs D2 ι2 (bJ σ1.get id {r with w:=false}) w2:=by
  refine⟨by rw[hz];exact Nat.le_succ_of_le tA.wi.lo,fun b hb=>?_,fun j q h=>?_,fun j j' q q' C C' h h' MY hC xG he=>?_⟩
  ·rw[hz]
   rcases hb with hb|rfl|rfl
   ·exact Nat.lt_succ_of_lt (tA.wi.dead b hb)
   ·exact Nat.lt_succ_of_lt Iq
   ·exact Nat.lt_succ_self _
  ·obtain⟨q0,RT,MY,Cp,gM⟩:=S6 h
   obtain⟨C,hC,RC,k1,k2⟩:=tA.wi.row j q0 RT
   have hCl:=lt RT hC
   refine⟨C,fA jy j C hC,?_,fun VT=>k1 ((MY VT).1▸VT),fun VT hD=>?_⟩
   ·have RF:iv P w2 D2 ι2 C q0:=RC.frame (hblk _ hCl) fun a v h=>Y1 h
    by_cases hj:j=id
    ·obtain⟨e1,e2⟩:=Cp hj
     rw[e1,<-e2];exact RF.flag false
    ·rw[gM hj];exact RF
   ·obtain⟨e1,e2⟩:=MY VT
    rcases hD with hD|hD|hD
    ·exact k2 (e1▸VT) hD
    ·exact e2 (tA.wi.inj j id q0 r C B RT hg (e1▸VT) hC hB hD)
    ·omega
  ·obtain⟨q0,RT,hqw0,_⟩:=S6 h
   obtain⟨q0',Xn,_⟩:=S6 h'
   exact tA.wi.inj j j' q0 q0' C C' RT Xn ((hqw0 MY).1▸MY) (yd RT hC) (yd Xn xG) he
 have T2:Step hs D1 ι1 w1 D2 ι2 w2:=⟨⟨xI.1,xI.2.1,xI.2.2,ah,fun k hk=>hblk k (Nat.lt_of_lt_of_le hk tA.wi.lo)⟩,fun b hb=>hblk b (tA.wi.dead b hb),fun _ h=>.inl h,fA jy,fun b hb=>by
  rcases hb with hb|rfl|rfl
  ·exact .inl hb
  ·exact .inr (j9 hw)
  ·exact .inr tA.wi.lo⟩
 have E2:cY P w2 D2 ι2 (upd jr (some it) (.ptr ⟨site,σ1.next⟩ 0 0)) (a1.put (some it) (.pointer (some ⟨w1.heap.size,0,none⟩))):=
  ja (fun t=>Y1 (tA.env t)) (by have:=dm.ptr (P:=P) (w:=w2) (D:=D2) (ι:=ι2) ⟨site,σ1.next⟩ 0 0 ⟨w1.heap.size,1,0,none⟩ (eE _ _ _) rfl;simpa using this) (fun d h=>by cases h;exact eu) tA.size
 have L2:Ro P w2 D2 ι2 m (leftOf es #[]).toList r.rows:=by
  have he:(leftOf es #[]).toList=es.toList:=by simp[leftOf]
  rw[he]
  refine⟨by simpa using fI.symm,fun i cs hi=>?_⟩
  obtain⟨Wn,kv,vv,q1,q2,q3,q4,q5⟩:=hM i cs hi
  exact⟨Wn,kv,vv,by simpa using q1,q2,q3,Y1 q4,Y1 q5⟩
 show AI P (.block b (.loop (N4 ix ie b b1 ok Hj KC Hi uy pG))) Q' _ w2
 exact wb (Ff (r.rows.length+1) (Hr hm O EB (ds:=a.defers) (n0:=σ.next) (D0:=D) (ι0:=ι) (w0:=w) hQ
  (fun hc=>by have:=dZ.wi.dead _ hc;have:=T.below.size;omega) tA.wi.lo ah r.rows.length r.rows _ ⟨bJ σ1.get id {r with w:=false},σ1.next+1⟩ _ w2 D2 ι2 #[] hr
  ⟨S2,tA.used.upd.next,E2,by rw[fy];exact tA.size⟩ (by rw[put_defers];exact th) (Nat.le_succ_of_le JX) (T.trans T2) ⟨1,0,eE _ _ _⟩ (.inr (.inr rfl)) (.inr (.inl rfl)) lG ((hblk _ Iq).trans hb) rfl L2))
theorem CS.fn {f:Nat} {fn:Func} {c:Code} {args:List AV} {σ:aw} {K:AV->aw->Prop} {vr:List pN} {W:(Ex->Env->aw->Prop)->Env->aw->Prop} (RH:P.funcs[f]? =some fn) (hc:fn.body=some c) (hr:fn.results.toList.mapM (Gl P)=some vr) (ha:fn.params.size+fn.nfree=args.length) (hle:fn.params.size+fn.nfree<=fn.ntmps)
  (h:CS P fn.ntmps c W) (hv:W (lU vr K) (bW args) σ):Call P f args σ K:=
 eW (yy RH hc hr ha hle fun hs w D ι a Q' dZ hQ=>h hs (lU vr K) (bW args) σ a w D ι Q' hv dZ hQ)
theorem uQ (hm:P.follows .mixedOrders=true) {c:VC} {Q Q':Ex->Env->aw->Prop} {env:Env} {σ:aw} (hQ:∀x e s,Q x e s->Q' x e s) (h:dW (Call P) c Q env σ):dW (Sound P) c Q' env σ:=
 kn (fun _ _ _ _ h=>gD hm h) l7 c Q Q' env σ hQ h
theorem BI {m:MK} {it nx ok en:Nat} {id:Id} {B B':(Ex->Env->aw->Prop)->Env->aw->Prop} {b b1:Nat} {Q Q':Ex->Env->aw->Prop} (hB:∀R R' e s,(∀x e s,R x e s->R' x e s)->B R e s->B' R' e s) (hQ:∀x e s,Q x e s->Q' x e s):
  ∀(n:Nat) (left:List (List AV)) (env:Env) (σ:aw),Fq m it nx ok en id B b b1 Q n left env σ->Fq m it nx ok en id B' b b1 Q' n left env σ
 |0,_,env,σ,h=>⟨h.1,hQ _ _ _ h.2⟩
 |n+1,left,env,σ,h=>⟨h.1,fun i cs kv vv h1 h2 h3=>hB _ _ _ _ (fun x e s hx=>by
  have hn:=BI (id:=id) (m:=m) (it:=it) (nx:=nx) (ok:=ok) (en:=en) (b:=b) (b1:=b1) hB hQ n (left.eraseIdx i) e s
  cases x with
  |normal=>exact hn hx
  |ret=>exact hQ _ _ _ hx
  |exit kK=>
   simp only[aX]at hx ⊢
   split at hx
   ·rename_i h1;rw[if_pos h1];exact hn hx
   ·rename_i h1
    rw[if_neg h1]
    simp only[da,aX]at hx ⊢
    split at hx
    ·rename_i h2;rw[if_pos h2];exact hQ _ _ _ hx
    ·rename_i h2;rw[if_neg h2];exact hQ _ _ _ hx) (h.2 i cs kv vv h1 h2 h3)⟩
theorem KN (hm:P.follows .mixedOrders=true) {m:MK} {tm:O} {site it nx ok en:Nat} {c:VC} {b b1:Nat} {Q Q':Ex->Env->aw->Prop} {env:Env} {σ:aw} (hQ:∀x e s,Q x e s->Q' x e s) (h:KM m tm site it nx ok en (dW (Call P) c) b b1 Q env σ):KM m tm site it nx ok en (dW (Sound P) c) b b1 Q' env σ:=by
 obtain⟨id,r,h1,h2,h3,h4⟩:=h
 exact⟨id,r,h1,h2,h3,BI (B':=dW (Sound P) c) (fun R R' e s hR hb=>uQ hm hR hb) hQ _ _ _ _ h4⟩
theorem s5 {α:Type}:∀{l:List α} {i:Nat} {x:α},l[i]? =some x->(x::l.eraseIdx i).Perm l
 |y::l,0,x,h=>by simp at h;subst h;exact List.Perm.refl _
 |y::l,i+1,x,h=>by
  simp only[List.getElem?_cons_succ]at h
  rw[List.eraseIdx_cons_succ]
  exact(List.Perm.swap _ _ _).trans ((s5 h).cons _)
theorem X9 {m:MK} {tm:O} {site it nx ok en:Nat} {c:VC} {b b1:Nat} {Q:Ex->Env->aw->Prop} {env:Env} {σ:aw} {id:Id} {r:Row} (I:List (List AV)->Env->aw->Prop) (h1:dh env tm=.map id m) (h2:σ.get id=some r) (h3:r.w=true) (Lp:([nx,ok,en]++AM c).contains it=false)
  (h0:I [] (upd env (some it) (.ptr ⟨site,σ.next⟩ 0 0)) ⟨bJ σ.get id {r with w:=false},σ.next+1⟩)
  (step:∀pre cs rest e s kv vv,(pre++cs::rest).Perm r.rows->I pre e s->jH ([nx,ok,en]++AM c) (upd env (some it) (.ptr ⟨site,σ.next⟩ 0 0)) e->part m.ka m.ks cs=some kv->cs[m.ks]? =some vv->
   dW (Call P) c (aX b1 (da (I (pre++[cs])) (aX b Q))) (upd (upd (upd e (some nx) (.fD [.bool true,kv,vv])) (some ok) (.bool true)) (some en) (.fD [kv,vv])) ⟨s.get,s.next+1⟩)
  (fin:∀pre e s,pre.Perm r.rows->I pre e s->jH ([nx,ok,en]++AM c) (upd env (some it) (.ptr ⟨site,σ.next⟩ 0 0)) e->Q .normal (upd (upd e (some nx) (.fD [.bool false])) (some ok) (.bool false)) ⟨s.get,s.next+1⟩):
  KM m tm site it nx ok en (dW (Call P) c) b b1 Q env σ:=by
 refine⟨id,r,h1,h2,h3,?_⟩
 have WT:∀e,jH ([nx,ok,en]++AM c) (upd env (some it) (.ptr ⟨site,σ.next⟩ 0 0)) e->e it=.ptr ⟨site,σ.next⟩ 0 0:=fun e h=>by
  rw[h it Lp];simp[upd]
 have key:∀n left pre e s,(pre++left).Perm r.rows->left.length=n->I pre e s->jH ([nx,ok,en]++AM c) (upd env (some it) (.ptr ⟨site,σ.next⟩ 0 0)) e->Fq m it nx ok en ⟨site,σ.next⟩ (dW (Call P) c) b b1 Q n left e s:=by
  intro n
  induction n with
  |zero=>
   intro left pre e s hp hl hI hK
   have:left=[]:=List.eq_nil_of_length_eq_zero hl
   subst this
   rw[List.append_nil]at hp
   exact⟨WT e hK,fin pre e s hp hI hK⟩
  |succ n ih=>
   intro left pre e s hp hl hI hK
   refine⟨WT e hK,fun i cs kv vv hi hk hv=>?_⟩
   have mL:=(List.getElem?_eq_some_iff.1 hi).1
   have r8:(cs::left.eraseIdx i).Perm left:=by
    exact s5 hi
   have Iz:(pre++cs::left.eraseIdx i).Perm r.rows:=(r8.append_left pre).trans hp
   have Tp:jH ([nx,ok,en]++AM c) (upd env (some it) (.ptr ⟨site,σ.next⟩ 0 0)) (upd (upd (upd e (some nx) (.fD [.bool true,kv,vv])) (some ok) (.bool true)) (some en) (.fD [kv,vv])):=
    ((hK.upd (fun t h=>by cases h;simp)).upd (fun t h=>by cases h;simp)).upd (fun t h=>by cases h;simp)
   refine kn (fun _ _ _ _ h=>h) az c _ _ _ _ (fun x e' s' hx=>?_) (BR c _ _ _ (fun t ht=>List.mem_append_right _ ht) Tp (step pre cs (left.eraseIdx i) e s kv vv Iz hI hK hk hv))
   obtain⟨hx,GO⟩:=hx
   have xh:I (pre++[cs]) e' s'->Fq m it nx ok en ⟨site,σ.next⟩ (dW (Call P) c) b b1 Q n (left.eraseIdx i) e' s':=fun Z6=>
    ih (left.eraseIdx i) (pre++[cs]) e' s' (by rw[List.append_assoc];exact Iz) (by rw[List.length_eraseIdx,if_pos mL];omega) Z6 GO
   cases x with
   |normal=>exact xh hx
   |ret=>exact hx
   |exit kK=>
    simp only[aX]at hx ⊢
    split at hx
    ·rename_i h1;rw[if_pos h1];exact xh hx
    ·rename_i h1;rw[if_neg h1];exact hx
 exact key _ r.rows [] _ _ (List.Perm.refl _) rfl h0 (jH.refl _ _)
end Go.Proofs.YtainmfbpilopaaaGreatDoor.V

namespace Go.Proofs.YtainmfbpilopaaaGreatDoor.V
open Go.RowKit
def Sk:Code->Code
 | .seq a _=>a
 |c=>c
def Lv:Code->Code
 | .seq _ b=>b
 |c=>c
def Zj:Code->Code
 | .block _ c=>c
 |c=>c
def zsLp:Code->Code
 | .loop c=>c
 |c=>c
def Ym:Code->List Oper
 | .region _ o _=>o.toList
 |_=>[]
def rg2 (k:Code):Code:=Sk (Sk (Lv (Lv k)))
def rgBl (k:Code):Code:=Lv (Sk (Lv (Lv k)))
def rgL (k:Code):Code:=zsLp (Zj (rgBl k))
def UF (k:Code):Code:=Lv (Lv (rgL k))
def Vj:Oper:={dst:=none,op:=.nilCheck (.tmp 0),type:=0,pos:= "",after:= #[],guard:=none}
def rgP (k:Code):List Oper:=(Ym (rg2 k)).dropLast
def rgO (k:Code):Oper:=(Ym (rg2 k)).getLastD Vj
def Zd (k:Code) (i:Nat):Oper:=(Ym (Sk (rgL k))).getD i Vj
def XW (k:Code):Oper:=(Ym (Sk (Zj (UF k)))).headD Vj
def XX (k:Code):List Oper:=(Ym (Sk (Zj (UF k)))).tail
def rgR (k:Code):Code:=Lv (Zj (UF k))
def XY (P:Program) (v0 v1:VC) (vA:List bL) (m:MK) (tm:O) (site it nx ok en:Nat) (vE:List bL) (vR:VC) (b b1:Nat) (vT:VC) (Q:Ex->Env->aw->Prop):Env->aw->Prop:=
 dW (Sound P) v0 (da (dW (Sound P) v1 (da (wpOps (Sound P) false vA (KM m tm site it nx ok en (dW (Sound P) (.seq (.fF false vE) vR)) b b1 (da (dW (Sound P) vT Q) Q))) Q)) Q)
def UG (P:Program) (v0 v1:VC) (vA:List bL) (m:MK) (tm:O) (site it nx ok en:Nat) (vE:List bL) (vR:VC) (b b1:Nat) (vT:VC) (Q:Ex->Env->aw->Prop):Env->aw->Prop:=
 dW (Call P) v0 (da (dW (Call P) v1 (da (wpOps (Call P) false vA (KM m tm site it nx ok en (dW (Call P) (.seq (.fF false vE) vR)) b b1 (da (dW (Call P) vT Q) Q))) Q)) Q)
theorem zL {F F':Env->aw->Prop} {Q:Ex->Env->aw->Prop} (h:∀e s,F e s->F' e s):∀x e s,da F Q x e s->da F' Q x e s:=fun x e s hx=>by
 cases x with
 |normal=>exact h e s hx
 |ret=>exact hx
 |exit id=>exact hx
theorem N5 {P:Program} (hm:P.follows .mixedOrders=true) {v0 v1:VC} {vA:List bL} {m:MK} {tm:O} {site it nx ok en:Nat} {vE:List bL} {vR:VC} {b b1:Nat} {vT:VC} {Q:Ex->Env->aw->Prop} {env:Env} {σ:aw}
  (h:UG P v0 v1 vA m tm site it nx ok en vE vR b b1 vT Q env σ):XY P v0 v1 vA m tm site it nx ok en vE vR b b1 vT Q env σ:=
 uQ hm (zL fun _ _ h=>uQ hm (zL fun _ _ h=>mK (fun _ _ _ _ h=>gD hm h) l7 (fun _ _ h=>KN hm (zL fun _ _ h=>uQ hm (fun _ _ _ h=>h) h) h) _ _ _ h) h) h
noncomputable def EL:Go.Code:=Tryz.f97.body.getD .skip
def OD:VC:=(.fF false [⟨(some 2),(.new [.bU]),none,97000000,[]⟩])
def Sf:VC:=(.fF false [⟨(some 3),(.eb (.k .bU)),none,97001000,[]⟩])
def Sg:List bL:=[⟨(some 6),(.eb (.t 0)),none,97002000,[]⟩,⟨(some 7),(.Dg (.t 6)),none,97002001,[]⟩,⟨(some 8),(.iP 4 (.t 7)),none,97002002,[]⟩,⟨(some 9),(.load false 1 (.t 8)),none,97002003,[]⟩]
def I0:List bL:=[⟨(some 14),(.extract 0 (.t 13)),none,97004001,[]⟩,⟨(some 15),(.extract 1 (.t 13)),none,97004002,[]⟩,⟨(some 4),(.new [(.int .i64 0),(.int .i64 0)]),none,97004003,[]⟩,⟨none,(.store 2 (.t 4) (.t 14)),none,97004004,[]⟩,⟨(some 5),(.eb (.t 15)),none,97004005,[]⟩]
def I3:VC:=(.fF false [⟨(some 16),(.eb (.t 3)),none,97005000,[]⟩,⟨(some 17),(.load true 2 (.t 4)),none,97005001,[]⟩,⟨(some 18),(.eb (.t 5)),none,97005002,[]⟩,⟨(some 19),(.build [(.int .i64 0),(.int .i64 0),(.int .i64 0)] [(0,(2,(.t 17))),(2,(1,(.t 18)))]),none,97005003,[]⟩,⟨(some 20),(.nD 3 1 [(.t 19)]),none,97005004,[]⟩,⟨(some 21),(.append 3 (.t 16) (.t 20)),none,97005005,[]⟩,⟨(some 3),(.eb (.t 21)),none,97005006,[]⟩])
def I4:VC:=(.seq (.fF false [⟨(some 22),(.eb (.t 3)),none,97006000,[]⟩,⟨(some 23),(.call 167 [(.t 22)]),none,97006001,[]⟩,⟨none,(.store 1 (.t 2) (.t 23)),none,97006002,[]⟩]) .ret)
def I6:List pN:=[(.cell true 1 2)]
def Ov:O:=(.t 9)
theorem XO:LG Tryz.prog [] Tryz.f97.ntmps 97 97004000 10 11 12 13 (Zd EL 0) (Zd EL 1) (XW EL) (XX EL) (rgR EL) I0 I3:=⟨by kernel_rfl,by kernel_rfl,by kernel_rfl,by kernel_rfl,by kernel_rfl,by kernel_rfl,by kernel_rfl,by kernel_rfl,by kernel_rfl,by decide,by decide,by decide,by decide,by decide,by kernel_rfl,by kernel_rfl⟩
theorem X1:EL=.seq (Sk EL) (.seq (Sk (Lv EL)) (.seq (.seq (.region 2 (rgP EL++[rgO EL]).toArray false) (.block 0 (.loop (N4 3 4 0 1 12 (Zd EL 0) (Zd EL 1) (XW EL) (XX EL) (rgR EL))))) (Lv (Lv (Lv EL))))):=by kernel_rfl
theorem Wj (m:MK):CS Tryz.prog Tryz.f97.ntmps EL (XY Tryz.prog OD Sf Sg m Ov 97002999 10 11 12 13 I0 I3 0 1 I4):=by
 rw[X1]
 exact CS.seq (CS.code (md:=[]) (fid:=97) mixed (by kernel_rfl)) (CS.seq (CS.code (md:=[]) (fid:=97) mixed (by kernel_rfl)) (CS.seq (CS.rng (tm:=.tmp 9) (sA:=97002000) (t:=155) (k:=51) (e:=2) mixed XO (by kernel_rfl) (by kernel_rfl) (by kernel_rfl) (by decide) (by kernel_rfl) (by kernel_rfl) (by kernel_rfl)) (CS.code (md:=[]) (fid:=97) mixed (by kernel_rfl))))
theorem XV {args:List AV} {σ:aw} {K:AV->aw->Prop} (ha:args.length=Tryz.f97.params.size) (m:MK) (h:UG Tryz.prog OD Sf Sg m Ov 97002999 10 11 12 13 I0 I3 0 1 I4 (lU I6 K) (bW args) σ):Call Tryz.prog 97 args σ K:=
 CS.fn Tryz.func97 (by kernel_rfl) (by kernel_rfl) ha.symm (by decide) (Wj m) (N5 mixed h)
end Go.Proofs.YtainmfbpilopaaaGreatDoor.V

namespace Go.Proofs.YtainmfbpilopaaaGreatDoor.V
open Go.RowKit
attribute [local irreducible] dW wpOps fu Call
def dd (L:List aq):Nat->List aq
 |0=>[]
 |j+1=>if 0<j/\jU L j=jU L (j-1)then dd L j else dd L j++[jU L j]
theorem BH:∀{ps qs:List aa},(ps.Pairwise fun a b=>jj a.aQ b.aQ=true)->(qs.Pairwise fun a b=>jj a.aQ b.aQ=true)->(∀x,x∈ps↔x∈qs)->ps=qs
 |[],[],_,_,_=>rfl
 |[],q::qs,_,_,h=>absurd ((h q).2 (by simp)) (by simp)
 |p::ps,[],_,_,h=>absurd ((h p).1 (by simp)) (by simp)
 |p::ps,q::qs,hp,hq,h=>by
  obtain⟨p1,p2⟩:=List.pairwise_cons.1 hp
  obtain⟨q1,q2⟩:=List.pairwise_cons.1 hq
  have e:p=q:=by
   rcases List.mem_cons.1 ((h p).1 (by simp))with e|e
   ·exact e
   ·rcases List.mem_cons.1 ((h q).2 (by simp))with e'|e'
    ·exact e'.symm
    ·have:=EX (q1 p e)
     rw[p1 q e']at this;cases this
  subst e
  congr 1
  refine BH p2 q2 fun x=>⟨fun hx=>?_,fun hx=>?_⟩
  ·rcases List.mem_cons.1 ((h x).1 (List.mem_cons_of_mem _ hx))with e|e
   ·subst e;have:=p1 x hx;rw[jc]at this;cases this
   ·exact e
  ·rcases List.mem_cons.1 ((h x).2 (List.mem_cons_of_mem _ hx))with e|e
   ·subst e;have:=q1 x hx;rw[jc]at this;cases this
   ·exact e
theorem HA {L qs:List aa} (hR:nC L) (hp:qs.Perm L) (hs:∀i j:Nat,i<j->j<qs.length->jj (bd qs j).aQ (bd qs i).aQ=false):qs=L:=by
 rw[uB]at hR
 have hd:L.Pairwise fun a b=>a.aQ≠b.aQ:=hR.imp fun {a b} h e=>by rw[e,jc]at h;cases h
 have hdq:qs.Pairwise fun a b=>a.aQ≠b.aQ:=hp.symm.pairwise hd fun {a b} h e=>h e.symm
 refine BH ?_ hR fun x=>hp.mem_iff
 rw[List.pairwise_iff_getElem]at hdq ⊢
 intro i j hi hj Be
 have h1:=hs i j Be hj
 rw[fx hj,fx hi]at h1
 exact ya h1 fun e=>hdq i j hi hj Be e.symm
theorem Gm (ps:List aa) (h0:ps≠[]) (hlen:ps.length<=1048576) (σ:aw) (id:Id) (hv:id.bG<σ.next) (hg:σ.get id=some ⟨true,3,ps.map ab⟩):
  Call Tryz.prog 161 [.own id 0 ps.length] σ fun a σ'=>∃o:Id,a=.own o 0 ps.length/\σ'.get o=some ⟨true,3,ps.map ab⟩/\σ.next<=o.bG/\o.bG<σ'.next/\∀x:Id,x.bG<σ.next->σ'.get x=σ.get x:=by
 refine eB eI rfl fun hl=>?_
 clear hl
 have h2:ps.length<=16777216:=ah
 have hm:(ps.map ab).length=ps.length:=by simp
 have v1:=db hv
 have ht:(ps.map ab).take ps.length=ps.map ab:=by rw[<-hm,List.take_length]
 have ha:(ps.map ab).all (fun c=>c.length==3&&c.all AV.cell)=true:=all_map fun x=>by simp[ab,AV.cell]
 (try((repeat(revert N;apply Pn.out));refine wk (tw @hg (tw @h2 (tw @hm (tw @v1 (tw @ht @ha))))) ?_;(repeat(apply Pn.mk;intro N hN))))
 exact er (vs:=[.own ⟨161003002,σ.next+2⟩ 0 ps.length]) (.inl rfl) (sd @Nat.zero_add) ⟨_,rfl,sd @Nat.zero_add,bc,bc,fun x hx=>by
  have:=db hx
  simp only[go_sem, ↓reduceIte,Nat.reduceEqDiff,Nat.reduceAdd,Nat.reduceSub,Nat.reduceLeDiff,reduceCtorEq,this]⟩
theorem BW (ps L:List aa) (hlen:ps.length<=1000000) (h0:ps≠[]) (hR:nC L) (hp:ps.Perm L) (σ:aw) (id:Id) (hv:id.bG<σ.next) (hg:σ.get id=some ⟨true,3,ps.map ab⟩):
  Call Tryz.prog 167 [.own id 0 ps.length] σ fun a σ'=>∃o:Id,a=.agg [.own o 0 L.length]/\σ'.get o=some ⟨true,3,L.map ab⟩/\σ.next<=o.bG/\o.bG<σ'.next/\∀x:Id,x.bG<σ.next->σ'.get x=σ.get x:=by
 refine eB eI rfl fun hl=>?_
 clear hl
 have v1:=db hv
 (try((repeat(revert N;apply Pn.out));refine wk (tw @hg @v1) ?_;(repeat(apply Pn.mk;intro N hN))))
 refine .inr (az _ _ _ _ _ (fun r σ1 hq=>?_) (Gm ps h0 ah ⟨_,_⟩ id bc (sd (tw @v1 @hg))))
 obtain⟨g1,x1⟩:=σ1
 obtain⟨o,rfl,q1,q2,q3,q4⟩:=hq
 (try dsimp only at q1 q2 q3 q4)
 have k2:=q4 ⟨167000000,σ.next⟩ bc
 simp only[go_sem, ↓reduceIte,Nat.reduceEqDiff,Nat.reduceAdd,Nat.reduceSub,Nat.reduceLeDiff,reduceCtorEq]at k2
 apply hN
 clear hN N
 (try((repeat(revert N;apply Pn.out));refine wk @Nat.zero_add ?_;(repeat(apply Pn.mk;intro N hN))))
 refine .inr (az _ _ _ _ _ (fun r σ2 hq=>?_) (KS UM UN ps ah ⟨g1,_⟩ o q1))
 obtain⟨g2,x2⟩:=σ2
 obtain⟨u1,u2,ss,u3,u4,u5,u6⟩:=hq
 (try dsimp only at u1 u2 u3)
 have Y2:ss=L:=HA hR (u5.trans hp) u6
 rw[Y2]at u3 u4
 have o2:(⟨167000000,σ.next⟩:Id)≠o:=fun e=>by rw[<-e]at q2;(try dsimp only at q2);omega
 have k3:=(u2 _ o2).trans k2
 have of:=eq_false (fun e:o=(⟨167000000,σ.next⟩:Id)=>o2 e.symm)
 apply hN
 clear hN N
 (try((repeat(revert N;apply Pn.out));refine wk @k3 ?_;(repeat(apply Pn.mk;intro N hN))))
 exact er (.inl rfl) (vs:=[.agg [.own o 0 ps.length]]) (sd @Nat.zero_add) ⟨o,by rw[u4];rfl,sd (tw @of @u3),ah,bc,fun x hx=>by
  have h1:x≠o:=fun e=>by rw[e]at hx;omega
  have h2:=u2 x h1
  have h3:=q4 x bc
  have h4:=db hx
  simp only[go_sem, ↓reduceIte,Nat.reduceEqDiff,Nat.reduceAdd,Nat.reduceSub,Nat.reduceLeDiff,reduceCtorEq,h4]at h3
  simp only[go_sem, ↓reduceIte,Nat.reduceEqDiff,Nat.reduceAdd,Nat.reduceSub,Nat.reduceLeDiff,reduceCtorEq,h4,h2,h3]⟩
structure pz (n:Nat) (px:Nat->Option Nat) (L:Nat->Nat):Prop where
 top:∀k,k<n->px k=none->L k=k
 up:∀k j,k<n->px k=some j->j<k/\L j=L k
theorem pz.root {n:Nat} {px:Nat->Option Nat} {L:Nat->Nat} (h:pz n px L) (hL:kE L) {k:Nat} (hk:k<n) (hr:L k=k):px k=none:=by
 rcases hp:px k with _|j
 ·rfl
 ·obtain⟨h1,h2⟩:=h.up k j hk hp
  have:=hL.le j
  omega
theorem pz.start (n:Nat):pz n (fun _=>none) id:=⟨fun _ _ _=>rfl,fun _ _ _ h=>by cases h⟩
theorem pz.join {n:Nat} {px:Nat->Option Nat} {L:Nat->Nat} (h:pz n px L) (hL:kE L) (b:PB) (eu:min (L b.a) (L b.b)<max (L b.a) (L b.b)):pz n (fun k=>if k=max (L b.a) (L b.b)then some (min (L b.a) (L b.b))else px k) (fe L b):=by
 have ha:=hL.idem b.a
 have hb:=hL.idem b.b
 have Cr:L (min (L b.a) (L b.b))=min (L b.a) (L b.b):=by
  rcases Nat.le_total (L b.a) (L b.b)with h|h
  ·rw[Nat.min_eq_left h,ha]
  ·rw[Nat.min_eq_right h,hb]
 have JY:L (max (L b.a) (L b.b))=max (L b.a) (L b.b):=by
  rcases Nat.le_total (L b.a) (L b.b)with h|h
  ·rw[Nat.max_eq_right h,hb]
  ·rw[Nat.max_eq_left h,ha]
 unfold fe
 generalize min (L b.a) (L b.b)=lo at *
 generalize max (L b.a) (L b.b)=hi at *
 refine⟨fun k hk hp=>?_,fun k j hk hp=>?_⟩
 ·by_cases OZ:k=hi
  ·rw[if_pos OZ]at hp;cases hp
  ·rw[if_neg OZ]at hp
   have:=h.top k hk hp
   rw[if_neg ah];exact this
 ·by_cases OZ:k=hi
  ·rw[if_pos OZ]at hp
   cases hp
   subst OZ
   exact⟨eu,by rw[if_neg ah,if_pos JY,Cr]⟩
  ·rw[if_neg OZ]at hp
   obtain⟨h1,h2⟩:=h.up k j hk hp
   exact⟨h1,by rw[h2]⟩
theorem Cy {L:Nat->Nat} {b:PB} (h:L b.a=L b.b):fe L b=L:=by
 funext k
 unfold fe
 rw[h,Nat.max_self,Nat.min_self]
 split
 ·rename_i h;exact h.symm
 ·rfl
def vz (G:Nat->Id) (px:Nat->Option Nat) (k:Nat):List AV:=[match px k with|none=>.iH|some j=>.ptr (G j) 0 0,.int .i64 (k:Int)]
def xt (g:Rows) (G:Nat->Id) (n:Nat) (px:Nat->Option Nat):Prop:=∀k,k<n->g (G k)=some ⟨true,2,[vz G px k]⟩
theorem xt.frame {g g':Rows} {G:Nat->Id} {n:Nat} {px:Nat->Option Nat} (h:xt g G n px) (hf:∀k,k<n->g' (G k)=g (G k)):xt g' G n px:=fun k hk=>(hf k hk).trans (h k hk)
theorem nq {G:Nat->Id} {px:Nat->Option Nat} {k:Nat} (h:px k=none):vz G px k=[.iH,.int .i64 (k:Int)]:=by rw[vz,h]
theorem wU {G:Nat->Id} {px:Nat->Option Nat} {k j:Nat} (h:px k=some j):vz G px k=[.ptr (G j) 0 0,.int .i64 (k:Int)]:=by rw[vz,h]
theorem Cd (G:Nat->Id) (n:Nat) (px:Nat->Option Nat) (L:Nat->Nat) (h:pz n px L) (k:Nat) (hk:k<n) (σ:aw) (hG:xt σ.get G n px):
  Call Tryz.prog 255 [.ptr (G k) 0 0] σ fun r σ'=>r=.ptr (G (L k)) 0 0/\σ'.get=σ.get/\σ.next<=σ'.next:=by
 refine eB eI rfl fun hl=>?_
 clear hl
 (try((repeat(revert N;apply Pn.out));refine wk @Nat.zero_add ?_;(repeat(apply Pn.mk;intro N hN))))
 refine bf (fun m env st=>∃j:Nat,m=j/\j<n/\env 0=.ptr (G j) 0 0/\L j=L k/\st.get=σ.get/\σ.next<=st.next) k ⟨k,rfl,hk,sd @Nat.zero_add,rfl,by(try dsimp only),bc⟩ ?_
 rintro m env_b st_b ⟨j,rfl,hj,b0,hLj,hg,hle⟩ fh
 clear fh
 have fm:=hG m hj
 rcases hp:px m with _|j
 ·rw[nq hp]at fm
  (try((repeat(revert N;apply Pn.out));refine wk (tw @b0 (tw @hg @fm)) ?_;(repeat(apply Pn.mk;intro N hN))))
  exact er (.inl rfl) (vs:=[.ptr (G m) 0 0]) (sd @Nat.zero_add) ⟨by rw[<-hLj,h.top m hj hp];rfl,by first|trivial|rfl|exact hg,bc⟩
 ·rw[wU hp]at fm
  obtain⟨h1,h2⟩:=h.up m j hj hp
  (try((repeat(revert N;apply Pn.out));refine wk (tw @b0 (tw @hg @fm)) ?_;(repeat(apply Pn.mk;intro N hN))))
  exact⟨j,h1,j,rfl,ah,sd @Nat.zero_add,ah,by first|trivial|rfl|exact hg,bc⟩
end Go.Proofs.YtainmfbpilopaaaGreatDoor.V

namespace Go.Proofs.YtainmfbpilopaaaGreatDoor.V
open Go.RowKit
attribute [local irreducible] dW wpOps fu Call
attribute [local go_sem] aJ fc eA fq fo dh upd bW K.av cC AV.cells AV.cell rowOf rowsOf part ld rowAt fR bJ bV dn dE fU bx cQ dO fj eK di dI cN cL dy dz bD aU cF bB cH cG dG dJ dH cE bF cP dF bz aH cJ cm fS bj cw bE aT da aX dp AV.undef br bt dC dD dt dw cr dM dP cj dL dK cI cK List.getD_cons_zero List.getD_cons_succ List.getD_nil List.all_cons List.all_nil Bool.and_true Bool.true_and Bool.and_self Bool.not_true Bool.not_false Option.map_some Option.map_none Option.bind_some Option.bind_none List.length_cons List.length_nil List.take_succ_cons List.take_zero List.take_nil List.drop_succ_cons List.drop_zero List.drop_nil List.head?_cons List.map_cons List.map_nil List.getElem?_cons_zero List.getElem?_cons_succ List.cons_append List.nil_append List.append_nil List.length_map List.set_cons_zero List.set_cons_succ eq_self Int.toNat_natCast Int.natCast_nonneg and_self true_and and_true decide_true decide_false Bool.false_eq_true Nat.zero_add Nat.add_zero List.contains_cons List.contains_nil Bool.or_false Bool.false_or beq_self_eq_true ne_eq not_true_eq_false not_false_eq_true Id.mk.injEq false_and and_false Nat.le_refl List.length_append beq_true beq_false Bool.not_eq_eq_eq_not or_false false_or ea ai ar aB aW bq bP aO aY aP aV cD bp
abbrev mI:MK:=⟨false,[.tI]⟩
def vN (l:List (Nat×Nat)):List (List AV):=l.map fun p=>[.int .i64 (p.1:Int),.int .i64 (p.2:Int)]
theorem EG (r:Nat):∀(l:List (Nat×Nat)) (i:Nat),((∀p∈l,p.1≠r)->gO mI [.int .i64 (r:Int)] (vN l) i=some none)/\(∀j v,l[j]? =some (r,v)->(∀x y,x<j->l[x]? =some y->y.1≠r)->gO mI [.int .i64 (r:Int)] (vN l) i=some (some (i+j)))
 |[],i=>⟨fun _=>rfl,fun j v h=>by simp at h⟩
 |p::l,i=>by
  obtain⟨h1,h2⟩:=EG r l (i+1)
  by_cases h:p.1=r
  ·refine⟨fun hp=>absurd h (hp p (by simp)),fun j v hj hf=>?_⟩
   have RM:j=0:=by
    rcases Nat.eq_zero_or_pos j with h0|h0
    ·exact h0
    ·exact absurd h (hf 0 p h0 (by simp))
   subst RM
   simp[vN,gO,eK,fj,MK.ks,h]
  ·have hd:¬((r:Int)=(p.1:Int)):=ah
   have nJ:¬r=p.1:=fun he=>h he.symm
   have step:gO mI [.int .i64 (r:Int)] (vN (p::l)) i=gO mI [.int .i64 (r:Int)] (vN l) (i+1):=by
    unfold vN
    simp[gO,MK.ks,eK,fj,hd,nJ,h]
   rw[step]
   refine⟨fun hp=>h1 fun q hq=>hp q (by simp[hq]),fun j v hj hf=>?_⟩
   cases j with
   |zero=>simp at hj;rw[hj]at h;exact absurd rfl h
   |succ j=>
    rw[h2 j v (by simpa using hj) fun x y hx hy=>hf (x+1) y ah (by simpa using hy)]
    congr 2;omega
theorem Bk {r:Nat} {l:List (Nat×Nat)}:((∀p∈l,p.1≠r)->gH mI (.int .i64 (r:Int)) (vN l)=some none)/\(∀j v,l[j]? =some (r,v)->(∀x y,x<j->l[x]? =some y->y.1≠r)->gH mI (.int .i64 (r:Int)) (vN l)=some (some j)):=by
 have e:gH mI (.int .i64 (r:Int)) (vN l)=gO mI [.int .i64 (r:Int)] (vN l) 0:=by
  unfold gH
  rw[if_pos ⟨rfl,rfl,rfl⟩];rfl
 obtain⟨h1,h2⟩:=EG r l 0
 rw[e]
 exact⟨h1,fun j v hj hf=>by rw[h2 j v hj hf,Nat.zero_add]⟩
def mh (k:Nat) (L:Nat->Nat):List (List AV):=vN (leads k L).zipIdx
theorem G8 {k:Nat} {L:Nat->Nat} (h:L k=k):mh (k+1) L=mh k L++[[.int .i64 (k:Int),.int .i64 ((leads k L).length:Int)]]:=by
 unfold mh
 rw[iF,if_pos h,List.zipIdx_append]
 simp[vN]
theorem G7 {k:Nat} {L:Nat->Nat} (h:L k≠k):mh (k+1) L=mh k L:=by
 unfold mh
 rw[iF,if_neg h,List.append_nil]
theorem Kj {k:Nat} {L:Nat->Nat} (h:L k=k):gH mI (.int .i64 (k:Int)) (mh k L)=some none:=by
 refine Bk.1 fun p hp=>?_
 have:=List.fst_mem_of_mem_zipIdx hp
 have:=(Br.1 this).1
 omega
theorem Bp {n:Nat} {L:Nat->Nat} {x y:Nat} (hx:x<(leads n L).length) (hy:y<(leads n L).length) (h:(leads n L)[x]=(leads n L)[y]):x=y:=by
 have hp:=List.pairwise_iff_getElem.1 (xe n L)
 rcases Nat.lt_trichotomy x y with eu|he|eu
 ·exact absurd h (hp x y hx hy eu)
 ·exact he
 ·exact absurd h.symm (hp y x hy hx eu)
theorem Bo {k:Nat} {L:Nat->Nat} (hL:kE L) (h:L k≠k):gH mI (.int .i64 (L k:Int)) (mh k L)=some (some (cW L k))/\(mh k L)[cW L k]? =some [.int .i64 (L k:Int),.int .i64 (cW L k:Int)]/\cW L k<(leads k L).length:=by
 have eu:L k<k:=Nat.lt_of_le_of_ne (hL.le k) h
 have hn:cW L (L k)=cW L k:=by rw[cW,hL.idem,cW]
 have hg:=q9 hL eu
 rw[hn,hL.idem]at hg
 have hl:cW L k<(leads k L).length:=(List.getElem?_eq_some_iff.1 hg).1
 have hz:(leads k L).zipIdx[cW L k]? =some (L k,cW L k):=by simp[List.getElem?_zipIdx,hg]
 refine⟨Bk.2 _ _ hz fun x y hx hy=>?_,by unfold mh vN;rw[List.getElem?_map,hz];rfl,hl⟩
 intro he
 rw[List.getElem?_zipIdx]at hy
 have VV:x<(leads k L).length:=ah
 rw[List.getElem?_eq_getElem VV]at hy
 simp at hy
 rw[<-hy]at he
 simp at he
 have e2:(leads k L)[cW L k]=L k:=(List.getElem?_eq_some_iff.1 hg).2
 have:=Bp VV hl (he.trans e2.symm)
 omega
def kI (k:Nat) (L:Nat->Nat):List (List Nat):=(leads k L).map (members k L)
theorem sK (k:Nat) (L:Nat->Nat):(kI k L).length=(leads k L).length:=by simp[kI]
theorem GB {k:Nat} {L:Nat->Nat} (hL:kE L) (h:L k=k):kI (k+1) L=kI k L++[[k]]:=by
 unfold kI
 rw[iF,if_pos h,List.map_append,List.map_cons,List.map_nil,kd,if_pos h,o8 hL (Nat.le_refl k),List.nil_append]
 congr 1
 refine List.map_congr_left fun r hr=>?_
 have:=(Br.1 hr).1
 rw[kd,if_neg ah,List.append_nil]
theorem GC {k:Nat} {L:Nat->Nat} (hL:kE L) (h:L k≠k):(kI k L)[cW L k]? =some (members k L (L k))/\kI (k+1) L=(kI k L).set (cW L k) (members k L (L k)++[k]):=by
 obtain⟨_,_,hl⟩:=Bo hL h
 have eu:L k<k:=Nat.lt_of_le_of_ne (hL.le k) h
 have hg:=q9 hL eu
 have hn:cW L (L k)=cW L k:=by rw[cW,hL.idem,cW]
 rw[hn,hL.idem]at hg
 refine⟨by unfold kI;rw[List.getElem?_map,hg];rfl,?_⟩
 unfold kI
 rw[iF,if_neg h,List.append_nil]
 refine List.ext_getElem? fun i=>?_
 rw[List.getElem?_set,List.getElem?_map,List.length_map]
 by_cases hi:cW L k=i
 ·subst hi
  rw[if_pos rfl,if_pos hl,hg,Option.map_some,kd,if_pos rfl]
 ·rw[if_neg hi,List.getElem?_map]
  rcases hr:(leads k L)[i]? with _|r
  ·rfl
  ·rw[Option.map_some,Option.map_some,kd,if_neg,List.append_nil]
   rintro rfl
   obtain⟨mL,he⟩:=List.getElem?_eq_some_iff.1 hr
   have e2:(leads k L)[cW L k]=L k:=(List.getElem?_eq_some_iff.1 hg).2
   exact hi (Bp hl mL (e2.trans he.symm))
theorem E5 (k:Nat) (L:Nat->Nat) (r:Nat):(members k L r).length<=k:=by
 have:=List.length_filter_le (fun x=>L x==r) (List.range k)
 simpa[members]using this
def ON (g:Rows) (o:Id) (L:List (List Nat)) (nx:Nat):Prop:=∃rows ids,g o=some ⟨true,1,rows⟩/\eV Vu g rows L ids/\ids.Nodup/\(∀i∈ids,i.site=215026008/\i.bG<nx)/\o.site=215025002/\o.bG<nx
theorem PG {g':Rows} {v v' AB j:Nat} (h1:g' ⟨215025002,v⟩=some ⟨true,1,[[.own ⟨215026008,v'⟩ 0 1]]⟩) (h2:g' ⟨215026008,v'⟩=some ⟨true,1,[eN j]⟩) (hv:v<AB) (pU:v'<AB):ON g' ⟨215025002,v⟩ [[j]] AB:=
 ⟨_,[⟨215026008,v'⟩],h1,.one ⟨_,rfl,h2,rfl⟩,by simp,fun i hi=>by rw[List.mem_singleton.1 hi];exact⟨rfl,pU⟩,rfl,hv⟩
theorem ON.new {g:Rows} {o:Id} {L:List (List Nat)} {nx:Nat} (h:ON g o L nx) (j:Nat):∃rows,g o=some ⟨true,1,rows⟩/\rows.length=L.length/\∀(g':Rows) (v v' AB:Nat),nx<=v'->v<AB->v'<AB->g' ⟨215025002,v⟩=some ⟨true,1,rows++[[.own ⟨215026008,v'⟩ 0 1]]⟩->g' ⟨215026008,v'⟩=some ⟨true,1,[eN j]⟩->(∀i:Id,i.site=215026008->i.bG<nx->g' i=g i)->ON g' ⟨215025002,v⟩ (L++[[j]]) AB:=by
 obtain⟨rows,ids,h1,h2,h3,h4,h5,h6⟩:=h
 refine⟨rows,h1,h2.len,fun g' v v' AB hv sP P5 q1 q2 q3=>⟨_,ids++[⟨215026008,v'⟩],q1,(h2.frame Ut fun i hi=>q3 i (h4 i hi).1 (h4 i hi).2).app (.one ⟨_,rfl,q2,rfl⟩),?_,fun i hi=>?_,rfl,sP⟩⟩
 ·refine List.nodup_append.2 ⟨h3,by simp,fun a ha b hb oi=>?_⟩
  rw[List.mem_singleton.1 hb]at oi
  have:=(h4 a ha).2
  rw[oi]at this
  simp only at this
  omega
 ·rcases List.mem_append.1 hi with hi|hi
  ·have:=h4 i hi;exact⟨this.1,ah⟩
  ·rw[List.mem_singleton.1 hi];exact⟨rfl,P5⟩
theorem ON.add {g:Rows} {o:Id} {L:List (List Nat)} {nx k:Nat} {La:List Nat} (h:ON g o L nx) (hk:L[k]? =some La) (j:Nat):∃rows id,g o=some ⟨true,1,rows⟩/\rows.length=L.length/\rows[k]? =some [.own id 0 La.length]/\g id=some ⟨true,1,La.map eN⟩/\id.site=215026008/\id.bG<nx/\∀(g':Rows) (v' AB:Nat),nx<=v'->v'<AB->g' o=some ⟨true,1,rows.set k [.own ⟨215026008,v'⟩ 0 (La.length+1)]⟩->g' ⟨215026008,v'⟩=some ⟨true,1,La.map eN++[[.int .i64 (j:Int)]]⟩->(∀i:Id,i.site=215026008->i.bG<nx->(i=id)=False->g' i=g i)->ON g' o (L.set k (La++[j])) AB:=by
 obtain⟨rows,ids,h1,h2,h3,h4,h5,h6⟩:=h
 have lN:k<L.length:=(List.getElem?_eq_some_iff.1 hk).1
 have Z9:=mb hk lN
 obtain⟨cs,ic,dY,VA,Xa,rS⟩:=h2.XT Ut h3 k lN
 rw[Z9]at VA
 obtain⟨id,rfl,q1,rfl⟩:=VA
 have hid:=h4 id (Xa id (by simp))
 refine⟨rows,id,h1,h2.len,dY,q1,hid.1,hid.2,fun g' v' AB hv sP r1 r2 r3=>?_⟩
 obtain⟨G0,s1,s2,s3⟩:=rS g' [.own ⟨215026008,v'⟩ 0 (La.length+1)] (La++[j]) [⟨215026008,v'⟩] ⟨_,by simp,by rw[r2];simp[eN],rfl⟩ (fun i hi YW=>r3 i (h4 i hi).1 (h4 i hi).2 (by
  simp only[eq_iff_iff,iff_false];rintro rfl;exact YW (by simp))) (by simp) fun i hi hc=>by
   rw[List.mem_singleton.1 hi]at hc
   have:=(h4 _ hc).2
   simp only at this
   omega
 refine⟨_,G0,r1,s1,s2,fun i hi=>?_,h5,ah⟩
 rcases s3 i hi with h|h
 ·rw[List.mem_singleton.1 h];exact⟨rfl,sP⟩
 ·have:=h4 i h;exact⟨this.1,ah⟩
def nS (G:Nat->Id) (n k:Nat):List (List AV):=(List.range n).map fun i=>[if i<k then .ptr (G i) 0 0 else .iH]
theorem oH (G:Nat->Id) (n k:Nat):(nS G n k).length=n:=by simp[nS]
theorem K0 (G:Nat->Id) (n:Nat):List.replicate n [AV.iH]=nS G n 0:=by
 refine List.ext_getElem? fun i=>?_
 by_cases h:i<n
 ·rw[List.getElem?_replicate,if_pos h];simp[nS,h]
 ·rw[List.getElem?_eq_none (by simp;omega),List.getElem?_eq_none (by rw[oH];omega)]
theorem zR {G:Nat->Id} {n i:Nat} (h:i<n):(nS G n n)[i]? =some [.ptr (G i) 0 0]:=by simp[nS,h]
theorem Oq {G:Nat->Id} {n k:Nat} (h:k<n):(nS G n k).set k [.ptr (G k) 0 0]=nS G n (k+1):=by
 refine List.ext_getElem? fun i=>?_
 rw[List.getElem?_set,oH]
 by_cases hi:k=i
 ·subst hi;rw[if_pos rfl,if_pos h];simp[nS,h]
 ·rw[if_neg hi]
  by_cases gh:i<n
  ·simp only[nS,List.getElem?_map,List.getElem?_range gh,Option.map_some]
   by_cases Bf:i<k
   ·rw[if_pos Bf,if_pos ah]
   ·rw[if_neg Bf,if_neg ah]
  ·rw[List.getElem?_eq_none (by rw[oH];omega),List.getElem?_eq_none (by rw[oH];omega)]
end Go.Proofs.YtainmfbpilopaaaGreatDoor.V

namespace Go.Proofs.YtainmfbpilopaaaGreatDoor.V
open Go.RowKit
attribute [local irreducible] dW wpOps fu Call
theorem il {o:Id} {a:Nat} (h:o.site=a) {b v:Nat} (oi:(a==b)=false):(o=⟨b,v⟩)=False/\((⟨b,v⟩:Id)=o)=False:=by
 have h1:=CW h (v:=v) oi
 refine⟨h1,?_⟩
 simp only[eq_iff_iff,iff_false]at h1 ⊢
 exact fun h=>h1 h.symm
theorem yU (cnt:Nat) (tn:1<=cnt) (hn:cnt<=1048576) (bs:List PB) (hb:∀b∈bs,b.a<cnt/\b.b<cnt) (oV:bs.length<=1048576):au Tryz.prog 215 [.int .i64 cnt,.sl (bs.map aL)] (.sl ((gm cnt (eT bs)).map Dh)):=by
 intro n0
 refine F4 SJ rfl fun hl=>?_
 simp only[Vp,Vq,Vr]
 try simp only[q]
 clear hl
 have j6:(0:Int)<=(cnt:Int):=ah
 have pY:(cnt:Int)<=((16777216:Nat):Int):=ah
 obtain⟨G,hG⟩:∃G:Nat->Id,G=fun k=>⟨215005004,n0+3+4*k+2⟩:=⟨_,rfl⟩
 have Yx:∀k,(G k).site=215005004:=fun k=>by rw[hG]
 have Z3:∀k,(G k).bG=n0+3+4*k+2:=fun k=>by rw[hG]
 have Z1:∀i j,i≠j->(G i=G j)=False:=fun i j h=>by
  simp only[eq_iff_iff,iff_false]
  intro he
  have h1:=Z3 i
  rw[he,Z3 j]at h1
  omega
 have PJ:∀i s v,(215005004==s)=false->(G i=⟨s,v⟩)=False:=fun i s v h=>CW (Yx i) h
 have hz:=K0 G cnt
 (try((repeat(revert N;apply Pn.out));refine wk (tw @j6 (tw @pY (tw @Int.le_refl @hz))) ?_;(repeat(apply Pn.mk;intro N hN))))
 refine bf (fun n env st=>∃k:Nat,n=(cnt)-k/\k<=(cnt)/\env 21=.int .i64 (k:Int)/\st.get ⟨215001001,n0+1⟩=some ⟨true,1,nS G cnt k⟩/\(st.next=n0+3+4*k/\∀j:Nat,j<k->st.get (G j)=some ⟨true,2,[[.iH,.int .i64 (j:Int)]]⟩)) (cnt) ⟨0,ah,ah,sl @hz,sl @hz,⟨rfl,fun j hj=>ah⟩⟩ ?_
 rintro n_a env_a st_a ⟨k,rfl,ale,a21,ag0,kz⟩ dX
 have a0:=dX 0 (by kernel_rfl);have a1:=dX 1 (by kernel_rfl);have a5:=dX 5 (by kernel_rfl);have Sx:=dX 19 (by kernel_rfl);have a20:=dX 20 (by kernel_rfl)
 simp only[go_sem, ↓reduceIte,Nat.reduceEqDiff,Nat.reduceAdd,Nat.reduceSub,Nat.reduceLeDiff,reduceCtorEq,hz]at a0 a1 a5 Sx a20
 clear dX
 obtain⟨kz,nT⟩:=kz
 by_cases hk:(k:Int)<(cnt:Int)
 ·have cV:∀{e:Env} {gg:Rows} {nx:Nat},(e 21=.int .i64 (IntKind.i64.wrap ((k:Int)+1)))->(gg ⟨215001001,n0+1⟩=some ⟨true,1,nS G cnt (k+1)⟩)->(nx=n0+3+4*(k+1)/\∀j:Nat,j<(k+1)->gg (G j)=some ⟨true,2,[[.iH,.int .i64 (j:Int)]]⟩)->∃m0,m0<(cnt)-k/\∃k:Nat,m0=(cnt)-k/\k<=(cnt)/\e 21=.int .i64 (k:Int)/\gg ⟨215001001,n0+1⟩=some ⟨true,1,nS G cnt k⟩/\(nx=n0+3+4*k/\∀j:Nat,j<k->gg (G j)=some ⟨true,2,[[.iH,.int .i64 (j:Int)]]⟩):=fun x1 x2 x3=>⟨_,ah,k+1,rfl,ah,(by rw[x1,aE ah]),x2,x3⟩
  have fC:k<cnt:=ah
  have tl:=oH G cnt k
  have ew:=Oq (G:=G) fC
  have fa:(nS G cnt k)[k]? =some [.iH]:=by simp[nS,fC]
  have Yv:(⟨215005004,st_a.next+1+1⟩:Id)=G k:=by rw[hG,kz]
  have hGf:∀j,j<k->(G j=G k)=False:=fun j hj=>Z1 j k ah
  have Ck:∀j,(G j=(⟨215001001,n0+1⟩:Id))=False:=fun j=>PJ j _ _ (by decide)
  have GF:∀j,((⟨215001001,n0+1⟩:Id)=G j)=False:=fun j=>by
   have:=Ck j
   simp only[eq_iff_iff,iff_false]at this ⊢
   exact fun h=>this h.symm
  (try((repeat(revert N;apply Pn.out));refine wk (tw @a21 (tw @ag0 (tw @a0 (tw @a1 (tw @a5 (tw @Sx (tw @a20 (tw @hk (tw @tl (tw @Yv (tw @Ck (tw @GF (tw @ew @fa))))))))))))) ?_;(repeat(apply Pn.mk;intro N hN))))
  refine cV ?_ ?_ (by
   refine⟨by(try dsimp only)<;>omega,fun j hj=>?_⟩
   by_cases Bg:j=k
   ·subst Bg;simp only[go_sem, ↓reduceIte,Nat.reduceEqDiff,Nat.reduceAdd,Nat.reduceSub,Nat.reduceLeDiff,reduceCtorEq,Yv,Ck,GF]
   ·have hold:=nT j ah
    have gM:=hGf j ah
    simp only[go_sem, ↓reduceIte,Nat.reduceEqDiff,Nat.reduceAdd,Nat.reduceSub,Nat.reduceLeDiff,reduceCtorEq,Yv,Ck,GF,gM,hold])
  all_goals simp only[go_sem, ↓reduceIte,Nat.reduceEqDiff,Nat.reduceAdd,Nat.reduceSub,Nat.reduceLeDiff,reduceCtorEq,a21,ag0,a0,a1,a5,Sx,a20,Yv,Ck,GF,ew]
 have lN:cnt=k:=ah
 subst lN
 (try((repeat(revert N;apply Pn.out));refine wk (tw @a21 (tw @ag0 (tw @a0 (tw @a1 (tw @a5 (tw @Sx (tw @a20 @hk))))))) ?_;(repeat(apply Pn.mk;intro N hN))))
 refine bf (fun n env st=>∃i:Nat,n=(bs.length)-i/\i<=(bs.length)/\env 33=.int .i64 (i:Int)/\st.get ⟨215001001,n0+1⟩=some ⟨true,1,nS G cnt cnt⟩/\(n0+3+4*cnt<=st.next)/\(∃px,pz cnt px (eT (bs.take i))/\xt st.get G cnt px)) (bs.length) ⟨0,ah,ah,sl (tw @a21 (tw @ag0 (tw @a0 (tw @a1 (tw @a5 (tw @Sx @a20)))))),sl (tw @a21 (tw @ag0 (tw @a0 (tw @a1 (tw @a5 (tw @Sx @a20)))))),bc,⟨fun _=>none,pz.start cnt,nT⟩⟩ ?_
 rintro n_b env_b st_b ⟨i,rfl,ble,xw,bg0,bI0,bI1⟩ fh
 have b0:=fh 0 (by kernel_rfl);have b1:=fh 1 (by kernel_rfl);have b5:=fh 5 (by kernel_rfl);have AN:=fh 31 (by kernel_rfl);have wK:=fh 32 (by kernel_rfl)
 simp only[go_sem, ↓reduceIte,Nat.reduceEqDiff,Nat.reduceAdd,Nat.reduceSub,Nat.reduceLeDiff,reduceCtorEq,a21,ag0,a0,a1,a5,Sx,a20]at b0 b1 b5 AN wK
 clear fh
 obtain⟨px,O3,Yw⟩:=bI1
 have tl:=oH G cnt cnt
 have Wz:∀j v,(G j=(⟨215009002,v⟩:Id))=False:=fun j v=>PJ j _ v (by decide)
 have Ck:∀j v,(G j=(⟨215001001,v⟩:Id))=False:=fun j v=>PJ j _ v (by decide)
 have GF:∀j v,((⟨215001001,v⟩:Id)=G j)=False:=fun j v=>by
  have:=Ck j v
  simp only[eq_iff_iff,iff_false]at this ⊢
  exact fun h=>this h.symm
 have hGn:∀j,j<cnt->(G j).bG<st_b.next:=fun j hj=>by rw[Z3];omega
 by_cases hi:(i:Int)<(bs.length:Int)
 ·have fX:∀{e:Env} {gg:Rows} {nx:Nat},(e 33=.int .i64 (IntKind.i64.wrap ((i:Int)+1)))->(gg ⟨215001001,n0+1⟩=some ⟨true,1,nS G cnt cnt⟩)->(n0+3+4*cnt<=nx)->(∃px,pz cnt px (eT (bs.take (i+1)))/\xt gg G cnt px)->∃m0,m0<(bs.length)-i/\∃i:Nat,m0=(bs.length)-i/\i<=(bs.length)/\e 33=.int .i64 (i:Int)/\gg ⟨215001001,n0+1⟩=some ⟨true,1,nS G cnt cnt⟩/\(n0+3+4*cnt<=nx)/\(∃px,pz cnt px (eT (bs.take i))/\xt gg G cnt px):=fun x1 x2 x3 x4=>⟨_,ah,i+1,rfl,ah,(by rw[x1,aE ah]),x2,x3,x4⟩
  have gh:i<bs.length:=ah
  have jT:(bs.map aL)[i]? =some (aL bs[i]):=by simp[gh]
  have JR:=hb _ (List.getElem_mem gh)
  have nu:bs.take (i+1)=bs.take i++[bs[i]]:=List.take_succ_eq_append_getElem gh
  have ns:eT (bs.take (i+1))=fe (eT (bs.take i)) bs[i]:=by rw[nu,za]
  have hL:=xd (bs.take i)
  generalize eT (bs.take i)=L at *
  generalize bs[i]=b at *
  have gA:=zR (G:=G) JR.1
  have gB:=zR (G:=G) JR.2
  have iq:(b.a:Int)<(cnt:Int):=ah
  have gj:(b.b:Int)<(cnt:Int):=ah
  (try((repeat(revert N;apply Pn.out));refine wk (tw @xw (tw @bg0 (tw @b0 (tw @b1 (tw @b5 (tw @AN (tw @wK (tw @hi (tw @jT (tw @aL.eq_1 (tw @gA (tw @gB (tw @iq (tw @gj @tl)))))))))))))) ?_;(repeat(apply Pn.mk;intro N hN))))
  refine Dc (fun e s=>e 0=.int .i64 cnt/\e 1=.sl (bs.map aL)/\e 5=.own ⟨215001001,n0+1⟩ 0 cnt/\e 31=.sl (bs.map aL)/\e 32=.int .i64 bs.length/\e 33=.int .i64 i/\e 9=.ptr (G (L b.a)) 0 0/\e 10=.ptr (G (L b.b)) 0 0/\(∀j:Id,j.bG<st_b.next->s.get j=st_b.get j)/\st_b.next<=s.next) ?_ ?_
  ·rintro e1 s1 ⟨m0,m1,m5,m31,m32,m33,m9,m10,mf,mn⟩
   apply hN
   clear hN N
   have mG:xt s1.get G cnt px:=Yw.frame fun k hk=>mf _ (hGn k hk)
   have mt:=(mf ⟨215001001,n0+1⟩ bc).trans bg0
   have hla:L b.a<cnt:=Nat.lt_of_le_of_lt (hL.le _) JR.1
   have Xc:L b.b<cnt:=Nat.lt_of_le_of_lt (hL.le _) JR.2
   have ra:=mG _ hla
   have rb:=mG _ Xc
   rw[nq (O3.root hL hla (hL.idem _))]at ra
   rw[nq (O3.root hL Xc (hL.idem _))]at rb
   have put:∀(g':Rows) (lo hi:Nat),hi<cnt->g' (G hi)=some ⟨true,2,[[.ptr (G lo) 0 0,.int .i64 (hi:Int)]]⟩->(∀k,k≠hi->k<cnt->g' (G k)=s1.get (G k))->xt g' G cnt (fun k=>if k=hi then some lo else px k):=fun g' lo hi _ h1 h2 k hk=>by
    by_cases OZ:k=hi
    ·subst OZ;rw[h1,wU (j:=lo) (if_pos rfl)]
    ·rw[h2 k OZ hk,mG k hk]
     unfold vz
     simp only[if_neg OZ]
   rcases Nat.lt_trichotomy (L b.a) (L b.b)with eu|heq|eu
   ·have TJ:(L b.a:Int)<(L b.b:Int):=ah
    have hj:=O3.join hL b ah
    rw[Nat.max_eq_right ah,Nat.min_eq_left ah,<-ns]at hj
    (try((repeat(revert N;apply Pn.out));refine wk (tw @m0 (tw @m1 (tw @m5 (tw @m31 (tw @m32 (tw @m33 (tw @m9 (tw @m10 (tw @ra (tw @rb @TJ)))))))))) ?_;(repeat(apply Pn.mk;intro N hN))))
    refine fX ?_ ?_ bc (⟨_,hj,put _ _ _ Xc (sd @Nat.zero_add) (fun k hk _=>by
     have gM:=Z1 k _ hk
     simp only[go_sem, ↓reduceIte,Nat.reduceEqDiff,Nat.reduceAdd,Nat.reduceSub,Nat.reduceLeDiff,reduceCtorEq,gM])⟩)
    all_goals simp only[go_sem, ↓reduceIte,Nat.reduceEqDiff,Nat.reduceAdd,Nat.reduceSub,Nat.reduceLeDiff,reduceCtorEq,m0,m1,m5,m31,m32,m33,mt,Ck,GF]
   ·have tn:¬(L b.a:Int)<(L b.b:Int):=ah
    have TP:¬(L b.b:Int)<(L b.a:Int):=ah
    have P0:=Cy heq
    rw[P0]at ns
    (try((repeat(revert N;apply Pn.out));refine wk (tw @m0 (tw @m1 (tw @m5 (tw @m31 (tw @m32 (tw @m33 (tw @m9 (tw @m10 (tw @ra (tw @rb (tw @tn @TP))))))))))) ?_;(repeat(apply Pn.mk;intro N hN))))
    refine fX ?_ ?_ bc (⟨_,ns▸O3,mG.frame fun k hk=>rfl⟩)
    all_goals simp only[go_sem, ↓reduceIte,Nat.reduceEqDiff,Nat.reduceAdd,Nat.reduceSub,Nat.reduceLeDiff,reduceCtorEq,m0,m1,m5,m31,m32,m33,mt]
   ·have TJ:(L b.b:Int)<(L b.a:Int):=ah
    have tn:¬(L b.a:Int)<(L b.b:Int):=ah
    have hj:=O3.join hL b ah
    rw[Nat.max_eq_left ah,Nat.min_eq_right ah,<-ns]at hj
    (try((repeat(revert N;apply Pn.out));refine wk (tw @m0 (tw @m1 (tw @m5 (tw @m31 (tw @m32 (tw @m33 (tw @m9 (tw @m10 (tw @ra (tw @rb (tw @TJ @tn))))))))))) ?_;(repeat(apply Pn.mk;intro N hN))))
    refine fX ?_ ?_ bc (⟨_,hj,put _ _ _ hla (sd @Nat.zero_add) (fun k hk _=>by
     have gM:=Z1 k _ hk
     simp only[go_sem, ↓reduceIte,Nat.reduceEqDiff,Nat.reduceAdd,Nat.reduceSub,Nat.reduceLeDiff,reduceCtorEq,gM])⟩)
    all_goals simp only[go_sem, ↓reduceIte,Nat.reduceEqDiff,Nat.reduceAdd,Nat.reduceSub,Nat.reduceLeDiff,reduceCtorEq,m0,m1,m5,m31,m32,m33,mt,Ck,GF]
  ·intro N hN
   refine fB ?_ ?_<;>(try((repeat(revert N;apply Pn.out));refine wk (tw @xw (tw @bg0 (tw @b0 (tw @b1 (tw @b5 (tw @AN (tw @wK (tw @hi (tw @jT (tw @aL.eq_1 (tw @gA (tw @gB (tw @iq (tw @gj @tl)))))))))))))) ?_;(repeat(apply Pn.mk;intro N hN))))<;>(try refine fB ?_ ?_)<;>(try((repeat(revert N;apply Pn.out));refine wk (tw @xw (tw @bg0 (tw @b0 (tw @b1 (tw @b5 (tw @AN (tw @wK (tw @hi (tw @jT (tw @aL.eq_1 (tw @gA (tw @gB (tw @iq (tw @gj @tl)))))))))))))) ?_;(repeat(apply Pn.mk;intro N hN))))<;>(try refine fB ?_ ?_)<;>(try((repeat(revert N;apply Pn.out));refine wk (tw @xw (tw @bg0 (tw @b0 (tw @b1 (tw @b5 (tw @AN (tw @wK (tw @hi (tw @jT (tw @aL.eq_1 (tw @gA (tw @gB (tw @iq (tw @gj @tl)))))))))))))) ?_;(repeat(apply Pn.mk;intro N hN))))
   all_goals
    refine .inr (az _ _ _ _ _ (fun r σ1 hq=>?_) (Cd G cnt px L O3 b.a JR.1 _ (Yw.frame fun k hk=>sd @Wz)))
    obtain⟨g1,x1⟩:=σ1
    obtain⟨rfl,Ar,JX⟩:=hq
    (try dsimp only at Ar JX)
    subst Ar
    apply hN
    clear hN N
    (try((repeat(revert N;apply Pn.out));refine wk (tw @xw (tw @bg0 (tw @b0 (tw @b1 (tw @b5 (tw @AN (tw @wK (tw @hi (tw @jT (tw @aL.eq_1 (tw @gA (tw @gB (tw @iq (tw @gj @tl)))))))))))))) ?_;(repeat(apply Pn.mk;intro N hN))))
    refine .inr (az _ _ _ _ _ (fun r σ1 hq=>?_) (Cd G cnt px L O3 b.b JR.2 _ (Yw.frame fun k hk=>sd @Wz)))
    obtain⟨g1,x2⟩:=σ1
    obtain⟨rfl,Ar,oZ⟩:=hq
    (try dsimp only at Ar oZ)
    subst Ar
    apply hN
    clear hN N
    (try((repeat(revert N;apply Pn.out));refine wk (tw @xw (tw @bg0 (tw @b0 (tw @b1 (tw @b5 (tw @AN (tw @wK (tw @hi (tw @jT (tw @aL.eq_1 (tw @gA (tw @gB (tw @iq (tw @gj @tl)))))))))))))) ?_;(repeat(apply Pn.mk;intro N hN))))
    exact⟨sd (tw @xw (tw @bg0 (tw @b0 (tw @b1 (tw @b5 (tw @AN @wK)))))),sd (tw @xw (tw @bg0 (tw @b0 (tw @b1 (tw @b5 (tw @AN @wK)))))),sd (tw @xw (tw @bg0 (tw @b0 (tw @b1 (tw @b5 (tw @AN @wK)))))),sd (tw @xw (tw @bg0 (tw @b0 (tw @b1 (tw @b5 (tw @AN @wK)))))),sd (tw @xw (tw @bg0 (tw @b0 (tw @b1 (tw @b5 (tw @AN @wK)))))),sd (tw @xw (tw @bg0 (tw @b0 (tw @b1 (tw @b5 (tw @AN @wK)))))),sd (tw @xw (tw @bg0 (tw @b0 (tw @b1 (tw @b5 (tw @AN @wK)))))),sd (tw @xw (tw @bg0 (tw @b0 (tw @b1 (tw @b5 (tw @AN @wK)))))),fun j hj=>by
     have hv:=db hj
     simp only[go_sem, ↓reduceIte,Nat.reduceEqDiff,Nat.reduceAdd,Nat.reduceSub,Nat.reduceLeDiff,reduceCtorEq,hv],bc⟩
 have mL:i=bs.length:=ah
 subst mL
 rw[List.take_length]at O3
 have hL:=xd bs
 generalize eT bs=L at *
 (try((repeat(revert N;apply Pn.out));refine wk (tw @xw (tw @bg0 (tw @b0 (tw @b1 (tw @b5 (tw @AN (tw @wK (tw @hi @tl)))))))) ?_;(repeat(apply Pn.mk;intro N hN))))
 have l0:mh 0 L=[]:=rfl
 have oS:(none:Option Nat).isSome=false:=rfl
 have oT:∀a:Nat,(some a).isSome=true:=fun _=>rfl
 refine bf (fun n env st=>∃x:Nat,n=(cnt)-x/\x<=(cnt)/\env 81=.int .i64 (x:Int)/\st.get ⟨215001001,n0+1⟩=some ⟨true,1,nS G cnt cnt⟩/\st.get ⟨215017000,st_b.next+1+1⟩=some ⟨true,mI.lP,mh x L⟩/\(st_b.next+3<=st.next/\xt st.get G cnt px)/\((x=0/\env 11=.bU)∨∃o:Id,env 11=.own o 0 (leads x L).length/\ON st.get o (kI x L) st.next)) (cnt) ⟨0,ah,ah,sl (tw @xw (tw @bg0 (tw @b0 (tw @b1 (tw @b5 (tw @AN (tw @wK @l0))))))),sl (tw @xw (tw @bg0 (tw @b0 (tw @b1 (tw @b5 (tw @AN (tw @wK @l0))))))),sl (tw @xw (tw @bg0 (tw @b0 (tw @b1 (tw @b5 (tw @AN (tw @wK @l0))))))),⟨bc,Yw.frame fun k hk=>by(have gM:=PJ k 215017000 (st_b.next+1+1) (by decide));simp only[go_sem, ↓reduceIte,Nat.reduceEqDiff,Nat.reduceAdd,Nat.reduceSub,Nat.reduceLeDiff,reduceCtorEq,gM]⟩,.inl ⟨rfl,sd @Nat.zero_add⟩⟩ ?_
 rintro n_c env_c st_c ⟨x,rfl,cle,c81,cg0,cg1,cI0,cI1⟩ jq
 have qf:=jq 12 (by kernel_rfl);have Po:=jq 79 (by kernel_rfl);have Pp:=jq 80 (by kernel_rfl)
 simp only[go_sem, ↓reduceIte,Nat.reduceEqDiff,Nat.reduceAdd,Nat.reduceSub,Nat.reduceLeDiff,reduceCtorEq,xw,bg0,b0,b1,b5,AN,wK,l0]at qf Po Pp
 clear jq
 obtain⟨qZ,Wf⟩:=cI0
 have Tl:∀j v,(G j=(⟨215017000,v⟩:Id))=False:=fun j v=>PJ j _ v (by decide)
 have Th:∀j v,(G j=(⟨215025002,v⟩:Id))=False:=fun j v=>PJ j _ v (by decide)
 have Tj:∀j v,(G j=(⟨215025001,v⟩:Id))=False:=fun j v=>PJ j _ v (by decide)
 have Tk:∀j v,(G j=(⟨215026007,v⟩:Id))=False:=fun j v=>PJ j _ v (by decide)
 have Ti:∀j v,(G j=(⟨215026008,v⟩:Id))=False:=fun j v=>PJ j _ v (by decide)
 by_cases hx:(x:Int)<(cnt:Int)
 ·have ik:∀{e:Env} {gg:Rows} {nx:Nat},(e 81=.int .i64 (IntKind.i64.wrap ((x:Int)+1)))->(gg ⟨215001001,n0+1⟩=some ⟨true,1,nS G cnt cnt⟩)->(gg ⟨215017000,st_b.next+1+1⟩=some ⟨true,mI.lP,mh (x+1) L⟩)->(st_b.next+3<=nx/\xt gg G cnt px)->(((x+1)=0/\e 11=.bU)∨∃o:Id,e 11=.own o 0 (leads (x+1) L).length/\ON gg o (kI (x+1) L) nx)->∃m0,m0<(cnt)-x/\∃x:Nat,m0=(cnt)-x/\x<=(cnt)/\e 81=.int .i64 (x:Int)/\gg ⟨215001001,n0+1⟩=some ⟨true,1,nS G cnt cnt⟩/\gg ⟨215017000,st_b.next+1+1⟩=some ⟨true,mI.lP,mh x L⟩/\(st_b.next+3<=nx/\xt gg G cnt px)/\((x=0/\e 11=.bU)∨∃o:Id,e 11=.own o 0 (leads x L).length/\ON gg o (kI x L) nx):=fun x1 x2 x3 x4 x5=>⟨_,ah,x+1,rfl,ah,(by rw[x1,aE ah]),x2,x3,x4,x5⟩
  have VW:x<cnt:=ah
  have gX:=zR (G:=G) VW
  have hlx:L x<cnt:=Nat.lt_of_le_of_lt (hL.le _) VW
  have ra:=Wf _ hlx
  rw[nq (O3.root hL hlx (hL.idem _))]at ra
  have gL:=kN x L
  (try((repeat(revert N;apply Pn.out));refine wk (tw @c81 (tw @cg0 (tw @cg1 (tw @qf (tw @Po (tw @Pp (tw @hx (tw @gX @tl)))))))) ?_;(repeat(apply Pn.mk;intro N hN))))
  refine .inr (az _ _ _ _ _ (fun r σ1 hq=>?_) (Cd G cnt px L O3 x VW _ (Wf.frame fun k hk=>sd @Nat.zero_add)))
  obtain⟨g1,x1⟩:=σ1
  obtain⟨rfl,Ar,JX⟩:=hq
  (try dsimp only at Ar JX)
  subst Ar
  apply hN
  clear hN N
  by_cases hr:L x=x
  ·rw[hr]at ra ⊢
   have lY:=Kj hr
   have YU:(leads (x+1) L).length=(leads x L).length+1:=by rw[iF,if_pos hr];simp
   have y5:=G8 hr
   have YP:=GB hL hr
   rcases cI1 with⟨rfl,pQ⟩|⟨o,pQ,cS⟩
   ·have hsc1:mh 1 L=[[.int .i64 ((0:Nat):Int),.int .i64 ((0:Nat):Int)]]:=y5
    (try((repeat(revert N;apply Pn.out));refine wk (tw @c81 (tw @cg0 (tw @cg1 (tw @qf (tw @Po (tw @Pp (tw @pQ (tw @ra (tw @lY (tw @l0 (tw @oS (tw @oT (tw @Bool.not_false @Bool.not_true))))))))))))) ?_;(repeat(apply Pn.mk;intro N hN))))
    refine ik ?_ ?_ ?_ (by(try dsimp only);exact⟨ah,Wf.frame fun k hk=>sd (tw @Tl (tw @Th (tw @Ti (tw @Tj @Tk))))⟩) (.inr ⟨⟨215025002,x1+1+1+1+1⟩,by simp only[go_sem, ↓reduceIte,Nat.reduceEqDiff,Nat.reduceAdd,Nat.reduceSub,Nat.reduceLeDiff,reduceCtorEq,YU];rfl,by rw[YP];exact PG (v':=x1+1+1+1+1+1) (sd @Nat.zero_add) (sd @eN.eq_1) bc bc⟩)
    all_goals simp only[go_sem, ↓reduceIte,Nat.reduceEqDiff,Nat.reduceAdd,Nat.reduceSub,Nat.reduceLeDiff,reduceCtorEq,c81,cg0,cg1,qf,Po,Pp,hsc1]
   ·obtain⟨rows,xH,uV,lG⟩:=cS.new x
    rw[sK]at uV
    have xI:o.site=215025002:=by obtain⟨_,_,_,_,_,_,h,_⟩:=cS;exact h
    have uc:o.bG<x1:=by obtain⟨_,_,_,_,_,_,_,h⟩:=cS;omega
    have pK:=db uc
    have Xi:=il (o:=o) xI (b:=215017000) (v:=st_b.next+1+1) (by decide)
    have VJ:=il (o:=o) xI (b:=215001001) (v:=n0+1) (by decide)
    have Tm:∀k,(G k=o)=False:=fun k=>by simp only[eq_iff_iff,iff_false];intro h;have h1:=Yx k;rw[h,xI]at h1;cases h1
    have uT:(rows++[[AV.bU]])[(leads x L).length]? =some [.bU]:=by rw[<-uV];simp
    have qw:∀a:List AV,(rows++[[AV.bU]]).set (leads x L).length a=rows++[a]:=fun a=>by rw[<-uV];simp
    have e1:(leads x L).length+1<=16777216:=ah
    have e2:((leads x L).length:Int)<(((leads x L).length+1:Nat):Int):=ah
    (try((repeat(revert N;apply Pn.out));refine wk (tw @c81 (tw @cg0 (tw @cg1 (tw @qf (tw @Po (tw @Pp (tw @pQ (tw @ra (tw @lY (tw @xH (tw @uV (tw @pK (tw @Xi (tw @uT (tw @qw (tw @e1 (tw @e2 (tw @oS (tw @oT (tw @Bool.not_false @Bool.not_true)))))))))))))))))))) ?_;(repeat(apply Pn.mk;intro N hN))))
    refine ik ?_ ?_ ?_ (by(try dsimp only);exact⟨ah,Wf.frame fun k hk=>sd (tw @Tl (tw @Th (tw @Ti (tw @Tj (tw @Tk @Tm)))))⟩) (.inr ⟨⟨215025002,x1+1+1+1+1⟩,sd @YU,by rw[YP];exact lG _ _ (x1+1+1+1+1+1) _ ah bc bc (sd @qw) (sd @eN.eq_1) (fun j hj hv=>by
     have q1:=db (i:=j) (n:=x1) ah
     have q2:=il hj (b:=215017000) (v:=st_b.next+1+1) (by decide)
     have q3:(j=o)=False:=by simp only[eq_iff_iff,iff_false];intro h;rw[h,xI]at hj;cases hj
     simp only[go_sem, ↓reduceIte,Nat.reduceEqDiff,Nat.reduceAdd,Nat.reduceSub,Nat.reduceLeDiff,reduceCtorEq,q1,q2,q3])⟩)
    all_goals simp only[go_sem, ↓reduceIte,Nat.reduceEqDiff,Nat.reduceAdd,Nat.reduceSub,Nat.reduceLeDiff,reduceCtorEq,c81,cg0,cg1,qf,Po,Pp,y5,pK,Xi,VJ]
  ·obtain⟨lY,M3,eu⟩:=Bo hL hr
   obtain⟨PN,YP⟩:=GC hL hr
   have YU:(leads (x+1) L).length=(leads x L).length:=by rw[iF,if_neg hr];simp
   have P0:=G7 hr
   rcases cI1 with⟨rfl,pQ⟩|⟨o,pQ,cS⟩
   ·exact absurd (Nat.le_zero.1 (hL.le 0)) hr
   ·obtain⟨rows,id,xH,uV,hrk,hid,MN,hidv,hadd⟩:=cS.add PN x
    rw[sK]at uV
    have xI:o.site=215025002:=by obtain⟨_,_,_,_,_,_,h,_⟩:=cS;exact h
    have uc:o.bG<x1:=by obtain⟨_,_,_,_,_,_,_,h⟩:=cS;omega
    have pK:=db uc
    have sP:=db (i:=id) (n:=x1) ah
    have jT:(cW L x:Int)<((leads x L).length:Int):=ah
    have JY:=E5 x L (L x)
    have hma:((members x L (L x)).map eN).length=(members x L (L x)).length:=by simp
    have e1:(members x L (L x)).length+1<=16777216:=ah
    have VK:(o=id)=False:=by simp only[eq_iff_iff,iff_false];rintro rfl;rw[MN]at xI;cases xI
    have VE:(id=o)=False:=by simp only[eq_iff_iff,iff_false];rintro rfl;rw[MN]at xI;cases xI
    have Xi:=il (o:=o) xI (b:=215017000) (v:=st_b.next+1+1) (by decide)
    have VJ:=il (o:=o) xI (b:=215001001) (v:=n0+1) (by decide)
    have hiM:=il (o:=id) MN (b:=215017000) (v:=st_b.next+1+1) (by decide)
    have hiT:=il (o:=id) MN (b:=215001001) (v:=n0+1) (by decide)
    have Tm:∀k,(G k=o)=False:=fun k=>by simp only[eq_iff_iff,iff_false];intro h;have h1:=Yx k;rw[h,xI]at h1;cases h1
    have Z2:∀k,(G k=id)=False:=fun k=>by simp only[eq_iff_iff,iff_false];intro h;have h1:=Yx k;rw[h,MN]at h1;cases h1
    (try((repeat(revert N;apply Pn.out));refine wk (tw @c81 (tw @cg0 (tw @cg1 (tw @qf (tw @Po (tw @Pp (tw @pQ (tw @ra (tw @lY (tw @M3 (tw @xH (tw @uV (tw @hrk (tw @hid (tw @pK (tw @sP (tw @jT (tw @hma (tw @e1 (tw @VK (tw @VE (tw @Xi (tw @VJ (tw @hiM (tw @hiT (tw @oS (tw @oT (tw @Bool.not_false @Bool.not_true)))))))))))))))))))))))))))) ?_;(repeat(apply Pn.mk;intro N hN))))
    refine ik ?_ ?_ ?_ (by(try dsimp only);exact⟨ah,Wf.frame fun k hk=>sd (tw @Tl (tw @Th (tw @Ti (tw @Tj (tw @Tk (tw @Tm @Z2))))))⟩) (.inr ⟨o,sd (tw @YU @pQ),by rw[YP];exact hadd _ (x1+1+1) _ ah bc (sd @Nat.zero_add) (sd (tw @pK (tw @sP (tw @VK @VE)))) (fun j hj hv mM=>by
     have q1:=db (i:=j) (n:=x1) ah
     have q2:=il hj (b:=215017000) (v:=st_b.next+1+1) (by decide)
     have q3:(j=o)=False:=by simp only[eq_iff_iff,iff_false];intro h;rw[h,xI]at hj;cases hj
     simp only[go_sem, ↓reduceIte,Nat.reduceEqDiff,Nat.reduceAdd,Nat.reduceSub,Nat.reduceLeDiff,reduceCtorEq,q1,q2,q3,mM])⟩)
    all_goals simp only[go_sem, ↓reduceIte,Nat.reduceEqDiff,Nat.reduceAdd,Nat.reduceSub,Nat.reduceLeDiff,reduceCtorEq,c81,cg0,cg1,qf,Po,Pp,P0,pK,sP,Xi,VJ,hiM,hiT]
 have hxc:x=cnt:=ah
 rcases cI1 with⟨h0,_⟩|⟨o,pQ,rows,ids,xH,hR,_,_,_,_⟩
 ·omega
 have uV:=hR.len
 rw[sK]at uV
 (try((repeat(revert N;apply Pn.out));refine wk (tw @c81 (tw @cg0 (tw @cg1 (tw @qf (tw @Po (tw @Pp (tw @hx (tw @pQ @xH)))))))) ?_;(repeat(apply Pn.mk;intro N hN))))
 refine zG (.inl rfl) (by simp only[go_sem, ↓reduceIte,Nat.reduceEqDiff,Nat.reduceAdd,Nat.reduceSub,Nat.reduceLeDiff,reduceCtorEq];rfl) ?_
 rw[xX xH ah (rows':=(gm cnt L).map Dh) (by
  rw[List.drop_zero,List.take_of_length_le ah]
  rw[hxc]at hR;exact Nq 3 hR)]
theorem OI (b:PB) (t:Int):au Tryz.prog 218 [.agg (aL b),.dQ [.int .i64 t]] (.bool (decide (b.s<t))):=by
 refine au.body eI rfl fun hl n0=>?_
 clear hl
 (try((repeat(revert N;apply Pn.out));refine wk @aL.eq_1 ?_;(repeat(apply Pn.mk;intro N hN))))
 exact bQ (b:=decide (b.s<t)) (.inl rfl) (sd @Nat.zero_add) rfl
theorem Bj (bs:List PB) (t:Int) (hl:bs.length<=1048576):au Tryz.prog 256 [.sl (bs.map aL),.fn 218 [.dQ [.int .i64 t]]] (.int .i64 (lE (fun b:PB=>decide (b.s<t)) bs)):=
 w9 L9 (show nU Tryz.prog 256=some (vM 256 3 true) by kernel_rfl) bs hl 218 _ _ (fun x _=>OI x t) fun g=>by simp only[ai,ar,aP,Option.map_some]
theorem L6 (bs:List PB) (hp:0<bs.length) (hl:bs.length<=1048576) (σ:aw):
  Call Tryz.prog 217 [.sl (bs.map aL)] σ fun r σ'=>∃o:Id,r=.own o 0 bs.length/\σ'.get o=some ⟨true,3,bs.map aL⟩/\σ.next<=o.bG/\o.bG<σ'.next/\∀i:Id,i.bG<σ.next->σ'.get i=σ.get i:=by
 refine eB eI rfl fun hl=>?_
 clear hl
 have hz:=all_map (l:=bs) Sj
 obtain⟨b,r,rfl⟩:∃b r,bs=b::r:=by
  cases bs with
  |nil=>simp at hp
  |cons b r=>exact⟨b,r,rfl⟩
 have gL:(List.map aL (b::r)).length=(b::r).length:=by simp
 have e1:r.length<=16777215:=by simp at hl;omega
 rw[List.map_cons]at hz gL ⊢
 (try((repeat(revert N;apply Pn.out));refine wk (tw @hz (tw @gL @e1)) ?_;(repeat(apply Pn.mk;intro N hN))))
 refine er (.inl rfl) (vs:=[.own ⟨217003002,σ.next+1+1⟩ 0 (b::r).length]) (by simp only[ga,iW,go_sem, ↓reduceIte,Nat.reduceEqDiff,Nat.reduceAdd,Nat.reduceSub,Nat.reduceLeDiff,reduceCtorEq,List.length_cons]) ⟨⟨217003002,σ.next+1+1⟩,rfl,sd @Nat.zero_add,bc,bc,fun i hi=>?_⟩
 have hv:=db hi
 simp only[go_sem, ↓reduceIte,Nat.reduceEqDiff,Nat.reduceAdd,Nat.reduceSub,Nat.reduceLeDiff,reduceCtorEq,hv]
theorem qM {t:Int} {bs:List PB} {j:Nat} (hj:j<bs.length):bh t (bs.take (j+1))=bh t (bs.take j)++if decide (bs[j].s<t)=true then[]else[bs[j]]:=by
 rw[xn t bs j hj]
 congr 1
 by_cases h:bs[j].s<t
 ·rw[if_neg ah,if_pos (decide_eq_true h)]
 ·rw[if_pos ah,if_neg (by simp only[decide_eq_true_eq];exact h)]
theorem xl {t:Int} {bs:List PB} (h:∀b∈bs,¬b.s<t):bh t bs=bs:=by
 unfold bh
 rw[List.filter_eq_self]
 intro b hb
 have:=h b hb
 exact decide_eq_true ah
structure xr (t:Int) (bs:List PB) (j:Nat) (R:List PB):Prop where
 len:R.length=bs.length
 pre:R.take (bh t (bs.take j)).length=bh t (bs.take j)
 post:∀x,j<=x->R[x]? =bs[x]?
 lt:(bh t (bs.take j)).length<j
theorem xr.start {t:Int} {bs:List PB} {i:Nat} (hi:i<bs.length) (hw:bs[i].s<t) (hp:∀x (h:x<i),¬bs[x].s<t):xr t bs (i+1) bs/\(bh t (bs.take (i+1))).length=i:=by
 have h1:bh t (bs.take i)=bs.take i:=xl fun b hb=>by
  obtain⟨x,hx,rfl⟩:=List.getElem_of_mem hb
  rw[List.length_take]at hx
  rw[List.getElem_take]
  exact hp x ah
 have h2:bh t (bs.take (i+1))=bs.take i:=by rw[qM hi,if_pos (decide_eq_true hw),List.append_nil,h1]
 have h3:(bs.take i).length=i:=by rw[List.length_take];omega
 exact⟨⟨rfl,by rw[h2,h3],fun _ _=>rfl,by rw[h2,h3];omega⟩,by rw[h2,h3]⟩
theorem xr.weak {t:Int} {bs R:List PB} {j:Nat} (h:xr t bs j R) (hj:j<bs.length) (hw:bs[j].s<t):xr t bs (j+1) R/\(bh t (bs.take (j+1))).length=(bh t (bs.take j)).length:=by
 have h2:bh t (bs.take (j+1))=bh t (bs.take j):=by rw[qM hj,if_pos (decide_eq_true hw),List.append_nil]
 exact⟨⟨h.len,by rw[h2];exact h.pre,fun x hx=>h.post x ah,by rw[h2];have:=h.lt;omega⟩,by rw[h2]⟩
theorem xr.rV {t:Int} {bs R:List PB} {j:Nat} (h:xr t bs j R) (hj:j<bs.length) (hw:¬bs[j].s<t):xr t bs (j+1) (R.set (bh t (bs.take j)).length bs[j])/\(bh t (bs.take (j+1))).length=(bh t (bs.take j)).length+1:=by
 have h2:bh t (bs.take (j+1))=bh t (bs.take j)++[bs[j]]:=by rw[qM hj,if_neg (by simp only[decide_eq_true_eq];exact hw)]
 have eu:=h.lt
 have hlen:=h.len
 have Au:=h.pre
 generalize hc:(bh t (bs.take j)).length=c at *
 refine⟨⟨by rw[List.length_set];exact hlen,?_,fun x hx=>?_,by rw[h2,List.length_append,hc];simp;omega⟩,by rw[h2,List.length_append,hc];rfl⟩
 ·rw[h2,List.length_append,hc,List.length_singleton,List.take_succ_eq_append_getElem (by rw[List.length_set];omega),List.getElem_set_self,List.take_set_of_le (Nat.le_refl _),Au]
 ·rw[List.getElem?_set_ne ah];exact h.post x ah
theorem xr.at_ {t:Int} {bs R:List PB} {j:Nat} (h:xr t bs j R) (hj:j<bs.length):(R.map aL)[j]? =some (aL bs[j]):=by
 rw[List.getElem?_map,h.post j (Nat.le_refl j),List.getElem?_eq_getElem hj];rfl
theorem Gr {p:PB->Bool} {bs:List PB} (h:¬0<=lE p bs):∀b∈bs,p b=false:=by
 intro b hb
 unfold lE at h
 split at h
 ·omega
 ·rename_i h1
  rw[List.findIdx_lt_length]at h1
  cases hp:p b
  ·rfl
  ·exact absurd ⟨b,hb,hp⟩ h1
theorem Gs {p:PB->Bool} {bs:List PB} (h:0<=lE p bs):∃i,∃hi:i<bs.length,lE p bs=(i:Int)/\p bs[i]=true/\∀x (hx:x<i),p (bs[x]'ah)=false:=by
 unfold lE at h ⊢
 split
 ·rename_i h1
  exact⟨bs.findIdx p,h1,rfl,List.findIdx_getElem,fun x hx=>by simpa using List.not_of_lt_findIdx hx⟩
 ·rename_i h1;rw[if_neg h1]at h;omega
theorem Jy (bs:List PB) (t:Int) (hl:bs.length<=1048576) (o T:Id) (σ:aw) (ho:σ.get o=some ⟨true,3,bs.map aL⟩) (hT:σ.get T=some ⟨true,1,[[.int .i64 t]]⟩) (uc:o.bG<σ.next) (GG:T.bG<σ.next) (VJ:o≠T):
  Call Tryz.prog 216 [.own o 0 bs.length,.fn 218 [.ptr T 0 0]] σ fun r σ'=>∃rows,r=.own o 0 (bh t bs).length/\σ'.get o=some ⟨true,3,rows⟩/\rows.take (bh t bs).length=(bh t bs).map aL/\(bh t bs).length<=rows.length/\σ.next<=σ'.next/\∀i:Id,i.bG<σ.next->i≠o->σ'.get i=σ.get i:=by
 refine eB eI rfl fun iD=>?_
 clear iD
 have FX:=Bj bs t hl
 have hzT:∀(g:Rows),g T=some ⟨true,1,[[.int .i64 t]]⟩->V.fz (ea g) 5 (.ptr T 0 0)=some (.dQ [.int .i64 t]):=fun g hg=>sI (sz:=1) (rows:=[[.int .i64 t]]) (by simp[ea,hg]) rfl (by simp only[List.drop_zero,ai,ar,aB,Option.map_some])
 have y7:∀(g:Rows),g T=some ⟨true,1,[[.int .i64 t]]⟩->g o=some ⟨true,3,bs.map aL⟩->dx (ea g) 6 [.own o 0 bs.length,.fn 218 [.ptr T 0 0]]=some [.sl (bs.map aL),.fn 218 [.dQ [.int .i64 t]]]:=fun g h1 h2=>by
  have q1:=gF (g:=ea g) (n:=5) (e:=aL) (sz:=3) (len:=bs.length) (l:=bs) (id:=o) (by simp[ea,h2]) rfl fun b=>Cf _ 4 b
  have q2:=hzT g h1
  simp only[ai,ar,q1,cD,List.all_cons,List.all_nil,AV.cell,Bool.and_true,if_true,q2,Option.map_some]
 have kJ:∀(g:Rows),g T=some ⟨true,1,[[.int .i64 t]]⟩->∀b:PB,dx (ea g) 6 [.agg (aL b),.ptr T 0 0]=some [.agg (aL b),.dQ [.int .i64 t]]:=fun g h1 b=>by
  have q3:V.fz (ea g) 6 (.ptr T 0 0)=some (.dQ [.int .i64 t]):=sI (sz:=1) (rows:=[[.int .i64 t]]) (by simp[ea,h1]) rfl (by simp only[List.drop_zero,ai,ar,aB,Option.map_some])
  simp only[ai,ar,aY,Cf,q3,Option.map_some]
 (try((repeat(revert N;apply Pn.out));refine wk @Nat.zero_add ?_;(repeat(apply Pn.mk;intro N hN))))
 refine .inl ⟨_,au.x FX (y7 _ hT ho),?_⟩
 apply hN
 clear hN N
 by_cases h0:0<=lE (fun b:PB=>decide (b.s<t)) bs
 ·obtain⟨i,hi,GN,hpi,TY⟩:=Gs h0
  rw[GN]at *
  have PS:decide ((i:Int)= -1)=false:=decide_eq_false ah
  have Xx:IntKind.i64.wrap ((i:Int)+1)=((i+1:Nat):Int):=aE ah
  obtain⟨dZ,qw⟩:=xr.start (t:=t) hi (by simpa using hpi) (fun x hx=>by simpa using TY x hx)
  (try((repeat(revert N;apply Pn.out));refine wk (tw @PS @Xx) ?_;(repeat(apply Pn.mk;intro N hN))))
  refine bf (fun m env st=>∃(j:Nat) (R:List PB),m=bs.length-j/\env 6=.int .i64 (j:Int)/\env 5=.int .i64 ((bh t (bs.take j)).length:Int)/\st.get o=some ⟨true,3,R.map aL⟩/\xr t bs j R/\j<=bs.length/\σ.next<=st.next/\∀x:Id,x.bG<σ.next->(x=o)=False->st.get x=σ.get x) (bs.length-(i+1)) ⟨i+1,bs,rfl,sd @Xx,sd @qw,sd @ho,dZ,ah,bc,fun x _ _=>sd @Nat.zero_add⟩ ?_
  rintro m env_b st_b ⟨j,R,rfl,b6,b5,bg,hD,gZ,hle,jy⟩ fh
  have b0:=fh 0 (by kernel_rfl)
  have b1:=fh 1 (by kernel_rfl)
  simp only[go_sem, ↓reduceIte,Nat.reduceEqDiff,Nat.reduceAdd,Nat.reduceSub,Nat.reduceLeDiff,reduceCtorEq]at b0 b1
  clear fh
  have bT:=(jy T GG (by simp only[eq_iff_iff,iff_false];exact fun h=>VJ h.symm)).trans hT
  have lZ:=db (i:=o) (n:=st_b.next) ah
  have hvT:=db (i:=T) (n:=st_b.next) ah
  have hRl:=hD.len
  have hRm:(R.map aL).length=bs.length:=by rw[List.length_map,hRl]
  have eu:=hD.lt
  by_cases hj:(j:Int)<(bs.length:Int)
  ·have iN:j<bs.length:=ah
   have Co:=hD.at_ iN
   have Uf:=OI bs[j] t
   have Y7:IntKind.i64.wrap ((j:Int)+1)=((j+1:Nat):Int):=aE ah
   have hD1:=hD.weak iN
   have hD2:=hD.rV iN
   generalize bs[j]=b at *
   (try((repeat(revert N;apply Pn.out));refine wk (tw @b0 (tw @b1 (tw @b5 (tw @b6 (tw @bg (tw @hj (tw @Co (tw @aL.eq_1 (tw @lZ (tw @hvT @hRm)))))))))) ?_;(repeat(apply Pn.mk;intro N hN))))
   refine .inl ⟨_,au.x Uf (kJ _ (sd (tw @hvT @bT)) b),?_⟩
   apply hN
   clear hN N
   by_cases hw:b.s<t
   ·obtain⟨ZZ,ZY⟩:=hD1 hw
    have hd:decide (b.s<t)=true:=decide_eq_true hw
    (try((repeat(revert N;apply Pn.out));refine wk (tw @b0 (tw @b1 (tw @b5 (tw @b6 (tw @hd @Y7))))) ?_;(repeat(apply Pn.mk;intro N hN))))
    refine⟨_,?_,j+1,R,rfl,sd @Y7,sd (tw @b5 @ZY),sd (tw @bg @lZ),ZZ,ah,bc,fun x hx Dm=>?_⟩
    ·omega
    ·have VR:=db (i:=x) (n:=st_b.next) ah
     have:=jy x hx Dm
     simp only[go_sem, ↓reduceIte,Nat.reduceEqDiff,Nat.reduceAdd,Nat.reduceSub,Nat.reduceLeDiff,reduceCtorEq,VR,this]
   ·obtain⟨ZZ,ZY⟩:=hD2 hw
    have hd:decide (b.s<t)=false:=decide_eq_false hw
    have hci:((bh t (bs.take j)).length:Int)<(bs.length:Int):=ah
    have hwc:IntKind.i64.wrap (((bh t (bs.take j)).length:Int)+1)=(((bh t (bs.take j)).length+1:Nat):Int):=aE ah
    have ew:(R.map aL).set (bh t (bs.take j)).length [.int .i64 (b.a:Int),.int .i64 (b.b:Int),.int .i64 b.s]=(R.set (bh t (bs.take j)).length b).map aL:=by rw[List.map_set];rfl
    have RI:∃y,(R.map aL)[(bh t (bs.take j)).length]? =some (aL y):=⟨R[(bh t (bs.take j)).length]'ah,by rw[List.getElem?_map,List.getElem?_eq_getElem ah];rfl⟩
    obtain⟨y,RI⟩:=RI
    rw[aL]at RI
    (try((repeat(revert N;apply Pn.out));refine wk (tw @b0 (tw @b1 (tw @b5 (tw @b6 (tw @bg (tw @hd (tw @Y7 (tw @hwc (tw @hci (tw @ew (tw @RI (tw @lZ (tw @hvT @hRm))))))))))))) ?_;(repeat(apply Pn.mk;intro N hN))))
    refine⟨_,?_,j+1,_,rfl,sd @Y7,sd (tw @hwc @ZY),sd @ew,ZZ,ah,bc,fun x hx Dm=>?_⟩
    ·omega
    ·have VR:=db (i:=x) (n:=st_b.next) ah
     have:=jy x hx Dm
     simp only[go_sem, ↓reduceIte,Nat.reduceEqDiff,Nat.reduceAdd,Nat.reduceSub,Nat.reduceLeDiff,reduceCtorEq,VR,this,Dm]
  ·have gZ:j=bs.length:=ah
   subst gZ
   have Au:=hD.pre
   rw[List.take_length]at b5 eu Au
   have hci:((bh t bs).length:Int)<=(bs.length:Int):=ah
   have YI:(bh t bs).length<=bs.length:=ah
   have qx:(bh t bs).length+(bs.length-(bh t bs).length)=bs.length:=ah
   have qw:=ph t bs
   (try((repeat(revert N;apply Pn.out));refine wk (tw @b0 (tw @b1 (tw @b5 (tw @b6 (tw @bg (tw @hj (tw @hRm (tw @hci (tw @YI (tw @qx (tw @Nat.le_refl (tw @Nat.sub_zero (tw @Int.le_refl @lZ))))))))))))) ?_;(repeat(apply Pn.mk;intro N hN))))
   refine er (.inl rfl) (vs:=[.own o 0 (bh t bs).length]) (sd @Nat.zero_add) ⟨_,rfl,by simp only[go_sem, ↓reduceIte,Nat.reduceEqDiff,Nat.reduceAdd,Nat.reduceSub,Nat.reduceLeDiff,reduceCtorEq];rfl,?_,?_,bc,fun x hx Dm=>?_⟩
   ·have hm:List.take (bh t bs).length (List.map aL R)=(bh t bs).map aL:=by rw[<-List.map_take,Au]
    rw[hm,List.append_assoc,List.take_append_of_le_length (by simp),List.take_of_length_le (by simp)]
   ·have hm:List.take (bh t bs).length (List.map aL R)=(bh t bs).map aL:=by rw[<-List.map_take,Au]
    rw[hm]
    simp only[List.length_append,List.length_map]
    omega
   ·have Xy:(x=o)=False:=by simp only[eq_iff_iff,iff_false];exact Dm
    have:=jy x hx Xy
    simp only[go_sem, ↓reduceIte,Nat.reduceEqDiff,Nat.reduceAdd,Nat.reduceSub,Nat.reduceLeDiff,reduceCtorEq,Xy,this]
 ·have hn:=Gr h0
  have dZ:=xl (t:=t) (bs:=bs) fun b hb=>by simpa using hn b hb
  have hd:decide (lE (fun b:PB=>decide (b.s<t)) bs= -1)=true:=decide_eq_true (by
   unfold lE at h0 ⊢
   split
   ·rename_i h;rw[if_pos h]at h0;omega
   ·rfl)
  (try((repeat(revert N;apply Pn.out));refine wk @hd ?_;(repeat(apply Pn.mk;intro N hN))))
  refine er (.inl rfl) (vs:=[.own o 0 bs.length]) (sd @Nat.zero_add) ⟨bs.map aL,by rw[dZ];rfl,sd @ho,by rw[dZ,List.take_of_length_le (by simp)],by rw[dZ];simp,bc,fun x _ _=>rfl⟩
def xc (p:aq->Bool) (l:List aq):List aq:=l.filter fun x=> !p x
theorem Up {p:aq->Bool} {l:List aq} {j:Nat} (hj:j<l.length):xc p (l.take (j+1))=xc p (l.take j)++if p l[j]=true then[]else[l[j]]:=by
 unfold xc
 rw[List.take_succ_eq_append_getElem hj,List.filter_append]
 congr 1
 cases h:p l[j]<;>simp[h]
theorem Uo {p:aq->Bool} {l:List aq} (h:∀b∈l,p b=false):xc p l=l:=by
 unfold xc
 rw[List.filter_eq_self]
 intro b hb
 rw[h b hb];rfl
structure DlP (p:aq->Bool) (bs:List aq) (j:Nat) (R:List aq):Prop where
 len:R.length=bs.length
 pre:R.take (xc p (bs.take j)).length=xc p (bs.take j)
 post:∀x,j<=x->R[x]? =bs[x]?
 lt:(xc p (bs.take j)).length<j
def xb (p:aa->Bool) (l:List aa):List aa:=l.filter fun x=> !p x
theorem Un {p:aa->Bool} {l:List aa} {j:Nat} (hj:j<l.length):xb p (l.take (j+1))=xb p (l.take j)++if p l[j]=true then[]else[l[j]]:=by
 unfold xb
 rw[List.take_succ_eq_append_getElem hj,List.filter_append]
 congr 1
 cases h:p l[j]<;>simp[h]
theorem Um {p:aa->Bool} {l:List aa} (h:∀b∈l,p b=false):xb p l=l:=by
 unfold xb
 rw[List.filter_eq_self]
 intro b hb
 rw[h b hb];rfl
structure DlL (p:aa->Bool) (bs:List aa) (j:Nat) (R:List aa):Prop where
 len:R.length=bs.length
 pre:R.take (xb p (bs.take j)).length=xb p (bs.take j)
 post:∀x,j<=x->R[x]? =bs[x]?
 lt:(xb p (bs.take j)).length<j
theorem QL (x:gn) (g:Rows):dx g 5 (cU x)=some (cU x):=by simp[cU,ai,ar,bq,aB]
theorem QM (x:ft) (g:Rows):dx g 5 (ck x)=some (ck x):=by simp[ck,ai,ar,bq,bP]
theorem KI (x:aa) (g:Rows):dx g 5 (ab x)=some (ab x):=by simp[ab,ai,ar,aB]
theorem BN (p:aq):l6 Tryz.prog 261 [.agg (ad p)] (.agg (ad p)):=by
 refine l6.body eI rfl fun hl σ=>?_
 clear hl
 (try((repeat(revert N;apply Pn.out));refine wk @ad.eq_1 ?_;(repeat(apply Pn.mk;intro N hN))))
 exact CQ (.inl rfl) (vs:=[.agg (ad p)]) (by simp only[go_sem, ↓reduceIte,Nat.reduceEqDiff,Nat.reduceAdd,Nat.reduceSub,Nat.reduceLeDiff,reduceCtorEq,ga,iW,ad]) (by simp[fb,ad,aY,ai,ar,aB])
theorem HL (p:aa):l6 Tryz.prog 226 [.agg (ab p)] (.agg (ab p)):=by
 refine l6.body eI rfl fun hl σ=>?_
 clear hl
 have h:=BN p.aQ
 rw[ad]at h
 (repeat(first|((repeat(revert N;apply Pn.out));refine wk @ab.eq_1 ?_;(repeat(apply Pn.mk;intro N hN)))|((try apply Or.inl);refine⟨_,l6.x (h) _,?_⟩;apply hN;clear hN N)))
 exact CQ (.inl rfl) (vs:=[.agg (ab p)]) (by simp only[go_sem, ↓reduceIte,Nat.reduceEqDiff,Nat.reduceAdd,Nat.reduceSub,Nat.reduceLeDiff,reduceCtorEq,ga,iW,ab]) (by simp[fb,ab,aY,ai,ar,aB])
theorem Ox (p:gn):l6 Tryz.prog 224 [.agg (cU p)] (.agg (cU p)):=by
 refine l6.body eI rfl fun hl σ=>?_
 clear hl
 (try((repeat(revert N;apply Pn.out));refine wk @cU.eq_1 ?_;(repeat(apply Pn.mk;intro N hN))))
 exact CQ (.inl rfl) (vs:=[.agg (cU p)]) (by simp only[go_sem, ↓reduceIte,Nat.reduceEqDiff,Nat.reduceAdd,Nat.reduceSub,Nat.reduceLeDiff,reduceCtorEq,ga,iW,cU]) (by simp[fb,cU,aY,ai,ar,aB,bq])
theorem FF (xs:List Int) (h:xs.length<=1048576):l6 Tryz.prog 42 [.sl (xs.map aC)] (.sl (xs.map aC)):=
 X3 (show nU Tryz.prog 42=some (Oy 42 (.int .i64 0)) by kernel_rfl) xs h
def u7 (t:ft):Prop:=t.cz.length<=1048576
theorem OA (p:ft) (hs:u7 p):l6 Tryz.prog 225 [.agg (ck p)] (.agg (ck p)):=by
 refine l6.body eI rfl fun hl σ=>?_
 clear hl
 have h:=FF p.cz hs
 (repeat(first|((repeat(revert N;apply Pn.out));refine wk @ck.eq_1 ?_;(repeat(apply Pn.mk;intro N hN)))|((try apply Or.inl);refine⟨_,l6.x (h) _,?_⟩;apply hN;clear hN N)))
 exact CQ (.inl rfl) (vs:=[.agg (ck p)]) (by simp only[go_sem, ↓reduceIte,Nat.reduceEqDiff,Nat.reduceAdd,Nat.reduceSub,Nat.reduceLeDiff,reduceCtorEq,ga,iW,ck]) (by simp[fb,ck,aY,ai,ar,bP,bq])
theorem DU (xs ys:List Int):au Tryz.prog 46 [.sl (xs.map aC),.sl (ys.map aC)] (.bool (decide (xs=ys))):=
 Wo (show nU Tryz.prog 46=some (Ry 46 .tI) by kernel_rfl) xs ys
theorem Me (a b:ft):au Tryz.prog 228 [.agg (ck a),.agg (ck b)] (.bool (decide (a=b))):=by
 refine au.body eI rfl fun hl n0=>?_
 clear hl
 have h:=DU a.cz b.cz
 by_cases h1:a.aZ=b.aZ
 ·have e1:decide (a.aZ=b.aZ)=true:=decide_eq_true h1
  by_cases h2:a.cz=b.cz
  ·rw[decide_eq_true h2]at h
   (repeat(first|((repeat(revert N;apply Pn.out));refine wk (tw @ck.eq_1 @e1) ?_;(repeat(apply Pn.mk;intro N hN)))|((try apply Or.inl);refine⟨_,au.x (h) (sd (tw @ck.eq_1 @e1)),?_⟩;apply hN;clear hN N)))
   exact bQ (b:=true) (.inl rfl) (sd @Nat.zero_add) (decide_eq_true (by cases a;cases b;simp_all)).symm
  ·rw[decide_eq_false h2]at h
   (repeat(first|((repeat(revert N;apply Pn.out));refine wk (tw @ck.eq_1 @e1) ?_;(repeat(apply Pn.mk;intro N hN)))|((try apply Or.inl);refine⟨_,au.x (h) (sd (tw @ck.eq_1 @e1)),?_⟩;apply hN;clear hN N)))
   exact bQ (b:=false) (.inl rfl) (sd @Nat.zero_add) (decide_eq_false (by rintro rfl;exact h2 rfl)).symm
 ·have e1:decide (a.aZ=b.aZ)=false:=decide_eq_false h1
  (try((repeat(revert N;apply Pn.out));refine wk (tw @ck.eq_1 @e1) ?_;(repeat(apply Pn.mk;intro N hN))))
  exact bQ (b:=false) (.inl rfl) (sd @Nat.zero_add) (decide_eq_false (by rintro rfl;exact h1 rfl)).symm
theorem K5 (xs:List gn) (h:xs.length<=1048576):l6 Tryz.prog 178 [.sl (xs.map cU)] (.sl (xs.map cU)):=
 HM (show nU Tryz.prog 178=some (xp 178 224 2 [.str [],.int .i64 0]) by kernel_rfl) rfl (fun _=>rfl) (fun _=>rfl) QL xs h fun x _=>Ox x
theorem K7 (xs:List ft) (h:xs.length<=1048576) (hs:∀t∈xs,u7 t):l6 Tryz.prog 179 [.sl (xs.map ck)] (.sl (xs.map ck)):=
 HM (show nU Tryz.prog 179=some (xp 179 225 2 [.str [],.bU]) by kernel_rfl) rfl (fun _=>rfl) (fun _=>rfl) QM xs h fun x hx=>OA x (hs x hx)
theorem FH (xs:List aa) (h:xs.length<=1048576):l6 Tryz.prog 180 [.sl (xs.map ab)] (.sl (xs.map ab)):=
 HM (show nU Tryz.prog 180=some (xp 180 226 3 [.int .i64 0,.int .i64 0,.int .i64 0]) by kernel_rfl) rfl (fun _=>rfl) (fun _=>rfl) KI xs h fun x _=>HL x
structure LH (s:ay):Prop where
 g:s.aI.length<=1048576
 t:s.aj.length<=1048576
 s:∀t∈s.aj,u7 t
structure wJ (y:ax):Prop where
 s:LH y.aD
 a:y.bH.aj.length<=1048576
theorem FJ (p:ay) (hs:LH p):l6 Tryz.prog 110 [.agg (ae p)] (.agg (ae p)):=by
 refine l6.body eI rfl fun hl σ=>?_
 clear hl
 have h1:=K5 p.aI hs.g
 have h2:=K7 p.aj hs.t hs.s
 (repeat(first|((repeat(revert N;apply Pn.out));refine wk @ae.eq_1 ?_;(repeat(apply Pn.mk;intro N hN)))|((try apply Or.inl);refine⟨_,l6.x (h1) _,?_⟩;apply hN;clear hN N)|((try apply Or.inl);refine⟨_,l6.x (h2) _,?_⟩;apply hN;clear hN N)))
 exact CQ (.inl rfl) (vs:=[.agg (ae p)]) (by simp only[go_sem, ↓reduceIte,Nat.reduceEqDiff,Nat.reduceAdd,Nat.reduceSub,Nat.reduceLeDiff,reduceCtorEq,ga,iW,ae]) (by simp[fb,ae,aY,ai,ar,bP])
theorem C6 (p:iS) (hs:p.aj.length<=1048576):l6 Tryz.prog 111 [.agg (eD p)] (.agg (eD p)):=by
 refine l6.body eI rfl fun hl σ=>?_
 clear hl
 have h1:=FH p.aj hs
 (repeat(first|((repeat(revert N;apply Pn.out));refine wk @eD.eq_1 ?_;(repeat(apply Pn.mk;intro N hN)))|((try apply Or.inl);refine⟨_,l6.x (h1) _,?_⟩;apply hN;clear hN N)))
 exact CQ (.inl rfl) (vs:=[.agg (eD p)]) (by simp only[go_sem, ↓reduceIte,Nat.reduceEqDiff,Nat.reduceAdd,Nat.reduceSub,Nat.reduceLeDiff,reduceCtorEq,ga,iW,eD]) (by simp[fb,eD,aY,ai,ar,bP])
theorem HO (p:ax) (hs:wJ p):l6 Tryz.prog 41 [.agg (aM p)] (.agg (aM p)):=by
 refine l6.body eI rfl fun hl σ=>?_
 clear hl
 have h1:=FJ p.aD hs.s
 have h2:=C6 p.bH hs.a
 rw[ae]at h1
 rw[eD]at h2
 (repeat(first|((repeat(revert N;apply Pn.out));refine wk @aM.eq_1 ?_;(repeat(apply Pn.mk;intro N hN)))|((try apply Or.inl);refine⟨_,l6.x (h1) _,?_⟩;apply hN;clear hN N)|((try apply Or.inl);refine⟨_,l6.x (h2) _,?_⟩;apply hN;clear hN N)))
 exact CQ (.inl rfl) (vs:=[.agg (aM p)]) (by simp only[go_sem, ↓reduceIte,Nat.reduceEqDiff,Nat.reduceAdd,Nat.reduceSub,Nat.reduceLeDiff,reduceCtorEq,ga,iW,aM]) (by simp[fb,aM,aY,ai,ar,bP,aB])
theorem Md (a b:gn):au Tryz.prog 227 [.agg (cU a),.agg (cU b)] (.bool (decide (a=b))):=by
 refine au.body eI rfl fun hl n0=>?_
 clear hl
 by_cases h1:a.aZ=b.aZ
 ·have e1:decide (a.aZ=b.aZ)=true:=decide_eq_true h1
  by_cases h2:a.eR=b.eR
  ·have e2:decide (a.eR=b.eR)=true:=decide_eq_true h2
   (try((repeat(revert N;apply Pn.out));refine wk (tw @cU.eq_1 (tw @e1 @e2)) ?_;(repeat(apply Pn.mk;intro N hN))))
   exact bQ (b:=true) (.inl rfl) (sd @Nat.zero_add) (decide_eq_true (by cases a;cases b;simp_all)).symm
  ·have e2:decide (a.eR=b.eR)=false:=decide_eq_false h2
   (try((repeat(revert N;apply Pn.out));refine wk (tw @cU.eq_1 (tw @e1 @e2)) ?_;(repeat(apply Pn.mk;intro N hN))))
   exact bQ (b:=false) (.inl rfl) (sd @Nat.zero_add) (decide_eq_false (by rintro rfl;exact h2 rfl)).symm
 ·have e1:decide (a.aZ=b.aZ)=false:=decide_eq_false h1
  (try((repeat(revert N;apply Pn.out));refine wk (tw @cU.eq_1 @e1) ?_;(repeat(apply Pn.mk;intro N hN))))
  exact bQ (b:=false) (.inl rfl) (sd @Nat.zero_add) (decide_eq_false (by rintro rfl;exact h1 rfl)).symm
theorem AY (a b:aq):au Tryz.prog 112 [.agg (ad a),.agg (ad b)] (.bool (decide (a=b))):=by
 refine au.body eI rfl fun hl n0=>?_
 clear hl
 by_cases h1:a.eS=b.eS
 ·have e1:decide (a.eS=b.eS)=true:=decide_eq_true h1
  by_cases h2:a.eM=b.eM
  ·have e2:decide (a.eM=b.eM)=true:=decide_eq_true h2
   (try((repeat(revert N;apply Pn.out));refine wk (tw @ad.eq_1 (tw @e1 @e2)) ?_;(repeat(apply Pn.mk;intro N hN))))
   exact bQ (b:=true) (.inl rfl) (sd @Nat.zero_add) (decide_eq_true (by cases a;cases b;simp_all)).symm
  ·have e2:decide (a.eM=b.eM)=false:=decide_eq_false h2
   (try((repeat(revert N;apply Pn.out));refine wk (tw @ad.eq_1 (tw @e1 @e2)) ?_;(repeat(apply Pn.mk;intro N hN))))
   exact bQ (b:=false) (.inl rfl) (sd @Nat.zero_add) (decide_eq_false (by rintro rfl;exact h2 rfl)).symm
 ·have e1:decide (a.eS=b.eS)=false:=decide_eq_false h1
  (try((repeat(revert N;apply Pn.out));refine wk (tw @ad.eq_1 @e1) ?_;(repeat(apply Pn.mk;intro N hN))))
  exact bQ (b:=false) (.inl rfl) (sd @Nat.zero_add) (decide_eq_false (by rintro rfl;exact h1 rfl)).symm
theorem Gp (a b:aa):au Tryz.prog 229 [.agg (ab a),.agg (ab b)] (.bool (decide (a=b))):=by
 refine au.body eI rfl fun hl n0=>?_
 clear hl
 have h:=AY a.aQ b.aQ
 rw[ad,ad]at h
 by_cases h1:a.aQ=b.aQ
 ·rw[decide_eq_true h1]at h
  by_cases h2:a.bK=b.bK
  ·have e2:decide (a.bK=b.bK)=true:=decide_eq_true h2
   (repeat(first|((repeat(revert N;apply Pn.out));refine wk (tw @ab.eq_1 @e2) ?_;(repeat(apply Pn.mk;intro N hN)))|((try apply Or.inl);refine⟨_,au.x (h) (sd (tw @ab.eq_1 @e2)),?_⟩;apply hN;clear hN N)))
   exact bQ (b:=true) (.inl rfl) (sd @Nat.zero_add) (decide_eq_true (by cases a;cases b;simp_all)).symm
  ·have e2:decide (a.bK=b.bK)=false:=decide_eq_false h2
   (repeat(first|((repeat(revert N;apply Pn.out));refine wk (tw @ab.eq_1 @e2) ?_;(repeat(apply Pn.mk;intro N hN)))|((try apply Or.inl);refine⟨_,au.x (h) (sd (tw @ab.eq_1 @e2)),?_⟩;apply hN;clear hN N)))
   exact bQ (b:=false) (.inl rfl) (sd @Nat.zero_add) (decide_eq_false (by rintro rfl;exact h2 rfl)).symm
 ·rw[decide_eq_false h1]at h
  (repeat(first|((repeat(revert N;apply Pn.out));refine wk @ab.eq_1 ?_;(repeat(apply Pn.mk;intro N hN)))|((try apply Or.inl);refine⟨_,au.x (h) (sd @ab.eq_1),?_⟩;apply hN;clear hN N)))
  exact bQ (b:=false) (.inl rfl) (sd @Nat.zero_add) (decide_eq_false (by rintro rfl;exact h1 rfl)).symm
theorem JE (xs ys:List gn):au Tryz.prog 181 [.sl (xs.map cU),.sl (ys.map cU)] (.bool (decide (xs=ys))):=
 Cc (show nU Tryz.prog 181=some (DX 181 227 2) by kernel_rfl) (fun _=>rfl) Eb xs ys Md
theorem JF (xs ys:List ft):au Tryz.prog 182 [.sl (xs.map ck),.sl (ys.map ck)] (.bool (decide (xs=ys))):=
 Cc (show nU Tryz.prog 182=some (DX 182 228 2) by kernel_rfl) (fun _=>rfl) Ec xs ys Me
theorem DW (xs ys:List aa):au Tryz.prog 183 [.sl (xs.map ab),.sl (ys.map ab)] (.bool (decide (xs=ys))):=
 Cc (show nU Tryz.prog 183=some (DX 183 229 3) by kernel_rfl) (fun _=>rfl) GA xs ys Gp
theorem Gq (a:ax):au Tryz.prog 45 [.agg (aM a),.agg (aM a)] (.bool true):=by
 have q1:au Tryz.prog 113 [.agg (ae a.aD),.agg (ae a.aD)] (.bool true):=by
  refine au.body eI rfl fun hl n0=>?_
  clear hl
  have h1:=JE a.aD.aI a.aD.aI
  have h2:=JF a.aD.aj a.aD.aj
  rw[decide_eq_true rfl]at h1 h2
  (repeat(first|((repeat(revert N;apply Pn.out));refine wk @ae.eq_1 ?_;(repeat(apply Pn.mk;intro N hN)))|((try apply Or.inl);refine⟨_,au.x (h1) (sd @ae.eq_1),?_⟩;apply hN;clear hN N)|((try apply Or.inl);refine⟨_,au.x (h2) (sd @ae.eq_1),?_⟩;apply hN;clear hN N)))
  exact bQ (b:=true) (.inl rfl) (sd @Nat.zero_add) rfl
 have q2:au Tryz.prog 114 [.agg (eD a.bH),.agg (eD a.bH)] (.bool true):=by
  refine au.body eI rfl fun hl n0=>?_
  clear hl
  have h1:=DW a.bH.aj a.bH.aj
  rw[decide_eq_true rfl]at h1
  (repeat(first|((repeat(revert N;apply Pn.out));refine wk @eD.eq_1 ?_;(repeat(apply Pn.mk;intro N hN)))|((try apply Or.inl);refine⟨_,au.x (h1) (sd @eD.eq_1),?_⟩;apply hN;clear hN N)))
  exact bQ (b:=true) (.inl rfl) (sd @Nat.zero_add) rfl
 rw[ae]at q1
 rw[eD]at q2
 refine au.body eI rfl fun hl n0=>?_
 clear hl
 have e:decide (a.aA=a.aA)=true:=decide_eq_true rfl
 (repeat(first|((repeat(revert N;apply Pn.out));refine wk (tw @aM.eq_1 @e) ?_;(repeat(apply Pn.mk;intro N hN)))|((try apply Or.inl);refine⟨_,au.x (q1) (sd (tw @aM.eq_1 @e)),?_⟩;apply hN;clear hN N)|((try apply Or.inl);refine⟨_,au.x (q2) (sd (tw @aM.eq_1 @e)),?_⟩;apply hN;clear hN N)))
 exact bQ (b:=true) (.inl rfl) (sd @Nat.zero_add) rfl
end Go.Proofs.YtainmfbpilopaaaGreatDoor.V
