/- Copies of one's own of the laws' arguments: lists whose elements may hold rows of their own. -/
import Derived.Test.YtainmfbpilopaaaGreatDoorSqD
import Derived.Test.YtainmfbpilopaaaGreatDoorSqC
import Derived.Test.YtainmfbpilopaaaGreatDoorSqB
import Derived.Test.YtainmfbpilopaaaGreatDoorChecked
import Derived.RangeFuncNested
import Derived.RangeFuncBound
import Derived.RangeFuncCalls
import Derived.RangeFuncLeaves
import Derived.Shelf.Abstract
import Derived.Shelf.RegionOpen
import Derived.WalkKit
import Derived.OwnWalkIn
import Derived.TacticsInMore
import Derived.LoopNIn
import Derived.LoopIn
import Derived.BigQuiet
import Derived.RangeFuncBox
import Derived.RangeFuncWrites
import Derived.Maps.AppendAt
import Derived.OrdersIn
set_option linter.unusedVariables false
set_option linter.unusedSimpArgs false
set_option maxRecDepth 100000
set_option maxHeartbeats 16000000
namespace Go.Proofs.YtainmfbpilopaaaGreatDoor.V
open Go.RowKit
attribute [local irreducible] dW wpOps fu Call
section
variable {P:Program}
def O9 {α:Type} (R:FQ α) (x:α) (σ:aw) (r:AV) (σ':aw):Prop:=∃cs ids,r=.agg cs/\R σ'.get cs x ids/\gp σ.next σ'.next ids/\Kept σ σ'
def jf {α:Type} (R:FQ α) (z:Nat) (g:Rows) (a:AV) (xs:List α) (ids:List Id):Prop:=∃o rows is,a=.own o 0 xs.length/\g o=some ⟨true,z,rows⟩/\eV R g rows xs is/\ids=o::is
def Pa {α:Type} (R:FQ α) (z:Nat) (xs:List α) (σ:aw) (r:AV) (σ':aw):Prop:=∃ids,jf R z σ'.get r xs ids/\gp σ.next σ'.next ids/\Kept σ σ'
theorem jf.frame {α:Type} {R:FQ α} {z:Nat} {g g':Rows} {a:AV} {xs:List α} {ids:List Id} (ok:Ae R z) (h:jf R z g a xs ids) (hf:∀i∈ids,g' i=g i):jf R z g' a xs ids:=by
 obtain⟨o,rows,is,h1,h2,h3,rfl⟩:=h
 exact⟨o,rows,is,h1,(hf o (by simp)).trans h2,h3.frame ok fun i hi=>hf i (by simp[hi]),rfl⟩
theorem jf.fz {α:Type} {R:FQ α} {z n:Nat} {e:α->List AV} {g:Rows} {a:AV} {xs:List α} {ids:List Id} (h:jf R z g a xs ids) (hz:∀{cs x ids},R g cs x ids->dx (ea g) n cs=some (e x)):V.fz (ea g) (n+1) a=some (.sl (xs.map e)):=by
 obtain⟨o,rows,is,rfl,h2,h3,rfl⟩:=h
 rw[jb]
 simp only[ea,h2,Option.map_some,if_true]
 rw[if_pos (by rw[h3.len];omega),List.drop_zero,List.take_of_length_le (by rw[h3.len];exact Nat.le_refl _),h3.fz hz];rfl
def nh {α:Type} (e:α->List AV):FQ α:=fun _ cs x ids=>cs=e x/\ids=[]
theorem Mm {α:Type} {e:α->List AV} {z:Nat} (hz:∀x,(e x).length=z) (hc:∀x,(e x).all AV.cell=true) (hs:z<xK):Ae (nh e) z where
 frame:=fun h _=>h
 len:=fun h=>by rw[h.1];exact hz _
 cell:=fun h=>by rw[h.1];exact hc _
 live:=fun h i hi=>by rw[h.2]at hi;cases hi
 small:=hs
def qb:FQ ft:=fun g cs t ids=>∃i,cs=[.str t.aZ,.own i 0 t.cz.length]/\g i=some ⟨true,1,t.cz.map aC⟩/\ids=[i]
theorem td:Ae qb 2 where
 frame:=fun⟨i,h1,h2,h3⟩ hf=>⟨i,h1,(hf i (by rw[h3];simp)).trans h2,h3⟩
 len:=fun⟨i,h1,_⟩=>by rw[h1];rfl
 cell:=fun⟨i,h1,_⟩=>by rw[h1];rfl
 live:=fun⟨i,h1,h2,h3⟩ j hj=>by
  rw[h3]at hj
  have:j=i:=by simpa using hj
  subst this
  exact⟨_,h2,rfl,by simp[xK]⟩
 small:=by simp[xK]
theorem Q4 {g:Rows} {cs:List AV} {t:ft} {ids:List Id} (n:Nat) (h:qb g cs t ids):dx (ea g) (n+2) cs=some (ck t):=by
 obtain⟨i,rfl,h2,_⟩:=h
 have h3:V.fz (ea g) (n+2) (.own i 0 t.cz.length)=some (.sl (t.cz.map aC)):=gF (e:=aC) (sz:=1) (by simp[ea,h2]) rfl fun x=>by simp[aC,ai,ar,aB]
 simp only[ai,ar,bq,h3,Option.map_some,ck]
theorem QU {α:Type} {a b:List α} {x y:α} {k:Nat} (hk:a.length=k):(a++x::b).set k y=a++[y]++b:=by subst hk;simp
theorem C7 {α:Type} {R:FQ α} {en:α->List AV} {z fk gk:Nat} {zero:List K} (ok:Ae R z) (hc:nU P fk=some (xp fk gk z zero)) (EE:zero.length=z) (hz:∀x,(en x).length=z) (xs:List α) (hlen:xs.length<=1048576)
  (hg:∀x∈xs,∀σ,Call P gk [.agg (en x)] σ (O9 R x σ)) (σ:aw):Call P fk [.sl (xs.map en)] σ (Pa R z xs σ):=by
 refine eB hc rfl fun hl=>?_
 try simp only[q]
 clear hl
 have hm:(xs.length:Int)<=((16777216:Nat):Int):=ah
 have h0:(0:Int)<=(xs.length:Int):=ah
 (try((repeat(revert N;apply Pn.out));refine wk (tw @hm (tw @h0 (tw @Int.le_refl @EE))) ?_;(repeat(apply Pn.mk;intro N hN))))
 refine bf (fun n env st=>∃k:Nat,n=(xs.length)-k/\k<=(xs.length)/\env 4=.int .i64 (k:Int)/\(σ.next+2<=st.next/\(∀y:Id,y.bG<σ.next->st.get y=σ.get y)/\∃rows is,st.get ⟨fk*1000000+1002,σ.next+1⟩=some ⟨true,z,rows++List.replicate (xs.length-k) (zero.map K.av)⟩/\eV R st.get rows (xs.take k) is/\gp (σ.next+2) st.next is)) (xs.length) ⟨0,ah,ah,sl @Nat.zero_add,by(try dsimp only);exact⟨ah,fun y hy=>by
  have h1:=db hy
  simp only[go_sem, ↓reduceIte,Nat.reduceEqDiff,Nat.reduceAdd,Nat.reduceSub,Nat.reduceLeDiff,reduceCtorEq,h1],[],[],sl @Nat.zero_add,.nil,List.nodup_nil,fun i hi=>by cases hi⟩⟩ ?_
 rintro n_a env_a st_a ⟨k,rfl,ale,a4,kz⟩ dX
 have a0:=dX 0 (by kernel_rfl);have a3:=dX 3 (by kernel_rfl)
 simp only[go_sem, ↓reduceIte,Nat.reduceEqDiff,Nat.reduceAdd,Nat.reduceSub,Nat.reduceLeDiff,reduceCtorEq]at a0 a3
 clear dX
 obtain⟨an,aK,rows,is,ag,aR,aN⟩:=kz
 have uV:rows.length=k:=by rw[aR.len,List.length_take];omega
 by_cases hk:(k:Int)<(xs.length:Int)
 ·have cV:∀{e:Env} {gg:Rows} {nx:Nat},(e 4=.int .i64 (IntKind.i64.wrap ((k:Int)+1)))->(σ.next+2<=nx/\(∀y:Id,y.bG<σ.next->gg y=σ.get y)/\∃rows is,gg ⟨fk*1000000+1002,σ.next+1⟩=some ⟨true,z,rows++List.replicate (xs.length-(k+1)) (zero.map K.av)⟩/\eV R gg rows (xs.take (k+1)) is/\gp (σ.next+2) nx is)->∃m0,m0<(xs.length)-k/\∃k:Nat,m0=(xs.length)-k/\k<=(xs.length)/\e 4=.int .i64 (k:Int)/\(σ.next+2<=nx/\(∀y:Id,y.bG<σ.next->gg y=σ.get y)/\∃rows is,gg ⟨fk*1000000+1002,σ.next+1⟩=some ⟨true,z,rows++List.replicate (xs.length-k) (zero.map K.av)⟩/\eV R gg rows (xs.take k) is/\gp (σ.next+2) nx is):=fun x1 x2=>⟨_,ah,k+1,rfl,ah,(by rw[x1,aE ah]),x2⟩
  have fC:k<xs.length:=ah
  have fa:(xs.map en)[k]? =some (en xs[k]):=by simp[fC]
  have w8:=hz xs[k]
  have ht:(en xs[k]).take z=en xs[k]:=by rw[<-w8,List.take_length]
  have iU:=hg _ (List.getElem_mem fC)
  obtain⟨m,RP⟩:∃m,xs.length-k=m+1:=⟨xs.length-k-1,ah⟩
  rw[RP,List.replicate_succ]at ag
  generalize hex:en xs[k]=c at iU fa w8 ht
  (try((repeat(revert N;apply Pn.out));refine wk (tw @a4 (tw @a0 (tw @a3 (tw @hk (tw @fa (tw @w8 (tw @ht @Nat.le_refl))))))) ?_;(repeat(apply Pn.mk;intro N hN))))
  refine .inr (az _ _ _ _ _ (fun r σ1 hq=>?_) (iU _))
  obtain⟨cs,ids,rfl,hR,hI,hK⟩:=hq
  obtain⟨g1,x1⟩:=σ1
  (try dsimp only at hR hI hK)
  have Ar:=(hK.2 ⟨fk*1000000+1002,σ.next+1⟩ bc)
  simp only[go_sem, ↓reduceIte,Nat.reduceEqDiff,Nat.reduceAdd,Nat.reduceSub,Nat.reduceLeDiff,reduceCtorEq,ag]at Ar
  have nH:=ok.len hR
  have Cm:=ok.cell hR
  have fE:(rows++zero.map K.av::List.replicate m (zero.map K.av))[k]? =some (zero.map K.av):=by rw[List.getElem?_append_right ah,uV,Nat.sub_self];rfl
  have ew:(rows++zero.map K.av::List.replicate m (zero.map K.av)).set k cs=rows++[cs]++List.replicate m (zero.map K.av):=QU uV
  have MD:(zero.map K.av).drop z=[]:=List.drop_of_length_le (by simp[EE])
  have Iy:(rows++zero.map K.av::List.replicate m (zero.map K.av)).length=xs.length:=by simp[uV];omega
  apply hN
  clear hN N
  (try((repeat(revert N;apply Pn.out));refine wk (tw @a4 (tw @a0 (tw @a3 (tw @hk (tw @Ar (tw @fE (tw @ew (tw @Iy (tw @MD (tw @yv (tw @nH (tw @Cm (tw @Nat.le_refl @EE))))))))))))) ?_;(repeat(apply Pn.mk;intro N hN))))
  have tn:=hK.1
  have Iu:∀i∈is,(i=⟨fk*1000000+1002,σ.next+1⟩)=False:=fun i hi=>eq_false fun e=>by
   have:=(aN.2 i hi).1
   subst e;(try dsimp only at this);omega
  have A9:∀i∈ids,(i=⟨fk*1000000+1002,σ.next+1⟩)=False:=fun i hi=>eq_false fun e=>by
   have:=(hI.2 i hi).1
   subst e;(try dsimp only at this);omega
  exact cV (sd (tw @a4 (tw @a0 @a3))) (by(try dsimp only at *);exact⟨ah,fun y hy=>by
   have h1:=db hy
   have h2:=hK.2 y bc
   have h3:=aK y hy
   simp only[go_sem, ↓reduceIte,Nat.reduceEqDiff,Nat.reduceAdd,Nat.reduceSub,Nat.reduceLeDiff,reduceCtorEq]at h2
   simp only[go_sem, ↓reduceIte,Nat.reduceEqDiff,Nat.reduceAdd,Nat.reduceSub,Nat.reduceLeDiff,reduceCtorEq,h1,h2,h3],rows++[cs],is++ids,by
    rw[show xs.length-(k+1)=m by omega]
    simp only[go_sem, ↓reduceIte,Nat.reduceEqDiff,Nat.reduceAdd,Nat.reduceSub,Nat.reduceLeDiff,reduceCtorEq]<;>rfl,by
    rw[List.take_succ_eq_append_getElem fC]
    refine((aR.frame ok fun i hi=>?_).app (.one (ok.frame hR fun i hi=>?_)))
    ·have h1:=Iu i hi
     have h2:=hK.2 i (by(try dsimp only);have:=(aN.2 i hi).2;omega)
     simp only[go_sem, ↓reduceIte,Nat.reduceEqDiff,Nat.reduceAdd,Nat.reduceSub,Nat.reduceLeDiff,reduceCtorEq]at h2
     simp only[go_sem, ↓reduceIte,Nat.reduceEqDiff,Nat.reduceAdd,Nat.reduceSub,Nat.reduceLeDiff,reduceCtorEq,h1,h2]
    ·have h1:=A9 i hi
     simp only[go_sem, ↓reduceIte,Nat.reduceEqDiff,Nat.reduceAdd,Nat.reduceSub,Nat.reduceLeDiff,reduceCtorEq,h1],(aN.app hI bc ah bc).wide (Nat.le_refl _) bc⟩)
 ·(try((repeat(revert N;apply Pn.out));refine wk (tw @a4 (tw @a0 (tw @a3 @hk))) ?_;(repeat(apply Pn.mk;intro N hN))))
  have fC:k=xs.length:=ah
  subst fC
  rw[Nat.sub_self,List.replicate_zero,List.append_nil]at ag
  rw[List.take_length]at aR
  refine er (.inl rfl) (vs:=[.own ⟨fk*1000000+1002,σ.next+1⟩ 0 xs.length]) (sd (tw @a4 (tw @a0 @a3))) ?_
  exact⟨_,⟨_,rows,is,rfl,ag,aR,rfl⟩,⟨List.nodup_cons.2 ⟨fun hi=>by have:=(aN.2 _ hi).1;(try dsimp only at this);omega,aN.1⟩,fun i hi=>by
   rcases List.mem_cons.1 hi with rfl|hi
   ·(try dsimp only);omega
   ·have:=aN.2 i hi;(try dsimp only);omega⟩,⟨bc,fun j hj=>aK j hj⟩⟩
end
theorem jf.nL {α:Type} {R:FQ α} {z:Nat} {g:Rows} {a:AV} {xs:List α} {ids:List Id} (h:jf R z g a xs ids):∃o,a=.own o 0 xs.length:=by
 obtain⟨o,rows,is,rfl,_⟩:=h;exact⟨o,rfl⟩
theorem FE (xs:List Int) (hlen:xs.length<=1048576) (σ:aw):Call Tryz.prog 42 [.sl (xs.map aC)] σ (fun r σ'=>∃i,r=.own i 0 xs.length/\σ'.get i=some ⟨true,1,xs.map aC⟩/\gp σ.next σ'.next [i]/\Kept σ σ'):=by
 refine eB (show nU Tryz.prog 42=some (Oy 42 (.int .i64 0)) by kernel_rfl) rfl fun hl=>?_
 try simp only[q]
 clear hl
 obtain⟨en,El⟩:∃en:Int->List AV,en=aC:=⟨_,rfl⟩
 rw[<-El]
 have hm:(xs.length:Int)<=((16777216:Nat):Int):=ah
 have h0:(0:Int)<=(xs.length:Int):=ah
 (try((repeat(revert N;apply Pn.out));refine wk (tw @hm (tw @h0 (tw @Int.le_refl (qi en [AV.int .i64 0] xs)))) ?_;(repeat(apply Pn.mk;intro N hN))))
 refine bf (fun n env st=>∃k:Nat,n=(xs.length)-k/\k<=(xs.length)/\env 4=.int .i64 (k:Int)/\st.get ⟨42*1000000+1002,σ.next+1⟩=some ⟨true,1,iC en [AV.int .i64 0] xs k⟩/\(σ.next+2<=st.next/\∀y:Id,y.bG<σ.next->st.get y=σ.get y)) (xs.length) ⟨0,ah,ah,sl @Nat.zero_add,sl @Nat.zero_add,by(try dsimp only);exact⟨ah,fun y hy=>by
  have h1:=db hy
  simp only[go_sem, ↓reduceIte,Nat.reduceEqDiff,Nat.reduceAdd,Nat.reduceSub,Nat.reduceLeDiff,reduceCtorEq,h1]⟩⟩ ?_
 rintro n_a env_a st_a ⟨k,rfl,ale,a4,ag0,kz⟩ dX
 have a0:=dX 0 (by kernel_rfl);have a3:=dX 3 (by kernel_rfl)
 simp only[go_sem, ↓reduceIte,Nat.reduceEqDiff,Nat.reduceAdd,Nat.reduceSub,Nat.reduceLeDiff,reduceCtorEq]at a0 a3
 clear dX
 obtain⟨an,aK⟩:=kz
 by_cases hk:(k:Int)<(xs.length:Int)
 ·have cV:∀{e:Env} {gg:Rows} {nx:Nat},(e 4=.int .i64 (IntKind.i64.wrap ((k:Int)+1)))->(gg ⟨42*1000000+1002,σ.next+1⟩=some ⟨true,1,iC en [AV.int .i64 0] xs (k+1)⟩)->(σ.next+2<=nx/\∀y:Id,y.bG<σ.next->gg y=σ.get y)->∃m0,m0<(xs.length)-k/\∃k:Nat,m0=(xs.length)-k/\k<=(xs.length)/\e 4=.int .i64 (k:Int)/\gg ⟨42*1000000+1002,σ.next+1⟩=some ⟨true,1,iC en [AV.int .i64 0] xs k⟩/\(σ.next+2<=nx/\∀y:Id,y.bG<σ.next->gg y=σ.get y):=fun x1 x2 x3=>⟨_,ah,k+1,rfl,ah,(by rw[x1,aE ah]),x2,x3⟩
  have fC:k<xs.length:=ah
  have fa:(xs.map en)[k]? =some [AV.int .i64 xs[k]]:=by simp[fC,El,aC]
  have fm:=sD en [AV.int .i64 0] xs fC
  have ew:=sE en [AV.int .i64 0] xs fC
  rw[show en xs[k]=[AV.int .i64 xs[k]] by rw[El];rfl]at ew
  (try((repeat(revert N;apply Pn.out));refine wk (tw @a4 (tw @ag0 (tw @a0 (tw @a3 (tw @hk (tw @fa (tw @fm @ew))))))) ?_;(repeat(apply Pn.mk;intro N hN))))
  refine cV ?_ ?_ (by(try dsimp only);exact⟨ah,fun y hy=>by
   have h1:=db hy
   have h3:=aK y hy
   simp only[go_sem, ↓reduceIte,Nat.reduceEqDiff,Nat.reduceAdd,Nat.reduceSub,Nat.reduceLeDiff,reduceCtorEq,h1,h3]⟩)
  all_goals simp only[go_sem, ↓reduceIte,Nat.reduceEqDiff,Nat.reduceAdd,Nat.reduceSub,Nat.reduceLeDiff,reduceCtorEq,a4,ag0,a0,a3]
 ·(try((repeat(revert N;apply Pn.out));refine wk (tw @a4 (tw @ag0 (tw @a0 (tw @a3 @hk)))) ?_;(repeat(apply Pn.mk;intro N hN))))
  have fC:k=xs.length:=ah
  subst fC
  refine er (.inl rfl) (vs:=[.own ⟨42*1000000+1002,σ.next+1⟩ 0 xs.length]) (sd (tw @a4 (tw @ag0 (tw @a0 @a3)))) ?_
  rw[sC]at ag0
  exact⟨_,rfl,ag0,⟨List.nodup_cons.2 ⟨by simp,List.nodup_nil⟩,fun i hi=>by
   rw[List.mem_singleton.1 hi];(try dsimp only);omega⟩,⟨bc,fun j hj=>aK j hj⟩⟩
theorem Oz (p:ft) (hs:u7 p) (σ:aw):Call Tryz.prog 225 [.agg (ck p)] σ (O9 qb p σ):=by
 refine eB eI rfl fun hl=>?_
 clear hl
 (try((repeat(revert N;apply Pn.out));refine wk @ck.eq_1 ?_;(repeat(apply Pn.mk;intro N hN))))
 refine .inr (az _ _ _ _ _ (fun r σ1 hq=>?_) (FE p.cz hs _))
 obtain⟨i,rfl,hg,hI,hK⟩:=hq
 obtain⟨g1,x1⟩:=σ1
 (try dsimp only at hg hI hK)
 have hn:=hK.1
 apply hN
 clear hN N
 have hi:=hI.2 i (by simp)
 have k2:=hK.2 ⟨225000001,σ.next⟩ bc
 have k3:=hK.2 ⟨225001000,σ.next+1⟩ bc
 simp only[go_sem, ↓reduceIte,Nat.reduceEqDiff,Nat.reduceAdd,Nat.reduceSub,Nat.reduceLeDiff,reduceCtorEq]at k2 k3
 (try((repeat(revert N;apply Pn.out));refine wk (tw @ck.eq_1 (tw @k2 @k3)) ?_;(repeat(apply Pn.mk;intro N hN))))
 refine er (.inl rfl) (vs:=[.agg [.str p.aZ,.own i 0 p.cz.length]]) (sd @Nat.zero_add) ?_
 refine⟨_,[i],rfl,⟨i,rfl,?_,rfl⟩,⟨hI.1,fun j hj=>?_⟩,⟨?_,fun j hj=>?_⟩⟩
 ·have i2:=de (b:=i) (a:=⟨225000001,σ.next⟩) (by(try dsimp only at *);omega)
  have i3:=de (b:=i) (a:=⟨225001000,σ.next+1⟩) (by(try dsimp only at *);omega)
  simp only[go_sem, ↓reduceIte,Nat.reduceEqDiff,Nat.reduceAdd,Nat.reduceSub,Nat.reduceLeDiff,reduceCtorEq,i2,i3,hg]
 ·rw[List.mem_singleton.1 hj]
  (try dsimp only at *);omega
 ·(try dsimp only at *);omega
 ·have h2:=hK.2 j bc
  have h1:=db hj
  simp only[go_sem, ↓reduceIte,Nat.reduceEqDiff,Nat.reduceAdd,Nat.reduceSub,Nat.reduceLeDiff,reduceCtorEq,h1]at h2
  simp only[go_sem, ↓reduceIte,Nat.reduceEqDiff,Nat.reduceAdd,Nat.reduceSub,Nat.reduceLeDiff,reduceCtorEq,h1,h2]
theorem D6:Ae (nh cU) 2:=Mm (fun _=>rfl) (fun _=>rfl) (by simp[xK])
theorem D7:Ae (nh ab) 3:=Mm (fun _=>rfl) (fun _=>rfl) (by simp[xK])
theorem Ow (p:gn) (σ:aw):Call Tryz.prog 224 [.agg (cU p)] σ (O9 (nh cU) p σ):=by
 refine eB eI rfl fun hl=>?_
 clear hl
 (try((repeat(revert N;apply Pn.out));refine wk @cU.eq_1 ?_;(repeat(apply Pn.mk;intro N hN))))
 refine er (.inl rfl) (vs:=[.agg (cU p)]) (sd @cU.eq_1) ?_
 exact⟨_,[],rfl,⟨rfl,rfl⟩,⟨List.nodup_nil,fun i hi=>by cases hi⟩,⟨bc,fun j hj=>by
  have h1:=db hj
  simp only[go_sem, ↓reduceIte,Nat.reduceEqDiff,Nat.reduceAdd,Nat.reduceSub,Nat.reduceLeDiff,reduceCtorEq,h1]⟩⟩
theorem HK (p:aa) (σ:aw):Call Tryz.prog 226 [.agg (ab p)] σ (O9 (nh ab) p σ):=by
 refine eB eI rfl fun hl=>?_
 clear hl
 have h:=BN p.aQ
 rw[ad]at h
 (repeat(first|((repeat(revert N;apply Pn.out));refine wk @ab.eq_1 ?_;(repeat(apply Pn.mk;intro N hN)))|((try apply Or.inl);refine⟨_,l6.x (h) _,?_⟩;apply hN;clear hN N)))
 refine er (.inl rfl) (vs:=[.agg (ab p)]) (sd @ab.eq_1) ?_
 exact⟨_,[],rfl,⟨rfl,rfl⟩,⟨List.nodup_nil,fun i hi=>by cases hi⟩,⟨bc,fun j hj=>by
  have h1:=db hj
  simp only[go_sem, ↓reduceIte,Nat.reduceEqDiff,Nat.reduceAdd,Nat.reduceSub,Nat.reduceLeDiff,reduceCtorEq,h1]⟩⟩
theorem K4 (xs:List gn) (h:xs.length<=1048576) (σ:aw):Call Tryz.prog 178 [.sl (xs.map cU)] σ (Pa (nh cU) 2 xs σ):=
 C7 D6 (show nU Tryz.prog 178=some (xp 178 224 2 [.str [],.int .i64 0]) by kernel_rfl) rfl (fun _=>rfl) xs h (fun x _ σ=>Ow x σ) σ
theorem K6 (xs:List ft) (h:xs.length<=1048576) (hs:∀t∈xs,u7 t) (σ:aw):Call Tryz.prog 179 [.sl (xs.map ck)] σ (Pa qb 2 xs σ):=
 C7 td (show nU Tryz.prog 179=some (xp 179 225 2 [.str [],.bU]) by kernel_rfl) rfl (fun _=>rfl) xs h (fun x hx σ=>Oz x (hs x hx) σ) σ
theorem FG (xs:List aa) (h:xs.length<=1048576) (σ:aw):Call Tryz.prog 180 [.sl (xs.map ab)] σ (Pa (nh ab) 3 xs σ):=
 C7 D7 (show nU Tryz.prog 180=some (xp 180 226 3 [.int .i64 0,.int .i64 0,.int .i64 0]) by kernel_rfl) rfl (fun _=>rfl) xs h (fun x _ σ=>HK x σ) σ
def V2 (g:Rows) (v:AV) (a:iS) (ids:List Id):Prop:=∃x,v=.agg [x]/\jf (nh ab) 3 g x a.aj ids
structure Dw (g:Rows) (v:AV) (s:ax) (ids:List Id):Prop where
 ex:∃a b c i1 i2 i3,v=.agg [a,b,c,.int .i64 s.aA]/\jf (nh cU) 2 g a s.aD.aI i1/\jf qb 2 g b s.aD.aj i2/\jf (nh ab) 3 g c s.bH.aj i3/\ids=i1++(i2++i3)
theorem Dw.frame {g g':Rows} {v:AV} {s:ax} {ids:List Id} (h:Dw g v s ids) (hf:∀i∈ids,g' i=g i):Dw g' v s ids:=by
 obtain⟨a,b,c,i1,i2,i3,h1,h2,h3,h4,rfl⟩:=h.ex
 exact⟨a,b,c,i1,i2,i3,h1,h2.frame D6 fun i hi=>hf i (by simp[hi]),h3.frame td fun i hi=>hf i (by simp[hi]),h4.frame D7 fun i hi=>hf i (by simp[hi]),rfl⟩
theorem Dw.fz {g:Rows} {v:AV} {s:ax} {ids:List Id} (n:Nat) (h:Dw g v s ids):V.fz (ea g) (n+5) v=some (.agg (aM s)):=by
 obtain⟨a,b,c,i1,i2,i3,rfl,h2,h3,h4,rfl⟩:=h.ex
 have q1:=h2.fz (n:=n+3) (e:=cU) fun hc=>by rw[hc.1];simp[cU,ai,ar,aB,bq]
 have q2:=h3.fz (n:=n+3) (e:=ck) fun hc=>Q4 (n+1) hc
 have q3:=h4.fz (n:=n+3) (e:=ab) fun hc=>by rw[hc.1];simp[ab,ai,ar,aB]
 simp only[aY,ai,ar,q1,q2,q3,aB,Option.map_some,aM]
theorem C5 (p:iS) (hs:p.aj.length<=1048576) (σ:aw):Call Tryz.prog 111 [.agg (eD p)] σ (fun r σ'=>∃ids,V2 σ'.get r p ids/\gp σ.next σ'.next ids/\Kept σ σ'):=by
 refine eB eI rfl fun hl=>?_
 clear hl
 (try((repeat(revert N;apply Pn.out));refine wk @eD.eq_1 ?_;(repeat(apply Pn.mk;intro N hN))))
 refine .inr (az _ _ _ _ _ (fun r σ1 hq=>?_) (FG p.aj hs _))
 obtain⟨ids,hR,hI,hK⟩:=hq
 obtain⟨g1,x1⟩:=σ1
 (try dsimp only at hR hI hK)
 have hn:=hK.1
 obtain⟨o,rows,is,rfl,hg,WH,rfl⟩:=hR
 apply hN
 clear hN N
 have k2:=hK.2 ⟨111000001,σ.next⟩ bc
 have k3:=hK.2 ⟨111001000,σ.next+1⟩ bc
 simp only[go_sem, ↓reduceIte,Nat.reduceEqDiff,Nat.reduceAdd,Nat.reduceSub,Nat.reduceLeDiff,reduceCtorEq]at k2 k3
 (try((repeat(revert N;apply Pn.out));refine wk (tw @eD.eq_1 (tw @k2 @k3)) ?_;(repeat(apply Pn.mk;intro N hN))))
 refine er (.inl rfl) (vs:=[.agg [.own o 0 p.aj.length]]) (sd @Nat.zero_add) ?_
 have hb:=hI.2
 (try dsimp only at hb hn)
 refine⟨_,⟨_,rfl,jf.frame D7 ⟨o,rows,is,rfl,hg,WH,rfl⟩ fun j hj=>?_⟩,⟨hI.1,fun j hj=>?_⟩,⟨?_,fun j hj=>?_⟩⟩
 ·have RN:=hb j hj
  have i2:=de (b:=j) (a:=⟨111000001,σ.next⟩) bc
  have i3:=de (b:=j) (a:=⟨111001000,σ.next+1⟩) bc
  simp only[go_sem, ↓reduceIte,Nat.reduceEqDiff,Nat.reduceAdd,Nat.reduceSub,Nat.reduceLeDiff,reduceCtorEq,i2,i3]
 ·have:=hb j hj
  (try dsimp only);omega
 ·(try dsimp only);omega
 ·have h2:=hK.2 j bc
  have h1:=db hj
  simp only[go_sem, ↓reduceIte,Nat.reduceEqDiff,Nat.reduceAdd,Nat.reduceSub,Nat.reduceLeDiff,reduceCtorEq,h1]at h2
  simp only[go_sem, ↓reduceIte,Nat.reduceEqDiff,Nat.reduceAdd,Nat.reduceSub,Nat.reduceLeDiff,reduceCtorEq,h1,h2]
theorem FI (p:ay) (hs:LH p) (σ:aw):Call Tryz.prog 110 [.agg (ae p)] σ (fun r σ'=>∃a b i1 i2,r=.agg [a,b]/\jf (nh cU) 2 σ'.get a p.aI i1/\jf qb 2 σ'.get b p.aj i2/\gp σ.next σ'.next (i1++i2)/\Kept σ σ'):=by
 refine eB eI rfl fun hl=>?_
 clear hl
 (try((repeat(revert N;apply Pn.out));refine wk @ae.eq_1 ?_;(repeat(apply Pn.mk;intro N hN))))
 refine .inr (az _ _ _ _ _ (fun r σ1 hq=>?_) (K4 p.aI hs.g _))
 obtain⟨i1,hR,hI,hK⟩:=hq
 obtain⟨g1,x1⟩:=σ1
 (try dsimp only at hR hI hK)
 have hn:=hK.1
 obtain⟨o,rows,is,rfl,hg,WH,rfl⟩:=hR
 have hb:=hI.2
 (try dsimp only at hb hn)
 apply hN
 clear hN N
 have k1:=hK.2 ⟨110000000,σ.next⟩ bc
 have k2:=hK.2 ⟨110000001,σ.next⟩ bc
 have k3:=hK.2 ⟨110001000,σ.next+1⟩ bc
 simp only[go_sem, ↓reduceIte,Nat.reduceEqDiff,Nat.reduceAdd,Nat.reduceSub,Nat.reduceLeDiff,reduceCtorEq]at k1 k2 k3
 (try((repeat(revert N;apply Pn.out));refine wk (tw @ae.eq_1 (tw @k1 (tw @k2 @k3))) ?_;(repeat(apply Pn.mk;intro N hN))))
 refine .inr (az _ _ _ _ _ (fun r σ2 hq=>?_) (K6 p.aj hs.t hs.s _))
 obtain⟨i2,hS,hJ,hL⟩:=hq
 obtain⟨g2,x2⟩:=σ2
 (try dsimp only at hS hJ hL)
 have TP:=hL.1
 obtain⟨o2,XZ,is2,rfl,Tz,hS',rfl⟩:=hS
 have hc:=hJ.2
 (try dsimp only at hc TP)
 apply hN
 clear hN N
 have l2:=hL.2 ⟨110000001,σ.next⟩ bc
 have l3:=hL.2 ⟨110001000,σ.next+1⟩ bc
 simp only[go_sem, ↓reduceIte,Nat.reduceEqDiff,Nat.reduceAdd,Nat.reduceSub,Nat.reduceLeDiff,reduceCtorEq,k2,k3]at l2 l3
 (try((repeat(revert N;apply Pn.out));refine wk (tw @ae.eq_1 (tw @l2 @l3)) ?_;(repeat(apply Pn.mk;intro N hN))))
 refine er (.inl rfl) (vs:=[.agg [.own o 0 p.aI.length,.own o2 0 p.aj.length]]) (sd @Nat.zero_add) ?_
 have fr:∀x:Id,σ.next+2<=x.bG->(x=⟨110000001,σ.next⟩)=False/\(x=⟨110001000,σ.next+1⟩)=False:=fun x hx=>⟨(de (a:=⟨110000001,σ.next⟩) (b:=x) bc).2,(de (a:=⟨110001000,σ.next+1⟩) (b:=x) bc).2⟩
 refine⟨_,_,_,_,rfl,jf.frame (g:=g1) D6 ⟨o,rows,is,rfl,hg,WH,rfl⟩ fun i hi=>?_,jf.frame (g:=g2) td ⟨o2,XZ,is2,rfl,Tz,hS',rfl⟩ fun i hi=>?_,?_,⟨bc,fun j hj=>?_⟩⟩
 ·have h1:=hb i hi
  have h2:=hL.2 i bc
  have h3:=fr i ah
  simp only[go_sem, ↓reduceIte,Nat.reduceEqDiff,Nat.reduceAdd,Nat.reduceSub,Nat.reduceLeDiff,reduceCtorEq,h3]at h2
  simp only[go_sem, ↓reduceIte,Nat.reduceEqDiff,Nat.reduceAdd,Nat.reduceSub,Nat.reduceLeDiff,reduceCtorEq,h2,h3]
 ·have h1:=hc i hi
  have h3:=fr i ah
  simp only[go_sem, ↓reduceIte,Nat.reduceEqDiff,Nat.reduceAdd,Nat.reduceSub,Nat.reduceLeDiff,reduceCtorEq,h3]
 ·(try dsimp only at *)
  exact(hI.app hJ ah ah ah).wide ah ah
 ·have h1:=db hj
  have h2:=hL.2 j bc
  have h3:=hK.2 j bc
  simp only[go_sem, ↓reduceIte,Nat.reduceEqDiff,Nat.reduceAdd,Nat.reduceSub,Nat.reduceLeDiff,reduceCtorEq,h1]at h2 h3
  simp only[go_sem, ↓reduceIte,Nat.reduceEqDiff,Nat.reduceAdd,Nat.reduceSub,Nat.reduceLeDiff,reduceCtorEq,h1,h2,h3]
theorem HN (p:ax) (hs:wJ p) (σ:aw):Call Tryz.prog 41 [.agg (aM p)] σ (fun r σ'=>∃ids,Dw σ'.get r p ids/\gp σ.next σ'.next ids/\Kept σ σ'):=by
 refine eB eI rfl fun hl=>?_
 clear hl
 have t1:=fun σ=>FI p.aD hs.s σ
 have t2:=fun σ=>C5 p.bH hs.a σ
 rw[ae]at t1
 rw[eD]at t2
 (try((repeat(revert N;apply Pn.out));refine wk @aM.eq_1 ?_;(repeat(apply Pn.mk;intro N hN))))
 refine .inr (az _ _ _ _ _ (fun r σ1 hq=>?_) (t1 _))
 obtain⟨a,b,i1,i2,rfl,hA,hB,hI,hK⟩:=hq
 obtain⟨g1,x1⟩:=σ1
 (try dsimp only at hA hB hI hK)
 have hn:=hK.1
 have hb:=hI.2
 (try dsimp only at hb hn)
 apply hN
 clear hN N
 have k1:=hK.2 ⟨41000000,σ.next⟩ bc
 have k2:=hK.2 ⟨41000001,σ.next⟩ bc
 have k3:=hK.2 ⟨41001000,σ.next+1⟩ bc
 simp only[go_sem, ↓reduceIte,Nat.reduceEqDiff,Nat.reduceAdd,Nat.reduceSub,Nat.reduceLeDiff,reduceCtorEq]at k1 k2 k3
 obtain⟨oa,rfl⟩:=hA.nL
 obtain⟨ob,rfl⟩:=hB.nL
 (try((repeat(revert N;apply Pn.out));refine wk (tw @aM.eq_1 (tw @k1 (tw @k2 @k3))) ?_;(repeat(apply Pn.mk;intro N hN))))
 refine .inr (az _ _ _ _ _ (fun r σ2 hq=>?_) (t2 _))
 obtain⟨i3,hC,hJ,hL⟩:=hq
 obtain⟨g2,x2⟩:=σ2
 (try dsimp only at hC hJ hL)
 have TP:=hL.1
 have hc:=hJ.2
 (try dsimp only at hc TP)
 obtain⟨c,rfl,hC⟩:=hC
 obtain⟨oc,rfl⟩:=hC.nL
 apply hN
 clear hN N
 have l1:=hL.2 ⟨41000000,σ.next⟩ bc
 have l2:=hL.2 ⟨41000001,σ.next⟩ bc
 have l3:=hL.2 ⟨41001000,σ.next+1⟩ bc
 simp only[go_sem, ↓reduceIte,Nat.reduceEqDiff,Nat.reduceAdd,Nat.reduceSub,Nat.reduceLeDiff,reduceCtorEq,k1,k2,k3]at l1 l2 l3
 (try((repeat(revert N;apply Pn.out));refine wk (tw @aM.eq_1 (tw @l1 (tw @l2 @l3))) ?_;(repeat(apply Pn.mk;intro N hN))))
 refine er (.inl rfl) (vs:=[.agg [.own oa 0 p.aD.aI.length,.own ob 0 p.aD.aj.length,.own oc 0 p.bH.aj.length,.int .i64 p.aA]]) (sd @Nat.zero_add) ?_
 have fr:∀x:Id,σ.next+2<=x.bG->(x=⟨41000001,σ.next⟩)=False/\(x=⟨41001000,σ.next+1⟩)=False:=fun x hx=>⟨(de (a:=⟨41000001,σ.next⟩) (b:=x) bc).2,(de (a:=⟨41001000,σ.next+1⟩) (b:=x) bc).2⟩
 have fr2:∀i∈i1++i2,g2 i=g1 i:=fun i hi=>by
  have h1:=hb i hi
  have h2:=hL.2 i bc
  have h3:=fr i ah
  simp only[go_sem, ↓reduceIte,Nat.reduceEqDiff,Nat.reduceAdd,Nat.reduceSub,Nat.reduceLeDiff,reduceCtorEq,h3]at h2
  exact h2
 refine⟨i1++(i2++i3),⟨_,_,_,i1,i2,i3,rfl,hA.frame D6 fun i hi=>?_,hB.frame td fun i hi=>?_,hC.frame D7 fun i hi=>?_,rfl⟩,?_,⟨bc,fun j hj=>?_⟩⟩
 ·have h1:=hb i (by simp[hi])
  have h2:=fr2 i (by simp[hi])
  have h3:=fr i ah
  simp only[go_sem, ↓reduceIte,Nat.reduceEqDiff,Nat.reduceAdd,Nat.reduceSub,Nat.reduceLeDiff,reduceCtorEq,h2,h3]
 ·have h1:=hb i (by simp[hi])
  have h2:=fr2 i (by simp[hi])
  have h3:=fr i ah
  simp only[go_sem, ↓reduceIte,Nat.reduceEqDiff,Nat.reduceAdd,Nat.reduceSub,Nat.reduceLeDiff,reduceCtorEq,h2,h3]
 ·have h1:=hc i hi
  have h3:=fr i ah
  simp only[go_sem, ↓reduceIte,Nat.reduceEqDiff,Nat.reduceAdd,Nat.reduceSub,Nat.reduceLeDiff,reduceCtorEq,h3]
 ·(try dsimp only at *)
  rw[<-List.append_assoc]
  exact(hI.app hJ ah ah ah).wide ah ah
 ·have h1:=db hj
  have h2:=hL.2 j bc
  have h3:=hK.2 j bc
  simp only[go_sem, ↓reduceIte,Nat.reduceEqDiff,Nat.reduceAdd,Nat.reduceSub,Nat.reduceLeDiff,reduceCtorEq,h1]at h2 h3
  simp only[go_sem, ↓reduceIte,Nat.reduceEqDiff,Nat.reduceAdd,Nat.reduceSub,Nat.reduceLeDiff,reduceCtorEq,h1,h2,h3]
end Go.Proofs.YtainmfbpilopaaaGreatDoor.V

namespace Go.Proofs.YtainmfbpilopaaaGreatDoor
open Go.RowKit
def xz (n:Nat):List UInt8:=if h:n=0 then[]else xz (n / 10)++[UInt8.ofNat (48+n % 10)]
termination_by n
decreasing_by omega
def qy (k:Int):ByteArray:=if k<=0 then⟨#[109,48]⟩else⟨(109::xz k.toNat).toArray⟩
theorem JA:xz 0=[]:=by unfold xz;simp
theorem L7 {n:Nat} (h:n≠0):xz n=xz (n / 10)++[UInt8.ofNat (48+n % 10)]:=by
 conv=>lhs;unfold xz
 rw[dif_neg h]
theorem AX (c:UInt8) (l:ByteArray):((⟨#[c]⟩++l:ByteArray)).data.toList=c::l.data.toList:=by
 simp[ByteArray.data_append]
theorem DR:∀(m n:Nat),n<10 ^ m->(xz n).length<=m
 |0,n,h=>by
  have:n=0:=by simpa using h
  subst this;simp[xz]
 |m+1,n,h=>by
  unfold xz
  split
  ·simp
  ·have:=DR m (n / 10) (by rw[Nat.pow_succ]at h;omega)
   simp;omega
theorem CF (w:World) (k:Int) (h0:0<=k) (h1:k<=4611686018427387904):
  Calls Tryz.prog 230 #[.int .i64 k] w fun e w'=>e=.returned (.string (qy k))/\Below w.heap.size w w':=by
 by_cases hk:k<=0
 ·go_enter Tryz.func230,Tryz.ntmps230
  go_wp2_with fail
  go_ret
  exact⟨by simp[qy,hk],Below.refl _ _⟩
 ·go_enter Tryz.func230,Tryz.ntmps230
  go_wp2_with fail
  go_loopw [0,3] (fun a s wr=>∃(j:Int) (l:ByteArray),a=.int .i64 j/\s=.string l/\0<=j/\j<=4611686018427387904/\Hid (xz j.toNat++l.data.toList=xz k.toNat)/\Below w.heap.size w wr) (fun a _ _=>(intOf a).toNat)
  case atStart=>exact⟨k,⟨#[]⟩,rfl,rfl,h0,h1,Lib.hid (by simp),Below.refl _ _⟩
  case round=>
   obtain⟨j,l,rfl,rfl,RM,VF,hd,hb⟩:=hrel
   have fW:l.size<=19:=by
    have h1:=congrArg List.length hd.out
    have h2:=DR 19 k.toNat (by omega)
    rw[List.length_append]at h1
    have:l.data.toList.length=l.size:=by rw[Array.length_toList];rfl
    omega
   by_cases hj:0<j
   ·have Tw:∀v:Int,(convert 22 9 (.slice (some ⟨wr.heap.size,0,none⟩) 1 1)).run Tryz.prog (wr.alloc (.cells #[.int .u8 v] 5))=.ok (.string ⟨#[UInt8.ofNat v.toNat]⟩) (wr.alloc (.cells #[.int .u8 v] 5)):=by
     intro v
     rw[run_convert_bytes_string _ _ _ 5 _ _ _ Tryz.underlying22 Tryz.underlying5 Tryz.underlying9,run_bytesToString _ _ _ _ [v] (by simp[loadCells,loadCellsFrom,go_sem])]
     rfl
    have hr:=fW
    go_wp2_with fail
    go_roundw
    case rel=>
     refine⟨_,_,rfl,rfl,by omega,by omega,Lib.hid ?_,hb.alloc hb.size _⟩
     rw[<-hd.out,AX,L7 (show j.toNat≠0 by omega),show(j / 10).toNat=j.toNat / 10 by omega,show(48+j % 10).toNat=48+j.toNat % 10 by omega]
     simp
    case measure=>simp[intOf];omega
   ·go_wp2_with fail
    go_ret
    refine⟨?_,hb⟩
    have h1:=hd.out
    rw[show j.toNat=0 by omega,JA,List.nil_append]at h1
    have h2:(⟨#[109]⟩++l:ByteArray)=qy k:=by
     rw[qy,if_neg (by omega)]
     refine ByteArray.ext (Array.ext' ?_)
     rw[AX,h1]
    rw[h2];rfl
end Go.Proofs.YtainmfbpilopaaaGreatDoor

namespace Go.Proofs.YtainmfbpilopaaaGreatDoor.V
open Go.RowKit
attribute [local irreducible] dW wpOps fu Call
def tq (σ:aw) (ids:List Id) (g:Rows) (n:Nat):Prop:=σ.next<=n/\∀x:Id,x.bG<σ.next->x∉ids->g x=σ.get x
theorem uI (l:List (List AV)) (i:Nat) (a b:List AV):(l.set i a).set i b=l.set i b:=List.set_set ..
theorem DT {l:List Int} {j:Nat} (h:j<l.length):(l.map aC)[j]? =some [.int .i64 l[j]]:=by simp[h,aC]
theorem QN {P:Program} {w:World} {D:Nat->Prop} {ι:Names} {k:Int} {vs:Array Value} (h:fQ P w D ι [.int .i64 k] vs):vs= #[.int .i64 k]:=by
 obtain⟨h1,h2⟩:=h
 obtain⟨u,hu,hr⟩:=h2 0 _ rfl
 rw[dR hr]at hu
 obtain⟨l⟩:=vs
 cases l with
 |nil=>simp at h1
 |cons a l=>cases l with
  |nil=>simp at hu;subst hu;rfl
  |cons b l=>simp at h1
theorem zf (k:Int) (h0:0<=k) (h1:k<=4611686018427387904):au Tryz.prog 230 [.int .i64 k] (.str (qy k)):=
 nQ (vs0:= #[.int .i64 k]) (u0:=.string (qy k)) (fun _ _ _ _=>QN) (fun w D ι=>.eP _ _ (.str _)) (fun g=>PD g 5 _) fun w=>CF w k h0 h1
theorem Ha (i:Id) (l:List Int) (k:Int) (h0:0<=k) (h1:k+l.length<=4611686018427387904) (σ:aw) (hv:i.bG<σ.next) (hg:σ.get i=some ⟨true,1,l.map aC⟩):
  Call Tryz.prog 48 [.own i 0 l.length,.int .i64 k] σ (fun r σ'=>r=.int .i64 (k+l.length)/\tq σ [i] σ'.get σ'.next):=by
 refine eB eI rfl fun hl=>?_
 clear hl
 obtain⟨nn,hn⟩:∃nn,l.length=nn:=⟨_,rfl⟩
 rw[hn]at h1 ⊢
 (try((repeat(revert N;apply Pn.out));refine wk @Nat.zero_add ?_;(repeat(apply Pn.mk;intro N hN))))
 refine bf (fun n env st=>∃j:Nat,n=(nn)-j/\j<=(nn)/\env 5=.int .i64 (j:Int)/\env 1=.int .i64 (k+j)/\(tq σ [i] st.get st.next/\∃l':List Int,l'.length=nn/\st.get i=some ⟨true,1,l'.map aC⟩)) (nn) ⟨0,ah,ah,sl (tw @Int.add_zero @Int.natCast_zero),sl (tw @Int.add_zero @Int.natCast_zero),by(try dsimp only);exact⟨⟨bc,fun x _ _=>rfl⟩,l,hn,hg⟩⟩ ?_
 rintro n_a env_a st_a ⟨j,rfl,ale,a5,a1,kz⟩ dX
 have a0:=dX 0 (by kernel_rfl)
 simp only[go_sem, ↓reduceIte,Nat.reduceEqDiff,Nat.reduceAdd,Nat.reduceSub,Nat.reduceLeDiff,reduceCtorEq,Int.add_zero,Int.natCast_zero]at a0
 clear dX
 obtain⟨⟨an,aF⟩,l',al,ag⟩:=kz
 by_cases hj:(j:Int)<(nn:Int)
 ·have cV:∀{e:Env} {gg:Rows} {nx:Nat},(e 5=.int .i64 (IntKind.i64.wrap ((j:Int)+1)))->(e 1=.int .i64 (k+(j+1)))->(tq σ [i] gg nx/\∃l':List Int,l'.length=nn/\gg i=some ⟨true,1,l'.map aC⟩)->∃m0,m0<(nn)-j/\∃j:Nat,m0=(nn)-j/\j<=(nn)/\e 5=.int .i64 (j:Int)/\e 1=.int .i64 (k+j)/\(tq σ [i] gg nx/\∃l':List Int,l'.length=nn/\gg i=some ⟨true,1,l'.map aC⟩):=fun x1 x2 x3=>⟨_,ah,j+1,rfl,ah,(by rw[x1,aE ah]),x2,x3⟩
  have iN:j<l'.length:=ah
  have fE:=DT iN
  have ew:(l'.map aC).set j [.int .i64 (k+j)]=(l'.set j (k+j)).map aC:=by rw[List.map_set];rfl
  have hw:IntKind.i64.wrap (k+(j:Int)+1)=k+((j:Int)+1):=by rw[cq ah];omega
  (try((repeat(revert N;apply Pn.out));refine wk (tw @a5 (tw @a1 (tw @a0 (tw @hj (tw @ag (tw @fE (tw @ew @hw))))))) ?_;(repeat(apply Pn.mk;intro N hN))))
  refine cV ?_ ?_ (by(try dsimp only);exact⟨⟨bc,fun x hx hi=>by
   have h2:=aF x hx hi
   have h3:(x=i)=False:=eq_false fun e=>hi (by simp[e])
   simp only[go_sem, ↓reduceIte,Nat.reduceEqDiff,Nat.reduceAdd,Nat.reduceSub,Nat.reduceLeDiff,reduceCtorEq,h2,h3]⟩,l'.set j (k+j),by simp[al],sl @Nat.zero_add⟩)
  all_goals simp only[go_sem, ↓reduceIte,Nat.reduceEqDiff,Nat.reduceAdd,Nat.reduceSub,Nat.reduceLeDiff,reduceCtorEq,a5,a1,a0,hw]
 ·have iN:j=nn:=ah
  subst iN
  (try((repeat(revert N;apply Pn.out));refine wk (tw @a5 (tw @a1 (tw @a0 @hj))) ?_;(repeat(apply Pn.mk;intro N hN))))
  exact er (.inl rfl) (vs:=[.int .i64 (k+j)]) (sd (tw @a5 (tw @a1 @a0))) ⟨rfl,⟨bc,fun x hx hi=>aF x hx hi⟩⟩
def Qv (k:Int) (n:Nat):List aa:=(List.range n).map fun j:Nat=>⟨⟨k+3*(j:Int),k+3*(j:Int)+1⟩,k+3*(j:Int)+2⟩
theorem ur (k:Int) (n:Nat):(Qv k n).length=n:=by simp[Qv]
theorem Nv (k:Int) (n:Nat):Qv k (n+1)=Qv k n++[⟨⟨k+3*(n:Int),k+3*(n:Int)+1⟩,k+3*(n:Int)+2⟩]:=by simp[Qv,List.range_succ]
def o9 (k:Int) (l:List aa) (j:Nat):List aa:=Qv k j++l.drop j
theorem Nw {k:Int} {l:List aa} {j:Nat} (h:j<=l.length):(o9 k l j).length=l.length:=by simp[o9,ur];omega
theorem Qx {k:Int} {l:List aa} {j:Nat} (h:j<l.length):((o9 k l j).map ab)[j]? =some [.int .i64 l[j].aQ.eS,.int .i64 l[j].aQ.eM,.int .i64 l[j].bK]:=by
 rw[List.getElem?_map,o9,List.getElem?_append_right (by rw[ur];omega),ur,Nat.sub_self,List.getElem?_drop,Nat.add_zero,List.getElem?_eq_getElem h];rfl
theorem Nx {k:Int} {l:List aa} {j:Nat} (h:j<l.length):((o9 k l j).map ab).set j [.int .i64 (k+3*(j:Int)),.int .i64 (k+3*(j:Int)+1),.int .i64 (k+3*(j:Int)+2)]=(o9 k l (j+1)).map ab:=by
 have:(o9 k l j).set j ⟨⟨k+3*(j:Int),k+3*(j:Int)+1⟩,k+3*(j:Int)+2⟩=o9 k l (j+1):=by
  rw[o9,List.set_append_right _ _ (by rw[ur];omega),ur,Nat.sub_self,List.drop_eq_getElem_cons h,List.set_cons_zero,o9,Nv,List.append_assoc];rfl
 rw[<-this,List.map_set];rfl
theorem CE (i:Id) (l:List aa) (k:Int) (h0:0<=k) (h1:k+3*l.length<=4611686018427387904) (σ:aw) (hv:i.bG<σ.next) (hg:σ.get i=some ⟨true,3,l.map ab⟩):
  Call Tryz.prog 186 [.own i 0 l.length,.int .i64 k] σ (fun r σ'=>r=.int .i64 (k+3*l.length)/\tq σ [i] σ'.get σ'.next/\σ'.get i=some ⟨true,3,(Qv k l.length).map ab⟩):=by
 refine eB eI rfl fun hl=>?_
 clear hl
 have hz:o9 k l 0=l:=by simp[o9,Qv]
 (try((repeat(revert N;apply Pn.out));refine wk @Nat.zero_add ?_;(repeat(apply Pn.mk;intro N hN))))
 refine bf (fun n env st=>∃j:Nat,n=(l.length)-j/\j<=(l.length)/\env 5=.int .i64 (j:Int)/\env 1=.int .i64 (k+3*j)/\st.get i=some ⟨true,3,(o9 k l j).map ab⟩/\(tq σ [i] st.get st.next)) (l.length) ⟨0,ah,ah,sl (tw @Int.add_zero (tw @Int.natCast_zero (tw @Int.mul_zero (tw @hz @hg)))),sl (tw @Int.add_zero (tw @Int.natCast_zero (tw @Int.mul_zero (tw @hz @hg)))),sl (tw @Int.add_zero (tw @Int.natCast_zero (tw @Int.mul_zero (tw @hz @hg)))),by(try dsimp only);exact⟨bc,fun x _ _=>rfl⟩⟩ ?_
 rintro n_a env_a st_a ⟨j,rfl,ale,a5,a1,ag0,kz⟩ dX
 have a0:=dX 0 (by kernel_rfl)
 simp only[go_sem, ↓reduceIte,Nat.reduceEqDiff,Nat.reduceAdd,Nat.reduceSub,Nat.reduceLeDiff,reduceCtorEq,Int.add_zero,Int.natCast_zero,Int.mul_zero,hz,hg]at a0
 clear dX
 obtain⟨an,aF⟩:=kz
 by_cases hj:(j:Int)<(l.length:Int)
 ·have cV:∀{e:Env} {gg:Rows} {nx:Nat},(e 5=.int .i64 (IntKind.i64.wrap ((j:Int)+1)))->(e 1=.int .i64 (k+3*(j+1)))->(gg i=some ⟨true,3,(o9 k l (j+1)).map ab⟩)->(tq σ [i] gg nx)->∃m0,m0<(l.length)-j/\∃j:Nat,m0=(l.length)-j/\j<=(l.length)/\e 5=.int .i64 (j:Int)/\e 1=.int .i64 (k+3*j)/\gg i=some ⟨true,3,(o9 k l j).map ab⟩/\(tq σ [i] gg nx):=fun x1 x2 x3 x4=>⟨_,ah,j+1,rfl,ah,(by rw[x1,aE ah]),x2,x3,x4⟩
  have iN:j<l.length:=ah
  have fE:=Qx (k:=k) iN
  have ew:=Nx (k:=k) iN
  have nv:IntKind.i64.wrap (k+3*(j:Int)+1)=k+3*(j:Int)+1:=cq ah
  have mO:IntKind.i64.wrap (k+3*(j:Int)+1+1)=k+3*(j:Int)+2:=by rw[cq ah];omega
  have Xw:IntKind.i64.wrap (k+3*(j:Int)+2+1)=k+3*((j:Int)+1):=by rw[cq ah];omega
  have hlen:((o9 k l j).map ab).length=l.length:=by rw[List.length_map,Nw ah]
  have JW:∀c:List AV,(((o9 k l j).map ab).set j c)[j]? =some c:=fun c=>by rw[List.getElem?_set_self (by rw[hlen];exact iN)]
  (try((repeat(revert N;apply Pn.out));refine wk (tw @a5 (tw @a1 (tw @ag0 (tw @a0 (tw @hj (tw @fE (tw @JW (tw @ew (tw @nv (tw @mO (tw @Xw (tw @hlen @uI)))))))))))) ?_;(repeat(apply Pn.mk;intro N hN))))
  refine cV ?_ ?_ ?_ (by(try dsimp only);exact⟨bc,fun x hx hi=>by
   have h2:=aF x hx hi
   have h3:(x=i)=False:=eq_false fun e=>hi (by simp[e])
   simp only[go_sem, ↓reduceIte,Nat.reduceEqDiff,Nat.reduceAdd,Nat.reduceSub,Nat.reduceLeDiff,reduceCtorEq,h2,h3]⟩)
  all_goals simp only[go_sem, ↓reduceIte,Nat.reduceEqDiff,Nat.reduceAdd,Nat.reduceSub,Nat.reduceLeDiff,reduceCtorEq,a5,a1,ag0,a0,Xw,ew]
 ·have iN:j=l.length:=ah
  subst iN
  (try((repeat(revert N;apply Pn.out));refine wk (tw @a5 (tw @a1 (tw @ag0 (tw @a0 @hj)))) ?_;(repeat(apply Pn.mk;intro N hN))))
  have kJ:o9 k l l.length=Qv k l.length:=by simp[o9]
  rw[kJ]at ag0
  exact er (.inl rfl) (vs:=[.int .i64 (k+3*l.length)]) (sd (tw @a5 (tw @a1 (tw @ag0 @a0)))) ⟨rfl,⟨bc,fun x hx hi=>aF x hx hi⟩,ag0⟩
theorem E0 (i:Id) (l:List gn) (k:Int) (h0:0<=k) (h1:k+2*l.length<=4611686018427387904) (σ:aw) (hv:i.bG<σ.next) (hg:σ.get i=some ⟨true,2,l.map cU⟩):
  Call Tryz.prog 184 [.own i 0 l.length,.int .i64 k] σ (fun r σ'=>r=.int .i64 (k+2*l.length)/\tq σ [i] σ'.get σ'.next):=by
 refine eB eI rfl fun hl=>?_
 clear hl
 obtain⟨nn,hn⟩:∃nn,l.length=nn:=⟨_,rfl⟩
 rw[hn]at h1 ⊢
 (try((repeat(revert N;apply Pn.out));refine wk @Nat.zero_add ?_;(repeat(apply Pn.mk;intro N hN))))
 refine bf (fun n env st=>∃j:Nat,n=(nn)-j/\j<=(nn)/\env 5=.int .i64 (j:Int)/\env 1=.int .i64 (k+2*j)/\(tq σ [i] st.get st.next/\∃l':List gn,l'.length=nn/\st.get i=some ⟨true,2,l'.map cU⟩)) (nn) ⟨0,ah,ah,sl (tw @Int.add_zero (tw @Int.natCast_zero @Int.mul_zero)),sl (tw @Int.add_zero (tw @Int.natCast_zero @Int.mul_zero)),by(try dsimp only);exact⟨⟨bc,fun x _ _=>rfl⟩,l,hn,hg⟩⟩ ?_
 rintro n_a env_a st_a ⟨j,rfl,ale,a5,a1,kz⟩ dX
 have a0:=dX 0 (by kernel_rfl)
 simp only[go_sem, ↓reduceIte,Nat.reduceEqDiff,Nat.reduceAdd,Nat.reduceSub,Nat.reduceLeDiff,reduceCtorEq,Int.add_zero,Int.natCast_zero,Int.mul_zero]at a0
 clear dX
 obtain⟨⟨an,aF⟩,l',al,ag⟩:=kz
 by_cases hj:(j:Int)<(nn:Int)
 ·have cV:∀{e:Env} {gg:Rows} {nx:Nat},(e 5=.int .i64 (IntKind.i64.wrap ((j:Int)+1)))->(e 1=.int .i64 (k+2*(j+1)))->(tq σ [i] gg nx/\∃l':List gn,l'.length=nn/\gg i=some ⟨true,2,l'.map cU⟩)->∃m0,m0<(nn)-j/\∃j:Nat,m0=(nn)-j/\j<=(nn)/\e 5=.int .i64 (j:Int)/\e 1=.int .i64 (k+2*j)/\(tq σ [i] gg nx/\∃l':List gn,l'.length=nn/\gg i=some ⟨true,2,l'.map cU⟩):=fun x1 x2 x3=>⟨_,ah,j+1,rfl,ah,(by rw[x1,aE ah]),x2,x3⟩
  have iN:j<l'.length:=ah
  have fE:(l'.map cU)[j]? =some [.str l'[j].aZ,.int .i64 l'[j].eR]:=by simp[iN,cU]
  have hlen:(l'.map cU).length=nn:=by rw[List.length_map,al]
  have JW:∀c:List AV,((l'.map cU).set j c)[j]? =some c:=fun c=>by rw[List.getElem?_set_self (by rw[List.length_map];exact iN)]
  have ht:=zf (k+2*(j:Int)) ah ah
  have nv:IntKind.i64.wrap (k+2*(j:Int)+1)=k+2*(j:Int)+1:=cq ah
  have mO:IntKind.i64.wrap (k+2*(j:Int)+1+1)=k+2*((j:Int)+1):=by rw[cq ah];omega
  generalize qy (k+2*(j:Int))=mt at ht
  have ew:(l'.map cU).set j [.str mt,.int .i64 (k+2*(j:Int)+1)]=(l'.set j ⟨mt,k+2*(j:Int)+1⟩).map cU:=by rw[List.map_set];rfl
  (have zF:=tw @a5 (tw @a1 (tw @a0 (tw @hj (tw @ag (tw @fE (tw @JW (tw @ew (tw @nv (tw @mO (tw @hlen @uI))))))))));(repeat(first|((repeat(revert N;apply Pn.out));refine wk zF ?_;(repeat(apply Pn.mk;intro N hN)))|((try apply Or.inl);refine⟨_,au.x (ht) (sd zF),?_⟩;apply hN;clear hN N)));try clear zF)
  refine cV ?_ ?_ (by(try dsimp only);exact⟨⟨bc,fun x hx hi=>by
   have h2:=aF x hx hi
   have h3:(x=i)=False:=eq_false fun e=>hi (by simp[e])
   simp only[go_sem, ↓reduceIte,Nat.reduceEqDiff,Nat.reduceAdd,Nat.reduceSub,Nat.reduceLeDiff,reduceCtorEq,h2,h3]⟩,l'.set j ⟨mt,k+2*(j:Int)+1⟩,by simp[al],sl @Nat.zero_add⟩)
  all_goals simp only[go_sem, ↓reduceIte,Nat.reduceEqDiff,Nat.reduceAdd,Nat.reduceSub,Nat.reduceLeDiff,reduceCtorEq,a5,a1,a0,mO,ew]
 ·have iN:j=nn:=ah
  subst iN
  (try((repeat(revert N;apply Pn.out));refine wk (tw @a5 (tw @a1 (tw @a0 @hj))) ?_;(repeat(apply Pn.mk;intro N hN))))
  exact er (.inl rfl) (vs:=[.int .i64 (k+2*j)]) (sd (tw @a5 (tw @a1 @a0))) ⟨rfl,⟨bc,fun x hx hi=>aF x hx hi⟩⟩
theorem jf.flat {α:Type} {e:α->List AV} {z:Nat} {g:Rows} {a:AV} {xs:List α} {ids:List Id} (h:jf (nh e) z g a xs ids):∃o,a=.own o 0 xs.length/\g o=some ⟨true,z,xs.map e⟩/\ids=[o]:=by
 obtain⟨o,rows,is,h1,h2,h3,rfl⟩:=h
 have:∀{rows:List (List AV)} {xs:List α} {is:List Id},eV (nh e) g rows xs is->rows=xs.map e/\is=[]:=fun h=>by
  induction h with
  |nil=>exact⟨rfl,rfl⟩
  |cons h1 _ ih=>obtain⟨rfl,rfl⟩:=h1;obtain⟨rfl,rfl⟩:=ih;exact⟨rfl,rfl⟩
 obtain⟨rfl,rfl⟩:=this h3
 exact⟨o,h1,h2,rfl⟩
def ig (t:ft):Nat:=1+t.cz.length
theorem E4 (a:AV) (l:List ft) (ids:List Id) (k:Int) (h0:0<=k) (ub:l.length<=1048576) (h1:k+(l.map ig).sum<=4611686018427387904) (σ:aw) (hv:∀i∈ids,i.bG<σ.next) (mV:ids.Nodup) (hg:jf qb 2 σ.get a l ids):
  Call Tryz.prog 185 [a,.int .i64 k] σ (fun r σ'=>r=.int .i64 (k+(l.map ig).sum)/\tq σ ids σ'.get σ'.next):=by
 obtain⟨o,rows,is,rfl,ho,hR,rfl⟩:=hg
 refine eB eI rfl fun hl=>?_
 clear hl
 have uc:=hv o (by simp)
 have FY:=oG ig l
 (try((repeat(revert N;apply Pn.out));refine wk @Nat.zero_add ?_;(repeat(apply Pn.mk;intro N hN))))
 refine bf (fun n env st=>∃j:Nat,n=(l.length)-j/\j<=(l.length)/\env 5=.int .i64 (j:Int)/\env 1=.int .i64 (k+jo ig l j)/\(tq σ (o::is) st.get st.next/\∃pre rest ir,st.get o=some ⟨true,2,pre++rest⟩/\pre.length=j/\eV qb st.get rest (l.drop j) ir/\(o::ir).Nodup/\∀i∈ir,i∈is)) (l.length) ⟨0,ah,ah,sl (tw @Int.add_zero (tw @Int.natCast_zero @FY)),sl (tw @Int.add_zero (tw @Int.natCast_zero @FY)),by(try dsimp only);exact⟨⟨bc,fun x _ _=>rfl⟩,[],rows,is,ho,rfl,hR,mV,fun _ h=>h⟩⟩ ?_
 rintro n_a env_a st_a ⟨j,rfl,ale,a5,a1,kz⟩ dX
 have a0:=dX 0 (by kernel_rfl)
 simp only[go_sem, ↓reduceIte,Nat.reduceEqDiff,Nat.reduceAdd,Nat.reduceSub,Nat.reduceLeDiff,reduceCtorEq,Int.add_zero,Int.natCast_zero,FY]at a0
 clear dX
 obtain⟨⟨an,aF⟩,pre,rest,ir,ag,apl,aR,aN,aS⟩:=kz
 by_cases hj:(j:Int)<(l.length:Int)
 ·have cV:∀{e:Env} {gg:Rows} {nx:Nat},(e 5=.int .i64 (IntKind.i64.wrap ((j:Int)+1)))->(e 1=.int .i64 (k+jo ig l (j+1)))->(tq σ (o::is) gg nx/\∃pre rest ir,gg o=some ⟨true,2,pre++rest⟩/\pre.length=(j+1)/\eV qb gg rest (l.drop (j+1)) ir/\(o::ir).Nodup/\∀i∈ir,i∈is)->∃m0,m0<(l.length)-j/\∃j:Nat,m0=(l.length)-j/\j<=(l.length)/\e 5=.int .i64 (j:Int)/\e 1=.int .i64 (k+jo ig l j)/\(tq σ (o::is) gg nx/\∃pre rest ir,gg o=some ⟨true,2,pre++rest⟩/\pre.length=j/\eV qb gg rest (l.drop j) ir/\(o::ir).Nodup/\∀i∈ir,i∈is):=fun x1 x2 x3=>⟨_,ah,j+1,rfl,ah,(by rw[x1,aE ah]),x2,x3⟩
  have iN:j<l.length:=ah
  have Ua:=zQ ig iN
  have hle:=sg ig l (j+1)
  obtain⟨t,htj⟩:∃t,l[j]=t:=⟨_,rfl⟩
  rw[List.drop_eq_getElem_cons iN,htj]at aR
  rw[htj]at Ua
  cases aR with
  | @cons cs _ ic rs _ i2 hT WI=>
  obtain⟨i,rfl,hi,rfl⟩:=hT
  rw[List.singleton_append]at aN aS
  obtain⟨n1,n2⟩:=List.nodup_cons.1 aN
  obtain⟨n3,n4⟩:=List.nodup_cons.1 n2
  have VK:(o=i)=False:=eq_false fun e=>n1 (by simp[e])
  have VE:(i=o)=False:=eq_false fun e=>n1 (by simp[e])
  have hiv:i.bG<σ.next:=hv i (by simp[aS i (by simp)])
  have Xe:ig t=1+t.cz.length:=rfl
  have ht:=zf (k+(jo ig l j:Nat)) ah ah
  have nv:IntKind.i64.wrap (k+(jo ig l j:Nat)+1)=k+(jo ig l j:Nat)+1:=cq ah
  generalize qy (k+(jo ig l j:Nat))=mt at ht
  have fE:(pre++[.str t.aZ,.own i 0 t.cz.length]::rs)[j]? =some [.str t.aZ,.own i 0 t.cz.length]:=by subst apl;simp
  have ew:(pre++[.str t.aZ,.own i 0 t.cz.length]::rs).set j [.str mt,.own i 0 t.cz.length]=pre++[.str mt,.own i 0 t.cz.length]::rs:=by subst apl;simp
  have RJ:(pre++[.str mt,.own i 0 t.cz.length]::rs)[j]? =some [.str mt,.own i 0 t.cz.length]:=by subst apl;simp
  (have zF:=tw @a5 (tw @a1 (tw @a0 (tw @hj (tw @ag (tw @fE (tw @ew (tw @RJ (tw @nv (tw @VK (tw @VE @hi))))))))));(repeat(first|((repeat(revert N;apply Pn.out));refine wk zF ?_;(repeat(apply Pn.mk;intro N hN)))|((try apply Or.inl);refine⟨_,au.x (ht) (sd zF),?_⟩;apply hN;clear hN N)));try clear zF)
  refine .inr (az _ _ _ _ _ (fun r σ1 hq=>?_) (Ha i t.cz (k+(jo ig l j:Nat)+1) ah ah _ bc (sd (tw @VK (tw @VE @hi)))))
  obtain⟨g1,x1⟩:=σ1
  obtain⟨rfl,z8,vK⟩:=hq
  (try dsimp only at z8 vK)
  apply hN
  clear hN N
  have hkk:k+(jo ig l j:Nat)+1+t.cz.length=k+(jo ig l (j+1):Nat):=ah
  (try((repeat(revert N;apply Pn.out));refine wk (tw @a5 (tw @a1 (tw @a0 @hkk))) ?_;(repeat(apply Pn.mk;intro N hN))))
  have gk:∀x:Id,x.bG<σ.next->x≠o->x≠i->g1 x=st_a.get x:=fun x hx h3 h4=>by
   have h2:=vK x bc (by simp[h4])
   have h5:=eq_false h3
   simp only[go_sem, ↓reduceIte,Nat.reduceEqDiff,Nat.reduceAdd,Nat.reduceSub,Nat.reduceLeDiff,reduceCtorEq,h5]at h2
   exact h2
  have go:=vK o bc (by simp only[List.mem_singleton];exact fun e=>n1 (by simp[e]))
  simp only[go_sem, ↓reduceIte,Nat.reduceEqDiff,Nat.reduceAdd,Nat.reduceSub,Nat.reduceLeDiff,reduceCtorEq]at go
  refine cV ?_ ?_ (by(try dsimp only);exact⟨⟨bc,fun x hx hi=>by
   have h3:x≠o:=fun e=>hi (by simp[e])
   have h4:x≠i:=fun e=>hi (by simp[e,aS i (by simp)])
   rw[gk x hx h3 h4]
   exact aF x hx hi⟩,pre++[[.str mt,.own i 0 t.cz.length]],rs,i2,by rw[go];simp,by simp[apl],WI.frame td (fun x hx=>gk x (hv x (by simp[aS x (by simp[hx])])) (fun e=>n1 (by simp[<-e,hx])) (fun e=>n3 (by rw[<-e];exact hx))),List.nodup_cons.2 ⟨fun h=>n1 (by simp[h]),n4⟩,fun x hx=>aS x (by simp[hx])⟩)
  all_goals simp only[go_sem, ↓reduceIte,Nat.reduceEqDiff,Nat.reduceAdd,Nat.reduceSub,Nat.reduceLeDiff,reduceCtorEq,a5,a1,a0,hkk]
 ·have iN:j=l.length:=ah
  subst iN
  have ep:=Fz ig l
  rw[ep]at a1
  (try((repeat(revert N;apply Pn.out));refine wk (tw @a5 (tw @a1 (tw @a0 @hj))) ?_;(repeat(apply Pn.mk;intro N hN))))
  exact er (.inl rfl) (vs:=[.int .i64 (k+(l.map ig).sum)]) (sd (tw @a5 (tw @a1 @a0))) ⟨rfl,⟨bc,fun x hx hi=>aF x hx hi⟩⟩
theorem Ko (v:AV) (p:iS) (ids:List Id) (k:Int) (h0:0<=k) (h1:k+3*p.aj.length<=4611686018427387904) (σ:aw) (hv:∀i∈ids,i.bG<σ.next) (hg:V2 σ.get v p ids):
  Call Tryz.prog 116 [v,.int .i64 k] σ (fun r σ'=>r=.int .i64 (k+3*p.aj.length)/\tq σ ids σ'.get σ'.next):=by
 obtain⟨c,rfl,hc⟩:=hg
 obtain⟨o,rfl,ho,rfl⟩:=hc.flat
 refine eB eI rfl fun hl=>?_
 clear hl
 have uc:=db (hv o (by simp))
 have PV:=hv o (by simp)
 (try((repeat(revert N;apply Pn.out));refine wk @Nat.zero_add ?_;(repeat(apply Pn.mk;intro N hN))))
 refine .inr (az _ _ _ _ _ (fun r σ1 hq=>?_) (CE o p.aj k h0 h1 _ bc (sd (tw @uc @ho))))
 obtain⟨g1,x1⟩:=σ1
 obtain⟨rfl,⟨z8,vK⟩,_⟩:=hq
 (try dsimp only at z8 vK)
 apply hN
 clear hN N
 (try((repeat(revert N;apply Pn.out));refine wk @Nat.zero_add ?_;(repeat(apply Pn.mk;intro N hN))))
 exact er (.inl rfl) (vs:=[.int .i64 (k+3*p.aj.length)]) (sd @Nat.zero_add) ⟨rfl,⟨bc,fun x hx hi=>by
  have h2:=vK x bc hi
  have h3:=db hx
  simp only[go_sem, ↓reduceIte,Nat.reduceEqDiff,Nat.reduceAdd,Nat.reduceSub,Nat.reduceLeDiff,reduceCtorEq,h3]at h2
  exact h2⟩⟩
def EY (s:ax):Nat:=2*s.aD.aI.length+(s.aD.aj.map ig).sum+3*s.bH.aj.length
theorem Kr (a b:AV) (p:ay) (i1 i2:List Id) (k:Int) (h0:0<=k) (ub:p.aj.length<=1048576) (h1:k+2*p.aI.length+(p.aj.map ig).sum<=4611686018427387904) (σ:aw) (hv:∀i∈i1++i2,i.bG<σ.next) (mV:(i1++i2).Nodup)
  (hA:jf (nh cU) 2 σ.get a p.aI i1) (hB:jf qb 2 σ.get b p.aj i2):
  Call Tryz.prog 115 [.agg [a,b],.int .i64 k] σ (fun r σ'=>r=.int .i64 (k+2*p.aI.length+(p.aj.map ig).sum)/\tq σ (i1++i2) σ'.get σ'.next):=by
 obtain⟨_,n2,n3⟩:=List.nodup_append.1 mV
 obtain⟨o,rfl,ho,rfl⟩:=hA.flat
 obtain⟨ob,rfl⟩:=hB.nL
 refine eB eI rfl fun hl=>?_
 clear hl
 have PV:=hv o (by simp)
 have uc:=db PV
 (try((repeat(revert N;apply Pn.out));refine wk @Nat.zero_add ?_;(repeat(apply Pn.mk;intro N hN))))
 refine .inr (az _ _ _ _ _ (fun r σ1 hq=>?_) (E0 o p.aI k h0 ah _ bc (sd (tw @uc @ho))))
 obtain⟨g1,x1⟩:=σ1
 obtain⟨rfl,z8,vK⟩:=hq
 (try dsimp only at z8 vK)
 apply hN
 clear hN N
 have k1:=vK ⟨115000000,σ.next⟩ bc (by simp only[List.mem_singleton];intro e;rw[<-e]at PV;(try dsimp only at PV);omega)
 simp only[go_sem, ↓reduceIte,Nat.reduceEqDiff,Nat.reduceAdd,Nat.reduceSub,Nat.reduceLeDiff,reduceCtorEq]at k1
 (try((repeat(revert N;apply Pn.out));refine wk @k1 ?_;(repeat(apply Pn.mk;intro N hN))))
 have hf:∀x:Id,x.bG<σ.next->x≠o->g1 x=σ.get x:=fun x hx ho=>by
  have h2:=vK x bc (by simp[ho])
  have h3:=db hx
  simp only[go_sem, ↓reduceIte,Nat.reduceEqDiff,Nat.reduceAdd,Nat.reduceSub,Nat.reduceLeDiff,reduceCtorEq,h3]at h2
  exact h2
 refine .inr (az _ _ _ _ _ (fun r σ2 hq=>?_) (E4 _ p.aj i2 (k+2*p.aI.length) ah ub h1 _ (fun i hi=>by have:=hv i (by simp[hi]);(try dsimp only);omega) n2 (hB.frame td fun i hi=>hf i (hv i (by simp[hi])) fun e=>n3 o (by simp) i hi e.symm)))
 obtain⟨g2,x2⟩:=σ2
 obtain⟨rfl,MZ,Aa⟩:=hq
 (try dsimp only at MZ Aa)
 apply hN
 clear hN N
 (try((repeat(revert N;apply Pn.out));refine wk @Nat.zero_add ?_;(repeat(apply Pn.mk;intro N hN))))
 exact er (.inl rfl) (vs:=[.int .i64 (k+2*p.aI.length+(p.aj.map ig).sum)]) (sd @Nat.zero_add) ⟨rfl,⟨bc,fun x hx hi=>(Aa x bc fun h=>hi (by simp[h])).trans (hf x hx fun e=>hi (by simp[e]))⟩⟩
theorem Ks (v:AV) (p:ax) (ids:List Id) (k:Int) (h0:0<=k) (ub:p.aD.aj.length<=1048576) (h1:k+EY p<=4611686018427387904) (σ:aw) (hv:∀i∈ids,i.bG<σ.next) (mV:ids.Nodup) (hg:Dw σ.get v p ids):
  Call Tryz.prog 47 [v,.int .i64 k] σ (fun r σ'=>r=.int .i64 (k+EY p)/\tq σ ids σ'.get σ'.next):=by
 obtain⟨a,b,c,i1,i2,i3,rfl,hA,hB,hC,rfl⟩:=hg.ex
 rw[<-List.append_assoc]at mV
 obtain⟨n1,_,n3⟩:=List.nodup_append.1 mV
 obtain⟨oa,rfl⟩:=hA.nL
 obtain⟨ob,rfl⟩:=hB.nL
 obtain⟨oc,rfl⟩:=hC.nL
 have hm:(EY p:Int)=2*p.aD.aI.length+(p.aD.aj.map ig).sum+3*p.bH.aj.length:=by simp[EY]
 refine eB eI rfl fun hl=>?_
 clear hl
 have ZO:∀x∈i1++(i2++i3),bJ σ.get ⟨47000000,σ.next⟩ ⟨true,4,[[.own oa 0 p.aD.aI.length,.own ob 0 p.aD.aj.length,.own oc 0 p.bH.aj.length,.int .i64 p.aA]]⟩ x=σ.get x:=fun x hx=>by
  have:=db (hv x hx)
  simp only[go_sem, ↓reduceIte,Nat.reduceEqDiff,Nat.reduceAdd,Nat.reduceSub,Nat.reduceLeDiff,reduceCtorEq,this]
 (try((repeat(revert N;apply Pn.out));refine wk @Nat.zero_add ?_;(repeat(apply Pn.mk;intro N hN))))
 refine .inr (az _ _ _ _ _ (fun r σ1 hq=>?_) (Kr _ _ p.aD i1 i2 k h0 ub ah _ (fun i hi=>by have:=hv i (by rcases List.mem_append.1 hi with h|h<;>simp[h]);(try dsimp only);omega) n1 (hA.frame D6 fun i hi=>ZO i (by simp[hi])) (hB.frame td fun i hi=>ZO i (by simp[hi]))))
 obtain⟨g1,x1⟩:=σ1
 obtain⟨rfl,z8,vK⟩:=hq
 (try dsimp only at z8 vK)
 apply hN
 clear hN N
 have k1:=vK ⟨47000000,σ.next⟩ bc (fun h=>by
  have:=hv ⟨47000000,σ.next⟩ (by rcases List.mem_append.1 h with h|h<;>simp[h])
  (try dsimp only at this);omega)
 simp only[go_sem, ↓reduceIte,Nat.reduceEqDiff,Nat.reduceAdd,Nat.reduceSub,Nat.reduceLeDiff,reduceCtorEq]at k1
 (try((repeat(revert N;apply Pn.out));refine wk @k1 ?_;(repeat(apply Pn.mk;intro N hN))))
 refine .inr (az _ _ _ _ _ (fun r σ2 hq=>?_) (Ko _ p.bH i3 (k+2*p.aD.aI.length+(p.aD.aj.map ig).sum) ah ah _ (fun i hi=>by have:=hv i (by simp[hi]);(try dsimp only);omega) ⟨_,rfl,hC.frame D7 fun i hi=>?_⟩))
 rotate_left
 ·exact(vK i (by have:=hv i (by simp[hi]);(try dsimp only);omega) fun h=>n3 i h i hi rfl).trans (ZO i (by simp[hi]))
 obtain⟨g2,x2⟩:=σ2
 obtain⟨rfl,MZ,Aa⟩:=hq
 (try dsimp only at MZ Aa)
 apply hN
 clear hN N
 (try((repeat(revert N;apply Pn.out));refine wk @Nat.zero_add ?_;(repeat(apply Pn.mk;intro N hN))))
 exact er (.inl rfl) (vs:=[.int .i64 (k+2*p.aD.aI.length+(p.aD.aj.map ig).sum+3*p.bH.aj.length)]) (sd @Nat.zero_add) ⟨by rw[hm];exact congrArg (AV.int .i64) ah,⟨bc,fun x hx hi=>by
  have h2:=Aa x bc fun h=>hi (by simp[h])
  have h3:=vK x bc fun h=>hi (by rcases List.mem_append.1 h with h|h<;>simp[h])
  have h4:=db hx
  simp only[go_sem, ↓reduceIte,Nat.reduceEqDiff,Nat.reduceAdd,Nat.reduceSub,Nat.reduceLeDiff,reduceCtorEq,h4]at h3
  exact h2.trans h3⟩⟩
end Go.Proofs.YtainmfbpilopaaaGreatDoor.V

namespace Go.Proofs.YtainmfbpilopaaaGreatDoor.V
open Go.RowKit
attribute [local irreducible] dW wpOps fu Call
attribute [local go_sem] aJ fc eA fq fo dh upd bW K.av cC AV.cells AV.cell rowOf rowsOf part ld rowAt fR bJ bV dn dE fU bx cQ dO fj eK di dI cN cL dy dz bD aU cF bB cH cG dG dJ dH cE bF cP dF bz aH cJ cm fS bj cw bE aT da aX dp AV.undef br bt dC dD dt dw cr dM dP cj dL dK cI cK List.getD_cons_zero List.getD_cons_succ List.getD_nil List.all_cons List.all_nil Bool.and_true Bool.true_and Bool.and_self Bool.not_true Bool.not_false Option.map_some Option.map_none Option.bind_some Option.bind_none List.length_cons List.length_nil List.take_succ_cons List.take_zero List.take_nil List.drop_succ_cons List.drop_zero List.drop_nil List.head?_cons List.map_cons List.map_nil List.getElem?_cons_zero List.getElem?_cons_succ List.cons_append List.nil_append List.append_nil List.length_map List.set_cons_zero List.set_cons_succ eq_self Int.toNat_natCast Int.natCast_nonneg and_self true_and and_true decide_true decide_false Bool.false_eq_true Nat.zero_add Nat.add_zero List.contains_cons List.contains_nil Bool.or_false Bool.false_or beq_self_eq_true ne_eq not_true_eq_false not_false_eq_true Id.mk.injEq false_and and_false Nat.le_refl List.length_append beq_true beq_false Bool.not_eq_eq_eq_not or_false false_or ea ai ar aB aW bq bP aO aY aP aV cD bp
section
variable {P:Program} {α:Type} {e:α->List AV} {z:Nat} {g g':Rows} {v:AV} {L:List α} {ids:List Id}
def uZ (e:α->List AV) (z:Nat) (g:Rows) (v:AV) (L:List α) (ids:List Id):Prop:=(L=[]/\v=.bU/\ids=[])∨∃o,v=.own o 0 L.length/\g o=some ⟨true,z,L.map e⟩/\ids=[o]/\0<L.length
def XL (e:α->List AV) (L:List α):AV:=if L.length=0 then .bU else .sl (L.map e)
theorem uZ.frame (h:uZ e z g v L ids) (hf:∀i∈ids,g' i=g i):uZ e z g' v L ids:=by
 rcases h with h|⟨o,h1,h2,rfl,hp⟩
 ·exact .inl h
 ·exact .inr ⟨o,h1,(hf o (by simp)).trans h2,rfl,hp⟩
def p4 (e:α->List AV) (L:List α) (w:AV):Prop:=(w=.bU/\L=[])∨w=.sl (L.map e)
theorem uZ.fz (h:uZ e z g v L ids) (he:∀x g,dx g 5 (e x)=some (e x)):∃w,V.fz (ea g) 6 v=some w/\p4 e L w:=by
 rcases h with⟨rfl,rfl,_⟩|⟨o,rfl,h2,_⟩
 ·exact⟨.bU,aO _ _,.inl ⟨rfl,rfl⟩⟩
 ·exact⟨_,gF (e:=e) (sz:=z) (by simp[ea,h2]) rfl fun x=>he x _,.inr rfl⟩
def Zu (P:Program) (f:Nat) (args:List AV) (e:α->List AV) (z:Nat) (L:List α) (c:Int):Prop:=
 ∀n:Nat,Call P f args ⟨fun _=>none,n⟩ (fun r σ'=>∃v ids,r=.fD [v,.int .i64 c]/\uZ e z σ'.get v L ids/\gp n σ'.next ids)
theorem uY (hm:P.follows .mixedOrders=true) {f:Nat} {args:List AV} {σ:aw} {K:AV->aw->Prop} (h:Call P f args σ K):Call P f args σ (fun r σ'=>K r σ'/\σ.next<=σ'.next):=
 eW fun hs D ι w vs S U A=>(gD hm h hs D ι w vs S U A).mono (by
  rintro e w' ⟨r,g',n',D2,ι1,u,rfl,hK,T,S1,U1,hn,hR⟩
  exact⟨r,g',n',D2,ι1,u,rfl,⟨hK,hn⟩,T,S1,U1,hn,hR⟩)
theorem Fe:p4 e L (XL e L):=by
 unfold XL
 split
 ·rename_i h;exact .inl ⟨rfl,List.eq_nil_of_length_eq_zero h⟩
 ·exact .inr rfl
end
theorem p4.cut {α:Type} {e:α->List AV} {L:List α} {w:AV} (h:p4 e L w) {l l':List AV} (hl:rL l l'):rL (w::l) (.sl (L.map e)::l'):=by
 rcases h with⟨rfl,rfl⟩|rfl
 ·exact .bU hl
 ·exact .same _ hl
end Go.Proofs.YtainmfbpilopaaaGreatDoor.V

namespace Go.Proofs.YtainmfbpilopaaaGreatDoor.V
open Go.RowKit
attribute [local irreducible] dW wpOps fu Call
theorem Ws (g:Rows) (n:Nat) (x:aa):eQ g (n+1) (ab x)=some (ab x):=by simp[ab,cu,cZ,eL]
def Sq (n:Nat) (L:List aa) (r:AV) (σ':aw):Prop:=∃o:Id,r=.agg [.own o 0 L.length]/\σ'.get o=some ⟨true,3,L.map ab⟩/\n<=o.bG/\o.bG<σ'.next
theorem Sq.val {f:Nat} {args args':List AV} {L:List aa} {σ:aw} (h:∀n,Call Tryz.prog f args' ⟨fun _=>none,n⟩ (Sq n L)) (hv:dx (ea σ.get) 6 args=some args'):Call Tryz.prog f args σ (fun r σ'=>Sq σ.next L r σ'/\Kept σ σ'):=by
 refine Dp mixed hv (az _ _ _ _ _ (fun r σ' hq=>?_) (uY mixed (h σ.next)))
 obtain⟨⟨o,rfl,h2,h3,h4⟩,hn⟩:=hq
 refine⟨[o],rfl,fun i hi=>?_,⟨o,rfl,(mJ (by simp)).trans h2,h3,h4⟩,hn,fun j hj=>jM fun hc=>?_⟩
 ·rw[List.mem_singleton.1 hi]
  exact⟨_,h2,rfl,fun cs dY a ha=>by
   obtain⟨x,_,rfl⟩:=List.mem_map.1 dY
   simp[ab]at ha
   rcases ha with rfl|rfl|rfl<;>rfl⟩
 ·rw[List.mem_singleton.1 hc]at hj;omega
theorem Ng (l:List aa) (hl:l.length<=1048576) (n0:Nat):Call Tryz.prog 141 [.dQ [.sl (l.map ab)]] ⟨fun _=>none,n0⟩ (Sq n0 l):=by
 refine eB eI rfl fun iD=>?_
 clear iD
 have ub:(l.map ab).length<=16777216:=by simp;omega
 have ep:(l.map ab).all (fun c=>c.length==3&&c.all AV.cell)=true:=all_map fun x=>⟨rfl,rfl⟩
 have Iy:(l.map ab).length=l.length:=by simp
 generalize kG:l.map ab=rows at ub ep Iy
 (try((repeat(revert N;apply Pn.out));refine wk (tw @ub @ep) ?_;(repeat(apply Pn.mk;intro N hN))))
 exact er (.inl rfl) (vs:=[.agg [.own ⟨141001005,n0+1⟩ 0 rows.length]]) (sd @Nat.zero_add) ⟨⟨141001005,n0+1⟩,by rw[Iy];rfl,by rw[kG];simp only[go_sem, ↓reduceIte,Nat.reduceEqDiff,Nat.reduceAdd,Nat.reduceSub,Nat.reduceLeDiff,reduceCtorEq],bc,bc⟩
def xC (q:aa) (l:List aa):Bool:=l.any fun x=>jj q.aQ x.aQ
theorem Fk {q:aa}:∀{l:List aa},xC q l=false->iO l q=l++[q]
 |[],_=>rfl
 |x::l,h=>by
  unfold xC at h
  rw[List.any_cons,Bool.or_eq_false_iff]at h
  rw[iO,if_neg (by rw[h.1];simp),Fk h.2];rfl
theorem BE {q y:aa}:∀{l:List aa},xC q l=true->iO (l++[y]) q=iO l q++[y]
 |x::l,h=>by
  unfold xC at h
  rw[List.any_cons]at h
  rw[List.cons_append,iO,iO]
  cases hx:jj q.aQ x.aQ
  ·rw[hx,Bool.false_or]at h
   rw[if_neg (by simp),if_neg (by simp),BE h];rfl
  ·simp
theorem BC {q y:aa}:∀{l:List aa},xC q l=false->jj q.aQ y.aQ=true->iO (l++[y]) q=l++[q]++[y]
 |[],_,hy=>by simp[iO,hy]
 |x::l,h,hy=>by
  unfold xC at h
  rw[List.any_cons,Bool.or_eq_false_iff]at h
  rw[List.cons_append,iO,if_neg (by rw[h.1];simp),BC h.2 hy];rfl
def jJ (q:aa) (l:List aa):List aa:=if xC q l=true then iO l q else l
theorem yL (q:aa) (l:List aa) (y:aa):xC q (l++[y])=(xC q l||jj q.aQ y.aQ):=by simp[xC]
theorem KD (q:aa) (l:List aa):(jJ q l).length<=l.length+1:=by
 unfold jJ
 split
 ·rw[oz];omega
 ·omega
theorem NM {q y:aa} {l:List aa} (h:xC q l=true∨jj q.aQ y.aQ=false):jJ q (l++[y])=jJ q l++[y]:=by
 unfold jJ
 rw[yL]
 cases hd:xC q l
 ·rw[hd]at h
  have h2:jj q.aQ y.aQ=false:=by rcases h with h|h;cases h;exact h
  simp[h2]
 ·simp[BE hd]
theorem NL {q y:aa} {l:List aa} (h:xC q l=false) (hy:jj q.aQ y.aQ=true):jJ q (l++[y])=jJ q l++[q]++[y]:=by
 unfold jJ
 rw[yL,h,hy]
 simp[BC h hy]
def Zs (m:Nat) (L:List aa) (v:AV) (g:Rows) (n:Nat):Prop:=(L=[]/\v=.bU)∨∃o:Id,v=.own o 0 L.length/\g o=some ⟨true,3,L.map ab⟩/\m<=o.bG/\o.bG<n
theorem qO {l:List aa} {k:Nat} (hk:k<l.length):l.take (k+1)=l.take k++[bd l k]:=by rw[List.take_succ_eq_append_getElem hk,fx hk]
theorem EZ (L:List aa) (q:aa):(L++[q]).map ab=L.map ab++[[.int .i64 q.aQ.eS,.int .i64 q.aQ.eM,.int .i64 q.bK]]:=by rw[List.map_append];rfl
theorem uj (L:List aa) (q:aa):(L++[q]).length=L.length+1:=by rw[List.length_append];rfl
theorem Nh (l:List aa) (hl:l.length<=1048576) (p:aq) (t:Int) (n0:Nat):Call Tryz.prog 197 [.dQ [.sl (l.map ab)],.agg (ad p),.int .i64 t] ⟨fun _=>none,n0⟩ (Sq n0 (iO l ⟨p,t⟩)):=by
 refine eB eI rfl fun iD=>?_
 clear iD
 obtain⟨q,hq⟩:∃q:aa,q=⟨p,t⟩:=⟨_,rfl⟩
 (try((repeat(revert N;apply Pn.out));refine wk @ad.eq_1 ?_;(repeat(apply Pn.mk;intro N hN))))
 refine bf (fun n env st=>∃i:Nat,n=(l.length)-i/\i<=(l.length)/\env 9=.int .i64 (i:Int)/\env 8=.bool (xC q (l.take i))/\st.get ⟨197000000,n0⟩=some ⟨true,2,[ad p]⟩/\st.get ⟨197000001,n0⟩=some ⟨true,1,[[.bU]]⟩/\(n0+2<=st.next/\∃v,st.get ⟨197001001,n0+1⟩=some ⟨true,1,[[v]]⟩/\Zs (n0+2) (jJ q (l.take i)) v st.get st.next)) (l.length) ⟨0,ah,ah,sl @ad.eq_1,sl @ad.eq_1,sl @ad.eq_1,sl @ad.eq_1,by(try dsimp only);exact⟨ah,.bU,sd @Nat.zero_add,.inl ⟨rfl,rfl⟩⟩⟩ ?_
 rintro n_a env_a st_a ⟨i,rfl,ale,a9,a8,ag0,ag1,kz⟩ dX
 have a0:=dX 0 (by kernel_rfl);have a2:=dX 2 (by kernel_rfl);have a4:=dX 4 (by kernel_rfl);have a6:=dX 6 (by kernel_rfl);have a7:=dX 7 (by kernel_rfl)
 simp only[go_sem, ↓reduceIte,Nat.reduceEqDiff,Nat.reduceAdd,Nat.reduceSub,Nat.reduceLeDiff,reduceCtorEq,ad]at a0 a2 a4 a6 a7
 clear dX
 obtain⟨an,v,av,aG⟩:=kz
 have vA:=db (i:=⟨197000000,n0⟩) (n:=st_a.next) bc
 have vB:=db (i:=⟨197000001,n0⟩) (n:=st_a.next) bc
 have vC:=db (i:=⟨197001001,n0+1⟩) (n:=st_a.next) bc
 have PT:=KD q (l.take i)
 rw[List.length_take]at PT
 by_cases hi:(i:Int)<(l.length:Int)
 ·have cV:∀{e:Env} {gg:Rows} {nx:Nat},(e 9=.int .i64 (IntKind.i64.wrap ((i:Int)+1)))->(e 8=.bool (xC q (l.take (i+1))))->(gg ⟨197000000,n0⟩=some ⟨true,2,[ad p]⟩)->(gg ⟨197000001,n0⟩=some ⟨true,1,[[.bU]]⟩)->(n0+2<=nx/\∃v,gg ⟨197001001,n0+1⟩=some ⟨true,1,[[v]]⟩/\Zs (n0+2) (jJ q (l.take (i+1))) v gg nx)->∃m0,m0<(l.length)-i/\∃i:Nat,m0=(l.length)-i/\i<=(l.length)/\e 9=.int .i64 (i:Int)/\e 8=.bool (xC q (l.take i))/\gg ⟨197000000,n0⟩=some ⟨true,2,[ad p]⟩/\gg ⟨197000001,n0⟩=some ⟨true,1,[[.bU]]⟩/\(n0+2<=nx/\∃v,gg ⟨197001001,n0+1⟩=some ⟨true,1,[[v]]⟩/\Zs (n0+2) (jJ q (l.take i)) v gg nx):=fun x1 x2 x3 x4 x5=>⟨_,ah,i+1,rfl,ah,(by rw[x1,aE ah]),x2,x3,x4,x5⟩
  have gh:i<l.length:=ah
  have jT:=fV gh
  have eu:=ni p (bd l i).aQ
  have nu:=qO gh
  have hqa:jj q.aQ (bd l i).aQ=jj p (bd l i).aQ:=by rw[hq]
  have gL:(l.map ab).length=l.length:=by simp
  have JT:=yL q (l.take i) (bd l i)
  rw[<-nu,hqa]at JT
  rw[ad,ad]at eu
  by_cases hc:xC q (l.take i)=true∨jj p (bd l i).aQ=false
  ·have mN:=NM (q:=q) (y:=bd l i) (l:=l.take i) (by rw[hqa];exact hc)
   rw[<-nu]at mN
   generalize jJ q (l.take i)=L at aG mN PT
   have rR:=uj L (bd l i)
   have qY:=EZ L (bd l i)
   have nJ:xC q (l.take (i+1))=xC q (l.take i):=by
    rw[JT]
    rcases hc with h|h<;>rw[h]<;>simp
   rcases aG with⟨hL,rfl⟩|⟨o,rfl,ao,Rt,LN⟩
   ·subst hL
    cases hd:xC q (l.take i)
    ·have h2:jj p (bd l i).aQ=false:=by rcases hc with h|h;rw[hd]at h;cases h;exact h
     rw[h2]at eu
     rw[hd]at a8 nJ
     (have zF:=tw @a9 (tw @a8 (tw @ag0 (tw @ag1 (tw @a0 (tw @a2 (tw @a4 (tw @a6 (tw @a7 (tw @hi (tw @jT (tw @vA (tw @vB (tw @vC (tw @av (tw @gL (tw @ad.eq_1 @ab.eq_1))))))))))))))));(repeat(first|((repeat(revert N;apply Pn.out));refine wk zF ?_;(repeat(apply Pn.mk;intro N hN)))|((try apply Or.inl);refine⟨_,au.x (eu) (sd zF),?_⟩;apply hN;clear hN N)));try clear zF)
     refine cV ?_ ?_ ?_ ?_ (by(try dsimp only);exact⟨ah,_,sl @Nat.zero_add,.inr ⟨⟨197009010,st_a.next+1+1⟩,by rw[mN,rR]<;>(simp only[go_sem, ↓reduceIte,Nat.reduceEqDiff,Nat.reduceAdd,Nat.reduceSub,Nat.reduceLeDiff,reduceCtorEq]<;>rfl),by rw[mN,qY]<;>(simp only[go_sem, ↓reduceIte,Nat.reduceEqDiff,Nat.reduceAdd,Nat.reduceSub,Nat.reduceLeDiff,reduceCtorEq]<;>rfl),bc,bc⟩⟩)
     all_goals simp only[go_sem, ↓reduceIte,Nat.reduceEqDiff,Nat.reduceAdd,Nat.reduceSub,Nat.reduceLeDiff,reduceCtorEq,a9,a8,ag0,ag1,a0,a2,a4,a6,a7,nJ,vA,vB,vC,ad]
    ·rw[hd]at a8 nJ
     (try((repeat(revert N;apply Pn.out));refine wk (tw @a9 (tw @a8 (tw @ag0 (tw @ag1 (tw @a0 (tw @a2 (tw @a4 (tw @a6 (tw @a7 (tw @hi (tw @jT (tw @vA (tw @vB (tw @vC (tw @av (tw @gL (tw @ad.eq_1 @ab.eq_1))))))))))))))))) ?_;(repeat(apply Pn.mk;intro N hN))))
     refine cV ?_ ?_ ?_ ?_ (by(try dsimp only);exact⟨ah,_,sl @Nat.zero_add,.inr ⟨⟨197009010,st_a.next+1+1⟩,by rw[mN,rR]<;>(simp only[go_sem, ↓reduceIte,Nat.reduceEqDiff,Nat.reduceAdd,Nat.reduceSub,Nat.reduceLeDiff,reduceCtorEq]<;>rfl),by rw[mN,qY]<;>(simp only[go_sem, ↓reduceIte,Nat.reduceEqDiff,Nat.reduceAdd,Nat.reduceSub,Nat.reduceLeDiff,reduceCtorEq]<;>rfl),bc,bc⟩⟩)
     all_goals simp only[go_sem, ↓reduceIte,Nat.reduceEqDiff,Nat.reduceAdd,Nat.reduceSub,Nat.reduceLeDiff,reduceCtorEq,a9,a8,ag0,ag1,a0,a2,a4,a6,a7,nJ,vA,vB,vC,ad]
   ·have vo:=db LN
    have oA:=de (a:=⟨197000000,n0⟩) (b:=o) bc
    have oB:=de (a:=⟨197000001,n0⟩) (b:=o) bc
    have oC:=de (a:=⟨197001001,n0+1⟩) (b:=o) bc
    have RG:(L.map ab).length=L.length:=by simp
    have yW:L.length<=16777215:=ah
    cases hd:xC q (l.take i)
    ·have h2:jj p (bd l i).aQ=false:=by rcases hc with h|h;rw[hd]at h;cases h;exact h
     rw[h2]at eu
     rw[hd]at a8 nJ
     (have zF:=tw @a9 (tw @a8 (tw @ag0 (tw @ag1 (tw @a0 (tw @a2 (tw @a4 (tw @a6 (tw @a7 (tw @hi (tw @jT (tw @vA (tw @vB (tw @vC (tw @vo (tw @oA (tw @oB (tw @oC (tw @ao (tw @av (tw @gL (tw @RG (tw @yW (tw @ad.eq_1 @ab.eq_1)))))))))))))))))))))));(repeat(first|((repeat(revert N;apply Pn.out));refine wk zF ?_;(repeat(apply Pn.mk;intro N hN)))|((try apply Or.inl);refine⟨_,au.x (eu) (sd zF),?_⟩;apply hN;clear hN N)));try clear zF)
     refine cV ?_ ?_ ?_ ?_ (by(try dsimp only);exact⟨ah,_,sl @Nat.zero_add,.inr ⟨⟨197009010,st_a.next+1+1⟩,by rw[mN,rR]<;>(simp only[go_sem, ↓reduceIte,Nat.reduceEqDiff,Nat.reduceAdd,Nat.reduceSub,Nat.reduceLeDiff,reduceCtorEq]<;>rfl),by rw[mN,qY]<;>(simp only[go_sem, ↓reduceIte,Nat.reduceEqDiff,Nat.reduceAdd,Nat.reduceSub,Nat.reduceLeDiff,reduceCtorEq]<;>rfl),bc,bc⟩⟩)
     all_goals simp only[go_sem, ↓reduceIte,Nat.reduceEqDiff,Nat.reduceAdd,Nat.reduceSub,Nat.reduceLeDiff,reduceCtorEq,a9,a8,ag0,ag1,a0,a2,a4,a6,a7,nJ,vA,vB,vC,oA,oB,oC,ad]
    ·rw[hd]at a8 nJ
     (try((repeat(revert N;apply Pn.out));refine wk (tw @a9 (tw @a8 (tw @ag0 (tw @ag1 (tw @a0 (tw @a2 (tw @a4 (tw @a6 (tw @a7 (tw @hi (tw @jT (tw @vA (tw @vB (tw @vC (tw @vo (tw @oA (tw @oB (tw @oC (tw @ao (tw @av (tw @gL (tw @RG (tw @yW (tw @ad.eq_1 @ab.eq_1)))))))))))))))))))))))) ?_;(repeat(apply Pn.mk;intro N hN))))
     refine cV ?_ ?_ ?_ ?_ (by(try dsimp only);exact⟨ah,_,sl @Nat.zero_add,.inr ⟨⟨197009010,st_a.next+1+1⟩,by rw[mN,rR]<;>(simp only[go_sem, ↓reduceIte,Nat.reduceEqDiff,Nat.reduceAdd,Nat.reduceSub,Nat.reduceLeDiff,reduceCtorEq]<;>rfl),by rw[mN,qY]<;>(simp only[go_sem, ↓reduceIte,Nat.reduceEqDiff,Nat.reduceAdd,Nat.reduceSub,Nat.reduceLeDiff,reduceCtorEq]<;>rfl),bc,bc⟩⟩)
     all_goals simp only[go_sem, ↓reduceIte,Nat.reduceEqDiff,Nat.reduceAdd,Nat.reduceSub,Nat.reduceLeDiff,reduceCtorEq,a9,a8,ag0,ag1,a0,a2,a4,a6,a7,nJ,vA,vB,vC,oA,oB,oC,ad]
  ·have hd:xC q (l.take i)=false:=by
    cases h:xC q (l.take i)
    ·rfl
    ·exact absurd (.inl h) hc
   have h2:jj p (bd l i).aQ=true:=by
    cases h:jj p (bd l i).aQ
    ·exact absurd (.inr h) hc
    ·rfl
   have mN:=NL (q:=q) (y:=bd l i) hd (by rw[hqa];exact h2)
   rw[<-nu]at mN
   have nJ:xC q (l.take (i+1))=true:=by rw[JT,h2];simp
   rw[hd]at a8
   rw[h2]at eu
   have YZ:ab q=[.int .i64 p.eS,.int .i64 p.eM,.int .i64 t]:=by rw[hq];rfl
   generalize jJ q (l.take i)=L at aG mN PT
   have rR:=uj (L++[q]) (bd l i)
   have qY:=EZ (L++[q]) (bd l i)
   have hnl2:=uj L q
   have hnm2:(L++[q]).map ab=L.map ab++[[.int .i64 p.eS,.int .i64 p.eM,.int .i64 t]]:=by rw[List.map_append,List.map_singleton,YZ]
   rw[hnl2]at rR
   rw[hnm2]at qY
   rcases aG with⟨hL,rfl⟩|⟨o,rfl,ao,Rt,LN⟩
   ·subst hL
    (have zF:=tw @a9 (tw @a8 (tw @ag0 (tw @ag1 (tw @a0 (tw @a2 (tw @a4 (tw @a6 (tw @a7 (tw @hi (tw @jT (tw @vA (tw @vB (tw @vC (tw @av (tw @gL (tw @ad.eq_1 @ab.eq_1))))))))))))))));(repeat(first|((repeat(revert N;apply Pn.out));refine wk zF ?_;(repeat(apply Pn.mk;intro N hN)))|((try apply Or.inl);refine⟨_,au.x (eu) (sd zF),?_⟩;apply hN;clear hN N)));try clear zF)
    refine cV ?_ ?_ ?_ ?_ (by(try dsimp only);exact⟨ah,_,sl @Nat.zero_add,.inr ⟨⟨197009010,st_a.next+1+1+1+1⟩,by rw[mN,rR]<;>(simp only[go_sem, ↓reduceIte,Nat.reduceEqDiff,Nat.reduceAdd,Nat.reduceSub,Nat.reduceLeDiff,reduceCtorEq]<;>rfl),by rw[mN,qY]<;>(simp only[go_sem, ↓reduceIte,Nat.reduceEqDiff,Nat.reduceAdd,Nat.reduceSub,Nat.reduceLeDiff,reduceCtorEq]<;>rfl),bc,bc⟩⟩)
    all_goals simp only[go_sem, ↓reduceIte,Nat.reduceEqDiff,Nat.reduceAdd,Nat.reduceSub,Nat.reduceLeDiff,reduceCtorEq,a9,a8,ag0,ag1,a0,a2,a4,a6,a7,nJ,vA,vB,vC,ad]
   ·have vo:=db LN
    have oA:=de (a:=⟨197000000,n0⟩) (b:=o) bc
    have oB:=de (a:=⟨197000001,n0⟩) (b:=o) bc
    have oC:=de (a:=⟨197001001,n0+1⟩) (b:=o) bc
    have RG:(L.map ab).length=L.length:=by simp
    have yW:L.length<=16777214:=ah
    have WD:L.length<=16777215:=ah
    (have zF:=tw @a9 (tw @a8 (tw @ag0 (tw @ag1 (tw @a0 (tw @a2 (tw @a4 (tw @a6 (tw @a7 (tw @hi (tw @jT (tw @vA (tw @vB (tw @vC (tw @vo (tw @oA (tw @oB (tw @oC (tw @ao (tw @av (tw @gL (tw @RG (tw @yW (tw @WD (tw @ad.eq_1 @ab.eq_1))))))))))))))))))))))));(repeat(first|((repeat(revert N;apply Pn.out));refine wk zF ?_;(repeat(apply Pn.mk;intro N hN)))|((try apply Or.inl);refine⟨_,au.x (eu) (sd zF),?_⟩;apply hN;clear hN N)));try clear zF)
    refine cV ?_ ?_ ?_ ?_ (by(try dsimp only);exact⟨ah,_,sl @Nat.zero_add,.inr ⟨⟨197009010,st_a.next+1+1+1+1⟩,by rw[mN,rR]<;>(simp only[go_sem, ↓reduceIte,Nat.reduceEqDiff,Nat.reduceAdd,Nat.reduceSub,Nat.reduceLeDiff,reduceCtorEq]<;>rfl),by rw[mN,qY]<;>(simp only[go_sem, ↓reduceIte,Nat.reduceEqDiff,Nat.reduceAdd,Nat.reduceSub,Nat.reduceLeDiff,reduceCtorEq]<;>rfl),bc,bc⟩⟩)
    all_goals simp only[go_sem, ↓reduceIte,Nat.reduceEqDiff,Nat.reduceAdd,Nat.reduceSub,Nat.reduceLeDiff,reduceCtorEq,a9,a8,ag0,ag1,a0,a2,a4,a6,a7,nJ,vA,vB,vC,oA,oB,oC,ad]
 ·have mL:i=l.length:=ah
  subst mL
  rw[List.take_length]at a8 aG PT
  cases hd:xC q l
  ·rw[hd]at a8
   have mN:iO l ⟨p,t⟩=jJ q l++[q]:=by rw[<-hq,Fk hd,jJ,hd];simp
   have YZ:ab q=[.int .i64 p.eS,.int .i64 p.eM,.int .i64 t]:=by rw[hq];rfl
   generalize jJ q l=L at aG PT mN
   have rR:=uj L q
   have qY:(L++[q]).map ab=L.map ab++[[.int .i64 p.eS,.int .i64 p.eM,.int .i64 t]]:=by rw[List.map_append,List.map_singleton,YZ]
   rcases aG with⟨hL,rfl⟩|⟨o,rfl,ao,Rt,LN⟩
   ·subst hL
    (try((repeat(revert N;apply Pn.out));refine wk (tw @a9 (tw @a8 (tw @ag0 (tw @ag1 (tw @a0 (tw @a2 (tw @a4 (tw @a6 (tw @a7 (tw @hi (tw @vA (tw @vB (tw @vC (tw @av (tw @ad.eq_1 @ab.eq_1))))))))))))))) ?_;(repeat(apply Pn.mk;intro N hN))))
    exact er (.inl rfl) (vs:=[.agg [.own ⟨197011006,st_a.next+1+1⟩ 0 1]]) (sd (tw @a9 (tw @a8 (tw @ag0 (tw @ag1 (tw @a0 (tw @a2 (tw @a4 (tw @a6 (tw @a7 @vB)))))))))) ⟨⟨197011006,st_a.next+1+1⟩,by rw[mN];rfl,by rw[mN];simp only[go_sem, ↓reduceIte,Nat.reduceEqDiff,Nat.reduceAdd,Nat.reduceSub,Nat.reduceLeDiff,reduceCtorEq,vB];rw[YZ],bc,bc⟩
   ·have vo:=db LN
    have oA:=de (a:=⟨197000000,n0⟩) (b:=o) bc
    have oB:=de (a:=⟨197000001,n0⟩) (b:=o) bc
    have oC:=de (a:=⟨197001001,n0+1⟩) (b:=o) bc
    have RG:(L.map ab).length=L.length:=by simp
    have yW:L.length<=16777215:=ah
    (try((repeat(revert N;apply Pn.out));refine wk (tw @a9 (tw @a8 (tw @ag0 (tw @ag1 (tw @a0 (tw @a2 (tw @a4 (tw @a6 (tw @a7 (tw @hi (tw @vA (tw @vB (tw @vC (tw @vo (tw @oA (tw @oB (tw @oC (tw @ao (tw @av (tw @RG (tw @yW (tw @ad.eq_1 @ab.eq_1)))))))))))))))))))))) ?_;(repeat(apply Pn.mk;intro N hN))))
    exact er (.inl rfl) (vs:=[.agg [.own ⟨197011006,st_a.next+1+1⟩ 0 (L.length+1)]]) (sd (tw @a9 (tw @a8 (tw @ag0 (tw @ag1 (tw @a0 (tw @a2 (tw @a4 (tw @a6 (tw @a7 @vB)))))))))) ⟨⟨197011006,st_a.next+1+1⟩,by rw[mN,rR];rfl,by rw[mN,qY];simp only[go_sem, ↓reduceIte,Nat.reduceEqDiff,Nat.reduceAdd,Nat.reduceSub,Nat.reduceLeDiff,reduceCtorEq,vB],bc,bc⟩
  ·rw[hd]at a8
   have mN:iO l ⟨p,t⟩=jJ q l:=by rw[<-hq,jJ,hd];simp
   have lp:0<(jJ q l).length:=by rw[<-mN,oz];omega
   generalize jJ q l=L at aG PT lp mN
   rcases aG with⟨hL,rfl⟩|⟨o,rfl,ao,Rt,LN⟩
   ·subst hL;cases lp
   ·have vo:=db LN
    have oB:=de (a:=⟨197000001,n0⟩) (b:=o) bc
    (try((repeat(revert N;apply Pn.out));refine wk (tw @a9 (tw @a8 (tw @ag0 (tw @ag1 (tw @a0 (tw @a2 (tw @a4 (tw @a6 (tw @a7 (tw @hi (tw @vA (tw @vB (tw @vC (tw @vo (tw @ao (tw @av (tw @ad.eq_1 @ab.eq_1))))))))))))))))) ?_;(repeat(apply Pn.mk;intro N hN))))
    exact er (.inl rfl) (vs:=[.agg [.own o 0 L.length]]) (sd (tw @a9 (tw @a8 (tw @ag0 (tw @ag1 (tw @a0 (tw @a2 (tw @a4 (tw @a6 (tw @a7 @vB)))))))))) ⟨o,by rw[mN];rfl,by rw[mN];simp only[go_sem, ↓reduceIte,Nat.reduceEqDiff,Nat.reduceAdd,Nat.reduceSub,Nat.reduceLeDiff,reduceCtorEq,vB,oB,ao],bc,bc⟩
def MkT (n:Nat) (L:List aa) (r:AV) (σ':aw):Prop:=∃(o:Id) (J:List aa),r=.agg [.own o 0 L.length]/\σ'.get o=some ⟨true,3,(L++J).map ab⟩/\n<=o.bG/\o.bG<σ'.next
theorem IQ {g:Rows} {X o:Id} {L:List aa} (hX:g X=some ⟨true,1,[[.own o 0 L.length]]⟩) (ho:g o=some ⟨true,3,L.map ab⟩):fz (ea g) 6 (.ptr X 0 0)=some (.dQ [.sl (L.map ab)]):=by
 have h1:fz (ea g) 5 (.own o 0 L.length)=some (.sl (L.map ab)):=gF (e:=ab) (sz:=3) (by simp[ea,ho]) rfl fun x=>by simp[ab,ai,ar,aB]
 exact sI (n:=5) (sz:=1) (rows:=[[.own o 0 L.length]]) (cs:=[.own o 0 L.length]) (by simp[ea,hX]) rfl (by simp[ai,ar,h1])
def InL (X:Id) (st:sj) (e7:AV) (g:Rows) (n:Nat):Prop:=∃o u:Id,g X=some ⟨true,1,[[.own o 0 st.2.length]]⟩/\g o=some ⟨true,3,st.2.map ab⟩/\e7=.own u 0 st.1.length/\g u=some ⟨true,3,st.1.map ab⟩/\o.bG<u.bG/\X.bG<u.bG/\u.bG<n/\o≠X
def AsI (σ:aw) (T:Id) (ts:List aa) (pre:List (List AV)) (e0:Env) (s0:aw):Prop:=
 ∃l':List aa,pre=l'.map ab/\((l'=[]/\e0 3=.bU)∨∃o:Id,e0 3=.own o 0 l'.length/\s0.get o=some ⟨true,3,l'.map ab⟩/\σ.next<o.bG/\o.bG<s0.next)/\σ.next<s0.next/\(∀x:Id,x.bG<σ.next->x≠T->s0.get x=σ.get x)/\s0.get T=some ⟨false,mP.lP,ts.map ab⟩/\s0.get ⟨97000000,σ.next⟩=some ⟨true,1,[[.bU]]⟩/\e0 2=.ptr ⟨97000000,σ.next⟩ 0 0
theorem Km (L:List aa) (x:aa):(L++[x]).length=L.length+1:=by rw[List.length_append];rfl
theorem Gc {σ:aw} {c T O:Id} {s:ax} {ts L:List aa} (h:mQ σ.get σ.next c T O s ts) (hlen:ts.length<=100000) (h0:ts≠[]) (hR:nC L) (hp:ts.Perm L):
  Call Tryz.prog 97 [.ptr c 0 0] σ (fun r σ'=>∃o:Id,r=.agg [.own o 0 L.length]/\σ'.get o=some ⟨true,3,L.map ab⟩/\σ.next<=o.bG/\o.bG<σ'.next/\σ.next<=σ'.next/\∀x:Id,x.bG<σ.next->x≠T->σ'.get x=σ.get x):=by
 refine XV rfl mP ?_
 have fm:=h.row
 have GW:=h.tl
 have v1:=db h.cv
 have v2:=db h.tv
 unfold UG
 rw[OD]
 (try((repeat(revert N;apply Pn.out));refine wk (tw @fm @v1) ?_;(repeat(apply Pn.mk;intro N hN))))
 refine FO (X9 (id:=T) (r:=⟨true,mP.lP,ts.map ab⟩) (AsI σ T ts) (sd @Ov.eq_1) (sd (tw @GW @v2)) rfl (by decide) ?_ ?_ ?_)
 ·have vT:(T=(⟨97000000,σ.next⟩:Id))=False:=eq_false fun e=>by have:=h.tv;rw[e]at this;(try dsimp only at this);omega
  have vT2:((⟨97000000,σ.next⟩:Id)=T)=False:=eq_false fun e=>by have:=h.tv;rw[<-e]at this;(try dsimp only at this);omega
  exact⟨[],rfl,.inl ⟨rfl,sd @Nat.zero_add⟩,bc,fun x hx hT=>by
   have h1:=db hx
   have h2:=eq_false hT
   simp only[go_sem, ↓reduceIte,Nat.reduceEqDiff,Nat.reduceAdd,Nat.reduceSub,Nat.reduceLeDiff,reduceCtorEq,h1,h2],sd @Nat.zero_add,sd @vT2,sd @Nat.zero_add⟩
 ·rintro pre cs rest e0 s0 kv vv hpp ⟨l',rfl,hout,Lr,jy,hT,h5,e2⟩ hK hpart hvv
  have o3:cs∈ts.map ab:=hpp.subset (by simp)
  obtain⟨tl,hx,rfl⟩:=List.mem_map.1 o3
  have Iy:=hpp.length_eq
  simp only[List.length_append,List.length_map,List.length_cons]at Iy
  simp[part,ab,MK.ks]at hpart hvv
  subst hpart hvv
  rw[I0,I3]
  have GG:=h.tv
  have vT:=db (i:=T) (n:=s0.next) ah
  have v5:=db (i:=⟨97000000,σ.next⟩) (n:=s0.next) bc
  clear hpp o3 hK
  have hm1:l'.map ab++[ab tl]=(l'++[tl]).map ab:=by simp
  have rR:=Km l' tl
  have qY:(l'++[tl]).map ab=l'.map ab++[[.int .i64 tl.aQ.eS,.int .i64 tl.aQ.eM,.int .i64 tl.bK]]:=by rw[List.map_append];rfl
  rcases hout with⟨O2,e3⟩|⟨o,e3,og,on,ov⟩
  ·subst O2
   (try((repeat(revert N;apply Pn.out));refine wk (tw @e3 @e2) ?_;(repeat(apply Pn.mk;intro N hN))))
   exact⟨[]++[tl],hm1,.inr ⟨⟨97005005,s0.next+1+1⟩,sl @Nat.zero_add,sl @Nat.zero_add,bc,bc⟩,bc,fun y hy Ui=>by
    have h1:=db (i:=y) (n:=s0.next) ah
    have h2:=jy y hy Ui
    simp only[go_sem, ↓reduceIte,Nat.reduceEqDiff,Nat.reduceAdd,Nat.reduceSub,Nat.reduceLeDiff,reduceCtorEq,h1,h2],sd (tw @vT @hT),sd (tw @v5 @h5),sd @e2⟩
  ·have vo:=db ov
   have oT:=de (a:=T) (b:=o) ah
   have o5:=de (a:=⟨97000000,σ.next⟩) (b:=o) bc
   have gL:(l'.map ab).length=l'.length:=by simp
   have e1:l'.length<=16777215:=ah
   (try((repeat(revert N;apply Pn.out));refine wk (tw @e3 (tw @e2 (tw @og (tw @vo (tw @gL @e1))))) ?_;(repeat(apply Pn.mk;intro N hN))))
   exact⟨l'++[tl],hm1,.inr ⟨⟨97005005,s0.next+1+1⟩,by rw[rR];simp only[go_sem, ↓reduceIte,Nat.reduceEqDiff,Nat.reduceAdd,Nat.reduceSub,Nat.reduceLeDiff,reduceCtorEq]<;>rfl,by rw[qY];simp only[go_sem, ↓reduceIte,Nat.reduceEqDiff,Nat.reduceAdd,Nat.reduceSub,Nat.reduceLeDiff,reduceCtorEq]<;>rfl,bc,bc⟩,bc,fun y hy Ui=>by
    have h1:=db (i:=y) (n:=s0.next) ah
    have h2:=jy y hy Ui
    have h3:=de (a:=y) (b:=o) ah
    simp only[go_sem, ↓reduceIte,Nat.reduceEqDiff,Nat.reduceAdd,Nat.reduceSub,Nat.reduceLeDiff,reduceCtorEq,h1,h2,h3],sd (tw @vT (tw @oT @hT)),sd (tw @v5 (tw @o5 @h5)),sd @e2⟩
 ·rintro pre e0 s0 hpp ⟨l',rfl,hout,Lr,jy,hT,h5,e2⟩ hK
  clear hK
  have lY:l'.Perm ts:=by
   have:∀{a b:List aa},(a.map ab).Perm (b.map ab)->a.Perm b:=fun {a b} oi=>by
    have h2:=oi.map (fun cs:List AV=>match cs with|[.int _ x,.int _ y,.int _ t]=>(⟨⟨x,y⟩,t⟩:aa)|_=>default)
    simpa[List.map_map,Function.comp_def,ab]using h2
   exact this hpp
  have Ix:=lY.length_eq
  rcases hout with⟨O2,e3⟩|⟨o,e3,og,on,ov⟩
  ·exfalso
   subst O2
   exact h0 (List.eq_nil_of_length_eq_zero Ix.symm)
  have gM:l'≠[]:=fun e=>h0 (List.eq_nil_of_length_eq_zero (by rw[<-Ix,e];rfl))
  (try((repeat(revert N;apply Pn.out));refine wk (tw @I4.eq_1 (tw @I6.eq_1 (tw @e3 @e2))) ?_;(repeat(apply Pn.mk;intro N hN))))
  refine .inr (az _ _ _ _ _ (fun r σ1 hq=>?_) (BW l' L ah gM hR (lY.trans hp) ⟨s0.get,_⟩ o bc og))
  obtain⟨g1,x1⟩:=σ1
  obtain⟨o2,rfl,q1,q2,q3,q4⟩:=hq
  (try dsimp only at q1 q2 q3 q4)
  have k5:=(q4 ⟨97000000,σ.next⟩ bc).trans h5
  have o25:=de (a:=⟨97000000,σ.next⟩) (b:=o2) bc
  apply hN
  clear hN N
  (try((repeat(revert N;apply Pn.out));refine wk (tw @I4.eq_1 (tw @I6.eq_1 (tw @e2 @k5))) ?_;(repeat(apply Pn.mk;intro N hN))))
  exact er (.inl rfl) (vs:=[.agg [.own o2 0 L.length]]) (by rw[I6];simp only[ga,iW,go_sem, ↓reduceIte,Nat.reduceEqDiff,Nat.reduceAdd,Nat.reduceSub,Nat.reduceLeDiff,reduceCtorEq,e2]) ⟨o2,rfl,sd (tw @o25 @q1),ah,bc,bc,fun y hy Ui=>by
   have h1:=db (i:=y) (n:=σ.next) hy
   simp only[go_sem, ↓reduceIte,Nat.reduceEqDiff,Nat.reduceAdd,Nat.reduceSub,Nat.reduceLeDiff,reduceCtorEq,h1]
   exact(q4 y ah).trans (jy y hy Ui)⟩
theorem mQ.three {g g':Rows} {n n':Nat} {c T O:Id} {s:ax} {ts:List aa} (h:mQ g n c T O s ts) (hn:n<=n') (hc:g' c=g c) (hT:g' T=g T) (hO:g' O=g O):mQ g' n' c T O s ts:=
 ⟨hc.trans h.row,hT.trans h.tl,by rw[hO];exact h.op,Nat.lt_of_lt_of_le h.cv hn,Nat.lt_of_lt_of_le h.tv hn,Nat.lt_of_lt_of_le h.ov hn,h.cT,h.cO,h.TO⟩
theorem BD (q:aa):∀l:List aa,(l++[q]).Perm (iO l q)
 |[]=>List.Perm.refl _
 |x::l=>by
  have ih:=BD q l
  rw[iO]
  split
  ·exact List.perm_append_comm (l₁:=x::l) (l₂:=[q])
  ·exact ih.cons x
structure wI (s:ax) (S:sj):Prop where
 at_:∀q,fG (s.bH.aj++S.1) q=fG S.2 q
 perm:(s.bH.aj++S.1).Perm S.2
theorem wI.fit {s:ax} {S:sj} (h:wI s S) (p:aq) (t:Int):ei s (s.bH.aj++S.1) p t=ei s S.2 p t:=by
 have e:fG (s.bH.aj++S.1)=fG S.2:=funext h.at_
 unfold ei
 rw[e]
theorem wI.no {s:ax} {S:sj} (h:wI s S) {p:aq} (h0:ez S.2 p<0):ez (s.bH.aj++S.1) p<0:=nw.2 fun t ht=>nw.1 h0 t (h.perm.subset ht)
theorem wI.put {s:ax} {S:sj} (h:wI s S) {x:aa} (h0:ez S.2 x.aQ<0):wI s (S.1++[x],iO S.2 x) where
 at_ q:=by
  show fG (s.bH.aj++(S.1++[x])) q=fG (iO S.2 x) q
  rw[<-List.append_assoc,tF q (nw.1 (h.no h0)),DD q (nw.1 h0),h.at_]
 perm:=by
  show(s.bH.aj++(S.1++[x])).Perm (iO S.2 x)
  rw[<-List.append_assoc]
  exact(h.perm.append_right [x]).trans (BD x S.2)
structure InR (σ:aw) (m:Nat) (c T O:Id) (s:ax) (l:List aa) (S:sj) (e7:AV) (g:Rows) (n:Nat):Prop where
 SM:mQ g n c T O s (s.bH.aj++S.1)
 u:(S.1=[]/\e7=.bU)∨∃u:Id,e7=.own u 0 S.1.length/\g u=some ⟨true,3,S.1.map ab⟩/\m<=u.bG/\u.bG<n/\0<S.1.length
 lo:m<=n
 fr:∀x:Id,x.bG<m->x≠T->x≠O->x≠c->g x=σ.get x
def kf (l:List aa) (ps:List aq) (q:aq):List aq:=if Ac q=true/\ez l q<0 then rW ps q else ps
def fJ (l:List aa) (ps:List aq) (p:aq):Nat->List aq
 |0=>ps
 |d+1=>kf l (fJ l ps p d) (bR p d)
def eY (l:List aa):Nat->List aq
 |0=>[]
 |i+1=>fJ l (eY l i) (bd l i).aQ 4
def js (l:List aa):List aq:=eY l l.length
theorem CH {l:List aa} {ps:List aq} (h:oM ps) (q:aq):oM (kf l ps q):=by
 unfold kf;split
 ·exact NW h q
 ·exact h
theorem sW {l:List aa} {ps:List aq} (h:oM ps) (p:aq):∀d,oM (fJ l ps p d)
 |0=>h
 |d+1=>CH (sW h p d) _
theorem sY (l:List aa):∀i,oM (eY l i)
 |0=>List.Pairwise.nil
 |i+1=>sW (sY l i) _ 4
theorem CG (l:List aa) (ps:List aq) (q:aq):(kf l ps q).length<=ps.length+1:=by
 unfold kf;split
 ·exact NV ps q
 ·omega
theorem sV (l:List aa) (ps:List aq) (p:aq):∀d,(fJ l ps p d).length<=ps.length+d
 |0=>Nat.le_refl _
 |d+1=>by
  have:=sV l ps p d
  have:=CG l (fJ l ps p d) (bR p d)
  simp only[fJ];omega
theorem ml (l:List aa):∀i,(eY l i).length<=i*4
 |0=>Nat.le_refl _
 |i+1=>by
  have:=ml l i
  have:=sV l (eY l i) (bd l i).aQ 4
  simp only[eY];omega
theorem zi (l:List aa) (ps:List aq) (p:aq) (x:aq):∀d,x∈fJ l ps p d↔x∈ps∨∃k,k<d/\x=bR p (k:Nat)/\Ac x=true/\ez l x<0
 |0=>⟨.inl,fun h=>h.elim id fun⟨_,h,_⟩=>absurd h (Nat.not_lt_zero _)⟩
 |d+1=>by
  simp only[fJ,kf]
  have ih:=zi l ps p x d
  split
  ·rename_i h
   rw[Nt,ih]
   constructor
   ·rintro(rfl|h1|⟨k,h1,h2⟩)
    ·exact .inr ⟨d,Nat.lt_succ_self _,rfl,h⟩
    ·exact .inl h1
    ·exact .inr ⟨k,ah,h2⟩
   ·rintro(h1|⟨k,h1,h2⟩)
    ·exact .inr (.inl h1)
    ·by_cases hk:k=d
     ·subst hk;exact .inl h2.1
     ·exact .inr (.inr ⟨k,ah,h2⟩)
  ·rename_i h
   rw[ih]
   constructor
   ·rintro(h1|⟨k,h1,h2⟩)
    ·exact .inl h1
    ·exact .inr ⟨k,ah,h2⟩
   ·rintro(h1|⟨k,h1,h2⟩)
    ·exact .inl h1
    ·by_cases hk:k=d
     ·subst hk;rw[h2.1]at h2;exact absurd h2.2 h
     ·exact .inr ⟨k,ah,h2⟩
def Ds (l:List aa) (x:aq):Prop:=Ac x=true/\ez l x<0/\∃i d:Nat,i<l.length/\d<4/\x=bR (bd l i).aQ d
theorem zj (l:List aa) (x:aq):∀i,x∈eY l i↔∃j d:Nat,j<i/\d<4/\x=bR (bd l j).aQ d/\Ac x=true/\ez l x<0
 |0=>⟨fun h=>(by cases h),fun⟨_,_,h,_⟩=>absurd h (Nat.not_lt_zero _)⟩
 |i+1=>by
  simp only[eY]
  rw[zi,zj l x i]
  constructor
  ·rintro(⟨j,d,h1,h2⟩|⟨d,h1,h2⟩)
   ·exact⟨j,d,ah,h2⟩
   ·exact⟨i,d,Nat.lt_succ_self _,h1,h2⟩
  ·rintro⟨j,d,h1,h2,h3⟩
   by_cases hj:j=i
   ·subst hj;exact .inr ⟨d,h2,h3⟩
   ·exact .inl ⟨j,d,ah,h2,h3⟩
theorem Bt (l:List aa) (x:aq):x∈js l↔Ds l x:=by
 unfold js Ds
 rw[zj]
 exact⟨fun⟨j,d,h1,h2,h3,h4,h5⟩=>⟨h4,h5,j,d,h1,h2,h3⟩,fun⟨h4,h5,j,d,h1,h2,h3⟩=>⟨j,d,h1,h2,h3,h4,h5⟩⟩
theorem Kg (l:List aa) (hF:lJ l) (σ:aw):Call Tryz.prog 195 [.dQ [.sl (l.map ab)]] σ (V8 σ (fun _=>True) (js l)):=by
 refine eB eI rfl fun iD=>?_
 clear iD
 have hR:=hF.QS
 have vG:=hF.xD
 (try((repeat(revert N;apply Pn.out));refine wk @Nat.zero_add ?_;(repeat(apply Pn.mk;intro N hN))))
 refine bf (fun n env st=>∃i:Nat,n=(l.length)-i/\i<=(l.length)/\env 4=.int .i64 (i:Int)/\(∃o:Id,env 3=.own o 0 (eY l i).length/\st.get o=some ⟨true,2,(eY l i).map ad⟩/\o.bG<st.next/\σ.next<=o.bG/\∀x:Id,x.bG<σ.next->st.get x=σ.get x)) (l.length) ⟨0,ah,ah,sl @Nat.zero_add,⟨⟨195001000,σ.next+1⟩,by simp only[go_sem, ↓reduceIte,Nat.reduceEqDiff,Nat.reduceAdd,Nat.reduceSub,Nat.reduceLeDiff,reduceCtorEq];rfl,by simp only[go_sem, ↓reduceIte,Nat.reduceEqDiff,Nat.reduceAdd,Nat.reduceSub,Nat.reduceLeDiff,reduceCtorEq];rfl,bc,bc,fun x hx=>by
  have:=db (i:=x) (n:=σ.next+1) ah
  simp only[go_sem, ↓reduceIte,Nat.reduceEqDiff,Nat.reduceAdd,Nat.reduceSub,Nat.reduceLeDiff,reduceCtorEq,this]⟩⟩ ?_
 rintro n_a env_a st_a ⟨i,rfl,ale,a4,kz⟩ dX
 have a0:=dX 0 (by kernel_rfl)
 simp only[go_sem, ↓reduceIte,Nat.reduceEqDiff,Nat.reduceAdd,Nat.reduceSub,Nat.reduceLeDiff,reduceCtorEq]at a0
 clear dX
 obtain⟨o,a3,ag,LN,Rt,dX⟩:=kz
 by_cases hi:(i:Int)<(l.length:Int)
 ·have cV:∀{e:Env} {gg:Rows} {nx:Nat},(e 4=.int .i64 (IntKind.i64.wrap ((i:Int)+1)))->(∃o:Id,e 3=.own o 0 (eY l (i+1)).length/\gg o=some ⟨true,2,(eY l (i+1)).map ad⟩/\o.bG<nx/\σ.next<=o.bG/\∀x:Id,x.bG<σ.next->gg x=σ.get x)->∃m0,m0<(l.length)-i/\∃i:Nat,m0=(l.length)-i/\i<=(l.length)/\e 4=.int .i64 (i:Int)/\(∃o:Id,e 3=.own o 0 (eY l i).length/\gg o=some ⟨true,2,(eY l i).map ad⟩/\o.bG<nx/\σ.next<=o.bG/\∀x:Id,x.bG<σ.next->gg x=σ.get x):=fun x1 x2=>⟨_,ah,i+1,rfl,ah,(by rw[x1,aE ah]),x2⟩
  have gh:i<l.length:=ah
  (try((repeat(revert N;apply Pn.out));refine wk (tw @a4 (tw @a0 (tw @a3 @hi))) ?_;(repeat(apply Pn.mk;intro N hN))))
  refine bf (fun n env st=>∃d:Nat,n=(4)-d/\d<=(4)/\env 5=.int .i64 (d:Int)/\(∃o:Id,env 3=.own o 0 (fJ l (eY l i) (bd l i).aQ d).length/\st.get o=some ⟨true,2,(fJ l (eY l i) (bd l i).aQ d).map ad⟩/\o.bG<st.next/\σ.next<=o.bG/\∀x:Id,x.bG<σ.next->st.get x=σ.get x)) (4) ⟨0,ah,ah,sl (tw @a4 @a0),⟨o,by simp only[go_sem, ↓reduceIte,Nat.reduceEqDiff,Nat.reduceAdd,Nat.reduceSub,Nat.reduceLeDiff,reduceCtorEq,a3,fJ],by simp only[go_sem, ↓reduceIte,Nat.reduceEqDiff,Nat.reduceAdd,Nat.reduceSub,Nat.reduceLeDiff,reduceCtorEq,ag,fJ],bc,Rt,fun x hx=>sd (dX x hx)⟩⟩ ?_
  rintro n_b env_b st_b ⟨d,rfl,ble,b5,bI0⟩ fh
  have b0:=fh 0 (by kernel_rfl);have b4:=fh 4 (by kernel_rfl)
  simp only[go_sem, ↓reduceIte,Nat.reduceEqDiff,Nat.reduceAdd,Nat.reduceSub,Nat.reduceLeDiff,reduceCtorEq,a4,a0]at b0 b4
  clear fh
  obtain⟨ob,b3,bg,bov,Rv,fh⟩:=bI0
  by_cases hd:(d:Int)<4
  ·have fX:∀{e:Env} {gg:Rows} {nx:Nat},(e 5=.int .i64 (IntKind.i64.wrap ((d:Int)+1)))->(∃o:Id,e 3=.own o 0 (fJ l (eY l i) (bd l i).aQ (d+1)).length/\gg o=some ⟨true,2,(fJ l (eY l i) (bd l i).aQ (d+1)).map ad⟩/\o.bG<nx/\σ.next<=o.bG/\∀x:Id,x.bG<σ.next->gg x=σ.get x)->∃m0,m0<(4)-d/\∃d:Nat,m0=(4)-d/\d<=(4)/\e 5=.int .i64 (d:Int)/\(∃o:Id,e 3=.own o 0 (fJ l (eY l i) (bd l i).aQ d).length/\gg o=some ⟨true,2,(fJ l (eY l i) (bd l i).aQ d).map ad⟩/\o.bG<nx/\σ.next<=o.bG/\∀x:Id,x.bG<σ.next->gg x=σ.get x):=fun x1 x2=>⟨_,ah,d+1,rfl,ah,(by rw[x1,aE ah]),x2⟩
   have jT:=fV gh
   have RS:=s6 (hF.pt gh)
   have dZ:=vQ (bd l i).aQ d (jD ah) RS.1 RS.2
   have Xm:=y9 (bR (bd l i).aQ d)
   have lZ:=db bov
   have ub:((fJ l (eY l i) (bd l i).aQ d).map ad).length=(fJ l (eY l i) (bd l i).aQ d).length:=by simp
   cases hp:Ac (bR (bd l i).aQ d)
   ·rw[hp]at Xm
    have qZ:fJ l (eY l i) (bd l i).aQ (d+1)=fJ l (eY l i) (bd l i).aQ d:=by
     simp only[fJ,kf];rw[if_neg fun h=>by rw[hp]at h;cases h.1]
    (have zF:=tw @b5 (tw @b0 (tw @b4 (tw @b3 (tw @bg (tw @hd (tw @jT (tw @lZ (tw @ab.eq_1 @ad.eq_1))))))));(repeat(first|((repeat(revert N;apply Pn.out));refine wk zF ?_;(repeat(apply Pn.mk;intro N hN)))|((try apply Or.inl);refine⟨_,au.x (dZ) (sd zF),?_⟩;apply hN;clear hN N)|((try apply Or.inl);refine⟨_,au.x (Xm) (sd zF),?_⟩;apply hN;clear hN N)));try clear zF)
    exact fX (sd (tw @b5 (tw @b0 (tw @b4 @ad.eq_1)))) (by exact⟨ob,sd (tw @b3 @qZ),sd (tw @bg (tw @lZ @qZ)),bc,Rv,fun x hx=>by
     have h1:=db (i:=x) (n:=st_b.next) ah
     have h2:=db (i:=x) (n:=st_b.next+1) ah
     have h3:=fh x hx
     simp only[go_sem, ↓reduceIte,Nat.reduceEqDiff,Nat.reduceAdd,Nat.reduceSub,Nat.reduceLeDiff,reduceCtorEq,h1,h2,h3]⟩)
   ·rw[hp]at Xm
    have FX:=sQ l (bR (bd l i).aQ d) hR ah
    by_cases hx:ez l (bR (bd l i).aQ d)<0
    ·have qZ:fJ l (eY l i) (bd l i).aQ (d+1)=rW (fJ l (eY l i) (bd l i).aQ d) (bR (bd l i).aQ d):=by
      simp only[fJ,kf];rw[if_pos ⟨hp,hx⟩]
     have TI:=sV l (eY l i) (bd l i).aQ d
     have Ix:=ml l i
     (have zF:=tw @b5 (tw @b0 (tw @b4 (tw @b3 (tw @bg (tw @hd (tw @jT (tw @lZ (tw @hx (tw @ab.eq_1 @ad.eq_1)))))))));(repeat(first|((repeat(revert N;apply Pn.out));refine wk zF ?_;(repeat(apply Pn.mk;intro N hN)))|((try apply Or.inl);refine⟨_,au.x (dZ) (sd zF),?_⟩;apply hN;clear hN N)|((try apply Or.inl);refine⟨_,au.x (Xm) (sd zF),?_⟩;apply hN;clear hN N)|((try apply Or.inl);refine⟨_,au.x (FX) (sd zF),?_⟩;apply hN;clear hN N)));try clear zF)
     refine .inr (az _ _ _ _ _ (fun r σ1 hq=>?_) (Az _ (sW (sY l i) _ d) ah (bR (bd l i).aQ d) ob _ (sd (tw @bg @lZ)) bc))
     obtain⟨g1,x1⟩:=σ1
     obtain⟨o1,rfl,q1,q2,q3,q4,q5⟩:=hq
     (try dsimp only at q1 q2 q3 q4 q5)
     apply hN
     clear hN N
     (try((repeat(revert N;apply Pn.out));refine wk (tw @b5 (tw @b0 @b4)) ?_;(repeat(apply Pn.mk;intro N hN))))
     exact fX (sd (tw @b5 (tw @b0 (tw @b4 @ad.eq_1)))) (by exact⟨o1,sd @qZ,sd (tw @q1 @qZ),bc,by
      rcases q4 with h|h
      ·omega
      ·have:o1=ob:=by simpa using h
       rw[this];exact Rv,fun x hx=>by
      have h1:=db (i:=x) (n:=st_b.next) ah
      have h2:=db (i:=x) (n:=st_b.next+1) ah
      have h3:=fh x hx
      have h4:(x=ob)=False:=eq_false fun h=>by rw[h]at hx;omega
      have h5:=q5 x ah h4
      simp only[go_sem, ↓reduceIte,Nat.reduceEqDiff,Nat.reduceAdd,Nat.reduceSub,Nat.reduceLeDiff,reduceCtorEq,h1,h2,h3,h5]⟩)
    ·have qZ:fJ l (eY l i) (bd l i).aQ (d+1)=fJ l (eY l i) (bd l i).aQ d:=by
      simp only[fJ,kf];rw[if_neg fun h=>hx h.2]
     (have zF:=tw @b5 (tw @b0 (tw @b4 (tw @b3 (tw @bg (tw @hd (tw @jT (tw @lZ (tw @hx (tw @ab.eq_1 @ad.eq_1)))))))));(repeat(first|((repeat(revert N;apply Pn.out));refine wk zF ?_;(repeat(apply Pn.mk;intro N hN)))|((try apply Or.inl);refine⟨_,au.x (dZ) (sd zF),?_⟩;apply hN;clear hN N)|((try apply Or.inl);refine⟨_,au.x (Xm) (sd zF),?_⟩;apply hN;clear hN N)|((try apply Or.inl);refine⟨_,au.x (FX) (sd zF),?_⟩;apply hN;clear hN N)));try clear zF)
     exact fX (sd (tw @b5 (tw @b0 (tw @b4 @ad.eq_1)))) (by exact⟨ob,sd (tw @b3 @qZ),sd (tw @bg (tw @lZ @qZ)),bc,Rv,fun x hx=>by
      have h1:=db (i:=x) (n:=st_b.next) ah
      have h2:=db (i:=x) (n:=st_b.next+1) ah
      have h3:=fh x hx
      simp only[go_sem, ↓reduceIte,Nat.reduceEqDiff,Nat.reduceAdd,Nat.reduceSub,Nat.reduceLeDiff,reduceCtorEq,h1,h2,h3]⟩)
  ·have Tx:d=4:=ah
   rw[Tx]at b3 bg
   have hnu:fJ l (eY l i) (bd l i).aQ 4=eY l (i+1):=rfl
   rw[hnu]at b3 bg
   (try((repeat(revert N;apply Pn.out));refine wk (tw @b5 (tw @b0 (tw @b4 (tw @b3 (tw @bg @hd))))) ?_;(repeat(apply Pn.mk;intro N hN))))
   exact cV (sd (tw @b5 (tw @b0 (tw @b4 @ad.eq_1)))) (by exact⟨ob,sd @b3,sd @bg,bc,Rv,fun x hx=>sd (fh x hx)⟩)
 ·have mL:i=l.length:=ah
  (try((repeat(revert N;apply Pn.out));refine wk (tw @a4 (tw @a0 (tw @a3 (tw @ag @hi)))) ?_;(repeat(apply Pn.mk;intro N hN))))
  exact er (.inl rfl) (vs:=[.own o 0 (eY l i).length]) (sd @a3) ⟨o,by rw[js,<-mL];rfl,by rw[js,<-mL];simp only[go_sem, ↓reduceIte,Nat.reduceEqDiff,Nat.reduceAdd,Nat.reduceSub,Nat.reduceLeDiff,reduceCtorEq,ag],bc,bc,.inl Rt,fun x hx _=>sd (dX x hx)⟩
structure Wr2 (g:Rows) (n:Nat) (A S C c T O:Id) (s:ax) (l:List aa):Prop where
 a:∃b,g A=some ⟨b,1,[[.sl (l.map ab)]]⟩
 sy:∃b,g S=some ⟨b,4,[aM s]⟩
 p:∃b,g C=some ⟨b,1,[[.ptr c 0 0]]⟩
 SM:Dq g n c T O s l
 av:A.bG<n
 sv:S.bG<n
 pv:C.bG<n
end Go.Proofs.YtainmfbpilopaaaGreatDoor.V

namespace Go.Proofs.YtainmfbpilopaaaGreatDoor.V
open Go.RowKit
variable {P:Program}
theorem oD {xs:List AV} {w:World} {D:Nat->Prop} {ι:Names} {a:AV} {v:Value} {vs:Array Value} (h:ko P w D a v) (k:fQ P w D ι xs vs):fQ P w D ι (a::xs) (#[v]++vs):=
 qH (xs:=[a]) ⟨rfl,fun j b hj=>by
  cases j with
  |zero=>simp at hj;subst hj;exact⟨v,rfl,.eP _ _ h⟩
  |succ j=>simp at hj⟩ k
end Go.Proofs.YtainmfbpilopaaaGreatDoor.V

namespace Go.Proofs.YtainmfbpilopaaaGreatDoor.V
open Go.RowKit Go.Shelf
attribute [local go_sem] Oper.semAt_some
structure rM (W:World) (v:Value) (l:List aa):Prop where
 sl:∃A c,v=.slice A l.length c/\(l.length<=c/\c<=maxLen)/\(l=[]∨∃b o,A=some ⟨b,o,none⟩/\∀i,i<l.length->W.cell? ⟨b,o+(i*3+0),none⟩=some (.int .i64 (bd l i).aQ.eS)/\W.cell? ⟨b,o+(i*3+1),none⟩=some (.int .i64 (bd l i).aQ.eM)/\W.cell? ⟨b,o+(i*3+2),none⟩=some (.int .i64 (bd l i).bK))
structure LB (K:World->World->Prop) (v:Value) (l:List aa):Prop where
 refl:∀W,K W W
 trans:∀{A B C:World},K A B->K B C->K A C
 of:∀{W W':World},Below W.heap.size W W'->K W W'
 size:∀{W W':World},K W W'->W.heap.size<=W'.heap.size
 typed:∀{W W':World},K W W'->∀(b:Nat) (cells:Array Value) (T:TypeId) (fr:Nat×Nat),W.heap[b]? =some (Obj.cells cells T fr)->T≠217->T≠266->W'.heap[b]? =W.heap[b]?
 pl:∀{W W':World},K W W'->rM W v l->rM W' v l
theorem xR {W:World} {b x:Nat} {v:Value} (h:W.cell? ⟨b,x,none⟩=some v):b<W.heap.size:=by
 rcases Nat.lt_or_ge b W.heap.size with h1|h1
 ·exact h1
 ·simp[World.cell?,Array.getElem?_eq_none h1]at h
theorem rM.below {W W':World} {v:Value} {l:List aa} (h:rM W v l) (k:Below W.heap.size W W'):rM W' v l:=by
 obtain⟨A,c,rfl,hm,hc⟩:=h.sl
 refine⟨A,c,rfl,hm,?_⟩
 rcases hc with h0|⟨b,o,rfl,lL⟩
 ·exact .inl h0
 ·refine .inr ⟨b,o,rfl,fun i hi=>?_⟩
  obtain⟨h1,h2,h3⟩:=lL i hi
  have hb:=xR h1
  exact⟨(k.cell (p:=⟨b,_,none⟩) hb).trans h1,(k.cell (p:=⟨b,_,none⟩) hb).trans h2,(k.cell (p:=⟨b,_,none⟩) hb).trans h3⟩
theorem rM.eP {P:Program} {W:World} {v:Value} {l:List aa} (h:rM W v l):ko P W (fun b=>b<W.heap.size) (.sl (l.map ab)) v:=by
 obtain⟨A,c,rfl,hm,hc⟩:=h.sl
 rcases hc with rfl|⟨b,o,rfl,lL⟩
 ·exact .Dn A c (by simpa using hm.2)
 by_cases O2:l=[]
 ·subst O2;exact .Dn _ c (by simpa using hm.2)
 ·have lp:0<l.length:=List.length_pos_iff.2 O2
  have hb:=xR (lL 0 lp).1
  refine .sl (l.map ab) b o l.length c 3 (fun i j=>if j=0 then .int .i64 (bd l i).aQ.eS else if j=1 then .int .i64 (bd l i).aQ.eM else .int .i64 (bd l i).bK) (by simp) hm.1 hm.2 hb (fun cs dY=>?_) (fun cs dY a ha=>?_) (fun i j hi hj=>?_) (fun i j cs a hi hj=>?_)
  ·obtain⟨x,_,rfl⟩:=List.mem_map.1 dY;rfl
  ·obtain⟨x,_,rfl⟩:=List.mem_map.1 dY
   simp[ab]at ha
   rcases ha with rfl|rfl|rfl<;>rfl
  ·obtain⟨h1,h2,h3⟩:=lL i hi
   match j,hj with
   |0,_=>exact h1
   |1,_=>exact h2
   |2,_=>exact h3
   |j+3,hj=>omega
  ·have mL:i<l.length:=by have:=(List.getElem?_eq_some_iff.1 hi).1;simpa using this
   rw[fV mL]at hi
   injection hi with hi
   subst hi
   match j,hj with
   |0,hj=>simp[ab]at hj;subst hj;exact .int _ _
   |1,hj=>simp[ab]at hj;subst hj;exact .int _ _
   |2,hj=>simp[ab]at hj;subst hj;exact .int _ _
   |j+3,hj=>simp[ab]at hj
theorem DL {P:Program} (hm:P.follows .mixedOrders=true) {f:Nat} {args:List AV} {vs:Array Value} {w:World} {r:AV} (h:au P f args r) (hr:∀g r0,gS g 6 r0=some r->r0=r) (hA:fQ P w (fun b=>b<w.heap.size) (fun _=>none) args vs):
  Calls P f vs w fun e w'=>∃D ι u,e=.returned u/\dm P w' D ι r u/\Below w.heap.size w w':=by
 have hs:=gD hm (h 0) w.heap.size (fun b=>b<w.heap.size) (fun _=>none) w vs ⟨Nat.le_refl _,fun _ h=>h,fun id r h=>(by cases h),fun id kK r r' B B' h=>(by cases h)⟩ (fun id h=>absurd rfl h) hA
 refine hs.mono ?_
 rintro e w' ⟨r0,g',n',D',ι',u,rfl,⟨r',hz,rfl⟩,dZ,hsim,_,_,iu⟩
 have:=hr _ _ hz
 subst this
 exact⟨D',ι',u,rfl,iu,dZ.below⟩
theorem qp {g:Rows} {n:Nat} {a:AV} {k:IntKind} {m:Int} (h:gS g (n+1) a=some (.int k m)):a=.int k m:=by
 cases a<;>rw[gS]at h<;>simp_all
 all_goals (repeat' (split at h))<;>simp_all
theorem Gz {g:Rows} {a:AV} {x y:Int} (h:gS g 6 a=some (.agg [.int .i64 x,.int .i64 y])):a=.agg [.int .i64 x,.int .i64 y]:=by
 cases a with
 |agg cs=>
  rw[xW]at h
  simp only[Option.map_eq_some_iff,AV.agg.injEq,exists_eq_right]at h
  match cs,h with
  |[],h=>rw[cZ]at h;simp at h
  |[a],h=>
   rw[cu,cZ]at h
   cases ha:gS g 5 a<;>simp[ha]at h
  |[a,b],h=>
   rw[cu,cu,cZ]at h
   cases ha:gS g 5 a<;>cases hb:gS g 5 b<;>simp[ha,hb]at h
   obtain⟨rfl,rfl⟩:=h
   rw[qp ha,qp hb]
  |a::b::c::r,h=>
   rw[cu,cu,cu]at h
   cases ha:gS g 5 a<;>cases hb:gS g 5 b<;>cases hc:gS g 5 c<;>cases hd:eQ g 5 r<;>simp[ha,hb,hc,hd]at h
 |_=>rw[gS]at h<;>simp_all<;>(repeat' (split at h))<;>simp_all
theorem HB (W:World) (p:aq) (d:Int) (hd:iE d 0 3=true) (hx:iB p.eS) (hy:iB p.eM):Calls Tryz.prog 200 #[.agg #[.int .i64 p.eS,.int .i64 p.eM],.int .i64 d] W fun e W'=>e=.returned (.agg #[.int .i64 (bR p d).eS,.int .i64 (bR p d).eM])/\Below W.heap.size W W':=by
 refine(DL mixed (HD p d hd hx hy) (fun g r0 h=>Gz h) ?_:Calls _ _ _ _ _).mono ?_
 ·exact oD (vs:= #[.int .i64 d]) (.agg _ _ (fun j=>if j=0 then .int .i64 p.eS else .int .i64 p.eM) rfl (fun a ha=>by simp[ad]at ha;rcases ha with rfl|rfl<;>rfl) (fun j hj=>by match j,hj with|0,_=>rfl|1,_=>rfl|j+2,hj=>simp[ad]at hj;omega) (fun j a ha=>by match j,ha with|0,ha=>simp[ad]at ha;subst ha;exact .int _ _|1,ha=>simp[ad]at ha;subst ha;exact .int _ _|j+2,ha=>simp[ad]at ha)) (oD (vs:= #[]) (.int _ _) zA)
 ·rintro e W' ⟨D,ι,u,rfl,hr,hB⟩
  refine⟨?_,hB⟩
  obtain⟨vs,f,rfl,fI,_,h1,h2⟩:=jd hr
  have v0:=h1 0 (by simp[ad])
  have v1:=h1 1 (by simp[ad])
  rw[dR (h2 0 _ rfl)]at v0
  rw[dR (h2 1 _ rfl)]at v1
  obtain⟨vl⟩:=vs
  match vl,fI with
  |[a,b],_=>
   simp at v0 v1
   rw[v0,v1]
theorem AD (W:World) (l:List aa) (v:Value) (hP:rM W v l) (p:aq) (hR:nC l) (Ta:l.length<=1048576):Calls Tryz.prog 258 #[.agg #[v],.agg #[.int .i64 p.eS,.int .i64 p.eM]] W fun e W'=>e=.returned (.int .i64 (ez l p))/\Below W.heap.size W W':=by
 refine(DL mixed (KG l p hR Ta) (fun g r0 h=>qp h) ?_:Calls _ _ _ _ _).mono ?_
 ·exact oD (vs:= #[.agg #[.int .i64 p.eS,.int .i64 p.eM]]) (.agg _ _ (fun _=>v) rfl (fun a ha=>by simp at ha;rw[ha];rfl) (fun j hj=>by match j,hj with|0,_=>rfl|j+1,hj=>simp at hj) (fun j a ha=>by match j,ha with|0,ha=>simp at ha;subst ha;exact hP.eP|j+1,ha=>simp at ha)) (oD (vs:= #[]) (.agg _ _ (fun j=>if j=0 then .int .i64 p.eS else .int .i64 p.eM) rfl (fun a ha=>by simp[ad]at ha;rcases ha with rfl|rfl<;>rfl) (fun j hj=>by match j,hj with|0,_=>rfl|1,_=>rfl|j+2,hj=>simp[ad]at hj;omega) (fun j a ha=>by match j,ha with|0,ha=>simp[ad]at ha;subst ha;exact .int _ _|1,ha=>simp[ad]at ha;subst ha;exact .int _ _|j+2,ha=>simp[ad]at ha)) zA)
 ·rintro e W' ⟨D,ι,u,rfl,hr,hB⟩
  exact⟨by rw[dR hr],hB⟩
theorem grown_of {W W':World} (h:Below W.heap.size W W'):W.grownBy W' none:=⟨h.os,h.tape,h.output,h.size,fun k hk _=>h.block k hk⟩
def Fa (l:List aa) (i:Nat) (d:Int):List (Nat×Nat×Int):=if 0<=ez l (bR (bd l i).aQ d)then[(i,(ez l (bR (bd l i).aQ d)).toNat,d)]else[]
def mj (l:List aa) (i m:Nat):List (Nat×Nat×Int):=(List.range m).flatMap fun j:Nat=>Fa l i (1-(j:Int))
def mY (l:List aa) (n:Nat):List (Nat×Nat×Int):=(List.range n).flatMap fun i=>mj l i 2
theorem ox (l:List aa) (n:Nat):mY l (n+1)=mY l n++mj l n 2:=by simp[mY,List.range_succ]
theorem pa (l:List aa) (i m:Nat):mj l i (m+1)=mj l i m++Fa l i (1-(m:Int)):=by simp[mj,List.range_succ]
theorem Uz (l:List aa) {k m:Nat} (hk:k<l.length) (hm:m<=2):mY l k++mj l k m <+:mY l l.length:=by
 have h1:∀d,mY l k <+:mY l (k+d):=fun d=>by
  induction d with
  |zero=>exact List.prefix_refl _
  |succ d ih=>rw[<-Nat.add_assoc,ox l (k+d)];exact ih.trans (List.prefix_append _ _)
 have h2:∀d,mY l (k+1) <+:mY l (k+1+d):=fun d=>by
  induction d with
  |zero=>exact List.prefix_refl _
  |succ d ih=>rw[<-Nat.add_assoc,ox l (k+1+d)];exact ih.trans (List.prefix_append _ _)
 have h3:=h2 (l.length-(k+1))
 rw[show k+1+(l.length-(k+1))=l.length by omega,ox]at h3
 refine List.IsPrefix.trans ?_ h3
 have h4:mj l k m <+:mj l k 2:=by
  have:m=0∨m=1∨m=2:=ah
  rcases this with rfl|rfl|rfl
  ·exact List.nil_prefix
  ·rw[pa l k 1];exact List.prefix_append _ _
  ·exact List.prefix_refl _
 exact(List.prefix_append_right_inj _).2 h4
def V7 (l:List aa) (x:Nat×Nat×Int):Prop:=x.1<l.length/\x.2.1<l.length/\(0<=x.2.2/\x.2.2<=1)/\(x.2.1:Int)=ez l (bR (bd l x.1).aQ x.2.2)
def Ii (x:Nat×Nat×Int):Array Value:= #[.agg #[.int .i64 (x.1:Int),.int .i64 (x.2.1:Int)],.int .i64 x.2.2]
theorem Qc (l:List aa) (p:aq) (h:0<l.length:=by omega):ez l p<(l.length:Int):=by
 unfold ez
 split<;>omega
theorem XK (l:List aa) (hA:lJ l) (q Ba:Nat) (vS:Value) (K:World->World->Prop) (kl:LB K vS l) (J Jx:List (Nat×Nat×Int)->World->Prop) (n:Nat) (hn:1<=n)
  (hY:∀pre x W,J pre W->pre.length<(mY l l.length).length->V7 l x->YieldAt Fence.wide (n-1) Tryz.prog q (Ii x) W fun e W'=>
   (e=.returned (.bool true)/\J (pre++[x]) W'/\K W W')∨(e=.returned (.bool false)/\Jx (pre++[x]) W'))
  (W:World) (hJ:AbidesFrom W.heap.size J) (Te:W.heap[Ba]? =some (.cells #[vS] 31 (0,0))) (hP:rM W vS l) (h0:J [] W):
  CallsIn Fence.wide n Tryz.prog 257 #[.func (.yield q) #[] #[],.pointer (some ⟨Ba,0,none⟩)] W fun e W'=>(∃v,e=.returned v)/\
   ((∃ys,ys=mY l l.length/\J ys W')∨(∃pre,pre <+:mY l l.length/\Jx pre W')):=by
 obtain⟨A,cp,rfl,_,_⟩:=hP.sl
 refine callsIn_of_wp Tryz.func257 rfl trivial ?_ rfl
 simp only[Tryz.ntmps257,List.size_toArray,List.length_cons,List.length_nil,Nat.reduceAdd,Nat.reduceSub,Array.replicate_succ,Array.replicate_zero,List.push_toArray,List.append_toArray,List.nil_append,List.cons_append]
 have j6:W.cell? ⟨Ba,0,none⟩=some (.slice A l.length cp):=by simp[World.cell?,Te]
 gi_wp2
 gi_loopw [11] (fun i wr=>∃k:Nat,k<=l.length/\i=.int .i64 k/\J (mY l k) wr/\K W wr)
  (fun i _=>l.length-(intOf i).toNat)
 case atStart=>exact⟨0,Nat.zero_le _,rfl,h0,kl.refl _⟩
 case round=>
  obtain⟨k,hk,rfl,WB,hKt⟩:=hrel
  by_cases eu:k<l.length
  ·have dY:∃b o,A=some ⟨b,o,none⟩/\wr.cell? ⟨b,o+k*3,none⟩=some (.int .i64 (bd l k).aQ.eS)/\wr.cell? ⟨b,o+k*3+1,none⟩=some (.int .i64 (bd l k).aQ.eM)/\wr.cell? ⟨b,o+k*3+2,none⟩=some (.int .i64 (bd l k).bK):=by
    obtain⟨A',c',hv,_,hc⟩:=(kl.pl hKt hP).sl
    cases hv
    rcases hc with rfl|⟨b,o,rfl,lL⟩
    ·simp at eu
    ·obtain⟨h1,h2,h3⟩:=lL k eu
     exact⟨b,o,rfl,by simpa using h1,by rw[Nat.add_assoc];exact h2,by rw[Nat.add_assoc];exact h3⟩
   obtain⟨b,o,rfl,hx,Za,ht⟩:=dY
   gi_wp2
   obtain⟨W2,WL⟩:∃W2,(wr.alloc (.cells #[.int .i64 (bd l k).aQ.eS,.int .i64 (bd l k).aQ.eM,.int .i64 (bd l k).bK] 64)).alloc (.cells #[.int .i64 1,.int .i64 0] 2)=W2:=⟨_,rfl⟩
   have oU:Below wr.heap.size wr W2:=by rw[<-WL];exact((Below.refl _ wr).alloc (Nat.le_refl _) _).alloc (by simp) _
   have Z5:W2.heap[wr.heap.size]? =some (.cells #[.int .i64 (bd l k).aQ.eS,.int .i64 (bd l k).aQ.eM,.int .i64 (bd l k).bK] 64 (0,0)):=by
    rw[<-WL,Below.heap_alloc _ _ _ (by simp)];exact World.alloc_heap_new _ _
   have Z4:W2.heap[wr.heap.size+1]? =some (.cells #[.int .i64 1,.int .i64 0] 2 (0,0)):=by
    have:=World.alloc_heap_new (wr.alloc (.cells #[.int .i64 (bd l k).aQ.eS,.int .i64 (bd l k).aQ.eM,.int .i64 (bd l k).bK] 64)) (.cells #[.int .i64 1,.int .i64 0] 2)
    rw[World.size_alloc]at this
    rw[<-WL];exact this
   have Tp:K W W2:=kl.trans hKt (kl.of oU)
   have Z8:J (mY l k++mj l k 0) W2:=by
    have:=hJ _ _ _ none WB (grown_of oU) (fun r h=>by cases h)
    simpa[mj]using this
   rw[WL]
   clear WL
   generalize wr=w1 at *
   gi_loopw [18] (fun j wr=>∃m:Nat,m<=2/\j=.int .i64 m/\J (mY l k++mj l k m) wr/\K W2 wr)
    (fun j _=>2-(intOf j).toNat)
   case atStart=>exact⟨0,ah,rfl,Z8,kl.refl _⟩
   case round=>
    obtain⟨m,hm,rfl,hJm,RE⟩:=hrel
    have TL:m=0∨m=1∨m=2:=ah
    by_cases RP:m<2
    ·have hkd:=kl.typed RE _ _ _ _ Z4 (by decide) (by decide)
     have O0:=kl.typed RE _ _ _ _ Z5 (by decide) (by decide)
     have hka:=kl.typed (kl.trans Tp RE) _ _ _ _ Te (by decide) (by decide)
     have cd:wr.cell? ⟨w1.heap.size+1,m,none⟩=some (.int .i64 (1-(m:Int))):=by
      rw[World.cell?_of_block hkd]
      rcases TL with rfl|rfl|rfl
      ·simp[World.cell?,Z4]
      ·simp[World.cell?,Z4]
      ·omega
     have ct0:wr.cell? ⟨w1.heap.size,0,none⟩=some (.int .i64 (bd l k).aQ.eS):=by rw[World.cell?_of_block O0];simp[World.cell?,Z5]
     have ct1:wr.cell? ⟨w1.heap.size,1,none⟩=some (.int .i64 (bd l k).aQ.eM):=by rw[World.cell?_of_block O0];simp[World.cell?,Z5]
     have ca:wr.cell? ⟨Ba,0,none⟩=some (.slice (some ⟨b,o,none⟩) l.length cp):=by rw[World.cell?_of_block hka];simp[World.cell?,Te]
     have hPw:rM wr (.slice (some ⟨b,o,none⟩) l.length cp) l:=kl.pl (kl.trans Tp RE) hP
     have hba:Ba<wr.heap.size:=by
      have h1:=(Array.getElem?_eq_some_iff.1 Te).1
      have h2:=kl.size (kl.trans Tp RE)
      omega
     have hdm:iE (1-(m:Int)) 0 3=true:=jD ah
     have RS:=s6 (hA.pt eu)
     have y5:=fun w0=>HB w0 (bd l k).aQ (1-(m:Int)) hdm RS.1 RS.2
     have hPd:rM wr.drew (.slice (some ⟨b,o,none⟩) l.length cp) l:=hPw.below ⟨rfl,rfl,rfl,Nat.le_refl _,fun _ _=>rfl⟩
     have cad:wr.drew.cell? ⟨Ba,0,none⟩=some (.slice (some ⟨b,o,none⟩) l.length cp):=ca
     have ctd0:wr.drew.cell? ⟨w1.heap.size,0,none⟩=some (.int .i64 (bd l k).aQ.eS):=ct0
     have ctd1:wr.drew.cell? ⟨w1.heap.size,1,none⟩=some (.int .i64 (bd l k).aQ.eM):=ct1
     have YN:=hA.xD
     have Xc:=hA.QS
     have hmix:=mixed
     gi_wp2
     gi_region_with_o (first|(refine⟨trivial,?_⟩;gi_at_call 200;refine(callsIn_wide.2 (y5 _)).mono ?_;rintro e w3 ⟨rfl,Eh⟩;have ca3:=(Eh.cell (p:=⟨Ba,0,none⟩) hba).trans cad)|(refine⟨trivial,?_⟩;gi_at_call 258;refine(callsIn_wide.2 (AD _ l _ (hPd.below Eh) (bR (bd l k).aQ (1-(m:Int))) Xc ah)).mono ?_;rintro e w4 ⟨rfl,hB4⟩))
     all_goals
      have Td:Below wr.heap.size wr w4:=(show Below wr.heap.size wr wr.drew from⟨rfl,rfl,rfl,Nat.le_refl _,fun _ _=>rfl⟩).trans (Eh.trans (hB4.mono Eh.size))
      have hJ4:J (mY l k++mj l k m) w4:=hJ _ _ _ none hJm (grown_of Td) (fun r h=>by cases h)
      have Au:=Uz l eu (m:=m+1) ah
      rw[pa,<-List.append_assoc]at Au
      have qZ:=pa l k m
      have hw:wrap64 ((m:Int)+1)=((m+1:Nat):Int):=by unfold wrap64;omega
      by_cases Cq:0<=ez l (bR (bd l k).aQ (1-(m:Int)))
      ·have gh:((ez l (bR (bd l k).aQ (1-(m:Int)))).toNat:Int)=ez l (bR (bd l k).aQ (1-(m:Int))):=ah
       rw[Fa,if_pos Cq]at Au qZ
       obtain⟨fn,tmps,assign,body,hy,hR⟩:=hY _ (k,(ez l (bR (bd l k).aQ (1-(m:Int)))).toNat,1-(m:Int)) w4 hJ4 (by
        have:=Au.length_le
        simp only[List.length_append,List.length_cons,List.length_nil]at this ⊢
        omega) ⟨eu,by
        have:ez l (bR (bd l k).aQ (1-(m:Int)))<(l.length:Int):=Qc _ _
        show(ez l (bR (bd l k).aQ (1-(m:Int)))).toNat<l.length
        omega,⟨by show 0<=1-(m:Int);omega,by show 1-(m:Int)<=1;omega⟩,gh⟩
       simp only[Ii,gh]at hy
       gi_wp2
       refine hR.mono ?_
       rintro e W3 (⟨rfl,hJ3,OY⟩|⟨rfl,hJx3⟩)
       ·gi_wp2
        go_roundw
        case rel=>exact⟨m+1,ah,by simp,by rw[qZ,<-List.append_assoc];exact hJ3,kl.trans (kl.trans RE (kl.of Td)) OY⟩
        case measure=>simp[intOf];omega
       ·gi_wp2
        refine bodyPost_ret (results_none rfl _ _ _) rfl ?_
        exact⟨⟨_,rfl⟩,.inr ⟨_,Au,hJx3⟩⟩
      ·rw[Fa,if_neg Cq,List.append_nil]at qZ
       gi_wp2
       refine⟨fun _ h=>(by cases h),?_⟩
       gi_wp2
       go_roundw
       case rel=>exact⟨m+1,ah,by simp,by rw[qZ];exact hJ4,kl.trans RE (kl.of Td)⟩
       case measure=>simp[intOf];omega
    ·obtain rfl:m=2:=ah
     have YN:=hA.xD
     gi_wp2
     go_roundw
     case rel=>exact⟨k+1,ah,by simp,by rw[ox];exact hJm,kl.trans Tp RE⟩
     case measure=>simp[intOf];omega
  ·obtain rfl:k=l.length:=ah
   gi_wp2
   go_end0
   exact⟨⟨_,rfl⟩,.inl ⟨_,rfl,WB⟩⟩
theorem CI (n:Nat) (vS:Value) (w:World):CallsIn Fence.wide n Tryz.prog 219 #[.agg #[vS]] w fun e w'=>e=.returned (.func (.func 257) #[] #[.pointer (some ⟨w.heap.size,0,none⟩)])/\w'=w.alloc (.cells #[vS] 31):=by
 refine callsIn_of_wp Tryz.func219 rfl trivial ?_ rfl
 simp only[Tryz.ntmps219,List.size_toArray,List.length_cons,List.length_nil,Nat.reduceAdd,Nat.reduceSub,Array.replicate_succ,Array.replicate_zero,List.push_toArray,List.append_toArray,List.nil_append,List.cons_append]
 gi_wp2
 go_ret
 exact⟨rfl,rfl⟩
abbrev Sr (l:List aa):Type:={x:Nat×Nat×Int // V7 l x}
theorem Nz (l:List aa) (hA:lJ l) (Ba n:Nat) (hn:1<=n) (vS:Value) (K:World->World->Prop) (kl:LB K vS l) (w:World) (Te:w.heap[Ba]? =some (.cells #[vS] 31 (0,0))) (hP:rM w vS l):
  SeqStopsK Fence.wide n Tryz.prog 257 #[.pointer (some ⟨Ba,0,none⟩)] (fun x:Sr l=>Ii x.1) K (fun ys=>ys.map (·.1)=mY l l.length) (fun _=>True) (mY l l.length).length w:=fun q J Jx W hW hJ _ hY h0=>by
 refine(XK l hA q Ba vS K kl (fun ys W=>∃zs:List (Sr l),zs.map (·.1)=ys/\J zs W) (fun ys W=>∃zs:List (Sr l),zs.map (·.1)=ys/\Jx zs W) n hn (fun pre x W1 Z7 eu y4=>?_) W (fun s A B row ⟨zs,e,h⟩ hg hr=>⟨zs,e,hJ zs A B row h hg hr⟩) ((hW.block Ba (Array.getElem?_eq_some_iff.1 Te).1).trans Te) (hP.below hW) ⟨[],rfl,h0⟩).mono ?_
 ·obtain⟨zs,rfl,h1⟩:=Z7
  refine YieldAt.mono (hY zs ⟨x,y4⟩ W1 h1 (by simpa using eu)) ?_
  rintro e W' (⟨h2,h3,h4⟩|⟨h2,h3⟩)
  ·exact .inl ⟨h2,⟨zs++[⟨x,y4⟩],by simp,h3⟩,h4⟩
  ·exact .inr ⟨h2,⟨zs++[⟨x,y4⟩],by simp,h3⟩⟩
 ·rintro e W' ⟨h1,⟨ys,rfl,zs,h2,h3⟩|⟨pre,_,zs,h2,h3⟩⟩
  ·exact⟨h1,.inl ⟨zs,h2,h3⟩⟩
  ·exact⟨h1,.inr ⟨zs,trivial,h3⟩⟩
def B6 (s:ay) (l:List aa) (x:Nat×Nat×Int):List PB:=if 0<iw s (bd l x.1).bK x.2.2 (bd l x.2.1).bK then[⟨x.1,x.2.1,iw s (bd l x.1).bK x.2.2 (bd l x.2.1).bK⟩]else[]
theorem L1 (s:ay) (l:List aa):du s l=(mY l l.length).flatMap (B6 s l):=by
 have h1:∀i d,oQ s l i d=(Fa l i d).flatMap (B6 s l):=fun i d=>by
  unfold oQ Fa
  by_cases h:0<=ez l (bR (bd l i).aQ d)
  ·rw[if_pos h]
   simp only[List.flatMap_cons,List.flatMap_nil,List.append_nil,B6]
   by_cases h2:0<iw s (bd l i).bK d (bd l (ez l (bR (bd l i).aQ d)).toNat).bK
   ·rw[if_pos ⟨h,h2⟩,if_pos h2]
   ·rw[if_neg fun hc=>h2 hc.2,if_neg h2]
  ·rw[if_neg h,if_neg fun hc=>h hc.1];rfl
 unfold du iA mY
 rw[List.flatMap_assoc]
 congr 1
 funext i
 unfold gR mj
 rw[List.flatMap_assoc]
 congr 1
 funext j
 exact h1 i _
end Go.Proofs.YtainmfbpilopaaaGreatDoor.V

namespace Go.Proofs.YtainmfbpilopaaaGreatDoor.V
open Go.RowKit
attribute [local irreducible] dW wpOps fu Call
def CX (bs:List PB):AV:=if bs=[]then .bU else .sl (bs.map aL)
theorem QX:CX []=.bU:=rfl
theorem CY {bs:List PB} (h:0<bs.length):CX bs=.sl (bs.map aL):=by
 unfold CX
 rw[if_neg (by rintro rfl;simp at h)]
theorem Am (cnt:Nat) (tn:1<=cnt) (hn:cnt<=1048576) (bs:List PB) (hb:∀b∈bs,b.a<cnt/\b.b<cnt) (hp:0<bs.length) (oV:bs.length<=1048576) (t:Int):au Tryz.prog 172 [.int .i64 cnt,.sl (bs.map aL),.int .i64 t] (.fD [.int .i64 (leads cnt (eT (bh t bs))).length,CX (ef (eT (bh t bs)) bs)]):=by
 refine au.body eI rfl fun hl n0=>?_
 clear hl
 (try((repeat(revert N;apply Pn.out));refine wk @Nat.zero_add ?_;(repeat(apply Pn.mk;intro N hN))))
 refine .inr (az _ _ _ _ _ (fun r σ1 hq=>?_) (L6 bs hp oV _))
 obtain⟨o,rfl,ho,PW,PX,WX⟩:=hq
 (try dsimp only at ho PW PX WX)
 apply hN
 clear hN N
 (try((repeat(revert N;apply Pn.out));refine wk @Nat.zero_add ?_;(repeat(apply Pn.mk;intro N hN))))
 refine .inr (az _ _ _ _ _ (fun r σ2 hq=>?_) (Jy bs t oV o ⟨172000000,n0⟩ _ ho (by rw[WX _ bc];simp only[go_sem, ↓reduceIte,Nat.reduceEqDiff,Nat.reduceAdd,Nat.reduceSub,Nat.reduceLeDiff,reduceCtorEq]) bc bc (by rintro rfl;simp only at PW;omega)))
 obtain⟨rows,rfl,fm,hrt,uV,oZ,MJ⟩:=hq
 (try dsimp only at oZ MJ)
 apply hN
 clear hN N
 have Ln:=yU cnt tn hn (bh t bs) (fun b h=>hb b (zP h)) (by have:=ph t bs;omega)
 have hL:=xd (bh t bs)
 have hz:∀x,dx (ea σ2.get) 6 [.int .i64 x,.own o 0 (bh t bs).length]=some [.int .i64 x,.sl ((bh t bs).map aL)]:=fun x=>by
  have:V.fz (ea σ2.get) 6 (.own o 0 (bh t bs).length)=some (.sl ((bh t bs).map aL)):=by
   rw[jb];simp only[ea,fm,Option.map_some,if_true]
   rw[if_pos ah,List.drop_zero,hrt,sH fun b=>Cf _ 4 b];rfl
  simp only[ai,ar,aB,this,Option.map_some]
 (try((repeat(revert N;apply Pn.out));refine wk @Nat.zero_add ?_;(repeat(apply Pn.mk;intro N hN))))
 refine .inl ⟨_,au.x Ln (hz _),?_⟩
 apply hN
 clear hN N
 generalize eT (bh t bs)=L at *
 have uT:((gm cnt L).map Dh).length=(leads cnt L).length:=by simp[gm]
 have YT:=kN cnt L
 have j6:(0:Int)<=(cnt:Int):=ah
 have pY:(cnt:Int)<=((16777216:Nat):Int):=ah
 have iu:List.replicate cnt [AV.int .i64 0]=eo (dB cnt L 0 0) cnt:=by rw[zU,qz]
 (try((repeat(revert N;apply Pn.out));refine wk (tw @j6 (tw @pY (tw @Int.le_refl (tw @uT @iu)))) ?_;(repeat(apply Pn.mk;intro N hN))))
 refine bf (fun n env st=>∃i:Nat,n=((leads cnt L).length)-i/\i<=((leads cnt L).length)/\env 27=.int .i64 (i:Int)/\st.get ⟨172002001,σ2.next+1⟩=some ⟨true,1,eo (dB cnt L i 0) cnt⟩/\(σ2.next+1<st.next)) ((leads cnt L).length) ⟨0,ah,ah,sl (tw @iu @uT),sl (tw @iu @uT),bc⟩ ?_
 rintro n_c env_c st_c ⟨i,rfl,cle,c27,cg0,cI0⟩ jq
 have c1:=jq 1 (by kernel_rfl);have c8:=jq 8 (by kernel_rfl);have c9:=jq 9 (by kernel_rfl);have Ai:=jq 25 (by kernel_rfl);have Aj:=jq 26 (by kernel_rfl)
 simp only[go_sem, ↓reduceIte,Nat.reduceEqDiff,Nat.reduceAdd,Nat.reduceSub,Nat.reduceLeDiff,reduceCtorEq,iu,uT]at c1 c8 c9 Ai Aj
 clear jq
 by_cases hi:(i:Int)<((leads cnt L).length:Int)
 ·have ik:∀{e:Env} {gg:Rows} {nx:Nat},(e 27=.int .i64 (IntKind.i64.wrap ((i:Int)+1)))->(gg ⟨172002001,σ2.next+1⟩=some ⟨true,1,eo (dB cnt L (i+1) 0) cnt⟩)->(σ2.next+1<nx)->∃m0,m0<((leads cnt L).length)-i/\∃i:Nat,m0=((leads cnt L).length)-i/\i<=((leads cnt L).length)/\e 27=.int .i64 (i:Int)/\gg ⟨172002001,σ2.next+1⟩=some ⟨true,1,eo (dB cnt L i 0) cnt⟩/\(σ2.next+1<nx):=fun x1 x2 x3=>⟨_,ah,i+1,rfl,ah,(by rw[x1,aE ah]),x2,x3⟩
  have gh:i<(leads cnt L).length:=ah
  have jT:((gm cnt L).map Dh)[i]? =some (Dh (members cnt L (leads cnt L)[i])):=by simp[gm,gh]
  have qW:(leads cnt L).getD i 0=(leads cnt L)[i]:=by simp[List.getD_eq_getElem?_getD,gh]
  have mN:∀m,dB cnt L i m=fun x=>if cW L x<i then cW L x else if x∈(members cnt L (leads cnt L)[i]).take m then i else 0:=fun m=>by unfold dB;rw[qW]
  have ua:=fun x (hx:x<cnt)=>v7 hL (n:=cnt) (k:=x) (i:=i) hx gh
  have mV:(members cnt L (leads cnt L)[i]).Nodup:=List.nodup_range.filter _
  have TM:∀x∈members cnt L (leads cnt L)[i],x<cnt:=fun x hx=>(ny.1 hx).1
  have hMc:(members cnt L (leads cnt L)[i]).length<=cnt:=by
   have:=List.length_filter_le (fun k=>L k==(leads cnt L)[i]) (List.range cnt)
   simpa[members]using this
  generalize members cnt L (leads cnt L)[i]=M at *
  have FU:(M.map eN).length=M.length:=by simp
  (try((repeat(revert N;apply Pn.out));refine wk (tw @c27 (tw @cg0 (tw @c1 (tw @c8 (tw @c9 (tw @Ai (tw @Aj (tw @hi (tw @uT (tw @jT (tw @Dh.eq_1 @FU))))))))))) ?_;(repeat(apply Pn.mk;intro N hN))))
  refine bf (fun n env st=>∃m:Nat,n=(M.length)-m/\m<=(M.length)/\env 34=.int .i64 (m:Int)/\st.get ⟨172002001,σ2.next+1⟩=some ⟨true,1,eo (dB cnt L i m) cnt⟩/\(σ2.next+1<st.next)) (M.length) ⟨0,ah,ah,sl (tw @c27 (tw @cg0 (tw @c1 (tw @c8 (tw @c9 (tw @Ai (tw @Aj @FU))))))),sl (tw @c27 (tw @cg0 (tw @c1 (tw @c8 (tw @c9 (tw @Ai (tw @Aj @FU))))))),bc⟩ ?_
  rintro n_d env_d st_d ⟨m,rfl,dle,d34,dg0,dI0⟩ dfr
  have d1:=dfr 1 (by kernel_rfl);have d8:=dfr 8 (by kernel_rfl);have d9:=dfr 9 (by kernel_rfl);have d10:=dfr 10 (by kernel_rfl);have d25:=dfr 25 (by kernel_rfl);have d26:=dfr 26 (by kernel_rfl);have d27:=dfr 27 (by kernel_rfl);have d32:=dfr 32 (by kernel_rfl);have d33:=dfr 33 (by kernel_rfl)
  simp only[go_sem, ↓reduceIte,Nat.reduceEqDiff,Nat.reduceAdd,Nat.reduceSub,Nat.reduceLeDiff,reduceCtorEq,c27,cg0,c1,c8,c9,Ai,Aj,FU]at d1 d8 d9 d10 d25 d26 d27 d32 d33
  clear dfr
  have tl:=gU (dB cnt L i m) cnt
  by_cases hm:(m:Int)<(M.length:Int)
  ·have xg:∀{e:Env} {gg:Rows} {nx:Nat},(e 34=.int .i64 (IntKind.i64.wrap ((m:Int)+1)))->(gg ⟨172002001,σ2.next+1⟩=some ⟨true,1,eo (dB cnt L i (m+1)) cnt⟩)->(σ2.next+1<nx)->∃m0,m0<(M.length)-m/\∃m:Nat,m0=(M.length)-m/\m<=(M.length)/\e 34=.int .i64 (m:Int)/\gg ⟨172002001,σ2.next+1⟩=some ⟨true,1,eo (dB cnt L i m) cnt⟩/\(σ2.next+1<nx):=fun x1 x2 x3=>⟨_,ah,m+1,rfl,ah,(by rw[x1,aE ah]),x2,x3⟩
   have Cr:m<M.length:=ah
   have uU:(M.map eN)[m]? =some (eN M[m]):=by simp[Cr]
   have y6:=TM _ (List.getElem_mem Cr)
   have F1:(M[m]:Int)<(cnt:Int):=ah
   have FZ:=fZ (f:=dB cnt L i m) y6
   have ew:(eo (dB cnt L i m) cnt).set M[m] (eN i)=eo (dB cnt L i (m+1)) cnt:=rH y6 (by
    have h1:=(ua _ y6).1 (List.getElem_mem Cr)
    rw[mN]
    simp only[]
    rw[if_neg ah,if_pos (by rw[List.take_succ_eq_append_getElem Cr];exact List.mem_append_right _ (List.mem_singleton.2 rfl))]) fun x hx gM=>by
    rw[mN,mN]
    simp only[]
    rw[List.take_succ_eq_append_getElem Cr]
    simp only[List.mem_append,List.mem_singleton,gM,or_false]
   rw[eN]at ew FZ
   generalize M[m]=xm at *
   (try((repeat(revert N;apply Pn.out));refine wk (tw @d34 (tw @dg0 (tw @d1 (tw @d8 (tw @d9 (tw @d10 (tw @d25 (tw @d26 (tw @d27 (tw @d32 (tw @d33 (tw @hm (tw @hi (tw @uU (tw @FU (tw @F1 (tw @FZ (tw @tl (tw @ew @eN.eq_1))))))))))))))))))) ?_;(repeat(apply Pn.mk;intro N hN))))
   refine xg ?_ ?_ bc
   all_goals simp only[go_sem, ↓reduceIte,Nat.reduceEqDiff,Nat.reduceAdd,Nat.reduceSub,Nat.reduceLeDiff,reduceCtorEq,d34,dg0,d1,d8,d9,d10,d25,d26,d27,d32,d33,ew]
  ·have gL:m=M.length:=ah
   subst gL
   have qZ:eo (dB cnt L i M.length) cnt=eo (dB cnt L (i+1) 0) cnt:=iM fun x hx=>by
    rw[mN,List.take_length]
    simp only[dB,List.take_zero,List.not_mem_nil,if_false]
    have h1:=ua x hx
    by_cases h2:cW L x<i
    ·rw[if_pos h2,if_pos ah]
    ·rw[if_neg h2]
     by_cases h3:x∈M
     ·rw[if_pos h3,if_pos (by have:=h1.1 h3;omega),h1.1 h3]
     ·rw[if_neg h3,if_neg fun h4=>h3 (h1.2 ah)]
   (try((repeat(revert N;apply Pn.out));refine wk (tw @d34 (tw @dg0 (tw @d1 (tw @d8 (tw @d9 (tw @d10 (tw @d25 (tw @d26 (tw @d27 (tw @d32 (tw @d33 (tw @hm (tw @hi (tw @uT @FU)))))))))))))) ?_;(repeat(apply Pn.mk;intro N hN))))
   refine ik ?_ ?_ bc
   all_goals simp only[go_sem, ↓reduceIte,Nat.reduceEqDiff,Nat.reduceAdd,Nat.reduceSub,Nat.reduceLeDiff,reduceCtorEq,c27,cg0,c1,c8,c9,Ai,Aj,d34,dg0,d1,d8,d9,d10,d25,d26,d27,d32,d33,qZ]
 have mL:i=(leads cnt L).length:=ah
 subst mL
 have qY:eo (dB cnt L (leads cnt L).length 0) cnt=eo (cW L) cnt:=iM fun x hx=>by rw[dB,if_pos (lq hL hx)]
 rw[qY]at cg0
 have tl:=gU (cW L) cnt
 have YF:(bs.map aL).length=bs.length:=by simp
 (try((repeat(revert N;apply Pn.out));refine wk (tw @c27 (tw @cg0 (tw @c1 (tw @c8 (tw @c9 (tw @Ai (tw @Aj (tw @hi (tw @uT @YF))))))))) ?_;(repeat(apply Pn.mk;intro N hN))))
 have YI:σ2.next+1<st_c.next:=cI0
 refine bf (fun n env st=>∃j:Nat,n=(bs.length)-j/\j<=(bs.length)/\env 46=.int .i64 (j:Int)/\st.get ⟨172002001,σ2.next+1⟩=some ⟨true,1,eo (cW L) cnt⟩/\(st_c.next<=st.next/\((ef L (bs.take j)=[]/\env 14=.bU)∨∃p:Id,env 14=.own p 0 (ef L (bs.take j)).length/\st.get p=some ⟨true,3,(ef L (bs.take j)).map aL⟩/\st_c.next<=p.bG/\p.bG<st.next/\0<(ef L (bs.take j)).length))) (bs.length) ⟨0,ah,ah,sl (tw @c27 (tw @cg0 (tw @c1 (tw @c8 (tw @c9 (tw @Ai (tw @Aj @YF))))))),sl (tw @c27 (tw @cg0 (tw @c1 (tw @c8 (tw @c9 (tw @Ai (tw @Aj @YF))))))),⟨bc,.inl ⟨rfl,by(simp only[go_sem, ↓reduceIte,Nat.reduceEqDiff,Nat.reduceAdd,Nat.reduceSub,Nat.reduceLeDiff,reduceCtorEq])⟩⟩⟩ ?_
 rintro n_f env_f st_f ⟨j,rfl,fle,f46,fg0,fI0⟩ ffr
 have f1:=ffr 1 (by kernel_rfl);have f8:=ffr 8 (by kernel_rfl);have f9:=ffr 9 (by kernel_rfl);have f44:=ffr 44 (by kernel_rfl);have f45:=ffr 45 (by kernel_rfl)
 simp only[go_sem, ↓reduceIte,Nat.reduceEqDiff,Nat.reduceAdd,Nat.reduceSub,Nat.reduceLeDiff,reduceCtorEq,c27,cg0,c1,c8,c9,Ai,Aj,YF]at f1 f8 f9 f44 f45
 clear ffr
 obtain⟨RH,fO⟩:=fI0
 have J1:=db (i:=⟨172002001,σ2.next+1⟩) (n:=st_f.next) bc
 have qw:=(pg L (bs.take j)).1
 rw[List.length_take]at qw
 by_cases hj:(j:Int)<(bs.length:Int)
 ·have uw:∀{e:Env} {gg:Rows} {nx:Nat},(e 46=.int .i64 (IntKind.i64.wrap ((j:Int)+1)))->(gg ⟨172002001,σ2.next+1⟩=some ⟨true,1,eo (cW L) cnt⟩)->(st_c.next<=nx/\((ef L (bs.take (j+1))=[]/\e 14=.bU)∨∃p:Id,e 14=.own p 0 (ef L (bs.take (j+1))).length/\gg p=some ⟨true,3,(ef L (bs.take (j+1))).map aL⟩/\st_c.next<=p.bG/\p.bG<nx/\0<(ef L (bs.take (j+1))).length))->∃m0,m0<(bs.length)-j/\∃j:Nat,m0=(bs.length)-j/\j<=(bs.length)/\e 46=.int .i64 (j:Int)/\gg ⟨172002001,σ2.next+1⟩=some ⟨true,1,eo (cW L) cnt⟩/\(st_c.next<=nx/\((ef L (bs.take j)=[]/\e 14=.bU)∨∃p:Id,e 14=.own p 0 (ef L (bs.take j)).length/\gg p=some ⟨true,3,(ef L (bs.take j)).map aL⟩/\st_c.next<=p.bG/\p.bG<nx/\0<(ef L (bs.take j)).length)):=fun x1 x2 x3=>⟨_,ah,j+1,rfl,ah,(by rw[x1,aE ah]),x2,x3⟩
  have iN:j<bs.length:=ah
  have Co:(bs.map aL)[j]? =some (aL bs[j]):=by simp[iN]
  have PL:=hb _ (List.getElem_mem iN)
  have hs:=CU L (bs.take j) bs[j]
  rw[<-List.take_succ_eq_append_getElem iN]at hs
  generalize bs[j]=b at *
  have hA:=fZ (f:=cW L) PL.1
  have hB:=fZ (f:=cW L) PL.2
  have iq:(b.a:Int)<(cnt:Int):=ah
  have gj:(b.b:Int)<(cnt:Int):=ah
  rw[eN]at hA hB
  have e1:(ef L (bs.take j)).length+1<=16777216:=ah
  have gL:((ef L (bs.take j)).map aL).length=(ef L (bs.take j)).length:=by simp
  by_cases he:cW L b.a=cW L b.b
  ·rw[if_pos he,List.append_nil]at hs
   have th:decide ((cW L b.a:Int)=(cW L b.b:Int))=true:=decide_eq_true (by rw[he])
   (try((repeat(revert N;apply Pn.out));refine wk (tw @f46 (tw @fg0 (tw @f1 (tw @f8 (tw @f9 (tw @f44 (tw @f45 (tw @hj (tw @Co (tw @hA (tw @hB (tw @iq (tw @gj (tw @tl (tw @th (tw @J1 (tw @aL.eq_1 (tw @Bool.not_true @Bool.not_false)))))))))))))))))) ?_;(repeat(apply Pn.mk;intro N hN))))
   refine uw ?_ ?_ (by(try dsimp only);exact⟨ah,by
    rw[hs]
    rcases fO with⟨h1,h2⟩|⟨p,h1,h2,h3,h4,h5⟩
    ·exact .inl ⟨h1,sd @h2⟩
    ·have Dl:=db h4
     exact .inr ⟨p,sd @h1,sd (tw @h2 @Dl),h3,ah,h5⟩⟩)
   all_goals simp only[go_sem, ↓reduceIte,Nat.reduceEqDiff,Nat.reduceAdd,Nat.reduceSub,Nat.reduceLeDiff,reduceCtorEq,f46,fg0,f1,f8,f9,f44,f45,J1]
  ·rw[if_neg he]at hs
   have th:decide ((cW L b.a:Int)=(cW L b.b:Int))=false:=decide_eq_false fun h=>he ah
   rcases fO with⟨h1,f14⟩|⟨p,f14,fg,TW,Iz,hp3⟩
   ·rw[h1]at hs
    (try((repeat(revert N;apply Pn.out));refine wk (tw @f46 (tw @fg0 (tw @f1 (tw @f8 (tw @f9 (tw @f44 (tw @f45 (tw @f14 (tw @hj (tw @Co (tw @hA (tw @hB (tw @iq (tw @gj (tw @tl (tw @th (tw @J1 (tw @aL.eq_1 (tw @Bool.not_true @Bool.not_false))))))))))))))))))) ?_;(repeat(apply Pn.mk;intro N hN))))
    refine uw ?_ ?_ (by(try dsimp only);exact⟨ah,.inr ⟨⟨172017015,st_f.next+1+1+1⟩,by rw[hs];simp only[go_sem, ↓reduceIte,Nat.reduceEqDiff,Nat.reduceAdd,Nat.reduceSub,Nat.reduceLeDiff,reduceCtorEq,List.nil_append,List.length_cons,List.length_nil],by rw[hs];simp only[go_sem, ↓reduceIte,Nat.reduceEqDiff,Nat.reduceAdd,Nat.reduceSub,Nat.reduceLeDiff,reduceCtorEq,aL,List.nil_append,List.map_cons,List.map_nil],bc,bc,by rw[hs];simp⟩⟩)
    all_goals simp only[go_sem, ↓reduceIte,Nat.reduceEqDiff,Nat.reduceAdd,Nat.reduceSub,Nat.reduceLeDiff,reduceCtorEq,f46,fg0,f1,f8,f9,f44,f45,J1]
   ·have x1:=de (a:=⟨172002001,σ2.next+1⟩) (b:=p) bc
    have Dl:=db Iz
    (try((repeat(revert N;apply Pn.out));refine wk (tw @f46 (tw @fg0 (tw @f1 (tw @f8 (tw @f9 (tw @f44 (tw @f45 (tw @f14 (tw @fg (tw @hj (tw @Co (tw @hA (tw @hB (tw @iq (tw @gj (tw @tl (tw @th (tw @x1 (tw @Dl (tw @J1 (tw @e1 (tw @gL (tw @aL.eq_1 (tw @Bool.not_true @Bool.not_false)))))))))))))))))))))))) ?_;(repeat(apply Pn.mk;intro N hN))))
    refine uw ?_ ?_ (by(try dsimp only);exact⟨ah,.inr ⟨⟨172017015,st_f.next+1+1+1⟩,by rw[hs,List.length_append];simp only[go_sem, ↓reduceIte,Nat.reduceEqDiff,Nat.reduceAdd,Nat.reduceSub,Nat.reduceLeDiff,reduceCtorEq,List.length_cons,List.length_nil],by rw[hs,List.map_append,List.map_cons,List.map_nil];simp only[go_sem, ↓reduceIte,Nat.reduceEqDiff,Nat.reduceAdd,Nat.reduceSub,Nat.reduceLeDiff,reduceCtorEq,aL],bc,bc,by rw[hs];simp⟩⟩)
    all_goals simp only[go_sem, ↓reduceIte,Nat.reduceEqDiff,Nat.reduceAdd,Nat.reduceSub,Nat.reduceLeDiff,reduceCtorEq,f46,fg0,f1,f8,f9,f44,f45,x1,J1]
 ·have gZ:j=bs.length:=ah
  subst gZ
  rw[List.take_length]at fO
  rcases fO with⟨h1,f14⟩|⟨p,f14,fg,TW,Iz,hp3⟩
  ·(try((repeat(revert N;apply Pn.out));refine wk (tw @f46 (tw @fg0 (tw @f1 (tw @f8 (tw @f9 (tw @f44 (tw @f45 (tw @f14 (tw @hj @uT))))))))) ?_;(repeat(apply Pn.mk;intro N hN))))
   refine ki (.inl rfl) (r1:=.int .i64 ((leads cnt L).length:Int)) (sd @Nat.zero_add) (by simp only[go_sem, ↓reduceIte,Nat.reduceEqDiff,Nat.reduceAdd,Nat.reduceSub,Nat.reduceLeDiff,reduceCtorEq];rfl) ?_
   simp only[fK,cu,cZ,eL,ma,h1,QX,Option.map_some]
  ·(try((repeat(revert N;apply Pn.out));refine wk (tw @f46 (tw @fg0 (tw @f1 (tw @f8 (tw @f9 (tw @f44 (tw @f45 (tw @f14 (tw @hj @uT))))))))) ?_;(repeat(apply Pn.mk;intro N hN))))
   refine ki (.inl rfl) (r1:=.int .i64 ((leads cnt L).length:Int)) (sd @Nat.zero_add) (by simp only[go_sem, ↓reduceIte,Nat.reduceEqDiff,Nat.reduceAdd,Nat.reduceSub,Nat.reduceLeDiff,reduceCtorEq];rfl) ?_
   have h1:gS st_f.get 5 (.own p 0 (ef L bs).length)=some (.sl ((ef L bs).map aL)):=fH (sz:=3) fg rfl fun b=>xV _ 3 b
   simp only[fK,cu,cZ,eL,h1,CY hp3,Option.map_some]
theorem Al (cnt:Nat) (tn:1<=cnt) (hn:cnt<=1048576) (t:Int):au Tryz.prog 172 [.int .i64 cnt,.bU,.int .i64 t] (.fD [.int .i64 cnt,.bU]):=by
 refine au.body eI rfl fun hl n0=>?_
 clear hl
 have h1:au Tryz.prog 217 [.bU] .bU:=by
  refine au.body eI rfl fun hl n0=>?_
  clear hl
  (try((repeat(revert N;apply Pn.out));refine wk @Nat.zero_add ?_;(repeat(apply Pn.mk;intro N hN))))
  exact zG (.inl rfl) (r0:=.bU) (sd @Nat.zero_add) (ma _ _)
 have h2:au Tryz.prog 216 [.bU,.fn 218 [.dQ [.int .i64 t]]] .bU:=by
  have FX:=(Bj [] t (by simp)).cut mixed (.bU (.same _ .nil))
  refine au.body eI rfl fun hl n0=>?_
  clear hl
  (try((repeat(revert N;apply Pn.out));refine wk @Nat.zero_add ?_;(repeat(apply Pn.mk;intro N hN))))
  refine .inl ⟨_,au.x FX (by simp only[ai,ar,aO,cD,aP,List.all_cons,List.all_nil,AV.cell,Bool.and_true,if_true,Option.map_some]),?_⟩
  apply hN
  clear hN N
  have hd:decide (lE (fun b:PB=>decide (b.s<t)) []= -1)=true:=rfl
  (try((repeat(revert N;apply Pn.out));refine wk @hd ?_;(repeat(apply Pn.mk;intro N hN))))
  exact zG (.inl rfl) (r0:=.bU) (sd @Nat.zero_add) (ma _ _)
 have Ln:=(yU cnt tn hn [] (fun b h=>by cases h) (by simp)).cut mixed (.same _ (.bU .nil))
 (repeat(first|((repeat(revert N;apply Pn.out));refine wk @Nat.zero_add ?_;(repeat(apply Pn.mk;intro N hN)))|((try apply Or.inl);refine⟨_,au.x (h1) (sd @Nat.zero_add),?_⟩;apply hN;clear hN N)))
 refine .inl ⟨_,au.x h2 ?_,?_⟩
 ·have:V.fz (ea (bJ (fun _=>none) ⟨172000000,n0⟩ ⟨true,1,[[.int .i64 t]]⟩)) 5 (.ptr ⟨172000000,n0⟩ 0 0)=some (.dQ [.int .i64 t]):=sI (sz:=1) (rows:=[[.int .i64 t]]) (by simp[ea,bJ]) rfl (by simp only[List.drop_zero,ai,ar,aB,Option.map_some])
  simp only[ai,ar,aO,cD,this,List.all_cons,List.all_nil,AV.cell,Bool.and_true,if_true,Option.map_some]
 apply hN
 clear hN N
 have gj:eT ([]:List PB)=id:=rfl
 rw[gj]at Ln
 have hL:kE id:=gj▸xd ([]:List PB)
 have VH:(leads cnt id).length=cnt:=by rw[leads,List.filter_eq_self.2 (fun a _=>by simp)];simp
 generalize (id:Nat->Nat)=L at *
 have uT:((gm cnt L).map Dh).length=(leads cnt L).length:=by simp[gm]
 have YT:=kN cnt L
 have j6:(0:Int)<=(cnt:Int):=ah
 have pY:(cnt:Int)<=((16777216:Nat):Int):=ah
 have iu:List.replicate cnt [AV.int .i64 0]=eo (dB cnt L 0 0) cnt:=by rw[zU,qz]
 (have zF:=tw @j6 (tw @pY (tw @Int.le_refl (tw @uT @iu)));(repeat(first|((repeat(revert N;apply Pn.out));refine wk zF ?_;(repeat(apply Pn.mk;intro N hN)))|((try apply Or.inl);refine⟨_,au.x (Ln) (sd zF),?_⟩;apply hN;clear hN N)));try clear zF)
 refine bf (fun n env st=>∃i:Nat,n=((leads cnt L).length)-i/\i<=((leads cnt L).length)/\env 27=.int .i64 (i:Int)/\st.get ⟨172002001,n0+1+1⟩=some ⟨true,1,eo (dB cnt L i 0) cnt⟩/\(n0+1+1<st.next)) ((leads cnt L).length) ⟨0,ah,ah,sl (tw @iu @uT),sl (tw @iu @uT),bc⟩ ?_
 rintro n_c env_c st_c ⟨i,rfl,cle,c27,cg0,cI0⟩ jq
 have c1:=jq 1 (by kernel_rfl);have c8:=jq 8 (by kernel_rfl);have c9:=jq 9 (by kernel_rfl);have Ai:=jq 25 (by kernel_rfl);have Aj:=jq 26 (by kernel_rfl)
 simp only[go_sem, ↓reduceIte,Nat.reduceEqDiff,Nat.reduceAdd,Nat.reduceSub,Nat.reduceLeDiff,reduceCtorEq,iu,uT]at c1 c8 c9 Ai Aj
 clear jq
 by_cases hi:(i:Int)<((leads cnt L).length:Int)
 ·have ik:∀{e:Env} {gg:Rows} {nx:Nat},(e 27=.int .i64 (IntKind.i64.wrap ((i:Int)+1)))->(gg ⟨172002001,n0+1+1⟩=some ⟨true,1,eo (dB cnt L (i+1) 0) cnt⟩)->(n0+1+1<nx)->∃m0,m0<((leads cnt L).length)-i/\∃i:Nat,m0=((leads cnt L).length)-i/\i<=((leads cnt L).length)/\e 27=.int .i64 (i:Int)/\gg ⟨172002001,n0+1+1⟩=some ⟨true,1,eo (dB cnt L i 0) cnt⟩/\(n0+1+1<nx):=fun x1 x2 x3=>⟨_,ah,i+1,rfl,ah,(by rw[x1,aE ah]),x2,x3⟩
  have gh:i<(leads cnt L).length:=ah
  have jT:((gm cnt L).map Dh)[i]? =some (Dh (members cnt L (leads cnt L)[i])):=by simp[gm,gh]
  have qW:(leads cnt L).getD i 0=(leads cnt L)[i]:=by simp[List.getD_eq_getElem?_getD,gh]
  have mN:∀m,dB cnt L i m=fun x=>if cW L x<i then cW L x else if x∈(members cnt L (leads cnt L)[i]).take m then i else 0:=fun m=>by unfold dB;rw[qW]
  have ua:=fun x (hx:x<cnt)=>v7 hL (n:=cnt) (k:=x) (i:=i) hx gh
  have mV:(members cnt L (leads cnt L)[i]).Nodup:=List.nodup_range.filter _
  have TM:∀x∈members cnt L (leads cnt L)[i],x<cnt:=fun x hx=>(ny.1 hx).1
  have hMc:(members cnt L (leads cnt L)[i]).length<=cnt:=by
   have:=List.length_filter_le (fun k=>L k==(leads cnt L)[i]) (List.range cnt)
   simpa[members]using this
  generalize members cnt L (leads cnt L)[i]=M at *
  have FU:(M.map eN).length=M.length:=by simp
  (try((repeat(revert N;apply Pn.out));refine wk (tw @c27 (tw @cg0 (tw @c1 (tw @c8 (tw @c9 (tw @Ai (tw @Aj (tw @hi (tw @uT (tw @jT (tw @Dh.eq_1 @FU))))))))))) ?_;(repeat(apply Pn.mk;intro N hN))))
  refine bf (fun n env st=>∃m:Nat,n=(M.length)-m/\m<=(M.length)/\env 34=.int .i64 (m:Int)/\st.get ⟨172002001,n0+1+1⟩=some ⟨true,1,eo (dB cnt L i m) cnt⟩/\(n0+1+1<st.next)) (M.length) ⟨0,ah,ah,sl (tw @c27 (tw @cg0 (tw @c1 (tw @c8 (tw @c9 (tw @Ai (tw @Aj @FU))))))),sl (tw @c27 (tw @cg0 (tw @c1 (tw @c8 (tw @c9 (tw @Ai (tw @Aj @FU))))))),bc⟩ ?_
  rintro n_d env_d st_d ⟨m,rfl,dle,d34,dg0,dI0⟩ dfr
  have d1:=dfr 1 (by kernel_rfl);have d8:=dfr 8 (by kernel_rfl);have d9:=dfr 9 (by kernel_rfl);have d10:=dfr 10 (by kernel_rfl);have d25:=dfr 25 (by kernel_rfl);have d26:=dfr 26 (by kernel_rfl);have d27:=dfr 27 (by kernel_rfl);have d32:=dfr 32 (by kernel_rfl);have d33:=dfr 33 (by kernel_rfl)
  simp only[go_sem, ↓reduceIte,Nat.reduceEqDiff,Nat.reduceAdd,Nat.reduceSub,Nat.reduceLeDiff,reduceCtorEq,c27,cg0,c1,c8,c9,Ai,Aj,FU]at d1 d8 d9 d10 d25 d26 d27 d32 d33
  clear dfr
  have tl:=gU (dB cnt L i m) cnt
  by_cases hm:(m:Int)<(M.length:Int)
  ·have xg:∀{e:Env} {gg:Rows} {nx:Nat},(e 34=.int .i64 (IntKind.i64.wrap ((m:Int)+1)))->(gg ⟨172002001,n0+1+1⟩=some ⟨true,1,eo (dB cnt L i (m+1)) cnt⟩)->(n0+1+1<nx)->∃m0,m0<(M.length)-m/\∃m:Nat,m0=(M.length)-m/\m<=(M.length)/\e 34=.int .i64 (m:Int)/\gg ⟨172002001,n0+1+1⟩=some ⟨true,1,eo (dB cnt L i m) cnt⟩/\(n0+1+1<nx):=fun x1 x2 x3=>⟨_,ah,m+1,rfl,ah,(by rw[x1,aE ah]),x2,x3⟩
   have Cr:m<M.length:=ah
   have uU:(M.map eN)[m]? =some (eN M[m]):=by simp[Cr]
   have y6:=TM _ (List.getElem_mem Cr)
   have F1:(M[m]:Int)<(cnt:Int):=ah
   have FZ:=fZ (f:=dB cnt L i m) y6
   have ew:(eo (dB cnt L i m) cnt).set M[m] (eN i)=eo (dB cnt L i (m+1)) cnt:=rH y6 (by
    have h1:=(ua _ y6).1 (List.getElem_mem Cr)
    rw[mN]
    simp only[]
    rw[if_neg ah,if_pos (by rw[List.take_succ_eq_append_getElem Cr];exact List.mem_append_right _ (List.mem_singleton.2 rfl))]) fun x hx gM=>by
    rw[mN,mN]
    simp only[]
    rw[List.take_succ_eq_append_getElem Cr]
    simp only[List.mem_append,List.mem_singleton,gM,or_false]
   rw[eN]at ew FZ
   generalize M[m]=xm at *
   (try((repeat(revert N;apply Pn.out));refine wk (tw @d34 (tw @dg0 (tw @d1 (tw @d8 (tw @d9 (tw @d10 (tw @d25 (tw @d26 (tw @d27 (tw @d32 (tw @d33 (tw @hm (tw @hi (tw @uU (tw @FU (tw @F1 (tw @FZ (tw @tl (tw @ew @eN.eq_1))))))))))))))))))) ?_;(repeat(apply Pn.mk;intro N hN))))
   refine xg ?_ ?_ bc
   all_goals simp only[go_sem, ↓reduceIte,Nat.reduceEqDiff,Nat.reduceAdd,Nat.reduceSub,Nat.reduceLeDiff,reduceCtorEq,d34,dg0,d1,d8,d9,d10,d25,d26,d27,d32,d33,ew]
  ·have gL:m=M.length:=ah
   subst gL
   have qZ:eo (dB cnt L i M.length) cnt=eo (dB cnt L (i+1) 0) cnt:=iM fun x hx=>by
    rw[mN,List.take_length]
    simp only[dB,List.take_zero,List.not_mem_nil,if_false]
    have h1:=ua x hx
    by_cases h2:cW L x<i
    ·rw[if_pos h2,if_pos ah]
    ·rw[if_neg h2]
     by_cases h3:x∈M
     ·rw[if_pos h3,if_pos (by have:=h1.1 h3;omega),h1.1 h3]
     ·rw[if_neg h3,if_neg fun h4=>h3 (h1.2 ah)]
   (try((repeat(revert N;apply Pn.out));refine wk (tw @d34 (tw @dg0 (tw @d1 (tw @d8 (tw @d9 (tw @d10 (tw @d25 (tw @d26 (tw @d27 (tw @d32 (tw @d33 (tw @hm (tw @hi (tw @uT @FU)))))))))))))) ?_;(repeat(apply Pn.mk;intro N hN))))
   refine ik ?_ ?_ bc
   all_goals simp only[go_sem, ↓reduceIte,Nat.reduceEqDiff,Nat.reduceAdd,Nat.reduceSub,Nat.reduceLeDiff,reduceCtorEq,c27,cg0,c1,c8,c9,Ai,Aj,d34,dg0,d1,d8,d9,d10,d25,d26,d27,d32,d33,qZ]
 have mL:i=(leads cnt L).length:=ah
 subst mL
 have qY:eo (dB cnt L (leads cnt L).length 0) cnt=eo (cW L) cnt:=iM fun x hx=>by rw[dB,if_pos (lq hL hx)]
 rw[qY]at cg0
 have tl:=gU (cW L) cnt
 (try((repeat(revert N;apply Pn.out));refine wk (tw @c27 (tw @cg0 (tw @c1 (tw @c8 (tw @c9 (tw @Ai (tw @Aj (tw @hi @uT)))))))) ?_;(repeat(apply Pn.mk;intro N hN))))
 refine bf (fun n env st=>∃j:Nat,n=(0)-j/\j<=(0)/\env 46=.int .i64 (j:Int)/\env 14=.bU) (0) ⟨0,ah,ah,sl (tw @c27 (tw @cg0 (tw @c1 (tw @c8 (tw @c9 (tw @Ai @Aj)))))),sl (tw @c27 (tw @cg0 (tw @c1 (tw @c8 (tw @c9 (tw @Ai @Aj))))))⟩ ?_
 rintro n_f env_f st_f ⟨j,rfl,fle,f46,f14⟩ ffr
 have f8:=ffr 8 (by kernel_rfl);have f44:=ffr 44 (by kernel_rfl);have f45:=ffr 45 (by kernel_rfl)
 simp only[go_sem, ↓reduceIte,Nat.reduceEqDiff,Nat.reduceAdd,Nat.reduceSub,Nat.reduceLeDiff,reduceCtorEq,c27,cg0,c1,c8,c9,Ai,Aj]at f8 f44 f45
 clear ffr
 have hj:¬(j:Int)<((0:Nat):Int):=ah
 (try((repeat(revert N;apply Pn.out));refine wk (tw @f46 (tw @f14 (tw @f8 (tw @f44 (tw @f45 (tw @hj @uT)))))) ?_;(repeat(apply Pn.mk;intro N hN))))
 refine ki (.inl rfl) (r1:=.int .i64 ((leads cnt L).length:Int)) (r2:=.bU) (sd @Nat.zero_add) (sd @Nat.zero_add) ?_
 simp only[fK,cu,cZ,eL,ma,VH,Option.map_some]
theorem Ca (cnt:Nat) (tn:1<=cnt) (hn:cnt<=1048576) (bs:List PB) (hb:∀b∈bs,b.a<cnt/\b.b<cnt) (oV:bs.length<=1048576) (t:Int):au Tryz.prog 172 [.int .i64 cnt,CX bs,.int .i64 t] (.fD [.int .i64 (leads cnt (eT (bh t bs))).length,CX (ef (eT (bh t bs)) bs)]):=by
 cases bs with
 |nil=>
  have h:=Al cnt tn hn t
  have VH:(leads cnt (eT (bh t []))).length=cnt:=by
   show(leads cnt id).length=cnt
   rw[leads,List.filter_eq_self.2 (fun a _=>by simp)];simp
  rw[VH]
  exact h
 |cons b r=>
  rw[CY (by simp)]
  exact Am cnt tn hn (b::r) hb (by simp) oV t
end Go.Proofs.YtainmfbpilopaaaGreatDoor.V

namespace Go.Proofs.YtainmfbpilopaaaGreatDoor.V
open Go.RowKit
attribute [local irreducible] dW wpOps fu Call
attribute [local go_sem] I5
section
attribute [-go_sem] dn
theorem QA (n:Nat) (hn:n<=1048576):au Tryz.prog 314 [.int .u64 1,.int .u64 n] (.fD [.int .u64 0,.int .u64 n]):=by
 refine au.body eI rfl fun hl n0=>?_
 clear hl
 have b1:(BitVec.ofInt 64 (n:Int)&&& BitVec.ofInt 64 4294967295).toNat=n:=by
  rw[BitVec.toNat_and]
  have e1:(BitVec.ofInt 64 (n:Int)).toNat=n:=by rw[BitVec.toNat_ofInt];omega
  have e2:(BitVec.ofInt 64 4294967295).toNat=2 ^ 32-1:=by decide
  rw[e1,e2]
  exact Nat.and_two_pow_sub_one_of_lt_two_pow ah
 have zn:IntKind.u64.wrap (n:Int)=n:=by rw[IntKind.wrap_u64];omega
 have i1:dn .and .u64 (n:Int) 4294967295=some (.int .u64 n):=by
  show some (AV.int .u64 (IntKind.u64.wrap (((BitVec.ofInt 64 (n:Int)&&& BitVec.ofInt 64 4294967295).toNat:Nat):Int)))= _
  rw[b1,zn]
 have i2:dn .and .u64 1 4294967295=some (.int .u64 1):=rfl
 have i3:dn .and .u64 0 4294967295=some (.int .u64 0):=rfl
 have i4:dn .mul .u64 1 (n:Int)=some (.int .u64 n):=by simp only[dn,Int.one_mul,zn]
 have i5:dn .mul .u64 0 (n:Int)=some (.int .u64 0):=by simp only[dn,Int.zero_mul];rfl
 have i6:dn .mul .u64 1 0=some (.int .u64 0):=rfl
 have i7:dn .mul .u64 0 0=some (.int .u64 0):=rfl
 have i8:dn .add .u64 0 0=some (.int .u64 0):=rfl
 have a3:Int.fdiv 1 (2 ^ min 32 64)=0:=by decide
 have a4:Int.fdiv (n:Int) (2 ^ min 32 64)=0:=by
  rw[Int.fdiv_eq_ediv_of_nonneg _ (by decide)]
  have h32:(2:Int) ^ min 32 64=4294967296:=by decide
  exact Int.ediv_eq_zero_of_lt ah ah
 have z1:Int.fdiv 0 (2 ^ min 32 64)=0:=by decide
 (try((repeat(revert N;apply Pn.out));refine wk (tw @i1 (tw @i2 (tw @i3 (tw @i4 (tw @i5 (tw @i6 (tw @i7 (tw @i8 (tw @a3 (tw @a4 @z1)))))))))) ?_;(repeat(apply Pn.mk;intro N hN))))
 refine ki (.inl rfl) (r1:=.int .u64 0) (r2:=.int .u64 n) (sd @Nat.zero_add) (sd @Nat.zero_add) ?_
 simp only[fK,cu,cZ,eL,Option.map_some]
end
theorem XJ (n:Nat) (hn:n<=1048576):au Tryz.prog 306 [.int .u64 1,.int .u64 n] (.fD [.int .u64 0,.int .u64 n]):=by
 refine au.body eI rfl fun hl n0=>?_
 clear hl
 have h:=QA n hn
 (repeat(first|((repeat(revert N;apply Pn.out));refine wk @Nat.zero_add ?_;(repeat(apply Pn.mk;intro N hN)))|((try apply Or.inl);refine⟨_,au.x (h) (sd @Nat.zero_add),?_⟩;apply hN;clear hN N)))
 refine ki (.inl rfl) (r1:=.int .u64 0) (r2:=.int .u64 n) (sd @Nat.zero_add) (sd @Nat.zero_add) ?_
 simp only[fK,cu,cZ,eL,Option.map_some]
theorem N1 (cnt:Nat) (tn:1<=cnt) (hn:cnt<=1048576) (v:Int) (x:Id) (σ:aw) (hx:σ.get x=some ⟨true,1,[[.int .i64 v]]⟩) (Ug:x.bG<σ.next):
  Call Tryz.prog 283 [.own x 0 1,.int .i64 cnt] σ fun r σ'=>∃o:Id,r=.own o 0 cnt/\σ'.get o=some ⟨true,1,List.replicate cnt [.int .i64 v]⟩/\σ.next<=o.bG/\o.bG<σ'.next/\∀i:Id,i.bG<σ.next->σ'.get i=σ.get i:=by
 refine eB eI rfl fun hl=>?_
 clear hl
 have h:=XJ cnt hn
 have w1:IntKind.u64.wrap (cnt:Int)=cnt:=by rw[IntKind.wrap_u64];omega
 have w2:IntKind.i64.wrap (cnt:Int)=cnt:=OJ ah
 have w0:IntKind.u64.wrap ((1:Nat):Int)=1:=by decide
 have g1:¬(cnt:Int)<0:=ah
 have g2:¬(9223372036854775807:Int)<cnt:=ah
 have j6:(0:Int)<=(cnt:Int):=ah
 have pY:(cnt:Int)<=((16777216:Nat):Int):=ah
 have VR:=db Ug
 have uV:(List.replicate cnt [AV.int .i64 0]).length=cnt:=List.length_replicate
 have m1:min 1 cnt=1:=ah
 (have zF:=tw @w0 (tw @w1 (tw @w2 (tw @g1 (tw @g2 (tw @j6 (tw @pY (tw @Int.le_refl (tw @Nat.le_refl (tw @hx (tw @VR (tw @uV @m1)))))))))));(repeat(first|((repeat(revert N;apply Pn.out));refine wk zF ?_;(repeat(apply Pn.mk;intro N hN)))|((try apply Or.inl);refine⟨_,au.x (h) (sd zF),?_⟩;apply hN;clear hN N)));try clear zF)
 refine bf (fun m env st=>∃k:Nat,m=cnt-k/\1<=k/\k<=cnt/\env 8=.int .i64 (k:Int)/\st.get ⟨283006002,σ.next+1+1+1+1⟩=some ⟨true,1,List.replicate k [.int .i64 v]++List.replicate (cnt-k) [.int .i64 0]⟩/\σ.next+4<st.next/\∀i:Id,i.bG<σ.next->st.get i=σ.get i) (cnt-1) ⟨1,rfl,Nat.le_refl _,tn,by(simp only[go_sem, ↓reduceIte,Nat.reduceEqDiff,Nat.reduceAdd,Nat.reduceSub,Nat.reduceLeDiff,reduceCtorEq,m1])<;>rfl,?_,bc,fun i hi=>?_⟩ ?_
 ·simp only[go_sem, ↓reduceIte,Nat.reduceEqDiff,Nat.reduceAdd,Nat.reduceSub,Nat.reduceLeDiff,reduceCtorEq]
  rw[List.drop_replicate];rfl
 ·have GX:=db hi
  simp only[go_sem, ↓reduceIte,Nat.reduceEqDiff,Nat.reduceAdd,Nat.reduceSub,Nat.reduceLeDiff,reduceCtorEq,GX]
 rintro m env_b st_b ⟨k,rfl,tk,vJ,b8,bg,bn,fh⟩ bkp
 have b7:=bkp 7 (by kernel_rfl)
 simp only[go_sem, ↓reduceIte,Nat.reduceEqDiff,Nat.reduceAdd,Nat.reduceSub,Nat.reduceLeDiff,reduceCtorEq]at b7
 clear bkp
 have Xo:(List.replicate k [AV.int .i64 v]++List.replicate (cnt-k) [AV.int .i64 0]).length=cnt:=by simp;omega
 by_cases hk:(k:Int)<(cnt:Int)
 ·have fC:k<cnt:=ah
  have z7:(k:Int)<=(cnt:Int):=ah
  have hw:IntKind.i64.wrap ((k:Int)+((min k (cnt-k):Nat):Int))=((k+min k (cnt-k):Nat):Int):=by rw[cq ah];omega
  have nu:List.take k (List.replicate k [AV.int .i64 v]++List.replicate (cnt-k) [AV.int .i64 0])=List.replicate k [AV.int .i64 v]:=List.take_left' (by simp)
  have ep:(List.replicate k [AV.int .i64 v]).all (fun c=>c.length==1&&c.all AV.cell)=true:=List.all_eq_true.2 fun c hc=>by rw[List.eq_of_mem_replicate hc];rfl
  have hlr:(List.replicate k [AV.int .i64 v]).length=k:=List.length_replicate
  have Ua:k+(cnt-k)=cnt:=ah
  have rS:List.replicate k [AV.int .i64 v]++List.take (min k (cnt-k)) (List.replicate k [AV.int .i64 v])++List.drop (k+min k (cnt-k)) (List.replicate k [AV.int .i64 v]++List.replicate (cnt-k) [AV.int .i64 0])=List.replicate (k+min k (cnt-k)) [AV.int .i64 v]++List.replicate (cnt-(k+min k (cnt-k))) [AV.int .i64 0]:=by
   rw[List.take_replicate,List.drop_append,List.drop_of_length_le (by simp),List.nil_append,hlr,List.drop_replicate,List.replicate_append_replicate]
   congr 2
   ·omega
   ·omega
  (try((repeat(revert N;apply Pn.out));refine wk (tw @b7 (tw @b8 (tw @bg (tw @Xo (tw @hk (tw @z7 (tw @vJ (tw @hw (tw @fC (tw @Nat.sub_zero (tw @nu (tw @ep (tw @hlr (tw @Ua (tw @Nat.le_refl @rS))))))))))))))) ?_;(repeat(apply Pn.mk;intro N hN))))
  refine⟨_,?_,k+min k (cnt-k),rfl,ah,ah,sd @hw,sd @rS,bc,fun i hi=>?_⟩
  ·omega
  ·have GX:=db hi
   have:=fh i hi
   simp only[go_sem, ↓reduceIte,Nat.reduceEqDiff,Nat.reduceAdd,Nat.reduceSub,Nat.reduceLeDiff,reduceCtorEq,GX,this]
 ·have lN:k=cnt:=ah
  subst lN
  (try((repeat(revert N;apply Pn.out));refine wk (tw @b7 (tw @b8 (tw @bg (tw @Xo @hk)))) ?_;(repeat(apply Pn.mk;intro N hN))))
  refine er (.inl rfl) (vs:=[.own ⟨283006002,σ.next+1+1+1+1⟩ 0 k]) (sd @Nat.zero_add) ⟨⟨283006002,σ.next+1+1+1+1⟩,rfl,by simp only[go_sem, ↓reduceIte,Nat.reduceEqDiff,Nat.reduceAdd,Nat.reduceSub,Nat.reduceLeDiff,reduceCtorEq,bg];simp,bc,bc,fun i hi=>fh i hi⟩
end Go.Proofs.YtainmfbpilopaaaGreatDoor.V

namespace Go.Proofs.YtainmfbpilopaaaGreatDoor.V
open Go.RowKit
attribute [local irreducible] dW wpOps fu Call
def mE (R:Nat->Id) (n k:Nat):List (List AV):=(List.range k).map fun i=>[.own (R i) 0 n]
theorem lu (R:Nat->Id) (n k:Nat):(mE R n k).length=k:=by simp[mE]
theorem uL {R:Nat->Id} {n k i:Nat} (h:i<k):(mE R n k)[i]? =some [.own (R i) 0 n]:=by simp[mE,h]
theorem wC (R:Nat->Id) (n k:Nat):mE R n (k+1)=mE R n k++[[.own (R k) 0 n]]:=by simp[mE,List.range_succ]
def AG (c:Nat->Nat->Int) (n:Nat):List (List AV):=(List.range n).map fun i=>[.sl (eG (c i) n)]
theorem FC {c:Nat->Nat->Int} {n i:Nat} (h:i<n):(AG c n)[i]? =some [.sl (eG (c i) n)]:=by simp[AG,h]
theorem zS (c:Nat->Nat->Int) (n:Nat):(AG c n).length=n:=by simp[AG]
structure Jd (X o1 o2:Id) (R1 R2:Nat->Id) (n nb:Nat):Prop where
 sx:X.site=220001001
 s1:o1.site=220004008
 s2:o2.site=220005008
 Zf:∀i,i<n->(R1 i).site=220004006
 Sa:∀i,i<n->(R2 i).site=220005006
 i1:∀i j,i<n->j<n->R1 i=R1 j->i=j
 i2:∀i j,i<n->j<n->R2 i=R2 j->i=j
 vx:X.bG<nb
 v1:o1.bG<nb
 v2:o2.bG<nb
 vr1:∀i,i<n->(R1 i).bG<nb
 X7:∀i,i<n->(R2 i).bG<nb
structure p7 (g:Rows) (X o1 o2:Id) (R1 R2:Nat->Id) (n:Nat) (c f:Nat->Nat->Int):Prop where
 x:g X=some ⟨true,2,[[.own o1 0 n,.own o2 0 n]]⟩
 t1:g o1=some ⟨true,1,mE R1 n n⟩
 t2:g o2=some ⟨true,1,mE R2 n n⟩
 r1:∀i,i<n->g (R1 i)=some ⟨true,1,eG (c i) n⟩
 r2:∀i,i<n->g (R2 i)=some ⟨true,1,eG (f i) n⟩
theorem qe {f:Nat->Nat->Int} {a b:Nat} {d:Int} {n:Nat} (hb:b<n):(eG (f a) n).set b (aC (f a b+d))=eG (bump f a b d a) n:=mH hb (by simp[bump]) fun i _ hi=>by simp[bump,hi]
theorem lj {f:Nat->Nat->Int} {a b i:Nat} {d:Int} (h:i≠a):bump f a b d i=f i:=by funext v;simp[bump,h]
theorem p7.add {g g':Rows} {X o1 o2:Id} {R1 R2:Nat->Id} {n nb:Nat} {c f:Nat->Nat->Int} (I:Jd X o1 o2 R1 R2 n nb) (h:p7 g X o1 o2 R1 R2 n c f) (b:PB) (ha:b.a<n) (hb:b.b<n) (hA:b.a≠b.b->g' (R1 b.a)=some ⟨true,1,eG (bump c b.a b.b b.s b.a) n⟩) (hB:g' (R1 b.b)=some ⟨true,1,eG (pO c b b.b) n⟩) (hf:∀i:Id,i.bG<nb->(i=R1 b.a)=False->(i=R1 b.b)=False->g' i=g i):p7 g' X o1 o2 R1 R2 n (pO c b) f:=by
 have ne:∀{i:Id} {s:Nat},i.site=s->(s==220004006)=false->∀a,a<n->(i=R1 a)=False:=fun {i s} hi hs a ha=>by
  simp only[eq_iff_iff,iff_false]
  rintro rfl
  rw[I.Zf a ha]at hi
  subst hi
  simp at hs
 refine⟨(hf _ I.vx (ne I.sx (by decide) _ ha) (ne I.sx (by decide) _ hb)).trans h.x,(hf _ I.v1 (ne I.s1 (by decide) _ ha) (ne I.s1 (by decide) _ hb)).trans h.t1,(hf _ I.v2 (ne I.s2 (by decide) _ ha) (ne I.s2 (by decide) _ hb)).trans h.t2,fun i hi=>?_,fun i hi=>(hf _ (I.X7 i hi) (ne (I.Sa i hi) (by decide) _ ha) (ne (I.Sa i hi) (by decide) _ hb)).trans (h.r2 i hi)⟩
 by_cases OV:i=b.b
 ·subst OV;exact hB
 ·by_cases OU:i=b.a
  ·subst OU
   rw[hA OV,pO,lj OV]
  ·rw[pO,lj OV,lj OU,hf _ (I.vr1 i hi) (by simp only[eq_iff_iff,iff_false];exact fun he=>OU (I.i1 i _ hi ha he)) (by simp only[eq_iff_iff,iff_false];exact fun he=>OV (I.i1 i _ hi hb he))]
   exact h.r1 i hi
def np (n:Nat) (c f:Nat->Nat->Int):List AV:=[.sl (AG c n),.sl (AG f n)]
theorem IZ {g:Rows} {R:Nat->Id} {n k:Nat} {c:Nat->Nat->Int} (h:∀i,i<k->g (R i)=some ⟨true,1,eG (c i) n⟩) (m:Nat):eJ (ea g) (m+3) (mE R n k)=some ((List.range k).map fun i=>[.sl (eG (c i) n)]):=by
 induction k with
 |zero=>rw[show mE R n 0=[]from rfl,eJ];rfl
 |succ k ih=>
  have e1:V.fz (ea g) (m+3) (.own (R k) 0 n)=some (.sl (eG (c k) n)):=by
   rw[jb];simp only[ea,h k ah,Option.map_some,if_true]
   rw[if_pos (by rw[ek];omega),List.drop_zero,List.take_of_length_le (by rw[ek];omega),C4];rfl
  have app:∀(xs ys:List (List AV)) (Zi Yl:List (List AV)),eJ (ea g) (m+3) xs=some Zi->eJ (ea g) (m+3) ys=some Yl->eJ (ea g) (m+3) (xs++ys)=some (Zi++Yl):=by
   intro xs
   induction xs with
   |nil=>intro ys Zi Yl h1 h2;rw[eJ]at h1;cases h1;exact h2
   |cons a xs ih2=>
    intro ys Zi Yl h1 h2
    rw[eJ]at h1
    rw[List.cons_append,eJ]
    cases ha:dx (ea g) (m+3) a with
    |none=>simp[ha]at h1
    |some a'=>
     cases hb:eJ (ea g) (m+3) xs with
     |none=>simp[ha,hb]at h1
     |some b'=>
      simp[ha,hb]at h1
      subst h1
      rw[ih2 ys b' Yl hb h2];rfl
  rw[wC,List.range_succ,List.map_append]
  refine app _ _ _ _ (ih fun i hi=>h i ah) ?_
  rw[eJ,ai,ar,e1,eJ];rfl
theorem p7.fz {g:Rows} {X o1 o2:Id} {R1 R2:Nat->Id} {n:Nat} {c f:Nat->Nat->Int} (h:p7 g X o1 o2 R1 R2 n c f):V.fz (ea g) 6 (.ptr X 0 0)=some (.dQ (np n c f)):=by
 refine sI (sz:=2) (rows:=[[.own o1 0 n,.own o2 0 n]]) (by simp[ea,h.x]) rfl ?_
 have e1:V.fz (ea g) 5 (.own o1 0 n)=some (.sl (AG c n)):=by
  rw[jb];simp only[ea,h.t1,Option.map_some,if_true]
  rw[if_pos (by rw[lu];omega),List.drop_zero,List.take_of_length_le (by rw[lu];omega)]
  rw[show eJ _ 4 _=some (AG c n)from IZ h.r1 1];rfl
 have e2:V.fz (ea g) 5 (.own o2 0 n)=some (.sl (AG f n)):=by
  rw[jb];simp only[ea,h.t2,Option.map_some,if_true]
  rw[if_pos (by rw[lu];omega),List.drop_zero,List.take_of_length_le (by rw[lu];omega)]
  rw[show eJ _ 4 _=some (AG f n)from IZ h.r2 1];rfl
 simp only[List.drop_zero,ai,ar,e1,e2,np,Option.map_some]
theorem SZ (n:Nat) (c f:Nat->Nat->Int) (u v:Nat) (hu:u<n) (hv:v<n):au Tryz.prog 284 [.dQ (np n c f),.int .i64 u,.int .i64 v] (.bool (decide (f u v<c u v))):=by
 refine au.body eI rfl fun hl n0=>?_
 clear hl
 have h1:=FC (c:=c) hu
 have h2:=FC (c:=f) hu
 have h3:=eC (f:=c u) hv
 have h4:=eC (f:=f u) hv
 have hui:(u:Int)<(n:Int):=ah
 have GX:(v:Int)<(n:Int):=ah
 have l1:=zS c n
 have l2:=zS f n
 have l3:=ek (c u) n
 have l4:=ek (f u) n
 rw[aC]at h3 h4
 (try((repeat(revert N;apply Pn.out));refine wk (tw @np.eq_1 (tw @h1 (tw @h2 (tw @h3 (tw @h4 (tw @hui (tw @GX (tw @l1 (tw @l2 (tw @l3 @l4)))))))))) ?_;(repeat(apply Pn.mk;intro N hN))))
 exact bQ (b:=decide (f u v<c u v)) (.inl rfl) (sd @Nat.zero_add) rfl
theorem K2 (n:Nat):List.replicate n [AV.int .i64 0]=eG (fun _=>0) n:=by
 refine List.ext_getElem? fun i=>?_
 by_cases h:i<n
 ·rw[eC h,List.getElem?_replicate,if_pos h];rfl
 ·rw[List.getElem?_eq_none (by simp;omega),List.getElem?_eq_none (by rw[ek];omega)]
theorem C0 {i j:Id} {s t:Nat} (hi:i.site=s) (hj:j.site=t) (h:(s==t)=false):(i=j)=False/\(j=i)=False:=by
 constructor<;>(simp only[eq_iff_iff,iff_false];rintro rfl;rw[hi]at hj;subst hj;simp at h)
theorem Fc (cnt:Nat) (tn:1<=cnt) (hn:cnt<=1048576) (bs:List PB) (hb:∀b∈bs,b.a<cnt/\b.b<cnt) (dZ:∀b∈bs,0<=b.s/\b.s<=4) (oV:bs.length<=1048576) (σ:aw):
  Call Tryz.prog 220 [.int .i64 cnt,.sl (bs.map aL)] σ fun r σ'=>∃X o1 o2 R1 R2,r=.ptr X 0 0/\Jd X o1 o2 R1 R2 cnt σ'.next/\σ.next<=σ'.next/\p7 σ'.get X o1 o2 R1 R2 cnt (mz bs) (fun _ _=>0)/\∀i:Id,i.bG<σ.next->σ'.get i=σ.get i:=by
 refine eB eI rfl fun hl=>?_
 clear hl
 (try((repeat(revert N;apply Pn.out));refine wk @Nat.zero_add ?_;(repeat(apply Pn.mk;intro N hN))))
 obtain⟨X,hX⟩:∃X:Id,X=⟨220001001,σ.next+1⟩:=⟨_,rfl⟩
 obtain⟨R1,hR1⟩:∃R:Nat->Id,R=fun k=>⟨220004006,σ.next+3+4*k+1⟩:=⟨_,rfl⟩
 obtain⟨R2,WI⟩:∃R:Nat->Id,R=fun k=>⟨220005006,σ.next+3+4*k+2⟩:=⟨_,rfl⟩
 have sX:X.site=220001001:=by rw[hX]
 have vX:X.bG=σ.next+1:=by rw[hX]
 have s1:∀k,(R1 k).site=220004006:=fun k=>by rw[hR1]
 have s2:∀k,(R2 k).site=220005006:=fun k=>by rw[WI]
 have v1:∀k,(R1 k).bG=σ.next+3+4*k+1:=fun k=>by rw[hR1]
 have v2:∀k,(R2 k).bG=σ.next+3+4*k+2:=fun k=>by rw[WI]
 have j6:(0:Int)<=(cnt:Int):=ah
 have pY:(cnt:Int)<=((16777216:Nat):Int):=ah
 have hz:=K2 cnt
 have t1:mE R1 cnt 0=[]:=rfl
 have t2:mE R2 cnt 0=[]:=rfl
 refine bf (fun n env st=>∃k:Nat,n=(cnt)-k/\k<=(cnt)/\env 11=.int .i64 (k:Int)/\env 5=(.ptr X 0 0)/\(st.next=σ.next+3+4*k/\(∀i:Id,i.bG<σ.next->st.get i=σ.get i)/\∀j,j<k->st.get (R1 j)=some ⟨true,1,eG (fun _=>0) cnt⟩/\st.get (R2 j)=some ⟨true,1,eG (fun _=>0) cnt⟩)/\((k=0/\st.get X=some ⟨true,2,[[.bU,.bU]]⟩)∨∃o1 o2:Id,o1.site=220004008/\o2.site=220005008/\o1.bG<st.next/\o2.bG<st.next/\σ.next<=o1.bG/\σ.next<=o2.bG/\st.get X=some ⟨true,2,[[.own o1 0 k,.own o2 0 k]]⟩/\st.get o1=some ⟨true,1,mE R1 cnt k⟩/\st.get o2=some ⟨true,1,mE R2 cnt k⟩)) (cnt) ⟨0,ah,ah,sl @hX,sl @hX,⟨rfl,fun i hi=>by(have GX:=db hi);simp only[go_sem, ↓reduceIte,Nat.reduceEqDiff,Nat.reduceAdd,Nat.reduceSub,Nat.reduceLeDiff,reduceCtorEq,GX],fun j hj=>absurd hj (Nat.not_lt_zero j)⟩,.inl ⟨rfl,by rw[hX];simp only[go_sem, ↓reduceIte,Nat.reduceEqDiff,Nat.reduceAdd,Nat.reduceSub,Nat.reduceLeDiff,reduceCtorEq]⟩⟩ ?_
 rintro n_a env_a st_a ⟨k,rfl,ale,a11,a5,kz,aI1⟩ dX
 have a0:=dX 0 (by kernel_rfl);have a1:=dX 1 (by kernel_rfl);have Ah:=dX 10 (by kernel_rfl)
 simp only[go_sem, ↓reduceIte,Nat.reduceEqDiff,Nat.reduceAdd,Nat.reduceSub,Nat.reduceLeDiff,reduceCtorEq,hX]at a0 a1 Ah
 clear dX
 obtain⟨anx,dX,aR⟩:=kz
 have wX:=db (i:=X) (n:=st_a.next) ah
 by_cases hk:(k:Int)<(cnt:Int)
 ·have cV:∀{e:Env} {gg:Rows} {nx:Nat},(e 11=.int .i64 (IntKind.i64.wrap ((k:Int)+1)))->(e 5=(.ptr X 0 0))->(nx=σ.next+3+4*(k+1)/\(∀i:Id,i.bG<σ.next->gg i=σ.get i)/\∀j,j<(k+1)->gg (R1 j)=some ⟨true,1,eG (fun _=>0) cnt⟩/\gg (R2 j)=some ⟨true,1,eG (fun _=>0) cnt⟩)->(((k+1)=0/\gg X=some ⟨true,2,[[.bU,.bU]]⟩)∨∃o1 o2:Id,o1.site=220004008/\o2.site=220005008/\o1.bG<nx/\o2.bG<nx/\σ.next<=o1.bG/\σ.next<=o2.bG/\gg X=some ⟨true,2,[[.own o1 0 (k+1),.own o2 0 (k+1)]]⟩/\gg o1=some ⟨true,1,mE R1 cnt (k+1)⟩/\gg o2=some ⟨true,1,mE R2 cnt (k+1)⟩)->∃m0,m0<(cnt)-k/\∃k:Nat,m0=(cnt)-k/\k<=(cnt)/\e 11=.int .i64 (k:Int)/\e 5=(.ptr X 0 0)/\(nx=σ.next+3+4*k/\(∀i:Id,i.bG<σ.next->gg i=σ.get i)/\∀j,j<k->gg (R1 j)=some ⟨true,1,eG (fun _=>0) cnt⟩/\gg (R2 j)=some ⟨true,1,eG (fun _=>0) cnt⟩)/\((k=0/\gg X=some ⟨true,2,[[.bU,.bU]]⟩)∨∃o1 o2:Id,o1.site=220004008/\o2.site=220005008/\o1.bG<nx/\o2.bG<nx/\σ.next<=o1.bG/\σ.next<=o2.bG/\gg X=some ⟨true,2,[[.own o1 0 k,.own o2 0 k]]⟩/\gg o1=some ⟨true,1,mE R1 cnt k⟩/\gg o2=some ⟨true,1,mE R2 cnt k⟩):=fun x1 x2 x3 x4=>⟨_,ah,k+1,rfl,ah,(by rw[x1,aE ah]),x2,x3,x4⟩
  have fC:k<cnt:=ah
  have tk:R1 k=⟨220004006,st_a.next+1⟩:=by rw[hR1,anx]
  have vJ:R2 k=⟨220005006,st_a.next+1+1⟩:=by rw[WI,anx]
  have Dk:mE R1 cnt (k+1)=mE R1 cnt k++[[.own ⟨220004006,st_a.next+1⟩ 0 cnt]]:=by rw[wC,tk]
  have VP:mE R2 cnt (k+1)=mE R2 cnt k++[[.own ⟨220005006,st_a.next+1+1⟩ 0 cnt]]:=by rw[wC,vJ]
  rcases aI1 with⟨rfl,Wa⟩|⟨o1,o2,so1,so2,vo1,vo2,vn1,vn2,Wa,ag1,ag2⟩
  ·(try((repeat(revert N;apply Pn.out));refine wk (tw @a11 (tw @a5 (tw @a0 (tw @a1 (tw @Ah (tw @hk (tw @wX (tw @Wa (tw @j6 (tw @pY (tw @Int.le_refl @hz))))))))))) ?_;(repeat(apply Pn.mk;intro N hN))))
   refine cV ?_ ?_ (by
    (try dsimp only)
    refine⟨ah,fun i hi=>?_,fun j hj=>?_⟩
    ·have q1:=db (i:=i) (n:=st_a.next) ah
     have q2:=de (a:=i) (b:=X) ah
     have:=dX i hi
     simp only[go_sem, ↓reduceIte,Nat.reduceEqDiff,Nat.reduceAdd,Nat.reduceSub,Nat.reduceLeDiff,reduceCtorEq,q1,q2,this]
    ·by_cases Bg:j=0
     ·subst Bg
      rw[tk,vJ]
      have q1:=il sX (b:=220004006) (v:=st_a.next+1) (by decide)
      have q2:=il sX (b:=220005006) (v:=st_a.next+1+1) (by decide)
      simp only[go_sem, ↓reduceIte,Nat.reduceEqDiff,Nat.reduceAdd,Nat.reduceSub,Nat.reduceLeDiff,reduceCtorEq,q1,q2]
     ·obtain⟨r1,r2⟩:=aR j ah
      have q1:=db (i:=R1 j) (n:=st_a.next) (by rw[v1];omega)
      have q2:=db (i:=R2 j) (n:=st_a.next) (by rw[v2];omega)
      have q3:=C0 (s1 j) sX (by decide)
      have q4:=C0 (s2 j) sX (by decide)
      constructor
      ·simp only[go_sem, ↓reduceIte,Nat.reduceEqDiff,Nat.reduceAdd,Nat.reduceSub,Nat.reduceLeDiff,reduceCtorEq,q1,q3,r1]
      ·simp only[go_sem, ↓reduceIte,Nat.reduceEqDiff,Nat.reduceAdd,Nat.reduceSub,Nat.reduceLeDiff,reduceCtorEq,q2,q4,r2]) (.inr ⟨⟨220004008,st_a.next+1⟩,⟨220005008,st_a.next+1+1⟩,rfl,rfl,bc,bc,bc,bc,sd @wX,by rw[Dk,t1];simp only[go_sem, ↓reduceIte,Nat.reduceEqDiff,Nat.reduceAdd,Nat.reduceSub,Nat.reduceLeDiff,reduceCtorEq,wX,List.nil_append],by rw[VP,t2];simp only[go_sem, ↓reduceIte,Nat.reduceEqDiff,Nat.reduceAdd,Nat.reduceSub,Nat.reduceLeDiff,reduceCtorEq,wX,List.nil_append]⟩)
   all_goals simp only[go_sem, ↓reduceIte,Nat.reduceEqDiff,Nat.reduceAdd,Nat.reduceSub,Nat.reduceLeDiff,reduceCtorEq,a11,a5,a0,a1,Ah,wX]
  ·have l1:=lu R1 cnt k
   have l2:=lu R2 cnt k
   have e1:k+1<=16777216:=ah
   have w1:=db vo1
   have w2:=db vo2
   have x1:=C0 sX so1 (by decide)
   have x2:=C0 sX so2 (by decide)
   have x3:=C0 so1 so2 (by decide)
   (try((repeat(revert N;apply Pn.out));refine wk (tw @a11 (tw @a5 (tw @a0 (tw @a1 (tw @Ah (tw @hk (tw @wX (tw @Wa (tw @ag1 (tw @ag2 (tw @l1 (tw @l2 (tw @e1 (tw @w1 (tw @w2 (tw @x1 (tw @x2 (tw @x3 (tw @j6 (tw @pY (tw @Int.le_refl @hz))))))))))))))))))))) ?_;(repeat(apply Pn.mk;intro N hN))))
   refine cV ?_ ?_ (by
    (try dsimp only)
    refine⟨ah,fun i hi=>?_,fun j hj=>?_⟩
    ·have q1:=db (i:=i) (n:=st_a.next) ah
     have q2:=de (a:=i) (b:=X) ah
     have q3:=de (a:=i) (b:=o1) ah
     have q4:=de (a:=i) (b:=o2) ah
     have:=dX i hi
     simp only[go_sem, ↓reduceIte,Nat.reduceEqDiff,Nat.reduceAdd,Nat.reduceSub,Nat.reduceLeDiff,reduceCtorEq,q1,q2,this,q3,q4]
    ·by_cases Bg:j=k
     ·subst Bg
      rw[tk,vJ]
      have q1:=il sX (b:=220004006) (v:=st_a.next+1) (by decide)
      have q2:=il sX (b:=220005006) (v:=st_a.next+1+1) (by decide)
      simp only[go_sem, ↓reduceIte,Nat.reduceEqDiff,Nat.reduceAdd,Nat.reduceSub,Nat.reduceLeDiff,reduceCtorEq,q1,q2,w1,w2]
     ·obtain⟨r1,r2⟩:=aR j ah
      have q1:=db (i:=R1 j) (n:=st_a.next) (by rw[v1];omega)
      have q2:=db (i:=R2 j) (n:=st_a.next) (by rw[v2];omega)
      have q3:=C0 (s1 j) sX (by decide)
      have q4:=C0 (s2 j) sX (by decide)
      have q5:=C0 (s1 j) so1 (by decide)
      have q6:=C0 (s1 j) so2 (by decide)
      have q7:=C0 (s2 j) so1 (by decide)
      have q8:=C0 (s2 j) so2 (by decide)
      constructor
      ·simp only[go_sem, ↓reduceIte,Nat.reduceEqDiff,Nat.reduceAdd,Nat.reduceSub,Nat.reduceLeDiff,reduceCtorEq,q1,q3,r1,q5,q6]
      ·simp only[go_sem, ↓reduceIte,Nat.reduceEqDiff,Nat.reduceAdd,Nat.reduceSub,Nat.reduceLeDiff,reduceCtorEq,q2,q4,r2,q7,q8]) (.inr ⟨⟨220004008,st_a.next+1⟩,⟨220005008,st_a.next+1+1⟩,rfl,rfl,bc,bc,bc,bc,sd @wX,by rw[Dk];simp only[go_sem, ↓reduceIte,Nat.reduceEqDiff,Nat.reduceAdd,Nat.reduceSub,Nat.reduceLeDiff,reduceCtorEq,wX,w1,w2],by rw[VP];simp only[go_sem, ↓reduceIte,Nat.reduceEqDiff,Nat.reduceAdd,Nat.reduceSub,Nat.reduceLeDiff,reduceCtorEq,wX,w1,w2]⟩)
   all_goals simp only[go_sem, ↓reduceIte,Nat.reduceEqDiff,Nat.reduceAdd,Nat.reduceSub,Nat.reduceLeDiff,reduceCtorEq,a11,a5,a0,a1,Ah,wX,w1,w2,x1,x2,x3]
 have lN:cnt=k:=ah
 subst lN
 rcases aI1 with⟨h0,_⟩|⟨o1,o2,so1,so2,vo1,vo2,vn1,vn2,Wa,ag1,ag2⟩
 ·omega
 (try((repeat(revert N;apply Pn.out));refine wk (tw @a11 (tw @a5 (tw @a0 (tw @a1 (tw @Ah @hk))))) ?_;(repeat(apply Pn.mk;intro N hN))))
 have I:Jd X o1 o2 R1 R2 cnt st_a.next:=⟨sX,so1,so2,fun i _=>s1 i,fun i _=>s2 i,fun i j _ _ h=>by have:=v1 i;rw[h,v1]at this;omega,fun i j _ _ h=>by have:=v2 i;rw[h,v2]at this;omega,ah,vo1,vo2,fun i hi=>by rw[v1];omega,fun i hi=>by rw[v2];omega⟩
 refine bf (fun n env st=>∃i:Nat,n=(bs.length)-i/\i<=(bs.length)/\env 38=.int .i64 (i:Int)/\(st_a.next<=st.next/\(∀x:Id,x.bG<σ.next->st.get x=σ.get x)/\p7 st.get X o1 o2 R1 R2 cnt (mz (bs.take i)) (fun _ _=>0))) (bs.length) ⟨0,ah,ah,sl (tw @a11 (tw @a5 (tw @a0 (tw @a1 @Ah)))),⟨bc,dX,Wa,ag1,ag2,fun j hj=>(aR j hj).1,fun j hj=>(aR j hj).2⟩⟩ ?_
 rintro n_b env_b st_b ⟨i,rfl,ble,b38,bI0⟩ fh
 have b0:=fh 0 (by kernel_rfl);have b1:=fh 1 (by kernel_rfl);have b5:=fh 5 (by kernel_rfl);have Vw:=fh 36 (by kernel_rfl);have Vx:=fh 37 (by kernel_rfl)
 simp only[go_sem, ↓reduceIte,Nat.reduceEqDiff,Nat.reduceAdd,Nat.reduceSub,Nat.reduceLeDiff,reduceCtorEq,a11,a5,a0,a1,Ah]at b0 b1 b5 Vw Vx
 clear fh
 obtain⟨bn,SG,bM⟩:=bI0
 by_cases hi:(i:Int)<(bs.length:Int)
 ·have fX:∀{e:Env} {gg:Rows} {nx:Nat},(e 38=.int .i64 (IntKind.i64.wrap ((i:Int)+1)))->(st_a.next<=nx/\(∀x:Id,x.bG<σ.next->gg x=σ.get x)/\p7 gg X o1 o2 R1 R2 cnt (mz (bs.take (i+1))) (fun _ _=>0))->∃m0,m0<(bs.length)-i/\∃i:Nat,m0=(bs.length)-i/\i<=(bs.length)/\e 38=.int .i64 (i:Int)/\(st_a.next<=nx/\(∀x:Id,x.bG<σ.next->gg x=σ.get x)/\p7 gg X o1 o2 R1 R2 cnt (mz (bs.take i)) (fun _ _=>0)):=fun x1 x2=>⟨_,ah,i+1,rfl,ah,(by rw[x1,aE ah]),x2⟩
  have gh:i<bs.length:=ah
  have jT:(bs.map aL)[i]? =some (aL bs[i]):=by simp[gh]
  have gj:=hb _ (List.getElem_mem gh)
  have hsi:=dZ _ (List.getElem_mem gh)
  have rT:mz (bs.take (i+1))=pO (mz (bs.take i)) bs[i]:=by rw[List.take_succ_eq_append_getElem gh,Hs]
  have oj:=CR (bs.take i) (fun _ _=>0) (fun b hb=>(dZ b (List.mem_of_mem_take hb)).1) (fun _ _=>Int.le_refl _)
  have hle:=room_le (bs.take i) (fun _ _=>0) 0 (fun b hb=>(dZ b (List.mem_of_mem_take hb)).2) (fun _ _=>Int.le_refl _) (Int.le_refl _)
  rw[List.length_take]at hle
  have fW:(bs.take i).foldl pO (fun _ _=>0)=mz (bs.take i):=rfl
  rw[fW]at oj hle
  generalize mz (bs.take i)=c at *
  generalize bs[i]=b at *
  obtain⟨ha,vD⟩:=gj
  have gA:=uL (R:=R1) (n:=cnt) ha
  have gB:=uL (R:=R1) (n:=cnt) vD
  have rA:=bM.r1 _ ha
  have rB:=bM.r1 _ vD
  have cA:=eC (f:=c b.a) vD
  have cB:=eC (f:=c b.b) ha
  have sA:=qe (f:=c) (a:=b.a) (d:=b.s) vD
  have gX:=bM.x
  have g1:=bM.t1
  have iq:(b.a:Int)<(cnt:Int):=ah
  have gj:(b.b:Int)<(cnt:Int):=ah
  have qX:=db (i:=X) (n:=st_b.next) ah
  have q1:=db (i:=o1) (n:=st_b.next) ah
  have qA:=db (i:=R1 b.a) (n:=st_b.next) (by rw[v1];omega)
  have qB:=db (i:=R1 b.b) (n:=st_b.next) (by rw[v1];omega)
  have xA:=C0 sX (s1 b.a) (by decide)
  have xB:=C0 sX (s1 b.b) (by decide)
  have yA:=C0 so1 (s1 b.a) (by decide)
  have yB:=C0 so1 (s1 b.b) (by decide)
  have l1:=lu R1 cnt cnt
  have lA:=ek (c b.a) cnt
  have lB:=ek (c b.b) cnt
  have hAB:=hle b.a b.b
  have hBA:=hle b.b b.a
  have gAB:=oj b.a b.b
  have gBA:=oj b.b b.a
  have wA:IntKind.i64.wrap (c b.a b.b+b.s)=c b.a b.b+b.s:=cq ah
  by_cases oi:b.a=b.b
  ·obtain⟨ba,bb,s⟩:=b
   dsimp only at *
   subst oi
   have T6:=qe (f:=bump c ba ba s) (a:=ba) (b:=ba) (d:=s) (n:=cnt) ha
   have hcB:=eC (f:=bump c ba ba s ba) ha
   have hv:bump c ba ba s ba ba=c ba ba+s:=by simp[bump]
   have lC:=ek (bump c ba ba s ba) cnt
   have wB:IntKind.i64.wrap (c ba ba+s+s)=c ba ba+s+s:=cq ah
   rw[hv]at T6 hcB
   have vH:pO c ⟨ba,ba,s⟩ ba=bump (bump c ba ba s) ba ba s ba:=rfl
   rw[aC]at cA sA T6 hcB
   (try((repeat(revert N;apply Pn.out));refine wk (tw @b38 (tw @b0 (tw @b1 (tw @b5 (tw @Vw (tw @Vx (tw @hi (tw @jT (tw @aL.eq_1 (tw @gA (tw @rA (tw @cA (tw @sA (tw @gX (tw @g1 (tw @iq (tw @qX (tw @q1 (tw @qA (tw @xA (tw @yA (tw @l1 (tw @lA (tw @wA (tw @T6 (tw @hcB (tw @lC @wB))))))))))))))))))))))))))) ?_;(repeat(apply Pn.mk;intro N hN))))
   exact fX (sd (tw @b38 (tw @b0 (tw @b1 (tw @b5 (tw @Vw @Vx)))))) (by
    (try dsimp only)
    refine⟨ah,fun x hx=>?_,?_⟩
    ·have p1:=db (i:=x) (n:=st_b.next) ah
     have p2:=de (a:=x) (b:=R1 ba) (by rw[v1];omega)
     have:=SG x hx
     simp only[go_sem, ↓reduceIte,Nat.reduceEqDiff,Nat.reduceAdd,Nat.reduceSub,Nat.reduceLeDiff,reduceCtorEq,p1,p2,this]
    ·rw[rT]
     refine bM.add I ⟨ba,ba,s⟩ ha ha (fun h=>absurd rfl h) ?_ fun x hx h1 h2=>?_
     ·rw[vH]
      simp only[go_sem, ↓reduceIte,Nat.reduceEqDiff,Nat.reduceAdd,Nat.reduceSub,Nat.reduceLeDiff,reduceCtorEq]
     ·have p1:=db (i:=x) (n:=st_b.next) ah
      (try dsimp only at h2)
      simp only[go_sem, ↓reduceIte,Nat.reduceEqDiff,Nat.reduceAdd,Nat.reduceSub,Nat.reduceLeDiff,reduceCtorEq,p1,h2])
  ·have gM:(R1 b.a=R1 b.b)=False:=by simp only[eq_iff_iff,iff_false];exact fun h=>oi (I.i1 _ _ ha vD h)
   have MS:(R1 b.b=R1 b.a)=False:=by simp only[eq_iff_iff,iff_false];exact fun h=>oi (I.i1 _ _ ha vD h.symm)
   have TU:bump c b.a b.b b.s b.b=c b.b:=lj fun h=>oi h.symm
   have T6:=qe (f:=bump c b.a b.b b.s) (a:=b.b) (b:=b.a) (d:=b.s) (n:=cnt) ha
   rw[TU]at T6
   have wB:IntKind.i64.wrap (c b.b b.a+b.s)=c b.b b.a+b.s:=cq ah
   have vH:pO c b b.b=bump (bump c b.a b.b b.s) b.b b.a b.s b.b:=rfl
   rw[aC]at cA cB sA T6
   (try((repeat(revert N;apply Pn.out));refine wk (tw @b38 (tw @b0 (tw @b1 (tw @b5 (tw @Vw (tw @Vx (tw @hi (tw @jT (tw @aL.eq_1 (tw @gA (tw @gB (tw @rA (tw @rB (tw @cA (tw @cB (tw @sA (tw @gX (tw @g1 (tw @iq (tw @gj (tw @qX (tw @q1 (tw @qA (tw @qB (tw @xA (tw @xB (tw @yA (tw @yB (tw @l1 (tw @lA (tw @lB (tw @wA (tw @T6 (tw @wB (tw @gM @MS))))))))))))))))))))))))))))))))))) ?_;(repeat(apply Pn.mk;intro N hN))))
   exact fX (sd (tw @b38 (tw @b0 (tw @b1 (tw @b5 (tw @Vw @Vx)))))) (by
    (try dsimp only)
    refine⟨ah,fun x hx=>?_,?_⟩
    ·have p1:=db (i:=x) (n:=st_b.next) ah
     have p2:=de (a:=x) (b:=R1 b.b) (by rw[v1];omega)
     have p3:=de (a:=x) (b:=R1 b.a) (by rw[v1];omega)
     have:=SG x hx
     simp only[go_sem, ↓reduceIte,Nat.reduceEqDiff,Nat.reduceAdd,Nat.reduceSub,Nat.reduceLeDiff,reduceCtorEq,p1,p2,p3,this]
    ·rw[rT]
     refine bM.add I b ha vD (fun h=>?_) ?_ fun x hx h1 h2=>?_
     ·simp only[go_sem, ↓reduceIte,Nat.reduceEqDiff,Nat.reduceAdd,Nat.reduceSub,Nat.reduceLeDiff,reduceCtorEq,gM]
     ·rw[vH]
      simp only[go_sem, ↓reduceIte,Nat.reduceEqDiff,Nat.reduceAdd,Nat.reduceSub,Nat.reduceLeDiff,reduceCtorEq,gM]
     ·have p1:=db (i:=x) (n:=st_b.next) ah
      simp only[go_sem, ↓reduceIte,Nat.reduceEqDiff,Nat.reduceAdd,Nat.reduceSub,Nat.reduceLeDiff,reduceCtorEq,p1,h1,h2])
 ·have mL:i=bs.length:=ah
  subst mL
  rw[List.take_length]at bM
  (try((repeat(revert N;apply Pn.out));refine wk (tw @b38 (tw @b0 (tw @b1 (tw @b5 (tw @Vw (tw @Vx @hi)))))) ?_;(repeat(apply Pn.mk;intro N hN))))
  exact er (.inl rfl) (vs:=[.ptr X 0 0]) (sd @Nat.zero_add) ⟨X,o1,o2,R1,R2,rfl,⟨I.sx,I.s1,I.s2,I.Zf,I.Sa,I.i1,I.i2,by have:=I.vx;(try dsimp only);omega,by have:=I.v1;(try dsimp only);omega,by have:=I.v2;(try dsimp only);omega,fun j hj=>by have:=I.vr1 j hj;(try dsimp only);omega,fun j hj=>by have:=I.X7 j hj;(try dsimp only);omega⟩,bc,bM,SG⟩
structure Bq (n:Nat) (c f:Nat->Nat->Int) (x:Nat) (par:Nat->Int) (Q:List Nat) (i:Nat):Prop where
 nodup:Q.Nodup
 lt:∀v∈Q,v<n
 root:par x=(x:Int)
 mem:x∈Q
 iff:∀v,v<n->(0<=par v↔v∈Q)
 up:∀v∈Q,v≠x->∃u,u∈Q/\par v=(u:Int)/\Q.idxOf u<Q.idxOf v/\f u v<c u v
 done:∀j (_:j<i) (hl:j<Q.length) (v:Nat),v<n->f Q[j] v<c Q[j] v->v∈Q
 ile:i<=Q.length
section
variable {n:Nat} {c f:Nat->Nat->Int} {x:Nat} {par:Nat->Int} {Q:List Nat} {i:Nat}
theorem Bq.len (h:Bq n c f x par Q i):Q.length<=n:=qC n Q h.nodup h.lt
theorem Bq.start (hx:x<n):Bq n c f x (fun v=>if v=x then(x:Int)else -1) [x] 0:=by
 refine⟨by simp,fun v hv=>by simp at hv;omega,by simp,by simp,fun v hv=>?_,fun v hv gM=>absurd (by simpa using hv) gM,fun j hj=>ah,by simp⟩
 by_cases h:v=x
 ·simp[h]
 ·simp[h]
theorem Bq.visit (h:Bq n c f x par Q i) (hi:i<Q.length) {v:Nat} (hv:v<n) (hp:par v<0) (hr:f Q[i] v<c Q[i] v):Bq n c f x (fun w=>if w=v then(Q[i]:Int)else par w) (Q++[v]) i:=by
 have hvQ:v∉Q:=fun hm=>by have:=(h.iff v hv).2 hm;omega
 have Ug:x≠v:=fun e=>hvQ (e▸h.mem)
 have Cq:∀u∈Q,(Q++[v]).idxOf u=Q.idxOf u:=fun u hu=>by rw[List.idxOf_append,if_pos hu]
 have yZ:(Q++[v]).idxOf v=Q.length:=by rw[List.idxOf_append,if_neg hvQ];simp
 refine⟨?_,fun w hw=>?_,by simp only[if_neg Ug];exact h.root,by simp[h.mem],fun w hw=>?_,fun w hw gM=>?_,fun j hj hl w hw M3=>?_,by simp;omega⟩
 ·refine List.nodup_append.2 ⟨h.nodup,by simp,fun a ha b hb=>?_⟩
  rw[List.mem_singleton.1 hb]
  rintro rfl;exact hvQ ha
 ·rcases List.mem_append.1 hw with hw|hw
  ·exact h.lt w hw
  ·rw[List.mem_singleton.1 hw];exact hv
 ·by_cases IC:w=v
  ·subst IC;simp
  ·rw[if_neg IC,h.iff w hw];simp[IC]
 ·by_cases IC:w=v
  ·subst IC
   refine⟨Q[i],by simp,by simp,?_,hr⟩
   rw[Cq _ (List.getElem_mem hi),yZ]
   exact List.idxOf_lt_length_of_mem (List.getElem_mem hi)
  ·have hwQ:w∈Q:=by
    rcases List.mem_append.1 hw with hw|hw
    ·exact hw
    ·exact absurd (List.mem_singleton.1 hw) IC
   obtain⟨u,h1,h2,h3,h4⟩:=h.up w hwQ gM
   exact⟨u,by simp[h1],by rw[if_neg IC];exact h2,by rw[Cq u h1,Cq w hwQ];exact h3,h4⟩
 ·have gZ:j<Q.length:=by have:=h.ile;omega
  rw[List.getElem_append_left gZ]at M3
  exact List.mem_append_left _ (h.done j hj gZ w hw M3)
theorem Bq.next (h:Bq n c f x par Q i) (hi:i<Q.length) (ep:∀v,v<n->f Q[i] v<c Q[i] v->0<=par v):Bq n c f x par Q (i+1):=by
 refine⟨h.nodup,h.lt,h.root,h.mem,h.iff,h.up,fun j hj hl v hv hr=>?_,ah⟩
 by_cases mM:j=i
 ·subst mM;exact(h.iff v hv).1 (ep v hv hr)
 ·exact h.done j ah hl v hv hr
theorem Bq.cut (h:Bq n c f x par Q Q.length) {y:Nat} (hy:y<n) (hp:par y<0):∃S:Nat->Bool,S x=true/\S y=false/\∀u v,u<n->v<n->S u=true->S v=false->¬f u v<c u v:=by
 refine⟨fun v=>decide (v∈Q),by simp[h.mem],?_,fun u v hu hv h1 h2 hr=>?_⟩
 ·have:y∉Q:=fun hm=>by have:=(h.iff y hy).2 hm;omega
  simp[this]
 ·simp only[decide_eq_true_eq,decide_eq_false_iff_not]at h1 h2
  obtain⟨j,hj,rfl⟩:=List.getElem_of_mem h1
  exact h2 (h.done j hj hj v hv hr)
def yi (c f:Nat->Nat->Int) (Q:List Nat) (y k:Nat) (out:List Nat):Prop:=∃rest,out.reverse=k::rest/\(k::rest).getLast (by simp)=y/\tt f c (k::rest)/\(k::rest).Pairwise (fun a b=>Q.idxOf a<Q.idxOf b)/\∀v∈k::rest,v∈Q
theorem yi.start {y:Nat} (hy:y∈Q):yi c f Q y y [y]:=⟨[],rfl,rfl,trivial,by simp,by simpa using hy⟩
theorem yi.step {y k u:Nat} {out:List Nat} (h:yi c f Q y k out) (hu:u∈Q) (hi:Q.idxOf u<Q.idxOf k) (hr:f u k<c u k):yi c f Q y u (out++[u]):=by
 obtain⟨rest,h1,h2,h3,h4,h5⟩:=h
 refine⟨k::rest,by rw[List.reverse_append,h1];rfl,by rw[List.getLast_cons (by simp)];exact h2,⟨hr,h3⟩,?_,?_⟩
 ·refine List.pairwise_cons.2 ⟨fun b hb=>?_,h4⟩
  rcases List.mem_cons.1 hb with rfl|hb
  ·exact hi
  ·have:=(List.pairwise_cons.1 h4).1 b hb;omega
 ·intro v hv
  rcases List.mem_cons.1 hv with rfl|hv
  ·exact hu
  ·exact h5 v hv
theorem yi.len {y k:Nat} {out:List Nat} (h:yi c f Q y k out) (hq:∀v∈Q,v<n):out.length<=n:=by
 obtain⟨rest,h1,_,_,h4,h5⟩:=h
 rw[<-List.length_reverse,h1]
 refine qC n _ (h4.imp fun eu he=>?_) fun v hv=>hq v (h5 v hv)
 subst he;omega
structure V9 (n:Nat) (c f:Nat->Nat->Int) (x y:Nat) (p:List Nat):Prop where
 way:∃r,p=x::r/\(x::r).getLast (by simp)=y
 nodup:p.Nodup
 room:tt f c p
 lt:∀v∈p,v<n
theorem yi.way {y:Nat} {out:List Nat} (h:yi c f Q y x out) (hq:∀v∈Q,v<n):V9 n c f x y out.reverse:=by
 obtain⟨rest,h1,h2,h3,h4,h5⟩:=h
 rw[h1]
 exact⟨⟨rest,rfl,h2⟩,h4.imp fun eu he=>by subst he;omega,h3,fun v hv=>hq v (h5 v hv)⟩
end
def nR (l:List Nat) (i x:Nat):Nat:=if x<i∨l.length-i<=x then l.getD (l.length-1-x) 0 else l.getD x 0
theorem BM (l:List Nat):l.map eN=eo (fun x=>l.getD x 0) l.length:=by
 refine List.ext_getElem? fun i=>?_
 by_cases h:i<l.length
 ·rw[fZ h,List.getElem?_map,List.getElem?_eq_getElem h];simp[List.getD_eq_getElem?_getD,h]
 ·rw[List.getElem?_eq_none (by simp;omega),List.getElem?_eq_none (by rw[gU];omega)]
theorem KK (l:List Nat):eo (nR l 0) l.length=l.map eN:=by
 rw[BM]
 exact iM fun x hx=>by unfold nR;rw[if_neg ah]
theorem N3 (l:List Nat) {i:Nat} (h:l.length<=2*i+1) (hi:i<=l.length):eo (nR l i) l.length=l.reverse.map eN:=by
 rw[BM l.reverse,List.length_reverse]
 refine iM fun x hx=>?_
 have hr:l.reverse.getD x 0=l.getD (l.length-1-x) 0:=by
  rw[List.getD_eq_getElem?_getD,List.getElem?_reverse hx,List.getD_eq_getElem?_getD]
 rw[hr]
 unfold nR
 by_cases hc:x<i∨l.length-i<=x
 ·rw[if_pos hc]
 ·rw[if_neg hc]
  have:x=l.length-1-x:=ah
  rw[<-this]
theorem KL (l:List Nat) (hp:0<l.length) (hl:l.length<=1048576) (o:Id) (σ:aw) (ho:σ.get o=some ⟨true,1,l.map eN⟩) (uc:o.bG<σ.next):
  Call Tryz.prog 285 [.own o 0 l.length] σ fun r σ'=>σ'.get o=some ⟨true,1,l.reverse.map eN⟩/\σ.next<=σ'.next/\∀i:Id,i.bG<σ.next->(i=o)=False->σ'.get i=σ.get i:=by
 refine eB eI rfl fun iD=>?_
 clear iD
 rw[<-KK]at ho
 have Y6:IntKind.i64.wrap ((l.length:Int)-1)=((l.length-1:Nat):Int):=by rw[cq ah];omega
 (try((repeat(revert N;apply Pn.out));refine wk @Y6 ?_;(repeat(apply Pn.mk;intro N hN))))
 refine bf (fun m env st=>∃i:Nat,m=l.length-i/\2*i<=l.length+1/\i<=l.length/\env 2=.int .i64 (i:Int)/\env 3=.int .i64 ((l.length:Int)-1-i)/\st.get o=some ⟨true,1,eo (nR l i) l.length⟩/\σ.next<=st.next/\∀x:Id,x.bG<σ.next->(x=o)=False->st.get x=σ.get x) l.length ⟨0,rfl,ah,ah,by(simp only[go_sem, ↓reduceIte,Nat.reduceEqDiff,Nat.reduceAdd,Nat.reduceSub,Nat.reduceLeDiff,reduceCtorEq])<;>rfl,by(simp only[go_sem, ↓reduceIte,Nat.reduceEqDiff,Nat.reduceAdd,Nat.reduceSub,Nat.reduceLeDiff,reduceCtorEq,Y6]);congr 1;omega,ho,bc,fun x _ _=>rfl⟩ ?_
 rintro m env_b st_b ⟨i,rfl,vI,mL,b2,b3,bg,bn,fh⟩ bkp
 have b0:=bkp 0 (by kernel_rfl)
 simp only[go_sem, ↓reduceIte,Nat.reduceEqDiff,Nat.reduceAdd,Nat.reduceSub,Nat.reduceLeDiff,reduceCtorEq]at b0
 clear bkp
 have tl:=gU (nR l i) l.length
 have lZ:=db (i:=o) (n:=st_b.next) ah
 by_cases hi:(i:Int)<(l.length:Int)-1-i
 ·have gh:i<l.length:=ah
  obtain⟨j,hj⟩:∃j,j=l.length-1-i:=⟨_,rfl⟩
  have iN:j<l.length:=ah
  have PQ:(l.length:Int)-1-i=(j:Int):=ah
  rw[PQ]at b3 hi
  have g1:=fZ (f:=nR l i) gh
  have g2:=fZ (f:=nR l i) iN
  have e1:nR l i i=l.getD i 0:=by unfold nR;rw[if_neg ah]
  have e2:nR l i j=l.getD j 0:=by unfold nR;rw[if_neg ah]
  have RV:(eo (nR l i) l.length).set i (eN (l.getD j 0))=eo (fun x=>if x=i then l.getD j 0 else nR l i x) l.length:=rH gh (if_pos rfl) fun x _ hx=>if_neg hx
  have M4:(eo (fun x=>if x=i then l.getD j 0 else nR l i x) l.length).set j (eN (l.getD i 0))=eo (nR l (i+1)) l.length:=rH iN (by unfold nR;rw[if_pos ah];congr 1;omega) fun x hx VU=>by
   by_cases F1:x=i
   ·rw[if_pos F1];unfold nR;rw[if_pos ah];congr 1;omega
   ·rw[if_neg F1];unfold nR
    by_cases hc:x<i∨l.length-i<=x
    ·rw[if_pos hc,if_pos ah]
    ·rw[if_neg hc,if_neg ah]
  have Zg:=gU (fun x=>if x=i then l.getD j 0 else nR l i x) l.length
  have g3:=fZ (f:=fun x=>if x=i then l.getD j 0 else nR l i x) iN
  rw[e1]at g1
  rw[e2]at g2
  rw[if_neg ah,e2]at g3
  rw[eN]at g1 g2 g3 RV M4
  have hii:(i:Int)<(l.length:Int):=ah
  have mM:(j:Int)<(l.length:Int):=ah
  have nv:IntKind.i64.wrap ((i:Int)+1)=((i+1:Nat):Int):=aE ah
  have mO:IntKind.i64.wrap ((j:Int)-1)=(l.length:Int)-1-((i+1:Nat):Int):=by rw[cq ah];omega
  (try((repeat(revert N;apply Pn.out));refine wk (tw @b0 (tw @b2 (tw @b3 (tw @bg (tw @hi (tw @hii (tw @mM (tw @g1 (tw @g2 (tw @g3 (tw @RV (tw @M4 (tw @tl (tw @Zg (tw @lZ (tw @nv @mO)))))))))))))))) ?_;(repeat(apply Pn.mk;intro N hN))))
  refine⟨_,?_,i+1,rfl,ah,ah,sd @nv,sd @mO,sd @M4,bc,fun x hx Dm=>?_⟩
  ·omega
  ·have:=fh x hx Dm
   simp only[go_sem, ↓reduceIte,Nat.reduceEqDiff,Nat.reduceAdd,Nat.reduceSub,Nat.reduceLeDiff,reduceCtorEq,Dm,this]
 ·rw[N3 l ah mL]at bg
  (try((repeat(revert N;apply Pn.out));refine wk (tw @b0 (tw @b2 (tw @b3 (tw @bg @hi)))) ?_;(repeat(apply Pn.mk;intro N hN))))
  exact er (.inr rfl) (vs:=[]) (by simp only[ga,go_sem, ↓reduceIte,Nat.reduceEqDiff,Nat.reduceAdd,Nat.reduceSub,Nat.reduceLeDiff,reduceCtorEq]) ⟨bg,bc,fh⟩
theorem Ya (cnt:Nat) (tn:1<=cnt) (hn:cnt<=1048576) (c f:Nat->Nat->Int) (x y:Nat) (hx:x<cnt) (hy:y<cnt):
  jV Tryz.prog 259 [.dQ (np cnt c f),.int .i64 x,.int .i64 y] fun r=>(r=.bU/\∃S:Nat->Bool,S x=true/\S y=false/\∀u v,u<cnt->v<cnt->S u=true->S v=false->¬f u v<c u v)∨∃p:List Nat,r=.sl (p.map eN)/\V9 cnt c f x y p:=by
 refine jV.body eI rfl fun hl n0=>?_
 clear hl
 have lM:=zS c cnt
 have j6:(0:Int)<=(cnt:Int):=ah
 have F1:(x:Int)<(cnt:Int):=ah
 have Zb:(y:Int)<(cnt:Int):=ah
 (try((repeat(revert N;apply Pn.out));refine wk (tw @np.eq_1 @lM) ?_;(repeat(apply Pn.mk;intro N hN))))
 refine .inr (az _ _ _ _ _ (fun r σ1 hq=>?_) (N1 cnt tn hn (-1) ⟨259002000,n0+1+1⟩ _ (sd @Nat.zero_add) bc))
 obtain⟨o,rfl,ho,PW,PX,jy⟩:=hq
 (try dsimp only at ho PW PX jy)
 apply hN
 clear hN N
 have lZ:=db PX
 have pY:(cnt:Int)<=1048576:=ah
 have WR:tP<tP+cnt:=ah
 have iu:List.replicate cnt [AV.int .i64 (-1)]=eG (fun _=>-1) cnt:=by
  refine List.ext_getElem? fun i=>?_
  by_cases h:i<cnt
  ·rw[eC h,List.getElem?_replicate,if_pos h];rfl
  ·rw[List.getElem?_eq_none (by simp;omega),List.getElem?_eq_none (by rw[ek];omega)]
 rw[iu]at ho
 have Ey:(eG (fun _=>-1) cnt).set x (aC (x:Int))=eG (fun v=>if v=x then(x:Int)else -1) cnt:=mH hx (if_pos rfl) fun v _ hv=>if_neg hv
 have W4:=eC (f:=fun _=>-1) hx
 have tl0:=ek (fun _=>-1) cnt
 rw[aC]at Ey W4
 (try((repeat(revert N;apply Pn.out));refine wk (tw @np.eq_1 (tw @lM (tw @j6 (tw @pY @lZ)))) ?_;(repeat(apply Pn.mk;intro N hN))))
 refine OG ?_
 simp only[go_sem, ↓reduceIte,Nat.reduceEqDiff,Nat.reduceAdd,Nat.reduceSub,Nat.reduceLeDiff,reduceCtorEq,WR]
 apply hN
 clear hN N
 (try((repeat(revert N;apply Pn.out));refine wk (tw @ho (tw @lZ (tw @Ey (tw @W4 (tw @tl0 @F1))))) ?_;(repeat(apply Pn.mk;intro N hN))))
 obtain⟨C,hC⟩:∃C:Id,C=⟨259003001,σ1.next+1⟩:=⟨_,rfl⟩
 have Xh:=de (a:=o) (b:=C) (by rw[hC];(try dsimp only);omega)
 have hCv:C.bG=σ1.next+1:=by rw[hC]
 refine bf (fun m env st=>∃(par:Nat->Int) (Q:List Nat) (i:Nat),m=cnt-i/\Bq cnt c f x par Q i/\st.get o=some ⟨true,1,eG par cnt⟩/\st.get C=some ⟨true,tP+cnt,(Q.drop i).map eN⟩/\σ1.next+1<st.next) cnt ⟨_,[x],0,rfl,Bq.start hx,sd @lZ,by rw[hC];simp only[go_sem, ↓reduceIte,Nat.reduceEqDiff,Nat.reduceAdd,Nat.reduceSub,Nat.reduceLeDiff,reduceCtorEq,lZ];rfl,bc⟩ ?_
 rintro m env_b st_b ⟨par,Q,i,rfl,hB,bgo,bgC,bn⟩ bkp
 have b0:=bkp 0 (by kernel_rfl)
 have b1:=bkp 1 (by kernel_rfl)
 have b2:=bkp 2 (by kernel_rfl)
 have b7:=bkp 7 (by kernel_rfl)
 have b8:=bkp 8 (by kernel_rfl)
 have b9:=bkp 9 (by kernel_rfl)
 rw[<-hC]at b9
 simp only[go_sem, ↓reduceIte,Nat.reduceEqDiff,Nat.reduceAdd,Nat.reduceSub,Nat.reduceLeDiff,reduceCtorEq]at b0 b1 b2 b7 b8 b9
 clear bkp
 have hQn:=hB.len
 have mL:=hB.ile
 have Lm:((Q.drop i).map eN).length=Q.length-i:=by simp
 by_cases hi:i<Q.length
 ·have lp:(0:Int)<((Q.length-i:Nat):Int):=ah
  have uS:Q.drop i=Q[i]::Q.drop (i+1):=List.drop_eq_getElem_cons hi
  obtain⟨u,hu⟩:∃u,u=Q[i]:=⟨_,rfl⟩
  have hun:u<cnt:=by rw[hu];exact hB.lt _ (List.getElem_mem hi)
  rw[<-hu]at uS
  (try((repeat(revert N;apply Pn.out));refine wk (tw @b0 (tw @b1 (tw @b2 (tw @b7 (tw @b8 (tw @b9 (tw @bgC (tw @Lm @lp)))))))) ?_;(repeat(apply Pn.mk;intro N hN))))
  refine OG ?_
  rw[uS,List.map_cons,show eN u=[.int .i64 (u:Int)]from rfl]at bgC
  simp only[go_sem, ↓reduceIte,Nat.reduceEqDiff,Nat.reduceAdd,Nat.reduceSub,Nat.reduceLeDiff,reduceCtorEq,b9,bgC]
  apply hN
  clear hN N
  (try((repeat(revert N;apply Pn.out));refine wk @b7 ?_;(repeat(apply Pn.mk;intro N hN))))
  refine bf (fun m env st=>∃(v:Nat) (par':Nat->Int) (Q':List Nat),m=cnt-v/\v<=cnt/\env 36=.int .i64 (v:Int)/\Bq cnt c f x par' Q' i/\(∃h:i<Q'.length,Q'[i]=u)/\st.get o=some ⟨true,1,eG par' cnt⟩/\st.get C=some ⟨true,tP+cnt,(Q'.drop (i+1)).map eN⟩/\σ1.next+1<st.next/\∀w,w<v->f u w<c u w->0<=par' w) cnt ⟨0,par,Q,rfl,Nat.zero_le _,by(simp only[go_sem, ↓reduceIte,Nat.reduceEqDiff,Nat.reduceAdd,Nat.reduceSub,Nat.reduceLeDiff,reduceCtorEq])<;>rfl,hB,⟨hi,hu.symm⟩,sd (tw @Xh @bgo),sd @Xh,bc,fun w hw=>absurd hw (Nat.not_lt_zero w)⟩ ?_
  rintro m env_c st_c ⟨v,par',Q',rfl,hvn,c36,ec,⟨tj,IB⟩,AU,cgC,cn,ep⟩ ckp
  have c0:=ckp 0 (by kernel_rfl)
  have c1:=ckp 1 (by kernel_rfl)
  have c2:=ckp 2 (by kernel_rfl)
  have c7:=ckp 7 (by kernel_rfl)
  have c8:=ckp 8 (by kernel_rfl)
  have c9:=ckp 9 (by kernel_rfl)
  have kq:=ckp 10 (by kernel_rfl)
  have SI:=ckp 35 (by kernel_rfl)
  simp only[go_sem, ↓reduceIte,Nat.reduceEqDiff,Nat.reduceAdd,Nat.reduceSub,Nat.reduceLeDiff,reduceCtorEq,b0,b1,b2,b7,b8,b9]at c0 c1 c2 c7 c8 c9 kq SI
  clear ckp
  have tl:=ek par' cnt
  by_cases hv:(v:Int)<(cnt:Int)
  ·have GY:v<cnt:=ah
   have TC:=eC (f:=par') GY
   have jy:=SZ cnt c f u v hun GY
   have hw:IntKind.i64.wrap ((v:Int)+1)=((v+1:Nat):Int):=aE ah
   rw[aC]at TC
   rw[np]at jy
   by_cases ll:par' v<0
   ·by_cases hr:f u v<c u v
    ·rw[decide_eq_true hr]at jy
     have ew:(eG par' cnt).set v (aC (u:Int))=eG (fun w=>if w=v then(u:Int)else par' w) cnt:=mH GY (if_pos rfl) fun w _ hw=>if_neg hw
     rw[aC]at ew
     have oU:=ec.visit tj GY ll (by rw[IB];exact hr)
     rw[IB]at oU
     have hQ2:=oU.len
     rw[List.length_append]at hQ2
     simp only[List.length_singleton]at hQ2
     have fW:tP+(Q'.drop (i+1)).length<tP+cnt:=by rw[List.length_drop];omega
     (have zF:=tw @np.eq_1 (tw @c0 (tw @c7 (tw @c8 (tw @c9 (tw @kq (tw @c36 (tw @SI (tw @hv (tw @AU (tw @TC (tw @tl (tw @ll @ew))))))))))));(repeat(first|((repeat(revert N;apply Pn.out));refine wk zF ?_;(repeat(apply Pn.mk;intro N hN)))|((try apply Or.inl);refine⟨_,au.x (jy) (sd zF),?_⟩;apply hN;clear hN N)));try clear zF)
     refine OG ?_
     have hq:(Q'.drop (i+1)).map eN++[[.int .i64 (v:Int)]]=((Q'++[v]).drop (i+1)).map eN:=by rw[List.drop_append_of_le_length ah,List.map_append];rfl
     simp only[go_sem, ↓reduceIte,Nat.reduceEqDiff,Nat.reduceAdd,Nat.reduceSub,Nat.reduceLeDiff,reduceCtorEq,c9,cgC,fW,Xh,hq]
     apply hN
     clear hN N
     (try((repeat(revert N;apply Pn.out));refine wk (tw @c36 @hw) ?_;(repeat(apply Pn.mk;intro N hN))))
     refine⟨_,?_,v+1,_,_,rfl,GY,sd @hw,oU,⟨by rw[List.length_append];omega,by rw[List.getElem_append_left tj];exact IB⟩,sd @Xh,sd @Xh,bc,fun w hw M3=>?_⟩
     ·omega
     ·by_cases IC:w=v
      ·rw[if_pos IC];omega
      ·rw[if_neg IC];exact ep w ah M3
    ·rw[decide_eq_false hr]at jy
     (have zF:=tw @np.eq_1 (tw @c0 (tw @c7 (tw @c8 (tw @c9 (tw @kq (tw @c36 (tw @SI (tw @hv (tw @AU (tw @TC (tw @tl (tw @ll @hw))))))))))));(repeat(first|((repeat(revert N;apply Pn.out));refine wk zF ?_;(repeat(apply Pn.mk;intro N hN)))|((try apply Or.inl);refine⟨_,au.x (jy) (sd zF),?_⟩;apply hN;clear hN N)));try clear zF)
     refine⟨_,?_,v+1,par',Q',rfl,GY,sd @hw,ec,⟨tj,IB⟩,sd @AU,sd @cgC,bc,fun w hw M3=>?_⟩
     ·omega
     ·by_cases IC:w=v
      ·subst IC;exact absurd M3 hr
      ·exact ep w ah M3
   ·(try((repeat(revert N;apply Pn.out));refine wk (tw @np.eq_1 (tw @c0 (tw @c7 (tw @c8 (tw @c9 (tw @kq (tw @c36 (tw @SI (tw @hv (tw @AU (tw @TC (tw @tl (tw @ll @hw))))))))))))) ?_;(repeat(apply Pn.mk;intro N hN))))
    refine⟨_,?_,v+1,par',Q',rfl,GY,sd @hw,ec,⟨tj,IB⟩,sd @AU,sd @cgC,bc,fun w hw M3=>?_⟩
    ·omega
    ·by_cases IC:w=v
     ·subst IC;omega
     ·exact ep w ah M3
  ·have hvc:v=cnt:=ah
   subst hvc
   (try((repeat(revert N;apply Pn.out));refine wk (tw @c36 (tw @SI @hv)) ?_;(repeat(apply Pn.mk;intro N hN))))
   refine⟨_,?_,par',Q',i+1,rfl,ec.next tj fun w hw hr=>ep w hw (by rw[<-IB];exact hr),sd @AU,sd @cgC,bc⟩
   omega
 ·have hiQ:i=Q.length:=ah
  subst hiQ
  have lp:¬(0:Int)<((Q.length-Q.length:Nat):Int):=ah
  have hgy:=eC (f:=par) hy
  have tl:=ek par cnt
  rw[aC]at hgy
  by_cases ll:par y<0
  ·(try((repeat(revert N;apply Pn.out));refine wk (tw @b0 (tw @b1 (tw @b2 (tw @b7 (tw @b8 (tw @b9 (tw @bgC (tw @Lm (tw @lp (tw @bgo (tw @hgy (tw @tl (tw @Zb @ll))))))))))))) ?_;(repeat(apply Pn.mk;intro N hN))))
   exact⟨[.bU],sd @Nat.zero_add,.bU,ma _ _,.inl ⟨rfl,hB.cut hy ll⟩⟩
  ·(try((repeat(revert N;apply Pn.out));refine wk (tw @b0 (tw @b1 (tw @b2 (tw @b7 (tw @b8 (tw @b9 (tw @bgC (tw @Lm (tw @lp (tw @bgo (tw @hgy (tw @tl (tw @Zb @ll))))))))))))) ?_;(repeat(apply Pn.mk;intro N hN))))
   refine bf (fun m env st=>∃(k:Nat) (out:List Nat) (p:Id),m=Q.idxOf k/\env 13=.int .i64 (k:Int)/\env 12=.own p 0 out.length/\st.get p=some ⟨true,1,out.map eN⟩/\p.bG<st.next/\st_b.next<=p.bG/\k∈Q/\yi c f Q y k out/\st.get o=some ⟨true,1,eG par cnt⟩) (Q.idxOf y) ⟨y,[y],⟨259017001,st_b.next+1+1⟩,rfl,by(simp only[go_sem, ↓reduceIte,Nat.reduceEqDiff,Nat.reduceAdd,Nat.reduceSub,Nat.reduceLeDiff,reduceCtorEq]),by(simp only[go_sem, ↓reduceIte,Nat.reduceEqDiff,Nat.reduceAdd,Nat.reduceSub,Nat.reduceLeDiff,reduceCtorEq])<;>rfl,by(simp only[go_sem, ↓reduceIte,Nat.reduceEqDiff,Nat.reduceAdd,Nat.reduceSub,Nat.reduceLeDiff,reduceCtorEq])<;>rfl,bc,bc,(hB.iff y hy).1 ah,yi.start ((hB.iff y hy).1 ah),by(have VQ:=db (i:=o) (n:=st_b.next) ah);simp only[go_sem, ↓reduceIte,Nat.reduceEqDiff,Nat.reduceAdd,Nat.reduceSub,Nat.reduceLeDiff,reduceCtorEq,VQ,bgo]⟩ ?_
   rintro m env_d st_d ⟨k,out,p,rfl,d13,d12,dgp,dpn,dpo,hkQ,xZ,dgo⟩ dkp
   have d1:=dkp 1 (by kernel_rfl)
   have d8:=dkp 8 (by kernel_rfl)
   simp only[go_sem, ↓reduceIte,Nat.reduceEqDiff,Nat.reduceAdd,Nat.reduceSub,Nat.reduceLeDiff,reduceCtorEq,b1,b8]at d1 d8
   clear dkp
   have Dl:=db dpn
   have EC:=db (i:=o) (n:=st_d.next) ah
   have ev:=de (a:=o) (b:=p) ah
   have PT:=xZ.len hB.lt
   have fC:=hB.lt k hkQ
   have gL:(out.map eN).length=out.length:=by simp
   by_cases YR:k=x
   ·have hd:decide ((k:Int)=(x:Int))=true:=decide_eq_true (by rw[YR])
    have hop2:0<out.length:=by
     obtain⟨rest,h1,_⟩:=xZ
     rw[<-List.length_reverse,h1];simp
    (try((repeat(revert N;apply Pn.out));refine wk (tw @d1 (tw @d8 (tw @d12 (tw @d13 (tw @hd @Bool.not_true))))) ?_;(repeat(apply Pn.mk;intro N hN))))
    refine .inr (az _ _ _ _ _ (fun r σ2 hq=>?_) (KL out hop2 ah p _ dgp bc))
    obtain⟨Tz,oZ,MJ⟩:=hq
    apply hN
    clear hN N
    (try((repeat(revert N;apply Pn.out));refine wk @d12 ?_;(repeat(apply Pn.mk;intro N hN))))
    refine⟨[.own p 0 out.length],sd @d12,.sl (out.reverse.map eN),?_,.inr ⟨out.reverse,rfl,by subst YR;exact xZ.way hB.lt⟩⟩
    exact fH (sz:=1) Tz (by simp) fun a=>S3 _ 4 a
   ·have hd:decide ((k:Int)=(x:Int))=false:=decide_eq_false fun h=>YR ah
    obtain⟨u,huQ,YY,Cq,hr⟩:=hB.up k hkQ YR
    have fa:=eC (f:=par) fC
    rw[aC,YY]at fa
    have hki:(k:Int)<(cnt:Int):=ah
    have e1:out.length+1<=16777216:=ah
    (try((repeat(revert N;apply Pn.out));refine wk (tw @d1 (tw @d8 (tw @d12 (tw @d13 (tw @hd (tw @Bool.not_false (tw @dgo (tw @dgp (tw @fa (tw @tl (tw @hki (tw @Dl (tw @EC (tw @ev (tw @gL @e1))))))))))))))) ?_;(repeat(apply Pn.mk;intro N hN))))
    refine⟨_,Cq,u,out++[u],⟨259021003,st_d.next+1+1⟩,rfl,sd @Nat.zero_add,by rw[List.length_append];simp only[go_sem, ↓reduceIte,Nat.reduceEqDiff,Nat.reduceAdd,Nat.reduceSub,Nat.reduceLeDiff,reduceCtorEq,List.length_cons,List.length_nil],by rw[List.map_append,List.map_cons,List.map_nil];simp only[go_sem, ↓reduceIte,Nat.reduceEqDiff,Nat.reduceAdd,Nat.reduceSub,Nat.reduceLeDiff,reduceCtorEq,eN],bc,bc,huQ,xZ.step huQ Cq hr,sd (tw @EC (tw @ev @dgo))⟩
theorem DE (b:Nat):∀(l:List Nat) (a:Nat) (f:Nat->Nat->Int),nY f ((a::l)++[b])=lO (nY f (a::l)) ((a::l).getLast (by simp)) b
 |[],a,f=>rfl
 |c::l,a,f=>by
  rw[List.cons_append,List.cons_append,nY,<-List.cons_append,DE b l c (lO f a c),nY,List.getLast_cons_cons]
theorem Jk {p:List Nat} {f:Nat->Nat->Int} {i:Nat} (h1:1<=i) (hi:i<p.length):nY f (p.take (i+1))=lO (nY f (p.take i)) (p[i-1]'ah) p[i]:=by
 rw[List.take_succ_eq_append_getElem hi]
 have gM:p.take i≠[]:=by
  intro h
  have:(p.take i).length=0:=by rw[h];rfl
  rw[List.length_take]at this;omega
 obtain⟨a,l,Mw⟩:∃a l,p.take i=a::l:=by
  cases h:p.take i with
  |nil=>exact absurd h gM
  |cons a l=>exact⟨a,l,rfl⟩
 have yZ:(p.take i).getLast gM=p[i-1]'ah:=by
  rw[List.getLast_eq_getElem,List.getElem_take]
  congr 1
  rw[List.length_take];omega
 simp only[Mw]at yZ ⊢
 rw[DE,yZ]
theorem KH (f:Nat->Nat->Int) (a b u v:Nat):lO f a b u v<=f u v+1/\f u v-1<=lO f a b u v:=by
 unfold lO bump
 split<;>split<;>constructor<;>omega
theorem n9:∀(p:List Nat) (f:Nat->Nat->Int) (u v:Nat),nY f p u v<=f u v+p.length/\f u v-p.length<=nY f p u v
 |[],f,u,v=>by simp[nY]
 |[_],f,u,v=>by simp[nY];omega
 |a::b::r,f,u,v=>by
  rw[nY]
  have h1:=n9 (b::r) (lO f a b) u v
  have h2:=KH f a b u v
  simp only[List.length_cons]at h1 ⊢
  omega
theorem p7.push {g g':Rows} {X o1 o2:Id} {R1 R2:Nat->Id} {n nb:Nat} {c f:Nat->Nat->Int} (I:Jd X o1 o2 R1 R2 n nb) (h:p7 g X o1 o2 R1 R2 n c f) {a b:Nat} (ha:a<n) (hb:b<n) (oi:a≠b) (hA:g' (R2 a)=some ⟨true,1,eG (bump f a b 1 a) n⟩) (hB:g' (R2 b)=some ⟨true,1,eG (bump (bump f a b 1) b a (-1) b) n⟩) (hf:∀i:Id,i.bG<nb->(i=R2 a)=False->(i=R2 b)=False->g' i=g i):p7 g' X o1 o2 R1 R2 n c (lO f a b):=by
 have ne:∀{i:Id} {s:Nat},i.site=s->(s==220005006)=false->∀a,a<n->(i=R2 a)=False:=fun {i s} hi hs a ha=>by
  simp only[eq_iff_iff,iff_false]
  rintro rfl
  rw[I.Sa a ha]at hi
  subst hi
  simp at hs
 refine⟨(hf _ I.vx (ne I.sx (by decide) _ ha) (ne I.sx (by decide) _ hb)).trans h.x,(hf _ I.v1 (ne I.s1 (by decide) _ ha) (ne I.s1 (by decide) _ hb)).trans h.t1,(hf _ I.v2 (ne I.s2 (by decide) _ ha) (ne I.s2 (by decide) _ hb)).trans h.t2,fun i hi=>(hf _ (I.vr1 i hi) (ne (I.Zf i hi) (by decide) _ ha) (ne (I.Zf i hi) (by decide) _ hb)).trans (h.r1 i hi),fun i hi=>?_⟩
 by_cases OV:i=b
 ·subst OV;exact hB
 ·by_cases OU:i=a
  ·subst OU
   rw[hA,lO,lj OV]
  ·rw[lO,lj OV,lj OU,hf _ (I.X7 i hi) (by simp only[eq_iff_iff,iff_false];exact fun he=>OU (I.i2 i _ hi ha he)) (by simp only[eq_iff_iff,iff_false];exact fun he=>OV (I.i2 i _ hi hb he))]
   exact h.r2 i hi
theorem UI (cnt:Nat) (tn:1<=cnt) (hn:cnt<=1048576) (c:Nat->Nat->Int) (hc:∀u v,u<cnt->v<cnt->0<=c u v/\c u v<=16777216) (x y:Nat) (hx:x<cnt) (hy:y<cnt) (Uh:x≠y) (t:Int) (ht:t<=1099511627776)
  (X o1 o2:Id) (R1 R2:Nat->Id) (nb:Nat) (I:Jd X o1 o2 R1 R2 cnt nb) (σ:aw) (hM:p7 σ.get X o1 o2 R1 R2 cnt c (fun _ _=>0)) (VI:nb<=σ.next):
  Call Tryz.prog 221 [.ptr X 0 0,.int .i64 x,.int .i64 y,.int .i64 t] σ fun r σ'=>∃(k:Nat) (f:Nat->Nat->Int),r=.int .i64 k/\pr cnt c f x y k/\p7 σ'.get X o1 o2 R1 R2 cnt c f/\((∃S:Nat->Bool,S x=true/\S y=false/\∀u v,u<cnt->v<cnt->S u=true->S v=false->¬f u v<c u v)∨t<=k)/\σ.next<=σ'.next:=by
 refine eB eI rfl fun hl=>?_
 clear hl
 have hxS:(fun v=>decide (v=x)) x=true:=by simp
 have hyS:(fun v=>decide (v=x)) y=false:=by simp;exact fun h=>Uh h.symm
 obtain⟨top,htop⟩:∃top,top=oe cnt (fun v=>decide (v=x)) c:=⟨_,rfl⟩
 (try((repeat(revert N;apply Pn.out));refine wk @Nat.zero_add ?_;(repeat(apply Pn.mk;intro N hN))))
 refine bf (fun m env st=>∃(k:Nat) (f:Nat->Nat->Int),m=(top-k).toNat/\env 9=.int .i64 (k:Int)/\pr cnt c f x y k/\p7 st.get X o1 o2 R1 R2 cnt c f/\σ.next<=st.next/\(0<k->(k:Int)<=t)/\∀u v,-((k:Int)*(cnt:Int))<=f u v) (top-0).toNat ⟨0,fun _ _=>0,rfl,by(simp only[go_sem, ↓reduceIte,Nat.reduceEqDiff,Nat.reduceAdd,Nat.reduceSub,Nat.reduceLeDiff,reduceCtorEq])<;>rfl,pr.zero fun u v hu hv=>(hc u v hu hv).1,hM,bc,fun h=>absurd h (Nat.lt_irrefl 0),fun u v=>by simp⟩ ?_
 rintro m env_b st_b ⟨k,f,rfl,b9,hF,bM,bn,bk,blo⟩ bkp
 have b0:=bkp 0 (by kernel_rfl)
 have b1:=bkp 1 (by kernel_rfl)
 have b2:=bkp 2 (by kernel_rfl)
 have b3:=bkp 3 (by kernel_rfl)
 simp only[go_sem, ↓reduceIte,Nat.reduceEqDiff,Nat.reduceAdd,Nat.reduceSub,Nat.reduceLeDiff,reduceCtorEq]at b0 b1 b2 b3
 clear bkp
 have hz:dx (ea st_b.get) 6 [.ptr X 0 0,.int .i64 (x:Int),.int .i64 (y:Int)]=some [.dQ (np cnt c f),.int .i64 x,.int .i64 y]:=by simp only[ai,ar,bM.fz,aB,Option.map_some]
 (try((repeat(revert N;apply Pn.out));refine wk (tw @b0 (tw @b1 (tw @b2 (tw @b3 @b9)))) ?_;(repeat(apply Pn.mk;intro N hN))))
 refine .inr (az _ _ _ _ _ (fun r σ1 hq=>?_) ((Ya cnt tn hn c f x y hx hy).x mixed hz))
 obtain⟨T5,rfl⟩:=hq
 apply hN
 clear hN N
 rcases T5 with⟨rfl,S,PK,JP,VB⟩|⟨p,rfl,hW⟩
 ·(try((repeat(revert N;apply Pn.out));refine wk (tw @b0 (tw @b1 (tw @b2 (tw @b3 (tw @b9 (tw @Bool.not_true @Bool.not_false)))))) ?_;(repeat(apply Pn.mk;intro N hN))))
  refine er (.inl rfl) (vs:=[.int .i64 (k:Int)]) (sd @Nat.zero_add) ⟨k,f,rfl,hF,by(try dsimp only);exact bM,.inl ⟨S,PK,JP,VB⟩,bc⟩
 ·obtain⟨⟨rs,rfl,yZ⟩,mV,fW,hplt⟩:=hW
  by_cases O0:t<=(k:Int)
  ·(try((repeat(revert N;apply Pn.out));refine wk (tw @b0 (tw @b1 (tw @b2 (tw @b3 (tw @b9 (tw @O0 (tw @Bool.not_true @Bool.not_false))))))) ?_;(repeat(apply Pn.mk;intro N hN))))
   refine er (.inl rfl) (vs:=[.int .i64 (k:Int)]) (sd @Nat.zero_add) ⟨k,f,rfl,hF,by(try dsimp only);exact bM,.inr O0,bc⟩
  ·(try((repeat(revert N;apply Pn.out));refine wk (tw @b0 (tw @b1 (tw @b2 (tw @b3 (tw @b9 (tw @O0 (tw @Bool.not_true @Bool.not_false))))))) ?_;(repeat(apply Pn.mk;intro N hN))))
   have lY:=qC cnt _ mV hplt
   have hkc:(k:Int)*(cnt:Int)<=1099511627776*1048576:=Int.mul_le_mul ah ah ah ah
   have hfb:=hF.bound (S:=fun v=>decide (v=x)) hxS hyS
   have hnear:=n9
   obtain⟨p,hp⟩:∃p,p=x::rs:=⟨_,rfl⟩
   have PR:eN x::List.map eN rs=p.map eN:=by rw[hp];rfl
   rw[PR]
   have TW:1<=p.length:=by rw[hp];simp
   have Ww:=hF.aug yZ mV fW hplt
   rw[<-hp]at Ww mV fW hplt lY
   have Uc:p.take 1=[x]:=by rw[hp];rfl
   clear PR yZ
   refine bf (fun m env st=>∃i:Nat,m=p.length-i/\1<=i/\i<=p.length/\env 11=.int .i64 (i:Int)/\p7 st.get X o1 o2 R1 R2 cnt c (nY f (p.take i))/\st_b.next<=st.next) (p.length-1) ⟨1,rfl,Nat.le_refl _,TW,by(simp only[go_sem, ↓reduceIte,Nat.reduceEqDiff,Nat.reduceAdd,Nat.reduceSub,Nat.reduceLeDiff,reduceCtorEq])<;>rfl,by rw[Uc];exact bM,bc⟩ ?_
   rintro m env_c st_c ⟨i,rfl,MM,mL,pQ,cM,cn⟩ ckp
   have c0:=ckp 0 (by kernel_rfl)
   have c1:=ckp 1 (by kernel_rfl)
   have c2:=ckp 2 (by kernel_rfl)
   have c3:=ckp 3 (by kernel_rfl)
   have c9:=ckp 9 (by kernel_rfl)
   have kq:=ckp 10 (by kernel_rfl)
   simp only[go_sem, ↓reduceIte,Nat.reduceEqDiff,Nat.reduceAdd,Nat.reduceSub,Nat.reduceLeDiff,reduceCtorEq,b0,b1,b2,b3,b9]at c0 c1 c2 c3 c9 kq
   clear ckp
   have gL:(p.map eN).length=p.length:=by simp
   by_cases hi:(i:Int)<(p.length:Int)
   ·have gh:i<p.length:=ah
    have Aw:=Jk (f:=f) MM gh
    obtain⟨a,ha⟩:∃a,a=p[i-1]'ah:=⟨_,rfl⟩
    obtain⟨b,hb⟩:∃b,b=p[i]:=⟨_,rfl⟩
    have It:a<cnt:=by rw[ha];exact hplt _ (List.getElem_mem _)
    have Iv:b<cnt:=by rw[hb];exact hplt _ (List.getElem_mem _)
    have oi:a≠b:=by
     rw[ha,hb]
     exact List.pairwise_iff_getElem.1 mV (i-1) i ah gh ah
    have PN:(p.map eN)[i-1]? =some [.int .i64 (a:Int)]:=by rw[List.getElem?_map,List.getElem?_eq_getElem ah,ha];rfl
    have TA:(p.map eN)[i]? =some [.int .i64 (b:Int)]:=by rw[List.getElem?_map,List.getElem?_eq_getElem gh,hb];rfl
    rw[<-ha,<-hb]at Aw
    have hn1':=n9 (p.take i) f a b
    have hn2':=n9 (p.take i) f b a
    rw[List.length_take]at hn1' hn2'
    have TI:=blo b a
    have Ix:=blo a b
    have Xt:=hF.le a b It Iv
    have hu2:=hF.le b a Iv It
    have hca:=hc a b It Iv
    have Iw:=hc b a Iv It
    generalize nY f (p.take i)=fl at *
    have gA:=uL (R:=R2) (n:=cnt) It
    have gB:=uL (R:=R2) (n:=cnt) Iv
    have rA:=cM.r2 _ It
    have rB:=cM.r2 _ Iv
    have cA:=eC (f:=fl a) Iv
    have cB:=eC (f:=fl b) It
    have sA:=qe (f:=fl) (a:=a) (d:=1) Iv
    have TU:bump fl a b 1 b=fl b:=lj fun h=>oi h.symm
    have sB:=qe (f:=bump fl a b 1) (a:=b) (b:=a) (d:=-1) (n:=cnt) It
    rw[TU]at sB
    have gX:=cM.x
    have g2:=cM.t2
    have iq:(a:Int)<(cnt:Int):=ah
    have gj:(b:Int)<(cnt:Int):=ah
    have Y6:IntKind.i64.wrap ((i:Int)-1)=((i-1:Nat):Int):=by rw[cq ah];omega
    have vI:((i-1:Nat):Int)<(p.length:Int):=ah
    have wA:IntKind.i64.wrap (fl a b+1)=fl a b+1:=cq ah
    have wB:IntKind.i64.wrap (fl b a-1)=fl b a+-1:=by rw[cq ah];omega
    have Xx:IntKind.i64.wrap ((i:Int)+1)=((i+1:Nat):Int):=aE ah
    have l2:=lu R2 cnt cnt
    have lA:=ek (fl a) cnt
    have lB:=ek (fl b) cnt
    have gM:(R2 a=R2 b)=False:=by simp only[eq_iff_iff,iff_false];exact fun h=>oi (I.i2 _ _ It Iv h)
    have MS:(R2 b=R2 a)=False:=by simp only[eq_iff_iff,iff_false];exact fun h=>oi (I.i2 _ _ It Iv h.symm)
    have xA:=C0 I.sx (I.Sa a It) (by decide)
    have xB:=C0 I.sx (I.Sa b Iv) (by decide)
    have yA:=C0 I.s2 (I.Sa a It) (by decide)
    have yB:=C0 I.s2 (I.Sa b Iv) (by decide)
    have qX:=db (i:=X) (n:=st_c.next) (by have:=I.vx;omega)
    have q2:=db (i:=o2) (n:=st_c.next) (by have:=I.v2;omega)
    have qA:=db (i:=R2 a) (n:=st_c.next) (by have:=I.X7 a It;omega)
    have qB:=db (i:=R2 b) (n:=st_c.next) (by have:=I.X7 b Iv;omega)
    rw[aC]at cA cB sA sB
    (try((repeat(revert N;apply Pn.out));refine wk (tw @c0 (tw @c9 (tw @kq (tw @pQ (tw @gL (tw @hi (tw @vI (tw @PN (tw @TA (tw @gA (tw @gB (tw @rA (tw @rB (tw @cA (tw @cB (tw @sA (tw @sB (tw @gX (tw @g2 (tw @iq (tw @gj (tw @Y6 (tw @wA (tw @wB (tw @Xx (tw @l2 (tw @lA (tw @lB (tw @gM (tw @MS (tw @xA (tw @xB (tw @yA (tw @yB (tw @qX (tw @q2 (tw @qA @qB))))))))))))))))))))))))))))))))))))) ?_;(repeat(apply Pn.mk;intro N hN))))
    refine⟨_,?_,i+1,rfl,ah,ah,sd @Xx,?_,bc⟩
    ·omega
    ·rw[Aw]
     refine cM.push I It Iv oi ?_ ?_ fun j hj h1 h2=>?_
     ·simp only[go_sem, ↓reduceIte,Nat.reduceEqDiff,Nat.reduceAdd,Nat.reduceSub,Nat.reduceLeDiff,reduceCtorEq,gM]
     ·simp only[go_sem, ↓reduceIte,Nat.reduceEqDiff,Nat.reduceAdd,Nat.reduceSub,Nat.reduceLeDiff,reduceCtorEq,gM]
     ·simp only[go_sem, ↓reduceIte,Nat.reduceEqDiff,Nat.reduceAdd,Nat.reduceSub,Nat.reduceLeDiff,reduceCtorEq,h1,h2]
   ·have GN:i=p.length:=ah
    subst GN
    rw[List.take_length]at cM
    have Uf:IntKind.i64.wrap ((k:Int)+1)=((k+1:Nat):Int):=aE ah
    have hfb2:=Ww.bound (S:=fun v=>decide (v=x)) hxS hyS
    (try((repeat(revert N;apply Pn.out));refine wk (tw @c0 (tw @c9 (tw @kq (tw @pQ (tw @gL (tw @hi @Uf)))))) ?_;(repeat(apply Pn.mk;intro N hN))))
    refine⟨_,?_,k+1,_,rfl,sd @Uf,by rw[Int.natCast_add];exact Ww,cM,bc,fun _=>ah,fun u v=>?_⟩
    ·rw[<-htop]at hfb2;omega
    ·have h1:=(n9 p f u v).2
     have h2:=blo u v
     rw[Int.natCast_add,Int.add_mul]
     omega
theorem UH (cnt:Nat) (tn:1<=cnt) (hn:cnt<=1048576) (c:Nat->Nat->Int) (hc:∀u v,u<cnt->v<cnt->0<=c u v/\c u v<=16777216) (x y:Nat) (hx:x<cnt) (hy:y<cnt) (Uh:x≠y) (t:Int) (ht:t<=1099511627776)
  (X o1 o2:Id) (R1 R2:Nat->Id) (nb:Nat) (I:Jd X o1 o2 R1 R2 cnt nb) (σ:aw) (hM:p7 σ.get X o1 o2 R1 R2 cnt c (fun _ _=>0)) (VI:nb<=σ.next):
  Call Tryz.prog 221 [.ptr X 0 0,.int .i64 x,.int .i64 y,.int .i64 t] σ fun r σ'=>∃val:Int,r=.int .i64 val/\(val<t↔∃S:Nat->Bool,S x=true/\S y=false/\oe cnt S c<t)/\σ.next<=σ'.next:=by
 refine az _ _ _ _ _ (fun r σ1 hq=>?_) (UI cnt tn hn c hc x y hx hy Uh t ht X o1 o2 R1 R2 nb I σ hM VI)
 obtain⟨k,f,rfl,hF,_,hS,hle⟩:=hq
 refine⟨(k:Int),rfl,⟨fun h=>?_,fun⟨S',h1,h2,h3⟩=>by have:=hF.bound h1 h2;omega⟩,hle⟩
 rcases hS with⟨S,PK,JP,VB⟩|h2
 ·exact⟨S,PK,JP,by rw[<-hF.full PK JP VB];exact h⟩
 ·omega
noncomputable def wZ (n:Nat) (bs:List PB) (t:Int):Bool:=@decide (l5 n bs t) (Classical.propDecidable _)
theorem Bh {n:Nat} {bs:List PB} {t:Int} (h:l5 n bs t):true=wZ n bs t:=by simp[wZ,h]
theorem Es {n:Nat} {bs:List PB} {t:Int} (h:¬l5 n bs t):false=wZ n bs t:=by simp[wZ,h]
theorem PU (cnt:Nat) (hn:cnt<=1048576) (bs:List PB) (hb:∀b∈bs,b.a<cnt/\b.b<cnt) (dZ:∀b∈bs,0<=b.s/\b.s<=4) (oV:bs.length<=1048576) (t:Int) (ht:t<=1099511627776):
  au Tryz.prog 174 [.int .i64 cnt,.sl (bs.map aL),.int .i64 t] (.bool (wZ cnt bs t)):=by
 refine au.body eI rfl fun hl n0=>?_
 clear hl
 have oj:=CR bs (fun _ _=>0) (fun b h=>(dZ b h).1) (fun _ _=>Int.le_refl _)
 have hle:=room_le bs (fun _ _=>0) 0 (fun b h=>(dZ b h).2) (fun _ _=>Int.le_refl _) (Int.le_refl _)
 have fW:bs.foldl pO (fun _ _=>0)=mz bs:=rfl
 rw[fW]at oj hle
 (try((repeat(revert N;apply Pn.out));refine wk @Nat.zero_add ?_;(repeat(apply Pn.mk;intro N hN))))
 refine bf (fun m env st=>∃y:Nat,m=cnt+1-y/\1<=y/\env 7=.int .i64 (y:Int)/\y<=cnt+1/\∀z,1<=z->z<y->z<cnt->∀S:Nat->Bool,S 0=true->S z=false->t<=jP S bs) (cnt+1-1) ⟨1,rfl,Nat.le_refl _,by(simp only[go_sem, ↓reduceIte,Nat.reduceEqDiff,Nat.reduceAdd,Nat.reduceSub,Nat.reduceLeDiff,reduceCtorEq])<;>rfl,ah,fun z h1 h2=>ah⟩ ?_
 rintro m env_b st_b ⟨y,rfl,hy1,b7,hyl,ep⟩ bkp
 have b0:=bkp 0 (by kernel_rfl)
 have b1:=bkp 1 (by kernel_rfl)
 have b2:=bkp 2 (by kernel_rfl)
 simp only[go_sem, ↓reduceIte,Nat.reduceEqDiff,Nat.reduceAdd,Nat.reduceSub,Nat.reduceLeDiff,reduceCtorEq]at b0 b1 b2
 clear bkp
 by_cases hy:(y:Int)<(cnt:Int)
 ·have hyn:y<cnt:=ah
  (try((repeat(revert N;apply Pn.out));refine wk (tw @b0 (tw @b1 (tw @b2 (tw @b7 @hy)))) ?_;(repeat(apply Pn.mk;intro N hN))))
  refine .inr (az _ _ _ _ _ (fun r σ1 hq=>?_) (Fc cnt ah hn bs hb dZ oV _))
  obtain⟨X,o1,o2,R1,R2,rfl,I,JX,hM,_⟩:=hq
  apply hN
  clear hN N
  (try((repeat(revert N;apply Pn.out));refine wk (tw @b0 (tw @b1 (tw @b2 @b7))) ?_;(repeat(apply Pn.mk;intro N hN))))
  have Xq:=UH cnt ah hn (mz bs) (fun u v _ _=>⟨oj u v,by have:=hle u v;omega⟩) 0 y ah hyn ah t ht X o1 o2 R1 R2 σ1.next I
  refine .inr (az _ _ _ _ _ (fun r σ2 hq=>?_) (Xq _ hM bc))
  obtain⟨val,rfl,vL,oZ⟩:=hq
  apply hN
  clear hN N
  by_cases eu:val<t
  ·(try((repeat(revert N;apply Pn.out));refine wk (tw @b0 (tw @b1 (tw @b2 (tw @b7 @eu)))) ?_;(repeat(apply Pn.mk;intro N hN))))
   obtain⟨S,h1,h2,h3⟩:=vL.1 eu
   rw[DQ hb]at h3
   exact bQ (b:=false) (.inl rfl) (sd @Nat.zero_add) (Es fun h=>by have:=h S h1 ⟨y,hyn,h2⟩;omega)
  ·have hw:IntKind.i64.wrap ((y:Int)+1)=((y+1:Nat):Int):=aE ah
   (try((repeat(revert N;apply Pn.out));refine wk (tw @b0 (tw @b1 (tw @b2 (tw @b7 (tw @eu @hw))))) ?_;(repeat(apply Pn.mk;intro N hN))))
   refine⟨_,?_,y+1,rfl,ah,sd (tw @b7 @hw),ah,fun z h1 h2 h3 S PK JP=>?_⟩
   ·omega
   ·by_cases hzy:z=y
    ·subst hzy
     rcases Int.lt_or_le (jP S bs) t with h|h
     ·exact absurd (vL.2 ⟨S,PK,JP,by rw[DQ hb];exact h⟩) eu
     ·exact h
    ·exact ep z h1 ah h3 S PK JP
 ·(try((repeat(revert N;apply Pn.out));refine wk (tw @b0 (tw @b1 (tw @b2 (tw @b7 @hy)))) ?_;(repeat(apply Pn.mk;intro N hN))))
  exact bQ (b:=true) (.inl rfl) (sd @Nat.zero_add) (Bh fun S h0 ⟨z,hz,hzf⟩=>by
   have:z≠0:=by rintro rfl;rw[h0]at hzf;cases hzf
   exact ep z ah ah hz S h0 hzf)
theorem MT (cnt:Nat) (hn:cnt<=1048576) (bs:List PB) (hb:∀b∈bs,b.a<cnt/\b.b<cnt) (dZ:∀b∈bs,0<=b.s/\b.s<=4) (oV:bs.length<=1048576) (t:Int) (ht:t<=1099511627776):
  au Tryz.prog 174 [.int .i64 cnt,CX bs,.int .i64 t] (.bool (wZ cnt bs t)):=by
 have h:=PU cnt hn bs hb dZ oV t ht
 cases bs with
 |nil=>exact h.cut mixed (.same _ (.bU (.same _ .nil)))
 |cons b r=>rw[CY (by simp)];exact h
def F3:Prop:=∀(s:ay) (l:List aa),iz s->jN s l->au Tryz.prog 173 [.agg (ae s),.agg [.sl (l.map ab)]] (CX (du s l))
noncomputable def x7 (s:ay) (l:List aa) (t:Int):Bool:=if 64<iY s l t then false else wZ (iY s l t) (ef (eT (bh t (du s l))) (du s l)) t
theorem G2 (s:ay) (l:List aa) (t:Int):x7 s l t=pM s l t:=by
 letI:=Classical.propDecidable (qS l.length (du s l) t)
 unfold x7
 by_cases h:64<iY s l t
 ·rw[if_pos h]
  exact(oF (p:=False) ⟨False.elim,fun k=>by have:=k.1;unfold iY at h;omega⟩).symm.trans (by simp) |>.symm
 ·rw[if_neg h]
  by_cases hp:l5 (iY s l t) (ef (eT (bh t (du s l))) (du s l)) t
  ·rw[<-Bh hp]
   exact((oF (p:=True) ⟨fun _=>⟨by unfold iY at h;omega,hp⟩,fun _=>trivial⟩).symm.trans (by simp)).symm
  ·rw[<-Es hp]
   exact((oF (p:=False) ⟨False.elim,fun k=>hp k.2⟩).symm.trans (by simp)).symm
theorem Of (ZU:F3) (s:ay) (l:List aa) (t:Int) (ht:t<=1099511627776) (h1:1<=l.length) (hS:iz s) (hA:jN s l):au Tryz.prog 105 [.agg (ae s),.agg [.sl (l.map ab)],.int .i64 t] (.fD [.bool (pM s l t),.bool (decide ¬64<iY s l t)]):=by
 rw[<-G2]
 refine au.body eI rfl fun hl n0=>?_
 clear hl
 have hb:=AP (l:=l) hS
 have oV:=sn (s:=s) hA.1
 have vG:=hA.1.xD
 have Bb:=ZU s l hS hA
 have WR:=Ca l.length h1 ah (du s l) (fun b h=>⟨(hb b h).1,(hb b h).2.1⟩) ah t
 have hL:=xd (bh t (du s l))
 have gh:=Hw hL (fun b h=>⟨(hb b h).1,(hb b h).2.1⟩)
 have hlen:=(pg (eT (bh t (du s l))) (du s l)).1
 have nH:=kN l.length (eT (bh t (du s l)))
 have hho:=MT (iY s l t) (by unfold iY;omega) (ef (eT (bh t (du s l))) (du s l)) (fun b h=>⟨(gh b h).1,(gh b h).2.1⟩) (fun b h=>by
  obtain⟨_,_,_,c,hc,dY⟩:=gh b h
  rw[dY];have:=hb c hc;omega) ah t ht
 have fm:(l.map ab).length=l.length:=by simp
 have hzB:∀(g:Rows) (n:Nat) (bs:List PB),V.fz g (n+1) (CX bs)=some (CX bs):=fun g n bs=>by
  unfold CX;split
  ·exact aO _ _
  ·exact bP _ _ _
 rw[ae]at Bb
 rw[<-iY]at WR
 have Ab:∀(g:Rows) (x:Int),dx (ea g) 6 [.int .i64 l.length,CX (du s l),.int .i64 x]=some [.int .i64 l.length,CX (du s l),.int .i64 x]:=fun g x=>by simp only[ai,ar,aB,hzB,Option.map_some]
 have hzh:∀(g:Rows) (x y:Int),dx (ea g) 6 [.int .i64 x,CX (ef (eT (bh t (du s l))) (du s l)),.int .i64 y]=some [.int .i64 x,CX (ef (eT (bh t (du s l))) (du s l)),.int .i64 y]:=fun g x y=>by simp only[ai,ar,aB,hzB,Option.map_some]
 generalize CX (du s l)=B1 at *
 generalize CX (ef (eT (bh t (du s l))) (du s l))=B2 at *
 by_cases xE:(64:Int)<(iY s l t:Int)
 ·have xF:64<iY s l t:=ah
  (have zF:=tw @ae.eq_1 (tw @xE @fm);(repeat(first|((repeat(revert N;apply Pn.out));refine wk zF ?_;(repeat(apply Pn.mk;intro N hN)))|((try apply Or.inl);refine⟨_,au.x (Bb) (sd zF),?_⟩;apply hN;clear hN N)));try clear zF)
  refine⟨_,au.x WR (Ab _ _),?_⟩
  apply hN
  clear hN N
  (try((repeat(revert N;apply Pn.out));refine wk @xE ?_;(repeat(apply Pn.mk;intro N hN))))
  exact ki (.inl rfl) (r1:=.bool false) (r2:=.bool false) (sd @Nat.zero_add) (sd @Nat.zero_add) (by rw[x7,if_pos xF,decide_eq_false fun h=>h xF];simp only[fK,cu,cZ,fN,Option.map_some])
 ·have xF:¬64<iY s l t:=ah
  (have zF:=tw @ae.eq_1 (tw @xE @fm);(repeat(first|((repeat(revert N;apply Pn.out));refine wk zF ?_;(repeat(apply Pn.mk;intro N hN)))|((try apply Or.inl);refine⟨_,au.x (Bb) (sd zF),?_⟩;apply hN;clear hN N)));try clear zF)
  refine⟨_,au.x WR (Ab _ _),?_⟩
  apply hN
  clear hN N
  (try((repeat(revert N;apply Pn.out));refine wk @xE ?_;(repeat(apply Pn.mk;intro N hN))))
  refine .inl ⟨_,au.x hho (hzh _ _ _),?_⟩
  apply hN
  clear hN N
  (try((repeat(revert N;apply Pn.out));refine wk @Nat.zero_add ?_;(repeat(apply Pn.mk;intro N hN))))
  exact ki (.inl rfl) (r1:=.bool (wZ (iY s l t) (ef (eT (bh t (du s l))) (du s l)) t)) (r2:=.bool true) (sd @Nat.zero_add) (sd @Nat.zero_add) (by rw[x7,if_neg xF,decide_eq_true xF];simp only[fK,cu,cZ,fN,Option.map_some])
theorem xJ (t:Int):au Tryz.prog 104 [.int .i64 t] (.bool (iE t 1 16)):=by
 refine au.body eI rfl fun hl n0=>?_
 clear hl
 have h:=ly t 1 16
 (repeat(first|((repeat(revert N;apply Pn.out));refine wk @Nat.zero_add ?_;(repeat(apply Pn.mk;intro N hN)))|((try apply Or.inl);refine⟨_,au.x (h) (sd @Nat.zero_add),?_⟩;apply hN;clear hN N)))
 exact bQ (b:=iE t 1 16) (.inl rfl) (sd @Nat.zero_add) rfl
theorem r4 (ZU:F3) (s:ax) (hn:iy s.aD) (hg:s.aD.aI.length<=1048576) (ht:s.aD.aj.length<=1048576) (hs:∀t∈s.aD.aj,t.cz.length<=1048576) (hl:s.bH.aj.length<=1048576):au Tryz.prog 65 [.agg (aM s)] (.bool (jw s)):=by
 refine au.body eI rfl fun iD n0=>?_
 clear iD
 by_cases h0:(s.bH.aj.length:Int)=0
 ·have hd:decide ((s.bH.aj.length:Int)=0)=true:=decide_eq_true h0
  (try((repeat(revert N;apply Pn.out));refine wk (tw @aM.eq_1 @hd) ?_;(repeat(apply Pn.mk;intro N hN))))
  exact bQ (b:=false) (.inl rfl) (sd @Nat.zero_add) (lf fun h=>by have:=h.some;omega)
 have hd:decide ((s.bH.aj.length:Int)=0)=false:=decide_eq_false h0
 have Tt:=xu s.aD s.bH.aj hn hg ht hs hl
 have WJ:=xJ s.aA
 have key:au Tryz.prog 36 [.agg (ae s.aD),.agg [.sl (s.bH.aj.map ab)],.int .i64 s.aA] (.fD [.bool (jw s),.int .i64 (if uH s.aD&&tD s.aD s.bH.aj then(if iE s.aA 1 16 then(if 64<iY s.aD s.bH.aj s.aA then 4 else 0)else 2)else 1)]):=by
  refine au.body eI rfl fun iD n0=>?_
  clear iD
  rw[ae]at Tt
  cases hA:uH s.aD&&tD s.aD s.bH.aj
  ·rw[hA]at Tt
   have lS:jw s=false:=(lf fun h=>by rw[qL.2 h.set,nW.2 h.Ft]at hA;cases hA).symm
   (repeat(first|((repeat(revert N;apply Pn.out));refine wk @ae.eq_1 ?_;(repeat(apply Pn.mk;intro N hN)))|((try apply Or.inl);refine⟨_,au.x (Tt) (sd @ae.eq_1),?_⟩;apply hN;clear hN N)))
   exact ki (.inl rfl) (r1:=.bool false) (r2:=.int .i64 1) (sd @Nat.zero_add) (sd @Nat.zero_add) (by rw[lS];simp only[fK,cu,cZ,fN,eL,Option.map_some];rfl)
  rw[hA]at Tt
  simp only[Bool.and_eq_true]at hA
  have hS:=qL.1 hA.1
  have hP:=nW.1 hA.2
  cases hT:iE s.aA 1 16
  ·rw[hT]at WJ
   have lS:jw s=false:=(lf fun h=>by have:=h.K3;rw[hT]at this;cases this).symm
   (repeat(first|((repeat(revert N;apply Pn.out));refine wk @ae.eq_1 ?_;(repeat(apply Pn.mk;intro N hN)))|((try apply Or.inl);refine⟨_,au.x (Tt) (sd @ae.eq_1),?_⟩;apply hN;clear hN N)|((try apply Or.inl);refine⟨_,au.x (WJ) (sd @ae.eq_1),?_⟩;apply hN;clear hN N)))
   exact ki (.inl rfl) (r1:=.bool false) (r2:=.int .i64 2) (sd @Nat.zero_add) (sd @Nat.zero_add) (by rw[lS];simp only[fK,cu,cZ,fN,eL,Option.map_some];rfl)
  have P3:=ej hT
  rw[hT]at WJ
  have dZ:=Of ZU s.aD s.bH.aj s.aA ah ah hS hP
  rw[ae]at dZ
  have hsy:jw s=pM s.aD s.bH.aj s.aA:=by
   cases hB:pM s.aD s.bH.aj s.aA
   ·exact(lf fun h=>by have:=rE.2 h.holds;rw[hB]at this;cases this).symm
   ·exact(FA ⟨hS,hP,ah,hT,rE.1 hB⟩).symm
  by_cases xE:64<iY s.aD s.bH.aj s.aA
  ·rw[decide_eq_false fun h=>h xE]at dZ
   have lS:jw s=false:=(lf fun h=>by have:=h.holds.1;unfold iY at xE;omega).symm
   (repeat(first|((repeat(revert N;apply Pn.out));refine wk @ae.eq_1 ?_;(repeat(apply Pn.mk;intro N hN)))|((try apply Or.inl);refine⟨_,au.x (Tt) (sd @ae.eq_1),?_⟩;apply hN;clear hN N)|((try apply Or.inl);refine⟨_,au.x (WJ) (sd @ae.eq_1),?_⟩;apply hN;clear hN N)|((try apply Or.inl);refine⟨_,au.x (dZ) (sd @ae.eq_1),?_⟩;apply hN;clear hN N)))
   exact ki (.inl rfl) (r1:=.bool false) (r2:=.int .i64 4) (sd @Nat.zero_add) (sd @Nat.zero_add) (by rw[lS,if_pos xE];simp only[fK,cu,cZ,fN,eL,Option.map_some])
  ·rw[decide_eq_true xE,<-hsy]at dZ
   (repeat(first|((repeat(revert N;apply Pn.out));refine wk @ae.eq_1 ?_;(repeat(apply Pn.mk;intro N hN)))|((try apply Or.inl);refine⟨_,au.x (Tt) (sd @ae.eq_1),?_⟩;apply hN;clear hN N)|((try apply Or.inl);refine⟨_,au.x (WJ) (sd @ae.eq_1),?_⟩;apply hN;clear hN N)|((try apply Or.inl);refine⟨_,au.x (dZ) (sd @ae.eq_1),?_⟩;apply hN;clear hN N)))
   exact ki (.inl rfl) (r1:=.bool (jw s)) (r2:=.int .i64 0) (sd @Nat.zero_add) (sd @Nat.zero_add) (by rw[if_neg xE];simp only[fK,cu,cZ,fN,eL,Option.map_some])
 generalize hcode:(if uH s.aD&&tD s.aD s.bH.aj then(if iE s.aA 1 16 then(if 64<iY s.aD s.bH.aj s.aA then(4:Int)else 0)else 2)else 1)=code at key
 rw[ae]at key
 cases hB:jw s
 ·rw[hB]at key
  (repeat(first|((repeat(revert N;apply Pn.out));refine wk (tw @aM.eq_1 @hd) ?_;(repeat(apply Pn.mk;intro N hN)))|((try apply Or.inl);refine⟨_,au.x (key) (sd (tw @aM.eq_1 @hd)),?_⟩;apply hN;clear hN N)))
  exact bQ (b:=false) (.inl rfl) (sd @Nat.zero_add) rfl
 ·rw[hB]at key
  have hP:=mD.1 hB
  have hc:code=0:=by
   rw[<-hcode,qL.2 hP.set,nW.2 hP.Ft,hP.K3]
   have:=hP.holds.1
   simp only[Bool.and_self,if_true]
   rw[if_neg (by unfold iY;omega)]
  rw[hc]at key
  (repeat(first|((repeat(revert N;apply Pn.out));refine wk (tw @aM.eq_1 @hd) ?_;(repeat(apply Pn.mk;intro N hN)))|((try apply Or.inl);refine⟨_,au.x (key) (sd (tw @aM.eq_1 @hd)),?_⟩;apply hN;clear hN N)))
  exact bQ (b:=true) (.inl rfl) (sd @Nat.zero_add) rfl
end Go.Proofs.YtainmfbpilopaaaGreatDoor.V

namespace Go.Proofs.YtainmfbpilopaaaGreatDoor.V
open Go.RowKit
variable {P:Program} {hs:Nat}
theorem Lg {q n i:Nat} {ops:Array Oper} {Q:Exit->Act->World->Prop} {K K':Act->World->Prop} {a:Act} {w:World} (mV:∀(j:Nat) (o:Oper),ops[j]? =some o->∀c,o.op≠.defer c) (lS:¬LetsOut Q) (hK:∀a w,K a w->K' a w) (h:wpOp P ops Q i K a w):wpOpIn (Fence.wide.inRound q) n P ops Q i K' a w:=by
 unfold wpOp at h
 unfold wpOpIn
 split at h
 ·rename_i ho;simp only[ho];exact hK _ _ h
 ·rename_i o ho
  simp only[ho]
  split at h
  ·rename_i hw
   rw[if_pos hw]
   replace h:=h.resolve_right fun hc=>lS hc.2
   refine⟨fun _ _=>trivial,?_⟩
   rw[Oper.semAt_eq _ _ _ (mV i o ho)]
   unfold Oper.wp at h
   generalize (execOp a.eval o).run P w=r at *
   cases r with
   |ok m w'=>
    cases m<;>simp only[Oper.upon,Oper.uponIn]at h ⊢
    case value=>exact hK _ _ h
    case skip=>exact hK _ _ h
    case defer=>exact hK _ _ h
    case enter f args=>
     refine⟨fun h=>by simp[Fence.wide]at h,CallsIn.inRound q (callsIn_wide.2 (h.mono fun e O7 he=>?_))⟩
     cases e with
     |returned v=>exact hK _ _ he
     |panicked c=>exact he
     |outgrown=>exact he
    case row r args=>exact⟨fun h=>by simp[Fence.wide]at h,fun c cs _=>let ⟨v,O7,h1,s⟩:=h c cs;⟨v,O7,hK _ _ h1,stepsIn_wide.2 s⟩⟩
   |halt x w'=>cases x<;>simp only[Oper.upon,Oper.uponIn]at h ⊢;exact h
  ·rename_i hw
   rw[if_neg hw]
   exact⟨fun _ _=>trivial,hK _ _ h⟩
theorem zY {q n:Nat} {md:Region.Mode} {ops:Array Oper} {Q:Exit->Act->World->Prop} (mV:∀(j:Nat) (o:Oper),ops[j]? =some o->∀c,o.op≠.defer c) (lS:¬LetsOut Q):∀(fuel:Nat) (listed:Array Bool) (a:Act) (w:World),wpAny P md ops Q fuel listed a w->wpAnyIn (Fence.wide.inRound q) n P md ops Q fuel listed a w
 |0,_,_,_,h=>h
 |fuel+1,listed,_,_,h=>⟨h.1,fun i hi=>Lg mV lS (fun a w=>zY mV lS fuel _ a w) (h.2 i hi)⟩
def II:Op->Bool
 | .defer _=>true
 |_=>false
theorem NC {ops:Array Oper} (h:(ops.all fun o=> !II o.op)=true):∀(j:Nat) (o:Oper),ops[j]? =some o->∀c,o.op≠.defer c:=fun j o hj c hc=>by
 have:=Array.all_eq_true_iff_forall_mem.1 h o (Array.mem_of_getElem? hj)
 rw[hc]at this
 simp[II]at this
theorem CO (hm:P.follows .mixedOrders=true) {nt site0 id q n:Nat} {ops:Array Oper} {vl:List bL} (h:tM P nt site0 ops true false=some vl) (mV:∀(j:Nat) (o:Oper),ops[j]? =some o->∀c,o.op≠.defer c)
  {K:Env->aw->Prop} {env:Env} {σ:aw} {a:Act} {w:World} {D:Nat->Prop} {ι:Names} {Q:Exit->Act->World->Prop} (hv:wpOps (Sound P) true vl K env σ) (dZ:St P hs nt D ι env σ a w)
  (hK:∀jl σ' a' w' D' ι',K jl σ'->Step hs D ι w D' ι' w'->St P hs nt D' ι' jl σ' a' w'->a'.defers=a.defers->Q .normal a' w'):(Code.region id ops true).wpIn (Fence.wide.inRound q) n P Q a w:=by
 have ep:∃hidden wE,allM (l8 P ops nt site0 true false (jO ops) hidden) ops.toList 0=some wE/\vl=wE/\qk ops wE (jO ops)=true:=by
  unfold tM at h
  simp only[if_true,Bool.not_true,Bool.false_or]at h
  split at h
  ·rename_i wE h'
   split at h
   ·rename_i y4;simp at h;exact⟨_,wE,h',h.symm,y4⟩
   ·cases h
  ·cases h
 obtain⟨hidden,wE,ep,rfl,y4⟩:=ep
 obtain⟨ud,T0⟩:=dZ.drew
 obtain⟨hlen,_⟩:=qc ep
 have mc:vl.length=ops.size:=by rw[hlen];simp
 have GD:=zX (X:=Sound P) (K:=K) (n:=σ.next) y4 mc vl 0 (Array.replicate ops.size false) env σ.get (by simp) (by simp) (fun i hi=>by simp[hi]) (by simp[mc]) (fun k i h=>by
  exfalso
  rcases Nat.lt_or_ge k ops.size with hk|hk
  ·simp[hk]at h
  ·simp[Nat.not_lt.2 hk]at h) hv
 rw[mc]at GD
 have hw:=AL (Q:=fun e a w=>e=.normal/\Q .normal a w) ep ops.size _ env σ.get a w.drew D ι (fun _=>False) GD ud.wi ud.used (fun _ h=>h.elim) ud.env ud.size fun jr g1 a1 w1 D1 ι1 U1 hk T S1 Zz E1 y7 hd=>⟨rfl,hK jr ⟨g1,σ.next+1⟩ a1 w1 D1 ι1 hk (T0.trans T) ⟨S1,Zz.next,E1,y7⟩ hd⟩
 have gh:=zY (q:=q) (n:=n) (Q:=fun e a w=>e=.normal/\Q .normal a w) mV (by rintro⟨_,_,hc,_⟩;cases hc) ops.size _ a w.drew hw
 refine wpIn_mono (wpIn_region_any (id:=id) hm gh) ?_
 rintro e a w ⟨rfl,h⟩
 exact h
end Go.Proofs.YtainmfbpilopaaaGreatDoor.V
