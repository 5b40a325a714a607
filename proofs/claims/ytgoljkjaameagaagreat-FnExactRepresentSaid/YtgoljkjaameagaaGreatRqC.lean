/- Copies of one's own of the laws' arguments: lists whose elements may hold rows of their own. -/
import Derived.Test.YtgoljkjaameagaaGreatRqB
import Derived.Test.YtgoljkjaameagaaGreatChecked
import Derived.Test.YtgoljkjaameagaaGreatRqA
set_option linter.unusedVariables false
set_option linter.unusedSimpArgs false
set_option maxRecDepth 100000
set_option maxHeartbeats 16000000
namespace Go.Proofs.YtgoljkjaameagaaGreat.V
open Go.RowKit
attribute [local irreducible] dQ wpOps ft Call
attribute [local go_sem] aA eV ef e9 e8 cZ upd bQ K.av cr AV.cells AV.cell rowOf rowsOf part ld rowAt bD bL dm dD fE bu cK dO fa eF db dH cI cH dw dx bz aQ cz bx cD cC dF dI dG cw bC cJ dE bw az cF bZ fD bj cq bB aJ cX aX dn AV.undef bp br dy dC du dz cm dM dP bU dK dJ cE cG List.getD_cons_zero List.getD_cons_succ List.getD_nil List.all_cons List.all_nil Bool.and_true Bool.true_and Bool.and_self Bool.not_true Bool.not_false Option.map_some Option.map_none Option.bind_some Option.bind_none List.length_cons List.length_nil List.take_succ_cons List.take_zero List.take_nil List.drop_succ_cons List.drop_zero List.drop_nil List.head?_cons List.map_cons List.map_nil List.getElem?_cons_zero List.getElem?_cons_succ List.cons_append List.nil_append List.append_nil List.length_map List.set_cons_zero List.set_cons_succ Nat.reduceMul eq_self Int.toNat_natCast Int.natCast_nonneg and_self true_and and_true decide_true decide_false Bool.false_eq_true Nat.zero_add Nat.add_zero List.contains_cons List.contains_nil Bool.or_false Bool.false_or beq_self_eq_true Nat.reduceBEq ne_eq not_true_eq_false not_false_eq_true Id.mk.injEq false_and and_false Nat.reduceLT Int.reduceLE Int.reduceLT Int.reduceToNat Int.reduceNeg Int.reduceAdd Nat.le_refl List.length_append beq_true beq_false Bool.not_eq_eq_eq_not or_false false_or dR ab aj ay bo bJ aD aV aH aU cu bq
variable {P:Program}
def KI {α:Type} (R:Cv α) (x:α) (σ:au) (r:AV) (σ':au):Prop:=∃cs ids,r=.agg cs/\R σ'.get cs x ids/\fC σ.next σ'.next ids/\Kept σ σ'
def iw {α:Type} (R:Cv α) (z:Nat) (g:Rows) (a:AV) (xs:List α) (ids:List Id):Prop:=∃o rows is,a=.own o 0 xs.length/\g o=some ⟨true,z,rows⟩/\eH R g rows xs is/\ids=o::is
def KJ {α:Type} (R:Cv α) (z:Nat) (xs:List α) (σ:au) (r:AV) (σ':au):Prop:=∃ids,iw R z σ'.get r xs ids/\fC σ.next σ'.next ids/\Kept σ σ'
theorem iw.frame {α:Type} {R:Cv α} {z:Nat} {g g':Rows} {a:AV} {xs:List α} {ids:List Id} (ok:wO R z) (h:iw R z g a xs ids) (hf:∀i∈ids,g' i=g i):iw R z g' a xs ids:=by
 obtain⟨o,rows,is,h1,h2,h3,rfl⟩:=h
 exact⟨o,rows,is,h1,(hf o (by simp)).trans h2,h3.frame ok fun i hi=>hf i (by simp[hi]),rfl⟩
theorem iw.fz {α:Type} {R:Cv α} {z n:Nat} {e:α->List AV} {g:Rows} {a:AV} {xs:List α} {ids:List Id} (h:iw R z g a xs ids) (hz:∀{cs x ids},R g cs x ids->de (dR g) n cs=some (e x)):V.fz (dR g) (n+1) a=some (.sl (xs.map e)):=by
 obtain⟨o,rows,is,rfl,h2,h3,rfl⟩:=h
 rw[gV]
 simp only[dR,h2,Option.map_some,if_true]
 rw[if_pos (by rw[h3.len];omega),List.drop_zero,List.take_of_length_le (by rw[h3.len];exact Nat.le_refl _),h3.fz hz];rfl
def kU {α:Type} (e:α->List AV):Cv α:=fun _ cs x ids=>cs=e x/\ids=[]
theorem Ir {α:Type} {e:α->List AV} {z:Nat} (hz:∀x,(e x).length=z) (hc:∀x,(e x).all AV.cell=true) (hs:z<tC):wO (kU e) z where
 frame:=fun h _=>h
 len:=fun h=>by rw[h.1];exact hz _
 cell:=fun h=>by rw[h.1];exact hc _
 live:=fun h i hi=>by rw[h.2]at hi;cases hi
 small:=hs
def nJ:Cv eW:=fun g cs t ids=>∃i,cs=[.str t.aW,.own i 0 t.b4.length]/\g i=some ⟨true,1,t.b4.map bt⟩/\ids=[i]
theorem qe:wO nJ 2 where
 frame:=fun⟨i,h1,h2,h3⟩ hf=>⟨i,h1,(hf i (by rw[h3];simp)).trans h2,h3⟩
 len:=fun⟨i,h1,_⟩=>by rw[h1];rfl
 cell:=fun⟨i,h1,_⟩=>by rw[h1];rfl
 live:=fun⟨i,h1,h2,h3⟩ j hj=>by
  rw[h3]at hj
  have:j=i:=by simpa using hj
  subst this
  exact⟨_,h2,rfl,by simp[tC]⟩
 small:=by simp[tC]
theorem Mt {g:Rows} {cs:List AV} {t:eW} {ids:List Id} (n:Nat) (h:nJ g cs t ids):de (dR g) (n+2) cs=some (bV t):=by
 obtain⟨i,rfl,h2,_⟩:=h
 have h3:V.fz (dR g) (n+2) (.own i 0 t.b4.length)=some (.sl (t.b4.map bt)):=gr (e:=bt) (sz:=1) (by simp[dR,h2]) rfl fun x=>by simp[bt,ab,aj,ay]
 simp only[ab,aj,bo,h3,Option.map_some,bV]
theorem Mm {α:Type} {a b:List α} {x y:α} {k:Nat} (hk:a.length=k):(a++x::b).set k y=a++[y]++b:=by subst hk;simp
theorem zU {α:Type} {R:Cv α} {en:α->List AV} {z fk gk:Nat} {zero:List K} (ok:wO R z) (hc:lP P fk=some (tg fk gk z zero)) (HC:zero.length=z) (hz:∀x,(en x).length=z) (xs:List α) (hlen:xs.length<=1048576)
  (hg:∀x∈xs,∀σ,Call P gk [.agg (en x)] σ (KI R x σ)) (σ:au):Call P fk [.sl (xs.map en)] σ (KJ R z xs σ):=by
 refine fo hc rfl fun hl=>?_
 try simp only[q]
 clear hl
 have hm:(xs.length:Int)<=((16777216:Nat):Int):=ai
 have h0:(0:Int)<=(xs.length:Int):=ai
 (try((repeat(revert hN;revert N;apply Pn.out));refine wk (tw @hm (tw @h0 (tw @Int.le_refl @HC))) ?_;(repeat(refine Pn.mk ?_;intro N hN))))
 refine bF (fun n env st=>∃k:Nat,n=(xs.length)-k/\k<=(xs.length)/\env 4=.int .i64 (k:Int)/\(σ.next+2<=st.next/\(∀y:Id,y.cV<σ.next->st.get y=σ.get y)/\∃rows is,st.get ⟨fk*1000000+1002,σ.next+1⟩=some ⟨true,z,rows++List.replicate (xs.length-k) (zero.map K.av)⟩/\eH R st.get rows (xs.take k) is/\fC (σ.next+2) st.next is)) (xs.length) ⟨0,ai,ai,sl @Nat.zero_add,by(try dsimp only);exact⟨ai,fun y hy=>by
  have h1:=eL hy
  simp only[go_sem, ↓reduceIte,Nat.reduceEqDiff,Nat.reduceAdd,Nat.reduceSub,Nat.reduceLeDiff,reduceCtorEq,h1],[],[],sl @Nat.zero_add,.nil,List.nodup_nil,fun i hi=>by cases hi⟩⟩ ?_
 rintro n_a env_a st_a ⟨k,rfl,ale,a4,lL⟩ ev
 have a0:=ev 0 (by kernel_rfl);have a3:=ev 3 (by kernel_rfl)
 simp only[go_sem, ↓reduceIte,Nat.reduceEqDiff,Nat.reduceAdd,Nat.reduceSub,Nat.reduceLeDiff,reduceCtorEq]at a0 a3
 clear ev
 obtain⟨an,aK,rows,is,ag,aR,aN⟩:=lL
 have rI:rows.length=k:=by rw[aR.len,List.length_take];omega
 by_cases hk:(k:Int)<(xs.length:Int)
 ·have cY:∀{e:Env} {gg:Rows} {nx:Nat},(e 4=.int .i64 (IntKind.i64.wrap ((k:Int)+1)))->(σ.next+2<=nx/\(∀y:Id,y.cV<σ.next->gg y=σ.get y)/\∃rows is,gg ⟨fk*1000000+1002,σ.next+1⟩=some ⟨true,z,rows++List.replicate (xs.length-(k+1)) (zero.map K.av)⟩/\eH R gg rows (xs.take (k+1)) is/\fC (σ.next+2) nx is)->∃m0,m0<(xs.length)-k/\∃k:Nat,m0=(xs.length)-k/\k<=(xs.length)/\e 4=.int .i64 (k:Int)/\(σ.next+2<=nx/\(∀y:Id,y.cV<σ.next->gg y=σ.get y)/\∃rows is,gg ⟨fk*1000000+1002,σ.next+1⟩=some ⟨true,z,rows++List.replicate (xs.length-k) (zero.map K.av)⟩/\eH R gg rows (xs.take k) is/\fC (σ.next+2) nx is):=fun x1 x2=>⟨_,ai,k+1,rfl,ai,(by rw[x1,aI ai]),x2⟩
  have fM:k<xs.length:=ai
  have eU:(xs.map en)[k]? =some (en xs[k]):=by simp[fM]
  have sV:=hz xs[k]
  have ht:(en xs[k]).take z=en xs[k]:=by rw[<-sV,List.take_length]
  have ij:=hg _ (List.getElem_mem fM)
  obtain⟨m,r7⟩:∃m,xs.length-k=m+1:=⟨xs.length-k-1,ai⟩
  rw[r7,List.replicate_succ]at ag
  generalize hex:en xs[k]=c at ij eU sV ht
  (try((repeat(revert hN;revert N;apply Pn.out));refine wk (tw @a4 (tw @a0 (tw @a3 (tw @hk (tw @eU (tw @sV (tw @ht @Nat.le_refl))))))) ?_;(repeat(refine Pn.mk ?_;intro N hN))))
  refine .inr (aY _ _ _ _ _ (fun r σ1 hq=>?_) (ij _))
  obtain⟨cs,ids,rfl,hR,hI,hK⟩:=hq
  obtain⟨g1,x1⟩:=σ1
  (try dsimp only at hR hI hK)
  have Ah:=(hK.2 ⟨fk*1000000+1002,σ.next+1⟩ bK)
  simp only[go_sem, ↓reduceIte,Nat.reduceEqDiff,Nat.reduceAdd,Nat.reduceSub,Nat.reduceLeDiff,reduceCtorEq,ag]at Ah
  have lS:=ok.len hR
  have zb:=ok.cell hR
  have fq:(rows++zero.map K.av::List.replicate m (zero.map K.av))[k]? =some (zero.map K.av):=by rw[List.getElem?_append_right ai,rI,Nat.sub_self];rfl
  have eI:(rows++zero.map K.av::List.replicate m (zero.map K.av)).set k cs=rows++[cs]++List.replicate m (zero.map K.av):=Mm rI
  have ID:(zero.map K.av).drop z=[]:=List.drop_of_length_le (by simp[HC])
  have IL:(rows++zero.map K.av::List.replicate m (zero.map K.av)).length=xs.length:=by simp[rI];omega
  refine hN _ _ ?_
  clear hN N
  (try((repeat(revert hN;revert N;apply Pn.out));refine wk (tw @a4 (tw @a0 (tw @a3 (tw @hk (tw @Ah (tw @fq (tw @eI (tw @IL (tw @ID (tw @uq (tw @lS (tw @zb (tw @Nat.le_refl @HC))))))))))))) ?_;(repeat(refine Pn.mk ?_;intro N hN))))
  have zg:=hK.1
  have Kt:∀i∈is,(i=⟨fk*1000000+1002,σ.next+1⟩)=False:=fun i hi=>eq_false fun e=>by
   have:=(aN.2 i hi).1
   subst e;(try dsimp only at this);omega
  have Gf:∀i∈ids,(i=⟨fk*1000000+1002,σ.next+1⟩)=False:=fun i hi=>eq_false fun e=>by
   have:=(hI.2 i hi).1
   subst e;(try dsimp only at this);omega
  exact cY (sd (tw @a4 (tw @a0 @a3))) (by(try dsimp only at *);exact⟨ai,fun y hy=>by
   have h1:=eL hy
   have h2:=hK.2 y bK
   have h3:=aK y hy
   simp only[go_sem, ↓reduceIte,Nat.reduceEqDiff,Nat.reduceAdd,Nat.reduceSub,Nat.reduceLeDiff,reduceCtorEq]at h2
   simp only[go_sem, ↓reduceIte,Nat.reduceEqDiff,Nat.reduceAdd,Nat.reduceSub,Nat.reduceLeDiff,reduceCtorEq,h1,h2,h3],rows++[cs],is++ids,by
    rw[show xs.length-(k+1)=m by omega]
    simp only[go_sem, ↓reduceIte,Nat.reduceEqDiff,Nat.reduceAdd,Nat.reduceSub,Nat.reduceLeDiff,reduceCtorEq]<;>rfl,by
    rw[List.take_succ_eq_append_getElem fM]
    refine((aR.frame ok fun i hi=>?_).app (.one (ok.frame hR fun i hi=>?_)))
    ·have h1:=Kt i hi
     have h2:=hK.2 i (by(try dsimp only);have:=(aN.2 i hi).2;omega)
     simp only[go_sem, ↓reduceIte,Nat.reduceEqDiff,Nat.reduceAdd,Nat.reduceSub,Nat.reduceLeDiff,reduceCtorEq]at h2
     simp only[go_sem, ↓reduceIte,Nat.reduceEqDiff,Nat.reduceAdd,Nat.reduceSub,Nat.reduceLeDiff,reduceCtorEq,h1,h2]
    ·have h1:=Gf i hi
     simp only[go_sem, ↓reduceIte,Nat.reduceEqDiff,Nat.reduceAdd,Nat.reduceSub,Nat.reduceLeDiff,reduceCtorEq,h1],(aN.app hI bK ai bK).wide (Nat.le_refl _) bK⟩)
 ·(try((repeat(revert hN;revert N;apply Pn.out));refine wk (tw @a4 (tw @a0 (tw @a3 @hk))) ?_;(repeat(refine Pn.mk ?_;intro N hN))))
  have fM:k=xs.length:=ai
  subst fM
  rw[Nat.sub_self,List.replicate_zero,List.append_nil]at ag
  rw[List.take_length]at aR
  refine fJ (.inl rfl) (vs:=[.own ⟨fk*1000000+1002,σ.next+1⟩ 0 xs.length]) (sd (tw @a4 (tw @a0 @a3))) ?_
  exact⟨_,⟨_,rows,is,rfl,ag,aR,rfl⟩,⟨List.nodup_cons.2 ⟨fun hi=>by have:=(aN.2 _ hi).1;(try dsimp only at this);omega,aN.1⟩,fun i hi=>by
   rcases List.mem_cons.1 hi with rfl|hi
   ·(try dsimp only);omega
   ·have:=aN.2 i hi;(try dsimp only);omega⟩,⟨bK,fun j hj=>aK j hj⟩⟩
end Go.Proofs.YtgoljkjaameagaaGreat.V

namespace Go.Proofs.YtgoljkjaameagaaGreat.V
open Go.RowKit
attribute [local irreducible] dQ wpOps ft Call
attribute [local go_sem] aA eV ef e9 e8 cZ upd bQ K.av cr AV.cells AV.cell rowOf rowsOf part ld rowAt bD bL dm dD fE bu cK dO fa eF db dH cI cH dw dx bz aQ cz bx cD cC dF dI dG cw bC cJ dE bw az cF bZ fD bj cq bB aJ cX aX dn AV.undef bp br dy dC du dz cm dM dP bU dK dJ cE cG List.getD_cons_zero List.getD_cons_succ List.getD_nil List.all_cons List.all_nil Bool.and_true Bool.true_and Bool.and_self Bool.not_true Bool.not_false Option.map_some Option.map_none Option.bind_some Option.bind_none List.length_cons List.length_nil List.take_succ_cons List.take_zero List.take_nil List.drop_succ_cons List.drop_zero List.drop_nil List.head?_cons List.map_cons List.map_nil List.getElem?_cons_zero List.getElem?_cons_succ List.cons_append List.nil_append List.append_nil List.length_map List.set_cons_zero List.set_cons_succ Nat.reduceMul eq_self Int.toNat_natCast Int.natCast_nonneg and_self true_and and_true decide_true decide_false Bool.false_eq_true Nat.zero_add Nat.add_zero List.contains_cons List.contains_nil Bool.or_false Bool.false_or beq_self_eq_true Nat.reduceBEq ne_eq not_true_eq_false not_false_eq_true Id.mk.injEq false_and and_false Nat.reduceLT Int.reduceLE Int.reduceLT Int.reduceToNat Int.reduceNeg Int.reduceAdd Nat.le_refl List.length_append beq_true beq_false Bool.not_eq_eq_eq_not or_false false_or dR ab aj ay bo bJ aD aV aH aU cu bq
theorem iw.ku {α:Type} {R:Cv α} {z:Nat} {g:Rows} {a:AV} {xs:List α} {ids:List Id} (h:iw R z g a xs ids):∃o,a=.own o 0 xs.length:=by
 obtain⟨o,rows,is,rfl,_⟩:=h;exact⟨o,rfl⟩
theorem Cl (xs:List Int) (hlen:xs.length<=1048576) (σ:au):Call Tryz.prog 17 [.sl (xs.map bt)] σ (fun r σ'=>∃i,r=.own i 0 xs.length/\σ'.get i=some ⟨true,1,xs.map bt⟩/\fC σ.next σ'.next [i]/\Kept σ σ'):=by
 refine fo (show lP Tryz.prog 17=some (Kc 17 (.int .i64 0)) by kernel_rfl) rfl fun hl=>?_
 try simp only[q]
 clear hl
 obtain⟨en,Hv⟩:∃en:Int->List AV,en=bt:=⟨_,rfl⟩
 rw[<-Hv]
 have hm:(xs.length:Int)<=((16777216:Nat):Int):=ai
 have h0:(0:Int)<=(xs.length:Int):=ai
 (try((repeat(revert hN;revert N;apply Pn.out));refine wk (tw @hm (tw @h0 (tw @Int.le_refl (nP en [AV.int .i64 0] xs)))) ?_;(repeat(refine Pn.mk ?_;intro N hN))))
 refine bF (fun n env st=>∃k:Nat,n=(xs.length)-k/\k<=(xs.length)/\env 4=.int .i64 (k:Int)/\st.get ⟨17*1000000+1002,σ.next+1⟩=some ⟨true,1,gL en [AV.int .i64 0] xs k⟩/\(σ.next+2<=st.next/\∀y:Id,y.cV<σ.next->st.get y=σ.get y)) (xs.length) ⟨0,ai,ai,sl @Nat.zero_add,sl @Nat.zero_add,by(try dsimp only);exact⟨ai,fun y hy=>by
  have h1:=eL hy
  simp only[go_sem, ↓reduceIte,Nat.reduceEqDiff,Nat.reduceAdd,Nat.reduceSub,Nat.reduceLeDiff,reduceCtorEq,h1]⟩⟩ ?_
 rintro n_a env_a st_a ⟨k,rfl,ale,a4,ag0,lL⟩ ev
 have a0:=ev 0 (by kernel_rfl);have a3:=ev 3 (by kernel_rfl)
 simp only[go_sem, ↓reduceIte,Nat.reduceEqDiff,Nat.reduceAdd,Nat.reduceSub,Nat.reduceLeDiff,reduceCtorEq]at a0 a3
 clear ev
 obtain⟨an,aK⟩:=lL
 by_cases hk:(k:Int)<(xs.length:Int)
 ·have cY:∀{e:Env} {gg:Rows} {nx:Nat},(e 4=.int .i64 (IntKind.i64.wrap ((k:Int)+1)))->(gg ⟨17*1000000+1002,σ.next+1⟩=some ⟨true,1,gL en [AV.int .i64 0] xs (k+1)⟩)->(σ.next+2<=nx/\∀y:Id,y.cV<σ.next->gg y=σ.get y)->∃m0,m0<(xs.length)-k/\∃k:Nat,m0=(xs.length)-k/\k<=(xs.length)/\e 4=.int .i64 (k:Int)/\gg ⟨17*1000000+1002,σ.next+1⟩=some ⟨true,1,gL en [AV.int .i64 0] xs k⟩/\(σ.next+2<=nx/\∀y:Id,y.cV<σ.next->gg y=σ.get y):=fun x1 x2 x3=>⟨_,ai,k+1,rfl,ai,(by rw[x1,aI ai]),x2,x3⟩
  have fM:k<xs.length:=ai
  have eU:(xs.map en)[k]? =some [AV.int .i64 xs[k]]:=by simp[fM,Hv,bt]
  have gh:=pP en [AV.int .i64 0] xs fM
  have eI:=pQ en [AV.int .i64 0] xs fM
  rw[show en xs[k]=[AV.int .i64 xs[k]] by rw[Hv];rfl]at eI
  (try((repeat(revert hN;revert N;apply Pn.out));refine wk (tw @a4 (tw @ag0 (tw @a0 (tw @a3 (tw @hk (tw @eU (tw @gh @eI))))))) ?_;(repeat(refine Pn.mk ?_;intro N hN))))
  refine cY ?_ ?_ (by(try dsimp only);exact⟨ai,fun y hy=>by
   have h1:=eL hy
   have h3:=aK y hy
   simp only[go_sem, ↓reduceIte,Nat.reduceEqDiff,Nat.reduceAdd,Nat.reduceSub,Nat.reduceLeDiff,reduceCtorEq,h1,h3]⟩)
  all_goals simp only[go_sem, ↓reduceIte,Nat.reduceEqDiff,Nat.reduceAdd,Nat.reduceSub,Nat.reduceLeDiff,reduceCtorEq,a4,ag0,a0,a3]
 ·(try((repeat(revert hN;revert N;apply Pn.out));refine wk (tw @a4 (tw @ag0 (tw @a0 (tw @a3 @hk)))) ?_;(repeat(refine Pn.mk ?_;intro N hN))))
  have fM:k=xs.length:=ai
  subst fM
  refine fJ (.inl rfl) (vs:=[.own ⟨17*1000000+1002,σ.next+1⟩ 0 xs.length]) (sd (tw @a4 (tw @ag0 (tw @a0 @a3)))) ?_
  rw[pO]at ag0
  exact⟨_,rfl,ag0,⟨List.nodup_cons.2 ⟨by simp,List.nodup_nil⟩,fun i hi=>by
   rw[List.mem_singleton.1 hi];(try dsimp only);omega⟩,⟨bK,fun j hj=>aK j hj⟩⟩
theorem Kd (p:eW) (hs:rP p) (σ:au):Call Tryz.prog 198 [.agg (bV p)] σ (KI nJ p σ):=by
 refine fo eG rfl fun hl=>?_
 clear hl
 (try((repeat(revert hN;revert N;apply Pn.out));refine wk @bV.eq_1 ?_;(repeat(refine Pn.mk ?_;intro N hN))))
 refine .inr (aY _ _ _ _ _ (fun r σ1 hq=>?_) (Cl p.b4 hs _))
 obtain⟨i,rfl,hg,hI,hK⟩:=hq
 obtain⟨g1,x1⟩:=σ1
 (try dsimp only at hg hI hK)
 have hn:=hK.1
 refine hN _ _ ?_
 clear hN N
 have hi:=hI.2 i (by simp)
 have k2:=hK.2 ⟨198000001,σ.next⟩ bK
 have k3:=hK.2 ⟨198001000,σ.next+1⟩ bK
 simp only[go_sem, ↓reduceIte,Nat.reduceEqDiff,Nat.reduceAdd,Nat.reduceSub,Nat.reduceLeDiff,reduceCtorEq]at k2 k3
 (try((repeat(revert hN;revert N;apply Pn.out));refine wk (tw @bV.eq_1 (tw @k2 @k3)) ?_;(repeat(refine Pn.mk ?_;intro N hN))))
 refine fJ (.inl rfl) (vs:=[.agg [.str p.aW,.own i 0 p.b4.length]]) (sd @Nat.zero_add) ?_
 refine⟨_,[i],rfl,⟨i,rfl,?_,rfl⟩,⟨hI.1,fun j hj=>?_⟩,⟨?_,fun j hj=>?_⟩⟩
 ·have i2:=dr (b:=i) (a:=⟨198000001,σ.next⟩) (by(try dsimp only at *);omega)
  have i3:=dr (b:=i) (a:=⟨198001000,σ.next+1⟩) (by(try dsimp only at *);omega)
  simp only[go_sem, ↓reduceIte,Nat.reduceEqDiff,Nat.reduceAdd,Nat.reduceSub,Nat.reduceLeDiff,reduceCtorEq,i2,i3,hg]
 ·rw[List.mem_singleton.1 hj]
  (try dsimp only at *);omega
 ·(try dsimp only at *);omega
 ·have h2:=hK.2 j bK
  have h1:=eL hj
  simp only[go_sem, ↓reduceIte,Nat.reduceEqDiff,Nat.reduceAdd,Nat.reduceSub,Nat.reduceLeDiff,reduceCtorEq,h1]at h2
  simp only[go_sem, ↓reduceIte,Nat.reduceEqDiff,Nat.reduceAdd,Nat.reduceSub,Nat.reduceLeDiff,reduceCtorEq,h1,h2]
theorem A7:wO (kU cL) 2:=Ir (fun _=>rfl) (fun _=>rfl) (by simp[tC])
theorem xN:wO (kU aa) 3:=Ir (fun _=>rfl) (fun _=>rfl) (by simp[tC])
theorem J9 (p:fH) (σ:au):Call Tryz.prog 197 [.agg (cL p)] σ (KI (kU cL) p σ):=by
 refine fo eG rfl fun hl=>?_
 clear hl
 (try((repeat(revert hN;revert N;apply Pn.out));refine wk @cL.eq_1 ?_;(repeat(refine Pn.mk ?_;intro N hN))))
 refine fJ (.inl rfl) (vs:=[.agg (cL p)]) (sd @cL.eq_1) ?_
 exact⟨_,[],rfl,⟨rfl,rfl⟩,⟨List.nodup_nil,fun i hi=>by cases hi⟩,⟨bK,fun j hj=>by
  have h1:=eL hj
  simp only[go_sem, ↓reduceIte,Nat.reduceEqDiff,Nat.reduceAdd,Nat.reduceSub,Nat.reduceLeDiff,reduceCtorEq,h1]⟩⟩
theorem Ey (p:ae) (σ:au):Call Tryz.prog 149 [.agg (aa p)] σ (KI (kU aa) p σ):=by
 refine fo eG rfl fun hl=>?_
 clear hl
 have h:=yG p.bE
 rw[ar]at h
 (repeat(first|((repeat(revert hN;revert N;apply Pn.out));refine wk @aa.eq_1 ?_;(repeat(refine Pn.mk ?_;intro N hN)))|((try apply Or.inl);refine⟨_,jU.x (h) _,?_⟩;refine hN _ _ ?_;clear hN N)))
 refine fJ (.inl rfl) (vs:=[.agg (aa p)]) (sd @aa.eq_1) ?_
 exact⟨_,[],rfl,⟨rfl,rfl⟩,⟨List.nodup_nil,fun i hi=>by cases hi⟩,⟨bK,fun j hj=>by
  have h1:=eL hj
  simp only[go_sem, ↓reduceIte,Nat.reduceEqDiff,Nat.reduceAdd,Nat.reduceSub,Nat.reduceLeDiff,reduceCtorEq,h1]⟩⟩
theorem Hj (xs:List fH) (h:xs.length<=1048576) (σ:au):Call Tryz.prog 129 [.sl (xs.map cL)] σ (KJ (kU cL) 2 xs σ):=
 zU A7 (show lP Tryz.prog 129=some (tg 129 197 2 [.str [],.int .i64 0]) by kernel_rfl) rfl (fun _=>rfl) xs h (fun x _ σ=>J9 x σ) σ
theorem Hl (xs:List eW) (h:xs.length<=1048576) (hs:∀t∈xs,rP t) (σ:au):Call Tryz.prog 130 [.sl (xs.map bV)] σ (KJ nJ 2 xs σ):=
 zU qe (show lP Tryz.prog 130=some (tg 130 198 2 [.str [],.bS]) by kernel_rfl) rfl (fun _=>rfl) xs h (fun x hx σ=>Kd x (hs x hx) σ) σ
theorem Cn (xs:List ae) (h:xs.length<=1048576) (σ:au):Call Tryz.prog 80 [.sl (xs.map aa)] σ (KJ (kU aa) 3 xs σ):=
 zU xN (show lP Tryz.prog 80=some (tg 80 149 3 [.int .i64 0,.int .i64 0,.int .i64 0]) by kernel_rfl) rfl (fun _=>rfl) xs h (fun x _ σ=>Ey x σ) σ
def yJ (g:Rows) (v:AV) (a:eu) (ids:List Id):Prop:=∃x,v=.agg [x]/\iw (kU aa) 3 g x a.ah ids
structure um (g:Rows) (v:AV) (s:dc) (ids:List Id):Prop where
 ex:∃a b c i1 i2 i3,v=.agg [a,b,c,.int .i64 s.aC]/\iw (kU cL) 2 g a s.aM.aw i1/\iw nJ 2 g b s.aM.ah i2/\iw (kU aa) 3 g c s.cj.ah i3/\ids=i1++(i2++i3)
theorem yJ.frame {g g':Rows} {v:AV} {a:eu} {ids:List Id} (h:yJ g v a ids) (hf:∀i∈ids,g' i=g i):yJ g' v a ids:=by
 obtain⟨x,h1,h2⟩:=h
 exact⟨x,h1,h2.frame xN hf⟩
theorem um.frame {g g':Rows} {v:AV} {s:dc} {ids:List Id} (h:um g v s ids) (hf:∀i∈ids,g' i=g i):um g' v s ids:=by
 obtain⟨a,b,c,i1,i2,i3,h1,h2,h3,h4,rfl⟩:=h.ex
 exact⟨a,b,c,i1,i2,i3,h1,h2.frame A7 fun i hi=>hf i (by simp[hi]),h3.frame qe fun i hi=>hf i (by simp[hi]),h4.frame xN fun i hi=>hf i (by simp[hi]),rfl⟩
theorem yJ.fz {g:Rows} {v:AV} {a:eu} {ids:List Id} (n:Nat) (h:yJ g v a ids):V.fz (dR g) (n+4) v=some (.agg (bh a)):=by
 obtain⟨x,rfl,h2⟩:=h
 have h3:=h2.fz (n:=n+2) (e:=aa) fun hc=>by rw[hc.1];simp[aa,ab,aj,ay]
 simp only[aV,ab,aj,h3,Option.map_some,bh]
theorem um.fz {g:Rows} {v:AV} {s:dc} {ids:List Id} (n:Nat) (h:um g v s ids):V.fz (dR g) (n+5) v=some (.agg (bY s)):=by
 obtain⟨a,b,c,i1,i2,i3,rfl,h2,h3,h4,rfl⟩:=h.ex
 have q1:=h2.fz (n:=n+3) (e:=cL) fun hc=>by rw[hc.1];simp[cL,ab,aj,ay,bo]
 have q2:=h3.fz (n:=n+3) (e:=bV) fun hc=>Mt (n+1) hc
 have q3:=h4.fz (n:=n+3) (e:=aa) fun hc=>by rw[hc.1];simp[aa,ab,aj,ay]
 simp only[aV,ab,aj,q1,q2,q3,ay,Option.map_some,bY]
theorem rq (p:eu) (hs:p.ah.length<=1048576) (σ:au):Call Tryz.prog 18 [.agg (bh p)] σ (fun r σ'=>∃ids,yJ σ'.get r p ids/\fC σ.next σ'.next ids/\Kept σ σ'):=by
 refine fo eG rfl fun hl=>?_
 clear hl
 (try((repeat(revert hN;revert N;apply Pn.out));refine wk @bh.eq_1 ?_;(repeat(refine Pn.mk ?_;intro N hN))))
 refine .inr (aY _ _ _ _ _ (fun r σ1 hq=>?_) (Cn p.ah hs _))
 obtain⟨ids,hR,hI,hK⟩:=hq
 obtain⟨g1,x1⟩:=σ1
 (try dsimp only at hR hI hK)
 have hn:=hK.1
 obtain⟨o,rows,is,rfl,hg,Uk,rfl⟩:=hR
 refine hN _ _ ?_
 clear hN N
 have k2:=hK.2 ⟨18000001,σ.next⟩ bK
 have k3:=hK.2 ⟨18001000,σ.next+1⟩ bK
 simp only[go_sem, ↓reduceIte,Nat.reduceEqDiff,Nat.reduceAdd,Nat.reduceSub,Nat.reduceLeDiff,reduceCtorEq]at k2 k3
 (try((repeat(revert hN;revert N;apply Pn.out));refine wk (tw @bh.eq_1 (tw @k2 @k3)) ?_;(repeat(refine Pn.mk ?_;intro N hN))))
 refine fJ (.inl rfl) (vs:=[.agg [.own o 0 p.ah.length]]) (sd @Nat.zero_add) ?_
 have hb:=hI.2
 (try dsimp only at hb hn)
 refine⟨_,⟨_,rfl,iw.frame xN ⟨o,rows,is,rfl,hg,Uk,rfl⟩ fun j hj=>?_⟩,⟨hI.1,fun j hj=>?_⟩,⟨?_,fun j hj=>?_⟩⟩
 ·have UF:=hb j hj
  have i2:=dr (b:=j) (a:=⟨18000001,σ.next⟩) bK
  have i3:=dr (b:=j) (a:=⟨18001000,σ.next+1⟩) bK
  simp only[go_sem, ↓reduceIte,Nat.reduceEqDiff,Nat.reduceAdd,Nat.reduceSub,Nat.reduceLeDiff,reduceCtorEq,i2,i3]
 ·have:=hb j hj
  (try dsimp only);omega
 ·(try dsimp only);omega
 ·have h2:=hK.2 j bK
  have h1:=eL hj
  simp only[go_sem, ↓reduceIte,Nat.reduceEqDiff,Nat.reduceAdd,Nat.reduceSub,Nat.reduceLeDiff,reduceCtorEq,h1]at h2
  simp only[go_sem, ↓reduceIte,Nat.reduceEqDiff,Nat.reduceAdd,Nat.reduceSub,Nat.reduceLeDiff,reduceCtorEq,h1,h2]
theorem Cp (p:ax) (hs:HO p) (σ:au):Call Tryz.prog 63 [.agg (ad p)] σ (fun r σ'=>∃a b i1 i2,r=.agg [a,b]/\iw (kU cL) 2 σ'.get a p.aw i1/\iw nJ 2 σ'.get b p.ah i2/\fC σ.next σ'.next (i1++i2)/\Kept σ σ'):=by
 refine fo eG rfl fun hl=>?_
 clear hl
 (try((repeat(revert hN;revert N;apply Pn.out));refine wk @ad.eq_1 ?_;(repeat(refine Pn.mk ?_;intro N hN))))
 refine .inr (aY _ _ _ _ _ (fun r σ1 hq=>?_) (Hj p.aw hs.g _))
 obtain⟨i1,hR,hI,hK⟩:=hq
 obtain⟨g1,x1⟩:=σ1
 (try dsimp only at hR hI hK)
 have hn:=hK.1
 obtain⟨o,rows,is,rfl,hg,Uk,rfl⟩:=hR
 have hb:=hI.2
 (try dsimp only at hb hn)
 refine hN _ _ ?_
 clear hN N
 have k1:=hK.2 ⟨63000000,σ.next⟩ bK
 have k2:=hK.2 ⟨63000001,σ.next⟩ bK
 have k3:=hK.2 ⟨63001000,σ.next+1⟩ bK
 simp only[go_sem, ↓reduceIte,Nat.reduceEqDiff,Nat.reduceAdd,Nat.reduceSub,Nat.reduceLeDiff,reduceCtorEq]at k1 k2 k3
 (try((repeat(revert hN;revert N;apply Pn.out));refine wk (tw @ad.eq_1 (tw @k1 (tw @k2 @k3))) ?_;(repeat(refine Pn.mk ?_;intro N hN))))
 refine .inr (aY _ _ _ _ _ (fun r σ2 hq=>?_) (Hl p.ah hs.t hs.s _))
 obtain⟨i2,hS,hJ,hL⟩:=hq
 obtain⟨g2,x2⟩:=σ2
 (try dsimp only at hS hJ hL)
 have Gp:=hL.1
 obtain⟨o2,R9,is2,rfl,Fb,hS',rfl⟩:=hS
 have hc:=hJ.2
 (try dsimp only at hc Gp)
 refine hN _ _ ?_
 clear hN N
 have l2:=hL.2 ⟨63000001,σ.next⟩ bK
 have l3:=hL.2 ⟨63001000,σ.next+1⟩ bK
 simp only[go_sem, ↓reduceIte,Nat.reduceEqDiff,Nat.reduceAdd,Nat.reduceSub,Nat.reduceLeDiff,reduceCtorEq,k2,k3]at l2 l3
 (try((repeat(revert hN;revert N;apply Pn.out));refine wk (tw @ad.eq_1 (tw @l2 @l3)) ?_;(repeat(refine Pn.mk ?_;intro N hN))))
 refine fJ (.inl rfl) (vs:=[.agg [.own o 0 p.aw.length,.own o2 0 p.ah.length]]) (sd @Nat.zero_add) ?_
 have fr:∀x:Id,σ.next+2<=x.cV->(x=⟨63000001,σ.next⟩)=False/\(x=⟨63001000,σ.next+1⟩)=False:=fun x hx=>⟨(dr (a:=⟨63000001,σ.next⟩) (b:=x) bK).2,(dr (a:=⟨63001000,σ.next+1⟩) (b:=x) bK).2⟩
 refine⟨_,_,_,_,rfl,iw.frame (g:=g1) A7 ⟨o,rows,is,rfl,hg,Uk,rfl⟩ fun i hi=>?_,iw.frame (g:=g2) qe ⟨o2,R9,is2,rfl,Fb,hS',rfl⟩ fun i hi=>?_,?_,⟨bK,fun j hj=>?_⟩⟩
 ·have h1:=hb i hi
  have h2:=hL.2 i bK
  have h3:=fr i ai
  simp only[go_sem, ↓reduceIte,Nat.reduceEqDiff,Nat.reduceAdd,Nat.reduceSub,Nat.reduceLeDiff,reduceCtorEq,h3]at h2
  simp only[go_sem, ↓reduceIte,Nat.reduceEqDiff,Nat.reduceAdd,Nat.reduceSub,Nat.reduceLeDiff,reduceCtorEq,h2,h3]
 ·have h1:=hc i hi
  have h3:=fr i ai
  simp only[go_sem, ↓reduceIte,Nat.reduceEqDiff,Nat.reduceAdd,Nat.reduceSub,Nat.reduceLeDiff,reduceCtorEq,h3]
 ·(try dsimp only at *)
  exact(hI.app hJ ai ai ai).wide ai ai
 ·have h1:=eL hj
  have h2:=hL.2 j bK
  have h3:=hK.2 j bK
  simp only[go_sem, ↓reduceIte,Nat.reduceEqDiff,Nat.reduceAdd,Nat.reduceSub,Nat.reduceLeDiff,reduceCtorEq,h1]at h2 h3
  simp only[go_sem, ↓reduceIte,Nat.reduceEqDiff,Nat.reduceAdd,Nat.reduceSub,Nat.reduceLeDiff,reduceCtorEq,h1,h2,h3]
theorem wu (p:dc) (hs:As p) (σ:au):Call Tryz.prog 16 [.agg (bY p)] σ (fun r σ'=>∃ids,um σ'.get r p ids/\fC σ.next σ'.next ids/\Kept σ σ'):=by
 refine fo eG rfl fun hl=>?_
 clear hl
 have t1:=fun σ=>Cp p.aM hs.s σ
 have t2:=fun σ=>rq p.cj hs.a σ
 rw[ad]at t1
 rw[bh]at t2
 (try((repeat(revert hN;revert N;apply Pn.out));refine wk @bY.eq_1 ?_;(repeat(refine Pn.mk ?_;intro N hN))))
 refine .inr (aY _ _ _ _ _ (fun r σ1 hq=>?_) (t1 _))
 obtain⟨a,b,i1,i2,rfl,hA,hB,hI,hK⟩:=hq
 obtain⟨g1,x1⟩:=σ1
 (try dsimp only at hA hB hI hK)
 have hn:=hK.1
 have hb:=hI.2
 (try dsimp only at hb hn)
 refine hN _ _ ?_
 clear hN N
 have k1:=hK.2 ⟨16000000,σ.next⟩ bK
 have k2:=hK.2 ⟨16000001,σ.next⟩ bK
 have k3:=hK.2 ⟨16001000,σ.next+1⟩ bK
 simp only[go_sem, ↓reduceIte,Nat.reduceEqDiff,Nat.reduceAdd,Nat.reduceSub,Nat.reduceLeDiff,reduceCtorEq]at k1 k2 k3
 obtain⟨oa,rfl⟩:=hA.ku
 obtain⟨ob,rfl⟩:=hB.ku
 (try((repeat(revert hN;revert N;apply Pn.out));refine wk (tw @bY.eq_1 (tw @k1 (tw @k2 @k3))) ?_;(repeat(refine Pn.mk ?_;intro N hN))))
 refine .inr (aY _ _ _ _ _ (fun r σ2 hq=>?_) (t2 _))
 obtain⟨i3,hC,hJ,hL⟩:=hq
 obtain⟨g2,x2⟩:=σ2
 (try dsimp only at hC hJ hL)
 have Gp:=hL.1
 have hc:=hJ.2
 (try dsimp only at hc Gp)
 obtain⟨c,rfl,hC⟩:=hC
 obtain⟨oc,rfl⟩:=hC.ku
 refine hN _ _ ?_
 clear hN N
 have l1:=hL.2 ⟨16000000,σ.next⟩ bK
 have l2:=hL.2 ⟨16000001,σ.next⟩ bK
 have l3:=hL.2 ⟨16001000,σ.next+1⟩ bK
 simp only[go_sem, ↓reduceIte,Nat.reduceEqDiff,Nat.reduceAdd,Nat.reduceSub,Nat.reduceLeDiff,reduceCtorEq,k1,k2,k3]at l1 l2 l3
 (try((repeat(revert hN;revert N;apply Pn.out));refine wk (tw @bY.eq_1 (tw @l1 (tw @l2 @l3))) ?_;(repeat(refine Pn.mk ?_;intro N hN))))
 refine fJ (.inl rfl) (vs:=[.agg [.own oa 0 p.aM.aw.length,.own ob 0 p.aM.ah.length,.own oc 0 p.cj.ah.length,.int .i64 p.aC]]) (sd @Nat.zero_add) ?_
 have fr:∀x:Id,σ.next+2<=x.cV->(x=⟨16000001,σ.next⟩)=False/\(x=⟨16001000,σ.next+1⟩)=False:=fun x hx=>⟨(dr (a:=⟨16000001,σ.next⟩) (b:=x) bK).2,(dr (a:=⟨16001000,σ.next+1⟩) (b:=x) bK).2⟩
 have Gb:∀i∈i1++i2,g2 i=g1 i:=fun i hi=>by
  have h1:=hb i hi
  have h2:=hL.2 i bK
  have h3:=fr i ai
  simp only[go_sem, ↓reduceIte,Nat.reduceEqDiff,Nat.reduceAdd,Nat.reduceSub,Nat.reduceLeDiff,reduceCtorEq,h3]at h2
  exact h2
 refine⟨i1++(i2++i3),⟨_,_,_,i1,i2,i3,rfl,hA.frame A7 fun i hi=>?_,hB.frame qe fun i hi=>?_,hC.frame xN fun i hi=>?_,rfl⟩,?_,⟨bK,fun j hj=>?_⟩⟩
 ·have h1:=hb i (by simp[hi])
  have h2:=Gb i (by simp[hi])
  have h3:=fr i ai
  simp only[go_sem, ↓reduceIte,Nat.reduceEqDiff,Nat.reduceAdd,Nat.reduceSub,Nat.reduceLeDiff,reduceCtorEq,h2,h3]
 ·have h1:=hb i (by simp[hi])
  have h2:=Gb i (by simp[hi])
  have h3:=fr i ai
  simp only[go_sem, ↓reduceIte,Nat.reduceEqDiff,Nat.reduceAdd,Nat.reduceSub,Nat.reduceLeDiff,reduceCtorEq,h2,h3]
 ·have h1:=hc i hi
  have h3:=fr i ai
  simp only[go_sem, ↓reduceIte,Nat.reduceEqDiff,Nat.reduceAdd,Nat.reduceSub,Nat.reduceLeDiff,reduceCtorEq,h3]
 ·(try dsimp only at *)
  rw[<-List.append_assoc]
  exact(hI.app hJ ai ai ai).wide ai ai
 ·have h1:=eL hj
  have h2:=hL.2 j bK
  have h3:=hK.2 j bK
  simp only[go_sem, ↓reduceIte,Nat.reduceEqDiff,Nat.reduceAdd,Nat.reduceSub,Nat.reduceLeDiff,reduceCtorEq,h1]at h2 h3
  simp only[go_sem, ↓reduceIte,Nat.reduceEqDiff,Nat.reduceAdd,Nat.reduceSub,Nat.reduceLeDiff,reduceCtorEq,h1,h2,h3]
end Go.Proofs.YtgoljkjaameagaaGreat.V

namespace Go.Proofs.YtgoljkjaameagaaGreat
open Go.RowKit
def kA (n:Int):Bool:=(decide (97<=n)&&decide (n<=122))||(decide (65<=n)&&decide (n<=90))
def kN (n:Int):Bool:=decide (48<=n)&&decide (n<=57)
def tk (i:Nat) (n:Int):Prop:=kA n=true∨(0<i/\(kN n=true∨n=95))
def uj (s:ByteArray):Prop:=(1<=s.size/\s.size<=12)/\∀i (h:i<s.size),tk i s[i].toNat
open Classical in
noncomputable def jv (s:ByteArray):Bool:=decide (uj s)
theorem DT {s:ByteArray} (h:uj s):true=jv s:=by simp[jv,h]
theorem er {s:ByteArray} (h:¬uj s):false=jv s:=by simp[jv,h]
theorem BS {s:ByteArray} {b:Bool} (hb:b=true) (h:uj s):b=jv s:=by simp[jv,h,hb]
theorem qS {s:ByteArray} {b:Bool} (hb:b=false) (h:¬uj s):b=jv s:=by simp[jv,h,hb]
theorem vd (w:World) (n:Int):Calls Tryz.prog 285 #[.int .u8 n] w fun e w'=>e=.returned (.bool (kA n))/\w=w':=by
 go_enter Tryz.func285,Tryz.ntmps285
 go_wp2_with fail
 all_goals
  go_ret
  exact⟨iy (by unfold kA;simp[*];try omega),rfl⟩
theorem F3 (w:World) (n:Int):Calls Tryz.prog 286 #[.int .u8 n] w fun e w'=>e=.returned (.bool (kN n))/\w=w':=by
 go_enter Tryz.func286,Tryz.ntmps286
 go_wp2_with fail
 all_goals
  go_ret
  exact⟨iy (by unfold kN;simp[*];try omega),rfl⟩
theorem Cc (w:World) (s:ByteArray) (hs:s.size<=9223372036854775807):Calls Tryz.prog 237 #[.string s] w fun e w'=>e=.returned (.bool (jv s))/\Below w.heap.size w w':=by
 by_cases h1:1<=s.size
 case neg=>
  go_enter Tryz.func237,Tryz.ntmps237
  go_wp2_with fail
  go_ret
  exact⟨iy (er fun h=>h1 h.1.1),Below.refl _ _⟩
 by_cases h2:s.size<=12
 case neg=>
  go_enter Tryz.func237,Tryz.ntmps237
  go_wp2_with fail
  go_ret
  exact⟨iy (er fun h=>h2 h.1.2),Below.refl _ _⟩
 go_enter Tryz.func237,Tryz.ntmps237
 go_wp2_with fail
 refine(vd _ _).mono ?_
 rintro e w' ⟨rfl,rfl⟩
 cases h3:kA s[0].toNat
 ·go_wp2_with fail
  go_ret
  exact⟨iy (er fun h=>by have:=h.2 0 (by omega);simp only[tk]at this;rw[h3]at this;simp at this),Below.refl _ _⟩
 ·replace h3:=Lib.hid h3
  go_wp2_with fail
  go_loop [3] (fun i=>∃k:Nat,1<=k/\k<=s.size/\i=.int .i64 k/\Hid (∀j (h:j<s.size),j<k->tk j s[j].toNat)) (fun i=>s.size-(intOf i).toNat)
  case atStart=>exact⟨1,by omega,by omega,rfl,Lib.hid fun j h hj=>by
   obtain rfl:j=0:=by omega
   exact .inl h3.out⟩
  case round=>
   obtain⟨k,wL,hk,rfl,ee⟩:=hrel
   by_cases eh:k<s.size
   ·go_wp2_with fail
    refine(vd _ _).mono ?_
    rintro e w' ⟨rfl,rfl⟩
    have lv:tk k s[k].toNat∨¬tk k s[k].toNat:=Classical.em _
    cases hl:kA s[k].toNat
    ·go_wp2_with fail
     refine(F3 _ _).mono ?_
     rintro e w' ⟨rfl,rfl⟩
     cases hd:kN s[k].toNat
     ·by_cases tO:(s[k].toNat:Int)=95
      ·have TX:((s[k].toNat:Int) !=95)=false:=by simp;omega
       replace tO:=Lib.hid tO
       replace hl:=Lib.hid hl
       replace hd:=Lib.hid hd
       go_wp2_with fail
       go_round
       case rel=>exact⟨k+1,by omega,by omega,by go_num,Lib.hid fun j h hj=>by
        by_cases xV:j=k
        ·subst xV;exact .inr ⟨by omega,.inr tO.out⟩
        ·exact ee.out j h (by omega)⟩
       case measure=>simp[intOf];omega
      ·have TX:((s[k].toNat:Int) !=95)=true:=by simp;omega
       replace tO:=Lib.hid tO
       replace hl:=Lib.hid hl
       replace hd:=Lib.hid hd
       go_wp2_with fail
       go_ret
       exact⟨iy (er fun h=>by
        have:=h.2 k eh;simp only[tk,hl.out,hd.out]at this;exact tO.out (by simp at this;exact this.2)),Below.refl _ _⟩
     ·replace hl:=Lib.hid hl
      replace hd:=Lib.hid hd
      go_wp2_with fail
      go_round
      case rel=>exact⟨k+1,by omega,by omega,by go_num,Lib.hid fun j h hj=>by
       by_cases xV:j=k
       ·subst xV;exact .inr ⟨by omega,.inl hd.out⟩
       ·exact ee.out j h (by omega)⟩
      case measure=>simp[intOf];omega
    ·replace hl:=Lib.hid hl
     go_wp2_with fail
     go_round
     case rel=>exact⟨k+1,by omega,by omega,by go_num,Lib.hid fun j h hj=>by
      by_cases xV:j=k
      ·subst xV;exact .inl hl.out
      ·exact ee.out j h (by omega)⟩
     case measure=>simp[intOf];omega
   ·go_wp2_with fail
    go_ret
    exact⟨iy (DT ⟨⟨h1,h2⟩,fun i h=>ee.out i h (by omega)⟩),Below.refl _ _⟩
theorem Bt (w:World) (s:ByteArray) (hs:s.size<=9223372036854775807):Calls Tryz.prog 254 #[.string s] w fun e w'=>e=.returned (.bool (jv s))/\w=w':=by
 go_enter Tryz.func254,Tryz.ntmps254
 go_wp2_with fail
 go_loop [8] (fun i=>∃k:Nat,k<=s.size/\i=.int .i64 k/\Hid (∀j (h:j<s.size),j<k->tk j s[j].toNat)) (fun i=>s.size-(intOf i).toNat)
 case atStart=>exact⟨0,by omega,rfl,Lib.hid fun j h hj=>by omega⟩
 case round=>
  obtain⟨k,hk,rfl,ee⟩:=hrel
  by_cases eh:k<s.size
  ·have hc:(s[k].toNat:Int)<48∨(48<=(s[k].toNat:Int)/\(s[k].toNat:Int)<=57)∨(58<=(s[k].toNat:Int)/\(s[k].toNat:Int)<=64)∨(65<=(s[k].toNat:Int)/\(s[k].toNat:Int)<=90)∨(91<=(s[k].toNat:Int)/\(s[k].toNat:Int)<=94)∨(95<=(s[k].toNat:Int)/\(s[k].toNat:Int)<=95)∨(96<=(s[k].toNat:Int)/\(s[k].toNat:Int)<=96)∨(97<=(s[k].toNat:Int)/\(s[k].toNat:Int)<=122)∨123<=(s[k].toNat:Int):=by omega
   by_cases r6:k=0
   ·subst r6
    rcases hc with h|⟨h,h'⟩|⟨h,h'⟩|⟨h,h'⟩|⟨h,h'⟩|⟨h,h'⟩|⟨h,h'⟩|⟨h,h'⟩|h
    ·have tO:((s[0].toNat:Int) !=95)=true:=by simp;try omega
     go_wp2_with fail
     all_goals first
      |(go_ret;exact⟨iy (er fun hh=>by have:=hh.2 0 eh;simp[tk,kA,kN]at this;omega),rfl⟩)
      |(exfalso;simp_all;done)
      |(exfalso;simp_all;omega)
    ·have tO:((s[0].toNat:Int) !=95)=true:=by simp;try omega
     go_wp2_with fail
     all_goals first
      |(go_ret;exact⟨iy (er fun hh=>by have:=hh.2 0 eh;simp[tk,kA,kN]at this;omega),rfl⟩)
      |(exfalso;simp_all;done)
      |(exfalso;simp_all;omega)
    ·have tO:((s[0].toNat:Int) !=95)=true:=by simp;try omega
     go_wp2_with fail
     all_goals first
      |(go_ret;exact⟨iy (er fun hh=>by have:=hh.2 0 eh;simp[tk,kA,kN]at this;omega),rfl⟩)
      |(exfalso;simp_all;done)
      |(exfalso;simp_all;omega)
    ·have tO:((s[0].toNat:Int) !=95)=true:=by simp;try omega
     go_wp2_with fail
     go_round
     case rel=>exact⟨0+1,by omega,by go_num,Lib.hid fun j hj xV=>by
      by_cases IJ:j=0
      ·subst IJ;simp[tk,kA,kN];omega
      ·exact ee.out j hj (by omega)⟩
     case measure=>simp[intOf];try omega
    ·have tO:((s[0].toNat:Int) !=95)=true:=by simp;try omega
     go_wp2_with fail
     all_goals first
      |(go_ret;exact⟨iy (er fun hh=>by have:=hh.2 0 eh;simp[tk,kA,kN]at this;omega),rfl⟩)
      |(exfalso;simp_all;done)
      |(exfalso;simp_all;omega)
    ·have tO:((s[0].toNat:Int) !=95)=false:=by simp;try omega
     go_wp2_with fail
     all_goals first
      |(go_ret;exact⟨iy (er fun hh=>by have:=hh.2 0 eh;simp[tk,kA,kN]at this;omega),rfl⟩)
      |(exfalso;simp_all;done)
      |(exfalso;simp_all;omega)
    ·have tO:((s[0].toNat:Int) !=95)=true:=by simp;try omega
     go_wp2_with fail
     all_goals first
      |(go_ret;exact⟨iy (er fun hh=>by have:=hh.2 0 eh;simp[tk,kA,kN]at this;omega),rfl⟩)
      |(exfalso;simp_all;done)
      |(exfalso;simp_all;omega)
    ·have tO:((s[0].toNat:Int) !=95)=true:=by simp;try omega
     go_wp2_with fail
     go_round
     case rel=>exact⟨0+1,by omega,by go_num,Lib.hid fun j hj xV=>by
      by_cases IJ:j=0
      ·subst IJ;simp[tk,kA,kN];omega
      ·exact ee.out j hj (by omega)⟩
     case measure=>simp[intOf];try omega
    ·have tO:((s[0].toNat:Int) !=95)=true:=by simp;try omega
     go_wp2_with fail
     all_goals first
      |(go_ret;exact⟨iy (er fun hh=>by have:=hh.2 0 eh;simp[tk,kA,kN]at this;omega),rfl⟩)
      |(exfalso;simp_all;done)
      |(exfalso;simp_all;omega)
   ·have hz:((k:Int)==0)=false:=by simpa using r6
    have wL:1<=k:=by omega
    clear r6
    rcases hc with h|⟨h,h'⟩|⟨h,h'⟩|⟨h,h'⟩|⟨h,h'⟩|⟨h,h'⟩|⟨h,h'⟩|⟨h,h'⟩|h
    ·have tO:((s[k].toNat:Int) !=95)=true:=by simp;try omega
     go_wp2_with fail
     all_goals first
      |(go_ret;exact⟨iy (er fun hh=>by have:=hh.2 k eh;simp[tk,kA,kN]at this;omega),rfl⟩)
      |(exfalso;simp_all;done)
      |(exfalso;simp_all;omega)
    ·have tO:((s[k].toNat:Int) !=95)=true:=by simp;try omega
     go_wp2_with fail
     go_round
     case rel=>exact⟨k+1,by omega,by go_num,Lib.hid fun j hj xV=>by
      by_cases IJ:j=k
      ·subst IJ;simp[tk,kA,kN];omega
      ·exact ee.out j hj (by omega)⟩
     case measure=>simp[intOf];try omega
    ·have tO:((s[k].toNat:Int) !=95)=true:=by simp;try omega
     go_wp2_with fail
     all_goals first
      |(go_ret;exact⟨iy (er fun hh=>by have:=hh.2 k eh;simp[tk,kA,kN]at this;omega),rfl⟩)
      |(exfalso;simp_all;done)
      |(exfalso;simp_all;omega)
    ·have tO:((s[k].toNat:Int) !=95)=true:=by simp;try omega
     go_wp2_with fail
     go_round
     case rel=>exact⟨k+1,by omega,by go_num,Lib.hid fun j hj xV=>by
      by_cases IJ:j=k
      ·subst IJ;simp[tk,kA,kN];omega
      ·exact ee.out j hj (by omega)⟩
     case measure=>simp[intOf];try omega
    ·have tO:((s[k].toNat:Int) !=95)=true:=by simp;try omega
     go_wp2_with fail
     all_goals first
      |(go_ret;exact⟨iy (er fun hh=>by have:=hh.2 k eh;simp[tk,kA,kN]at this;omega),rfl⟩)
      |(exfalso;simp_all;done)
      |(exfalso;simp_all;omega)
    ·have tO:((s[k].toNat:Int) !=95)=false:=by simp;try omega
     go_wp2_with fail
     go_round
     case rel=>exact⟨k+1,by omega,by go_num,Lib.hid fun j hj xV=>by
      by_cases IJ:j=k
      ·subst IJ;simp[tk,kA,kN];omega
      ·exact ee.out j hj (by omega)⟩
     case measure=>simp[intOf];try omega
    ·have tO:((s[k].toNat:Int) !=95)=true:=by simp;try omega
     go_wp2_with fail
     all_goals first
      |(go_ret;exact⟨iy (er fun hh=>by have:=hh.2 k eh;simp[tk,kA,kN]at this;omega),rfl⟩)
      |(exfalso;simp_all;done)
      |(exfalso;simp_all;omega)
    ·have tO:((s[k].toNat:Int) !=95)=true:=by simp;try omega
     go_wp2_with fail
     go_round
     case rel=>exact⟨k+1,by omega,by go_num,Lib.hid fun j hj xV=>by
      by_cases IJ:j=k
      ·subst IJ;simp[tk,kA,kN];omega
      ·exact ee.out j hj (by omega)⟩
     case measure=>simp[intOf];try omega
    ·have tO:((s[k].toNat:Int) !=95)=true:=by simp;try omega
     go_wp2_with fail
     all_goals first
      |(go_ret;exact⟨iy (er fun hh=>by have:=hh.2 k eh;simp[tk,kA,kN]at this;omega),rfl⟩)
      |(exfalso;simp_all;done)
      |(exfalso;simp_all;omega)
  ·by_cases h1:1<=s.size
   ·by_cases h2:s.size<=12
    ·go_wp2_with fail
     go_ret
     exact⟨iy (BS (by simp<;>omega) ⟨⟨h1,h2⟩,fun i h=>ee.out i h (by omega)⟩),rfl⟩
    ·go_wp2_with fail
     go_ret
     exact⟨iy (qS (by simp<;>omega) fun h=>h2 h.1.2),rfl⟩
   ·go_wp2_with fail
    go_ret
    exact⟨iy (qS (by simp<;>omega) fun h=>h1 h.1.1),rfl⟩
end Go.Proofs.YtgoljkjaameagaaGreat

namespace Go.Proofs.YtgoljkjaameagaaGreat.V
open Go.RowKit
theorem mixed:Tryz.prog.follows .mixedOrders=true:=by kernel_rfl
variable {P:Program} {w:World} {D:Nat->Prop} {ι:Names}
theorem lz {f:Nat} {args:List AV} {r:AV} {vs0:Array Value} {u0:Value} (mZ:∀(w:World) (D:Nat->Prop) (ι:Names) vs,fw P w D ι args vs->vs=vs0) (hr:∀(w:World) (D:Nat->Prop) (ι:Names),dd P w D ι r u0) (Cy:∀g,gq g 6 r=some r)
  (h:∀w,Calls P f vs0 w fun e w'=>e=.returned u0/\Below w.heap.size w w'):aq P f args r:=by
 intro n
 refine fB fun hs D ι w vs S U A=>?_
 have:=mZ w D ι vs A
 subst this
 refine(h w).mono ?_
 rintro e w' ⟨rfl,hb⟩
 exact⟨r,_,n,D,ι,u0,rfl,⟨r,Cy _,rfl⟩,Step.stay S hb.block hb.size hb.os hb.tape hb.output (fun _ h=>h) (fun _ h=>.inl h) (fun _ _ h=>h),
  S.stay hb.block hb.size (fun _ h=>h) (fun b hd=>Nat.lt_of_lt_of_le (S.dead b hd) hb.size) (fun _ h=>.inl h) (fun _ _ h=>h),U,Nat.le_refl _,hr _ _ _⟩
theorem B5 {s:ByteArray} {vs:Array Value} (h:fw P w D ι [.str s] vs):vs= #[.string s]:=by
 obtain⟨h1,h2⟩:=h
 obtain⟨u,hu,hr⟩:=h2 0 _ rfl
 rw[fI hr]at hu
 obtain⟨l⟩:=vs
 cases l with
 |nil=>simp at h1
 |cons a l=>cases l with
  |nil=>simp at hu;subst hu;rfl
  |cons b l=>simp at h1
theorem FC (s:ByteArray) (hs:s.size<=9223372036854775807):aq Tryz.prog 237 [.str s] (.bool (jv s)):=
 lz (fun _ _ _ _=>B5) (fun _ _ _=>.eM _ _ (.bool _)) (fun g=>fF g 5 _) fun w=>Cc w s hs
theorem Fo (s:ByteArray) (hs:s.size<=9223372036854775807):aq Tryz.prog 254 [.str s] (.bool (jv s)):=
 lz (fun _ _ _ _=>B5) (fun _ _ _=>.eM _ _ (.bool _)) (fun g=>fF g 5 _) fun w=>(Bt w s hs).mono (by rintro e w' ⟨rfl,rfl⟩;exact⟨rfl,Below.refl _ _⟩)
end Go.Proofs.YtgoljkjaameagaaGreat.V

namespace Go.Proofs.YtgoljkjaameagaaGreat
open Go.RowKit
def tq (n:Nat):List UInt8:=if h:n=0 then[]else tq (n / 10)++[UInt8.ofNat (48+n % 10)]
termination_by n
decreasing_by omega
def oe (k:Int):ByteArray:=if k<=0 then⟨#[109,48]⟩else⟨(109::tq k.toNat).toArray⟩
theorem F4:tq 0=[]:=by unfold tq;simp
theorem Ib {n:Nat} (h:n≠0):tq n=tq (n / 10)++[UInt8.ofNat (48+n % 10)]:=by
 conv=>lhs;unfold tq
 rw[dif_neg h]
theorem xL (c:UInt8) (l:ByteArray):((⟨#[c]⟩++l:ByteArray)).data.toList=c::l.data.toList:=by
 simp[ByteArray.data_append]
theorem AP:∀(m n:Nat),n<10 ^ m->(tq n).length<=m
 |0,n,h=>by
  have:n=0:=by simpa using h
  subst this;simp[tq]
 |m+1,n,h=>by
  unfold tq
  split
  ·simp
  ·have:=AP m (n / 10) (by rw[Nat.pow_succ]at h;omega)
   simp;omega
theorem zx (w:World) (k:Int) (h0:0<=k) (h1:k<=4611686018427387904):
  Calls Tryz.prog 213 #[.int .i64 k] w fun e w'=>e=.returned (.string (oe k))/\Below w.heap.size w w':=by
 by_cases hk:k<=0
 ·go_enter Tryz.func213,Tryz.ntmps213
  go_wp2_with fail
  go_ret
  exact⟨by simp[oe,hk],Below.refl _ _⟩
 ·go_enter Tryz.func213,Tryz.ntmps213
  go_wp2_with fail
  go_loopw [0,3] (fun a s wr=>∃(j:Int) (l:ByteArray),a=.int .i64 j/\s=.string l/\0<=j/\j<=4611686018427387904/\Hid (tq j.toNat++l.data.toList=tq k.toNat)/\Below w.heap.size w wr) (fun a _ _=>(intOf a).toNat)
  case atStart=>exact⟨k,⟨#[]⟩,rfl,rfl,h0,h1,Lib.hid (by simp),Below.refl _ _⟩
  case round=>
   obtain⟨j,l,rfl,rfl,hj0,hj1,hd,hb⟩:=hrel
   have fV:l.size<=19:=by
    have h1:=congrArg List.length hd.out
    have h2:=AP 19 k.toNat (by omega)
    rw[List.length_append]at h1
    have:l.data.toList.length=l.size:=by rw[Array.length_toList];rfl
    omega
   by_cases hj:0<j
   ·have hcv:∀v:Int,(convert 336 9 (.slice (some ⟨wr.heap.size,0,none⟩) 1 1)).run Tryz.prog (wr.alloc (.cells #[.int .u8 v] 5))=.ok (.string ⟨#[UInt8.ofNat v.toNat]⟩) (wr.alloc (.cells #[.int .u8 v] 5)):=by
     intro v
     rw[run_convert_bytes_string _ _ _ 5 _ _ _ Tryz.underlying336 Tryz.underlying5 Tryz.underlying9,run_bytesToString _ _ _ _ [v] (by simp[loadCells,loadCellsFrom,go_sem])]
     rfl
    have hr:=fV
    go_wp2_with fail
    go_roundw
    case rel=>
     refine⟨_,_,rfl,rfl,by omega,by omega,Lib.hid ?_,hb.alloc hb.size _⟩
     rw[<-hd.out,xL,Ib (show j.toNat≠0 by omega),show(j / 10).toNat=j.toNat / 10 by omega,show(48+j % 10).toNat=48+j.toNat % 10 by omega]
     simp
    case measure=>simp[intOf];omega
   ·go_wp2_with fail
    go_ret
    refine⟨?_,hb⟩
    have h1:=hd.out
    rw[show j.toNat=0 by omega,F4,List.nil_append]at h1
    have h2:(⟨#[109]⟩++l:ByteArray)=oe k:=by
     rw[oe,if_neg (by omega)]
     refine ByteArray.ext (Array.ext' ?_)
     rw[xL,h1]
    rw[h2];rfl
end Go.Proofs.YtgoljkjaameagaaGreat

namespace Go.Proofs.YtgoljkjaameagaaGreat.V
open Go.RowKit
attribute [local irreducible] dQ wpOps ft Call
attribute [local go_sem] aA eV ef e9 e8 cZ upd bQ K.av cr AV.cells AV.cell rowOf rowsOf part ld rowAt bD bL dm dD fE bu cK dO fa eF db dH cI cH dw dx bz aQ cz bx cD cC dF dI dG cw bC cJ dE bw az cF bZ fD bj cq bB aJ cX aX dn AV.undef bp br dy dC du dz cm dM dP bU dK dJ cE cG List.getD_cons_zero List.getD_cons_succ List.getD_nil List.all_cons List.all_nil Bool.and_true Bool.true_and Bool.and_self Bool.not_true Bool.not_false Option.map_some Option.map_none Option.bind_some Option.bind_none List.length_cons List.length_nil List.take_succ_cons List.take_zero List.take_nil List.drop_succ_cons List.drop_zero List.drop_nil List.head?_cons List.map_cons List.map_nil List.getElem?_cons_zero List.getElem?_cons_succ List.cons_append List.nil_append List.append_nil List.length_map List.set_cons_zero List.set_cons_succ Nat.reduceMul eq_self Int.toNat_natCast Int.natCast_nonneg and_self true_and and_true decide_true decide_false Bool.false_eq_true Nat.zero_add Nat.add_zero List.contains_cons List.contains_nil Bool.or_false Bool.false_or beq_self_eq_true Nat.reduceBEq ne_eq not_true_eq_false not_false_eq_true Id.mk.injEq false_and and_false Nat.reduceLT Int.reduceLE Int.reduceLT Int.reduceToNat Int.reduceNeg Int.reduceAdd Nat.le_refl List.length_append beq_true beq_false Bool.not_eq_eq_eq_not or_false false_or dR ab aj ay bo bJ aD aV aH aU cu bq
def rM (σ:au) (ids:List Id) (g:Rows) (n:Nat):Prop:=σ.next<=n/\∀x:Id,x.cV<σ.next->x∉ids->g x=σ.get x
theorem rf (l:List (List AV)) (i:Nat) (a b:List AV):(l.set i a).set i b=l.set i b:=List.set_set ..
theorem Ie {l:List Int} {j:Nat} (h:j<l.length):(l.map bt)[j]? =some [.int .i64 l[j]]:=by simp[h,bt]
theorem Me {P:Program} {w:World} {D:Nat->Prop} {ι:Names} {k:Int} {vs:Array Value} (h:fw P w D ι [.int .i64 k] vs):vs= #[.int .i64 k]:=by
 obtain⟨h1,h2⟩:=h
 obtain⟨u,hu,hr⟩:=h2 0 _ rfl
 rw[dL hr]at hu
 obtain⟨l⟩:=vs
 cases l with
 |nil=>simp at h1
 |cons a l=>cases l with
  |nil=>simp at hu;subst hu;rfl
  |cons b l=>simp at h1
theorem vh (k:Int) (h0:0<=k) (h1:k<=4611686018427387904):aq Tryz.prog 213 [.int .i64 k] (.str (oe k)):=
 lz (vs0:= #[.int .i64 k]) (u0:=.string (oe k)) (fun _ _ _ _=>Me) (fun w D ι=>.eM _ _ (.str _)) (fun g=>K8 g 5 _) fun w=>zx w k h0 h1
theorem vg (i:Id) (l:List Int) (k:Int) (h0:0<=k) (h1:k+l.length<=4611686018427387904) (σ:au) (hv:i.cV<σ.next) (hg:σ.get i=some ⟨true,1,l.map bt⟩):
  Call Tryz.prog 24 [.own i 0 l.length,.int .i64 k] σ (fun r σ'=>r=.int .i64 (k+l.length)/\rM σ [i] σ'.get σ'.next):=by
 refine fo eG rfl fun hl=>?_
 clear hl
 obtain⟨nn,hn⟩:∃nn,l.length=nn:=⟨_,rfl⟩
 rw[hn]at h1 ⊢
 (try((repeat(revert hN;revert N;apply Pn.out));refine wk @Nat.zero_add ?_;(repeat(refine Pn.mk ?_;intro N hN))))
 refine bF (fun n env st=>∃j:Nat,n=(nn)-j/\j<=(nn)/\env 5=.int .i64 (j:Int)/\env 1=.int .i64 (k+j)/\(rM σ [i] st.get st.next/\∃l':List Int,l'.length=nn/\st.get i=some ⟨true,1,l'.map bt⟩)) (nn) ⟨0,ai,ai,sl (tw @Int.add_zero @Int.natCast_zero),sl (tw @Int.add_zero @Int.natCast_zero),by(try dsimp only);exact⟨⟨bK,fun x _ _=>rfl⟩,l,hn,hg⟩⟩ ?_
 rintro n_a env_a st_a ⟨j,rfl,ale,a5,a1,lL⟩ ev
 have a0:=ev 0 (by kernel_rfl)
 simp only[go_sem, ↓reduceIte,Nat.reduceEqDiff,Nat.reduceAdd,Nat.reduceSub,Nat.reduceLeDiff,reduceCtorEq,Int.add_zero,Int.natCast_zero]at a0
 clear ev
 obtain⟨⟨an,aF⟩,l',al,ag⟩:=lL
 by_cases hj:(j:Int)<(nn:Int)
 ·have cY:∀{e:Env} {gg:Rows} {nx:Nat},(e 5=.int .i64 (IntKind.i64.wrap ((j:Int)+1)))->(e 1=.int .i64 (k+(j+1)))->(rM σ [i] gg nx/\∃l':List Int,l'.length=nn/\gg i=some ⟨true,1,l'.map bt⟩)->∃m0,m0<(nn)-j/\∃j:Nat,m0=(nn)-j/\j<=(nn)/\e 5=.int .i64 (j:Int)/\e 1=.int .i64 (k+j)/\(rM σ [i] gg nx/\∃l':List Int,l'.length=nn/\gg i=some ⟨true,1,l'.map bt⟩):=fun x1 x2 x3=>⟨_,ai,j+1,rfl,ai,(by rw[x1,aI ai]),x2,x3⟩
  have hZ:j<l'.length:=ai
  have fq:=Ie hZ
  have eI:(l'.map bt).set j [.int .i64 (k+j)]=(l'.set j (k+j)).map bt:=by rw[List.map_set];rfl
  have hw:IntKind.i64.wrap (k+(j:Int)+1)=k+((j:Int)+1):=by rw[bP ai];omega
  (try((repeat(revert hN;revert N;apply Pn.out));refine wk (tw @a5 (tw @a1 (tw @a0 (tw @hj (tw @ag (tw @fq (tw @eI @hw))))))) ?_;(repeat(refine Pn.mk ?_;intro N hN))))
  refine cY ?_ ?_ (by(try dsimp only);exact⟨⟨bK,fun x hx hi=>by
   have h2:=aF x hx hi
   have h3:(x=i)=False:=eq_false fun e=>hi (by simp[e])
   simp only[go_sem, ↓reduceIte,Nat.reduceEqDiff,Nat.reduceAdd,Nat.reduceSub,Nat.reduceLeDiff,reduceCtorEq,h2,h3]⟩,l'.set j (k+j),by simp[al],sl @Nat.zero_add⟩)
  all_goals simp only[go_sem, ↓reduceIte,Nat.reduceEqDiff,Nat.reduceAdd,Nat.reduceSub,Nat.reduceLeDiff,reduceCtorEq,a5,a1,a0,hw]
 ·have hZ:j=nn:=ai
  subst hZ
  (try((repeat(revert hN;revert N;apply Pn.out));refine wk (tw @a5 (tw @a1 (tw @a0 @hj))) ?_;(repeat(refine Pn.mk ?_;intro N hN))))
  exact fJ (.inl rfl) (vs:=[.int .i64 (k+j)]) (sd (tw @a5 (tw @a1 @a0))) ⟨rfl,⟨bK,fun x hx hi=>aF x hx hi⟩⟩
def Am (k:Int) (n:Nat):List ae:=(List.range n).map fun j:Nat=>⟨⟨k+3*(j:Int),k+3*(j:Int)+1⟩,k+3*(j:Int)+2⟩
theorem iq (k:Int) (n:Nat):(Am k n).length=n:=by simp[Am]
theorem Jn (k:Int) (n:Nat):Am k (n+1)=Am k n++[⟨⟨k+3*(n:Int),k+3*(n:Int)+1⟩,k+3*(n:Int)+2⟩]:=by simp[Am,List.range_succ]
def je (k:Int) (l:List ae) (j:Nat):List ae:=Am k j++l.drop j
theorem BQ {k:Int} {l:List ae} {j:Nat} (h:j<=l.length):(je k l j).length=l.length:=by simp[je,iq];omega
theorem Fy {k:Int} {l:List ae} {j:Nat} (h:j<l.length):((je k l j).map aa)[j]? =some [.int .i64 l[j].bE.fb,.int .i64 l[j].bE.eT,.int .i64 l[j].bR]:=by
 rw[List.getElem?_map,je,List.getElem?_append_right (by rw[iq];omega),iq,Nat.sub_self,List.getElem?_drop,Nat.add_zero,List.getElem?_eq_getElem h];rfl
theorem BR {k:Int} {l:List ae} {j:Nat} (h:j<l.length):((je k l j).map aa).set j [.int .i64 (k+3*(j:Int)),.int .i64 (k+3*(j:Int)+1),.int .i64 (k+3*(j:Int)+2)]=(je k l (j+1)).map aa:=by
 have:(je k l j).set j ⟨⟨k+3*(j:Int),k+3*(j:Int)+1⟩,k+3*(j:Int)+2⟩=je k l (j+1):=by
  rw[je,List.set_append_right _ _ (by rw[iq];omega),iq,Nat.sub_self,List.drop_eq_getElem_cons h,List.set_cons_zero,je,Jn,List.append_assoc];rfl
 rw[<-this,List.map_set];rfl
theorem zw (i:Id) (l:List ae) (k:Int) (h0:0<=k) (h1:k+3*l.length<=4611686018427387904) (σ:au) (hv:i.cV<σ.next) (hg:σ.get i=some ⟨true,3,l.map aa⟩):
  Call Tryz.prog 59 [.own i 0 l.length,.int .i64 k] σ (fun r σ'=>r=.int .i64 (k+3*l.length)/\rM σ [i] σ'.get σ'.next/\σ'.get i=some ⟨true,3,(Am k l.length).map aa⟩):=by
 refine fo eG rfl fun hl=>?_
 clear hl
 have hz:je k l 0=l:=by simp[je,Am]
 (try((repeat(revert hN;revert N;apply Pn.out));refine wk @Nat.zero_add ?_;(repeat(refine Pn.mk ?_;intro N hN))))
 refine bF (fun n env st=>∃j:Nat,n=(l.length)-j/\j<=(l.length)/\env 5=.int .i64 (j:Int)/\env 1=.int .i64 (k+3*j)/\st.get i=some ⟨true,3,(je k l j).map aa⟩/\(rM σ [i] st.get st.next)) (l.length) ⟨0,ai,ai,sl (tw @Int.add_zero (tw @Int.natCast_zero (tw @Int.mul_zero (tw @hz @hg)))),sl (tw @Int.add_zero (tw @Int.natCast_zero (tw @Int.mul_zero (tw @hz @hg)))),sl (tw @Int.add_zero (tw @Int.natCast_zero (tw @Int.mul_zero (tw @hz @hg)))),by(try dsimp only);exact⟨bK,fun x _ _=>rfl⟩⟩ ?_
 rintro n_a env_a st_a ⟨j,rfl,ale,a5,a1,ag0,lL⟩ ev
 have a0:=ev 0 (by kernel_rfl)
 simp only[go_sem, ↓reduceIte,Nat.reduceEqDiff,Nat.reduceAdd,Nat.reduceSub,Nat.reduceLeDiff,reduceCtorEq,Int.add_zero,Int.natCast_zero,Int.mul_zero,hz,hg]at a0
 clear ev
 obtain⟨an,aF⟩:=lL
 by_cases hj:(j:Int)<(l.length:Int)
 ·have cY:∀{e:Env} {gg:Rows} {nx:Nat},(e 5=.int .i64 (IntKind.i64.wrap ((j:Int)+1)))->(e 1=.int .i64 (k+3*(j+1)))->(gg i=some ⟨true,3,(je k l (j+1)).map aa⟩)->(rM σ [i] gg nx)->∃m0,m0<(l.length)-j/\∃j:Nat,m0=(l.length)-j/\j<=(l.length)/\e 5=.int .i64 (j:Int)/\e 1=.int .i64 (k+3*j)/\gg i=some ⟨true,3,(je k l j).map aa⟩/\(rM σ [i] gg nx):=fun x1 x2 x3 x4=>⟨_,ai,j+1,rfl,ai,(by rw[x1,aI ai]),x2,x3,x4⟩
  have hZ:j<l.length:=ai
  have fq:=Fy (k:=k) hZ
  have eI:=BR (k:=k) hZ
  have nB:IntKind.i64.wrap (k+3*(j:Int)+1)=k+3*(j:Int)+1:=bP ai
  have pe:IntKind.i64.wrap (k+3*(j:Int)+1+1)=k+3*(j:Int)+2:=by rw[bP ai];omega
  have I5:IntKind.i64.wrap (k+3*(j:Int)+2+1)=k+3*((j:Int)+1):=by rw[bP ai];omega
  have hlen:((je k l j).map aa).length=l.length:=by rw[List.length_map,BQ ai]
  have IH:∀c:List AV,(((je k l j).map aa).set j c)[j]? =some c:=fun c=>by rw[List.getElem?_set_self (by rw[hlen];exact hZ)]
  (try((repeat(revert hN;revert N;apply Pn.out));refine wk (tw @a5 (tw @a1 (tw @ag0 (tw @a0 (tw @hj (tw @fq (tw @IH (tw @eI (tw @nB (tw @pe (tw @I5 (tw @hlen @rf)))))))))))) ?_;(repeat(refine Pn.mk ?_;intro N hN))))
  refine cY ?_ ?_ ?_ (by(try dsimp only);exact⟨bK,fun x hx hi=>by
   have h2:=aF x hx hi
   have h3:(x=i)=False:=eq_false fun e=>hi (by simp[e])
   simp only[go_sem, ↓reduceIte,Nat.reduceEqDiff,Nat.reduceAdd,Nat.reduceSub,Nat.reduceLeDiff,reduceCtorEq,h2,h3]⟩)
  all_goals simp only[go_sem, ↓reduceIte,Nat.reduceEqDiff,Nat.reduceAdd,Nat.reduceSub,Nat.reduceLeDiff,reduceCtorEq,a5,a1,ag0,a0,I5,eI]
 ·have hZ:j=l.length:=ai
  subst hZ
  (try((repeat(revert hN;revert N;apply Pn.out));refine wk (tw @a5 (tw @a1 (tw @ag0 (tw @a0 @hj)))) ?_;(repeat(refine Pn.mk ?_;intro N hN))))
  have lf:je k l l.length=Am k l.length:=by simp[je]
  rw[lf]at ag0
  exact fJ (.inl rfl) (vs:=[.int .i64 (k+3*l.length)]) (sd (tw @a5 (tw @a1 (tw @ag0 @a0)))) ⟨rfl,⟨bK,fun x hx hi=>aF x hx hi⟩,ag0⟩
theorem BJ (i:Id) (l:List fH) (k:Int) (h0:0<=k) (h1:k+2*l.length<=4611686018427387904) (σ:au) (hv:i.cV<σ.next) (hg:σ.get i=some ⟨true,2,l.map cL⟩):
  Call Tryz.prog 138 [.own i 0 l.length,.int .i64 k] σ (fun r σ'=>r=.int .i64 (k+2*l.length)/\rM σ [i] σ'.get σ'.next):=by
 refine fo eG rfl fun hl=>?_
 clear hl
 obtain⟨nn,hn⟩:∃nn,l.length=nn:=⟨_,rfl⟩
 rw[hn]at h1 ⊢
 (try((repeat(revert hN;revert N;apply Pn.out));refine wk @Nat.zero_add ?_;(repeat(refine Pn.mk ?_;intro N hN))))
 refine bF (fun n env st=>∃j:Nat,n=(nn)-j/\j<=(nn)/\env 5=.int .i64 (j:Int)/\env 1=.int .i64 (k+2*j)/\(rM σ [i] st.get st.next/\∃l':List fH,l'.length=nn/\st.get i=some ⟨true,2,l'.map cL⟩)) (nn) ⟨0,ai,ai,sl (tw @Int.add_zero (tw @Int.natCast_zero @Int.mul_zero)),sl (tw @Int.add_zero (tw @Int.natCast_zero @Int.mul_zero)),by(try dsimp only);exact⟨⟨bK,fun x _ _=>rfl⟩,l,hn,hg⟩⟩ ?_
 rintro n_a env_a st_a ⟨j,rfl,ale,a5,a1,lL⟩ ev
 have a0:=ev 0 (by kernel_rfl)
 simp only[go_sem, ↓reduceIte,Nat.reduceEqDiff,Nat.reduceAdd,Nat.reduceSub,Nat.reduceLeDiff,reduceCtorEq,Int.add_zero,Int.natCast_zero,Int.mul_zero]at a0
 clear ev
 obtain⟨⟨an,aF⟩,l',al,ag⟩:=lL
 by_cases hj:(j:Int)<(nn:Int)
 ·have cY:∀{e:Env} {gg:Rows} {nx:Nat},(e 5=.int .i64 (IntKind.i64.wrap ((j:Int)+1)))->(e 1=.int .i64 (k+2*(j+1)))->(rM σ [i] gg nx/\∃l':List fH,l'.length=nn/\gg i=some ⟨true,2,l'.map cL⟩)->∃m0,m0<(nn)-j/\∃j:Nat,m0=(nn)-j/\j<=(nn)/\e 5=.int .i64 (j:Int)/\e 1=.int .i64 (k+2*j)/\(rM σ [i] gg nx/\∃l':List fH,l'.length=nn/\gg i=some ⟨true,2,l'.map cL⟩):=fun x1 x2 x3=>⟨_,ai,j+1,rfl,ai,(by rw[x1,aI ai]),x2,x3⟩
  have hZ:j<l'.length:=ai
  have fq:(l'.map cL)[j]? =some [.str l'[j].aW,.int .i64 l'[j].eD]:=by simp[hZ,cL]
  have hlen:(l'.map cL).length=nn:=by rw[List.length_map,al]
  have IH:∀c:List AV,((l'.map cL).set j c)[j]? =some c:=fun c=>by rw[List.getElem?_set_self (by rw[List.length_map];exact hZ)]
  have ht:=vh (k+2*(j:Int)) ai ai
  have nB:IntKind.i64.wrap (k+2*(j:Int)+1)=k+2*(j:Int)+1:=bP ai
  have pe:IntKind.i64.wrap (k+2*(j:Int)+1+1)=k+2*((j:Int)+1):=by rw[bP ai];omega
  generalize oe (k+2*(j:Int))=mt at ht
  have eI:(l'.map cL).set j [.str mt,.int .i64 (k+2*(j:Int)+1)]=(l'.set j ⟨mt,k+2*(j:Int)+1⟩).map cL:=by rw[List.map_set];rfl
  (repeat(first|((repeat(revert hN;revert N;apply Pn.out));refine wk (tw @a5 (tw @a1 (tw @a0 (tw @hj (tw @ag (tw @fq (tw @IH (tw @eI (tw @nB (tw @pe (tw @hlen @rf))))))))))) ?_;(repeat(refine Pn.mk ?_;intro N hN)))|((try apply Or.inl);refine⟨_,aq.x (ht) (sd (tw @a5 (tw @a1 (tw @a0 (tw @hj (tw @ag (tw @fq (tw @IH (tw @eI (tw @nB (tw @pe (tw @hlen @rf)))))))))))),?_⟩;refine hN _ _ ?_;clear hN N)))
  refine cY ?_ ?_ (by(try dsimp only);exact⟨⟨bK,fun x hx hi=>by
   have h2:=aF x hx hi
   have h3:(x=i)=False:=eq_false fun e=>hi (by simp[e])
   simp only[go_sem, ↓reduceIte,Nat.reduceEqDiff,Nat.reduceAdd,Nat.reduceSub,Nat.reduceLeDiff,reduceCtorEq,h2,h3]⟩,l'.set j ⟨mt,k+2*(j:Int)+1⟩,by simp[al],sl @Nat.zero_add⟩)
  all_goals simp only[go_sem, ↓reduceIte,Nat.reduceEqDiff,Nat.reduceAdd,Nat.reduceSub,Nat.reduceLeDiff,reduceCtorEq,a5,a1,a0,pe,eI]
 ·have hZ:j=nn:=ai
  subst hZ
  (try((repeat(revert hN;revert N;apply Pn.out));refine wk (tw @a5 (tw @a1 (tw @a0 @hj))) ?_;(repeat(refine Pn.mk ?_;intro N hN))))
  exact fJ (.inl rfl) (vs:=[.int .i64 (k+2*j)]) (sd (tw @a5 (tw @a1 @a0))) ⟨rfl,⟨bK,fun x hx hi=>aF x hx hi⟩⟩
theorem iw.flat {α:Type} {e:α->List AV} {z:Nat} {g:Rows} {a:AV} {xs:List α} {ids:List Id} (h:iw (kU e) z g a xs ids):∃o,a=.own o 0 xs.length/\g o=some ⟨true,z,xs.map e⟩/\ids=[o]:=by
 obtain⟨o,rows,is,h1,h2,h3,rfl⟩:=h
 have:∀{rows:List (List AV)} {xs:List α} {is:List Id},eH (kU e) g rows xs is->rows=xs.map e/\is=[]:=fun h=>by
  induction h with
  |nil=>exact⟨rfl,rfl⟩
  |cons h1 _ ih=>obtain⟨rfl,rfl⟩:=h1;obtain⟨rfl,rfl⟩:=ih;exact⟨rfl,rfl⟩
 obtain⟨rfl,rfl⟩:=this h3
 exact⟨o,h1,h2,rfl⟩
def gD (t:eW):Nat:=1+t.b4.length
theorem BL (a:AV) (l:List eW) (ids:List Id) (k:Int) (h0:0<=k) (Qg:l.length<=1048576) (h1:k+(l.map gD).sum<=4611686018427387904) (σ:au) (hv:∀i∈ids,i.cV<σ.next) (lu:ids.Nodup) (hg:iw nJ 2 σ.get a l ids):
  Call Tryz.prog 139 [a,.int .i64 k] σ (fun r σ'=>r=.int .i64 (k+(l.map gD).sum)/\rM σ ids σ'.get σ'.next):=by
 obtain⟨o,rows,is,rfl,ho,hR,rfl⟩:=hg
 refine fo eG rfl fun hl=>?_
 clear hl
 have tV:=hv o (by simp)
 have M7:=l8 gD l
 (try((repeat(revert hN;revert N;apply Pn.out));refine wk @Nat.zero_add ?_;(repeat(refine Pn.mk ?_;intro N hN))))
 refine bF (fun n env st=>∃j:Nat,n=(l.length)-j/\j<=(l.length)/\env 5=.int .i64 (j:Int)/\env 1=.int .i64 (k+iA gD l j)/\(rM σ (o::is) st.get st.next/\∃pre rest ir,st.get o=some ⟨true,2,pre++rest⟩/\pre.length=j/\eH nJ st.get rest (l.drop j) ir/\(o::ir).Nodup/\∀i∈ir,i∈is)) (l.length) ⟨0,ai,ai,sl (tw @Int.add_zero (tw @Int.natCast_zero @M7)),sl (tw @Int.add_zero (tw @Int.natCast_zero @M7)),by(try dsimp only);exact⟨⟨bK,fun x _ _=>rfl⟩,[],rows,is,ho,rfl,hR,lu,fun _ h=>h⟩⟩ ?_
 rintro n_a env_a st_a ⟨j,rfl,ale,a5,a1,lL⟩ ev
 have a0:=ev 0 (by kernel_rfl)
 simp only[go_sem, ↓reduceIte,Nat.reduceEqDiff,Nat.reduceAdd,Nat.reduceSub,Nat.reduceLeDiff,reduceCtorEq,Int.add_zero,Int.natCast_zero,M7]at a0
 clear ev
 obtain⟨⟨an,aF⟩,pre,rest,ir,ag,apl,aR,aN,aS⟩:=lL
 by_cases hj:(j:Int)<(l.length:Int)
 ·have cY:∀{e:Env} {gg:Rows} {nx:Nat},(e 5=.int .i64 (IntKind.i64.wrap ((j:Int)+1)))->(e 1=.int .i64 (k+iA gD l (j+1)))->(rM σ (o::is) gg nx/\∃pre rest ir,gg o=some ⟨true,2,pre++rest⟩/\pre.length=(j+1)/\eH nJ gg rest (l.drop (j+1)) ir/\(o::ir).Nodup/\∀i∈ir,i∈is)->∃m0,m0<(l.length)-j/\∃j:Nat,m0=(l.length)-j/\j<=(l.length)/\e 5=.int .i64 (j:Int)/\e 1=.int .i64 (k+iA gD l j)/\(rM σ (o::is) gg nx/\∃pre rest ir,gg o=some ⟨true,2,pre++rest⟩/\pre.length=j/\eH nJ gg rest (l.drop j) ir/\(o::ir).Nodup/\∀i∈ir,i∈is):=fun x1 x2 x3=>⟨_,ai,j+1,rfl,ai,(by rw[x1,aI ai]),x2,x3⟩
  have hZ:j<l.length:=ai
  have OU:=v8 gD hZ
  have hle:=pB gD l (j+1)
  obtain⟨t,htj⟩:∃t,l[j]=t:=⟨_,rfl⟩
  rw[List.drop_eq_getElem_cons hZ,htj]at aR
  rw[htj]at OU
  cases aR with
  | @cons cs _ ic rs _ i2 hT Q1=>
  obtain⟨i,rfl,hi,rfl⟩:=hT
  rw[List.singleton_append]at aN aS
  obtain⟨n1,n2⟩:=List.nodup_cons.1 aN
  obtain⟨n3,n4⟩:=List.nodup_cons.1 n2
  have Qj:(o=i)=False:=eq_false fun e=>n1 (by simp[e])
  have Qd:(i=o)=False:=eq_false fun e=>n1 (by simp[e])
  have hiv:i.cV<σ.next:=hv i (by simp[aS i (by simp)])
  have Rs:gD t=1+t.b4.length:=rfl
  have ht:=vh (k+(iA gD l j:Nat)) ai ai
  have nB:IntKind.i64.wrap (k+(iA gD l j:Nat)+1)=k+(iA gD l j:Nat)+1:=bP ai
  generalize oe (k+(iA gD l j:Nat))=mt at ht
  have fq:(pre++[.str t.aW,.own i 0 t.b4.length]::rs)[j]? =some [.str t.aW,.own i 0 t.b4.length]:=by subst apl;simp
  have eI:(pre++[.str t.aW,.own i 0 t.b4.length]::rs).set j [.str mt,.own i 0 t.b4.length]=pre++[.str mt,.own i 0 t.b4.length]::rs:=by subst apl;simp
  have MX:(pre++[.str mt,.own i 0 t.b4.length]::rs)[j]? =some [.str mt,.own i 0 t.b4.length]:=by subst apl;simp
  (repeat(first|((repeat(revert hN;revert N;apply Pn.out));refine wk (tw @a5 (tw @a1 (tw @a0 (tw @hj (tw @ag (tw @fq (tw @eI (tw @MX (tw @nB (tw @Qj (tw @Qd @hi))))))))))) ?_;(repeat(refine Pn.mk ?_;intro N hN)))|((try apply Or.inl);refine⟨_,aq.x (ht) (sd (tw @a5 (tw @a1 (tw @a0 (tw @hj (tw @ag (tw @fq (tw @eI (tw @MX (tw @nB (tw @Qj (tw @Qd @hi)))))))))))),?_⟩;refine hN _ _ ?_;clear hN N)))
  refine .inr (aY _ _ _ _ _ (fun r σ1 hq=>?_) (vg i t.b4 (k+(iA gD l j:Nat)+1) ai ai _ bK (sd (tw @Qj (tw @Qd @hi)))))
  obtain⟨g1,x1⟩:=σ1
  obtain⟨rfl,CC,n9⟩:=hq
  (try dsimp only at CC n9)
  refine hN _ _ ?_
  clear hN N
  have UH:k+(iA gD l j:Nat)+1+t.b4.length=k+(iA gD l (j+1):Nat):=ai
  (try((repeat(revert hN;revert N;apply Pn.out));refine wk (tw @a5 (tw @a1 (tw @a0 @UH))) ?_;(repeat(refine Pn.mk ?_;intro N hN))))
  have gk:∀x:Id,x.cV<σ.next->x≠o->x≠i->g1 x=st_a.get x:=fun x hx h3 h4=>by
   have h2:=n9 x bK (by simp[h4])
   have h5:=eq_false h3
   simp only[go_sem, ↓reduceIte,Nat.reduceEqDiff,Nat.reduceAdd,Nat.reduceSub,Nat.reduceLeDiff,reduceCtorEq,h5]at h2
   exact h2
  have go:=n9 o bK (by simp only[List.mem_singleton];exact fun e=>n1 (by simp[e]))
  simp only[go_sem, ↓reduceIte,Nat.reduceEqDiff,Nat.reduceAdd,Nat.reduceSub,Nat.reduceLeDiff,reduceCtorEq]at go
  refine cY ?_ ?_ (by(try dsimp only);exact⟨⟨bK,fun x hx hi=>by
   have h3:x≠o:=fun e=>hi (by simp[e])
   have h4:x≠i:=fun e=>hi (by simp[e,aS i (by simp)])
   rw[gk x hx h3 h4]
   exact aF x hx hi⟩,pre++[[.str mt,.own i 0 t.b4.length]],rs,i2,by rw[go];simp,by simp[apl],Q1.frame qe (fun x hx=>gk x (hv x (by simp[aS x (by simp[hx])])) (fun e=>n1 (by simp[<-e,hx])) (fun e=>n3 (by rw[<-e];exact hx))),List.nodup_cons.2 ⟨fun h=>n1 (by simp[h]),n4⟩,fun x hx=>aS x (by simp[hx])⟩)
  all_goals simp only[go_sem, ↓reduceIte,Nat.reduceEqDiff,Nat.reduceAdd,Nat.reduceSub,Nat.reduceLeDiff,reduceCtorEq,a5,a1,a0,UH]
 ·have hZ:j=l.length:=ai
  subst hZ
  have ee:=Cg gD l
  rw[ee]at a1
  (try((repeat(revert hN;revert N;apply Pn.out));refine wk (tw @a5 (tw @a1 (tw @a0 @hj))) ?_;(repeat(refine Pn.mk ?_;intro N hN))))
  exact fJ (.inl rfl) (vs:=[.int .i64 (k+(l.map gD).sum)]) (sd (tw @a5 (tw @a1 @a0))) ⟨rfl,⟨bK,fun x hx hi=>aF x hx hi⟩⟩
theorem yh (v:AV) (p:eu) (ids:List Id) (k:Int) (h0:0<=k) (h1:k+3*p.ah.length<=4611686018427387904) (σ:au) (hv:∀i∈ids,i.cV<σ.next) (hg:yJ σ.get v p ids):
  Call Tryz.prog 25 [v,.int .i64 k] σ (fun r σ'=>r=.int .i64 (k+3*p.ah.length)/\rM σ ids σ'.get σ'.next):=by
 obtain⟨c,rfl,hc⟩:=hg
 obtain⟨o,rfl,ho,rfl⟩:=hc.flat
 refine fo eG rfl fun hl=>?_
 clear hl
 have tV:=eL (hv o (by simp))
 have Lr:=hv o (by simp)
 (try((repeat(revert hN;revert N;apply Pn.out));refine wk @Nat.zero_add ?_;(repeat(refine Pn.mk ?_;intro N hN))))
 refine .inr (aY _ _ _ _ _ (fun r σ1 hq=>?_) (zw o p.ah k h0 h1 _ bK (sd (tw @tV @ho))))
 obtain⟨g1,x1⟩:=σ1
 obtain⟨rfl,⟨CC,n9⟩,_⟩:=hq
 (try dsimp only at CC n9)
 refine hN _ _ ?_
 clear hN N
 (try((repeat(revert hN;revert N;apply Pn.out));refine wk @Nat.zero_add ?_;(repeat(refine Pn.mk ?_;intro N hN))))
 exact fJ (.inl rfl) (vs:=[.int .i64 (k+3*p.ah.length)]) (sd @Nat.zero_add) ⟨rfl,⟨bK,fun x hx hi=>by
  have h2:=n9 x bK hi
  have h3:=eL hx
  simp only[go_sem, ↓reduceIte,Nat.reduceEqDiff,Nat.reduceAdd,Nat.reduceSub,Nat.reduceLeDiff,reduceCtorEq,h3]at h2
  exact h2⟩⟩
def p7 (s:dc):Nat:=2*s.aM.aw.length+(s.aM.ah.map gD).sum+3*s.cj.ah.length
theorem GN (a b:AV) (p:ax) (i1 i2:List Id) (k:Int) (h0:0<=k) (Qg:p.ah.length<=1048576) (h1:k+2*p.aw.length+(p.ah.map gD).sum<=4611686018427387904) (σ:au) (hv:∀i∈i1++i2,i.cV<σ.next) (lu:(i1++i2).Nodup)
  (hA:iw (kU cL) 2 σ.get a p.aw i1) (hB:iw nJ 2 σ.get b p.ah i2):
  Call Tryz.prog 67 [.agg [a,b],.int .i64 k] σ (fun r σ'=>r=.int .i64 (k+2*p.aw.length+(p.ah.map gD).sum)/\rM σ (i1++i2) σ'.get σ'.next):=by
 obtain⟨_,n2,n3⟩:=List.nodup_append.1 lu
 obtain⟨o,rfl,ho,rfl⟩:=hA.flat
 obtain⟨ob,rfl⟩:=hB.ku
 refine fo eG rfl fun hl=>?_
 clear hl
 have Lr:=hv o (by simp)
 have tV:=eL Lr
 (try((repeat(revert hN;revert N;apply Pn.out));refine wk @Nat.zero_add ?_;(repeat(refine Pn.mk ?_;intro N hN))))
 refine .inr (aY _ _ _ _ _ (fun r σ1 hq=>?_) (BJ o p.aw k h0 ai _ bK (sd (tw @tV @ho))))
 obtain⟨g1,x1⟩:=σ1
 obtain⟨rfl,CC,n9⟩:=hq
 (try dsimp only at CC n9)
 refine hN _ _ ?_
 clear hN N
 have k1:=n9 ⟨67000000,σ.next⟩ bK (by simp only[List.mem_singleton];intro e;rw[<-e]at Lr;(try dsimp only at Lr);omega)
 simp only[go_sem, ↓reduceIte,Nat.reduceEqDiff,Nat.reduceAdd,Nat.reduceSub,Nat.reduceLeDiff,reduceCtorEq]at k1
 (try((repeat(revert hN;revert N;apply Pn.out));refine wk @k1 ?_;(repeat(refine Pn.mk ?_;intro N hN))))
 have hf:∀x:Id,x.cV<σ.next->x≠o->g1 x=σ.get x:=fun x hx ho=>by
  have h2:=n9 x bK (by simp[ho])
  have h3:=eL hx
  simp only[go_sem, ↓reduceIte,Nat.reduceEqDiff,Nat.reduceAdd,Nat.reduceSub,Nat.reduceLeDiff,reduceCtorEq,h3]at h2
  exact h2
 refine .inr (aY _ _ _ _ _ (fun r σ2 hq=>?_) (BL _ p.ah i2 (k+2*p.aw.length) ai Qg h1 _ (fun i hi=>by have:=hv i (by simp[hi]);(try dsimp only);omega) n2 (hB.frame qe fun i hi=>hf i (hv i (by simp[hi])) fun e=>n3 o (by simp) i hi e.symm)))
 obtain⟨g2,x2⟩:=σ2
 obtain⟨rfl,Lw,zh⟩:=hq
 (try dsimp only at Lw zh)
 refine hN _ _ ?_
 clear hN N
 (try((repeat(revert hN;revert N;apply Pn.out));refine wk @Nat.zero_add ?_;(repeat(refine Pn.mk ?_;intro N hN))))
 exact fJ (.inl rfl) (vs:=[.int .i64 (k+2*p.aw.length+(p.ah.map gD).sum)]) (sd @Nat.zero_add) ⟨rfl,⟨bK,fun x hx hi=>(zh x bK fun h=>hi (by simp[h])).trans (hf x hx fun e=>hi (by simp[e]))⟩⟩
theorem yj (v:AV) (p:dc) (ids:List Id) (k:Int) (h0:0<=k) (Qg:p.aM.ah.length<=1048576) (h1:k+p7 p<=4611686018427387904) (σ:au) (hv:∀i∈ids,i.cV<σ.next) (lu:ids.Nodup) (hg:um σ.get v p ids):
  Call Tryz.prog 23 [v,.int .i64 k] σ (fun r σ'=>r=.int .i64 (k+p7 p)/\rM σ ids σ'.get σ'.next):=by
 obtain⟨a,b,c,i1,i2,i3,rfl,hA,hB,hC,rfl⟩:=hg.ex
 rw[<-List.append_assoc]at lu
 obtain⟨n1,_,n3⟩:=List.nodup_append.1 lu
 obtain⟨oa,rfl⟩:=hA.ku
 obtain⟨ob,rfl⟩:=hB.ku
 obtain⟨oc,rfl⟩:=hC.ku
 have hm:(p7 p:Int)=2*p.aM.aw.length+(p.aM.ah.map gD).sum+3*p.cj.ah.length:=by simp[p7]
 refine fo eG rfl fun hl=>?_
 clear hl
 have TU:∀x∈i1++(i2++i3),bD σ.get ⟨23000000,σ.next⟩ ⟨true,4,[[.own oa 0 p.aM.aw.length,.own ob 0 p.aM.ah.length,.own oc 0 p.cj.ah.length,.int .i64 p.aC]]⟩ x=σ.get x:=fun x hx=>by
  have:=eL (hv x hx)
  simp only[go_sem, ↓reduceIte,Nat.reduceEqDiff,Nat.reduceAdd,Nat.reduceSub,Nat.reduceLeDiff,reduceCtorEq,this]
 (try((repeat(revert hN;revert N;apply Pn.out));refine wk @Nat.zero_add ?_;(repeat(refine Pn.mk ?_;intro N hN))))
 refine .inr (aY _ _ _ _ _ (fun r σ1 hq=>?_) (GN _ _ p.aM i1 i2 k h0 Qg ai _ (fun i hi=>by have:=hv i (by rcases List.mem_append.1 hi with h|h<;>simp[h]);(try dsimp only);omega) n1 (hA.frame A7 fun i hi=>TU i (by simp[hi])) (hB.frame qe fun i hi=>TU i (by simp[hi]))))
 obtain⟨g1,x1⟩:=σ1
 obtain⟨rfl,CC,n9⟩:=hq
 (try dsimp only at CC n9)
 refine hN _ _ ?_
 clear hN N
 have k1:=n9 ⟨23000000,σ.next⟩ bK (fun h=>by
  have:=hv ⟨23000000,σ.next⟩ (by rcases List.mem_append.1 h with h|h<;>simp[h])
  (try dsimp only at this);omega)
 simp only[go_sem, ↓reduceIte,Nat.reduceEqDiff,Nat.reduceAdd,Nat.reduceSub,Nat.reduceLeDiff,reduceCtorEq]at k1
 (try((repeat(revert hN;revert N;apply Pn.out));refine wk @k1 ?_;(repeat(refine Pn.mk ?_;intro N hN))))
 refine .inr (aY _ _ _ _ _ (fun r σ2 hq=>?_) (yh _ p.cj i3 (k+2*p.aM.aw.length+(p.aM.ah.map gD).sum) ai ai _ (fun i hi=>by have:=hv i (by simp[hi]);(try dsimp only);omega) ⟨_,rfl,hC.frame xN fun i hi=>?_⟩))
 rotate_left
 ·exact(n9 i (by have:=hv i (by simp[hi]);(try dsimp only);omega) fun h=>n3 i h i hi rfl).trans (TU i (by simp[hi]))
 obtain⟨g2,x2⟩:=σ2
 obtain⟨rfl,Lw,zh⟩:=hq
 (try dsimp only at Lw zh)
 refine hN _ _ ?_
 clear hN N
 (try((repeat(revert hN;revert N;apply Pn.out));refine wk @Nat.zero_add ?_;(repeat(refine Pn.mk ?_;intro N hN))))
 exact fJ (.inl rfl) (vs:=[.int .i64 (k+2*p.aM.aw.length+(p.aM.ah.map gD).sum+3*p.cj.ah.length)]) (sd @Nat.zero_add) ⟨by rw[hm];exact congrArg (AV.int .i64) ai,⟨bK,fun x hx hi=>by
  have h2:=zh x bK fun h=>hi (by simp[h])
  have h3:=n9 x bK fun h=>hi (by rcases List.mem_append.1 h with h|h<;>simp[h])
  have h4:=eL hx
  simp only[go_sem, ↓reduceIte,Nat.reduceEqDiff,Nat.reduceAdd,Nat.reduceSub,Nat.reduceLeDiff,reduceCtorEq,h4]at h3
  exact h2.trans h3⟩⟩
end Go.Proofs.YtgoljkjaameagaaGreat.V

namespace Go.Proofs.YtgoljkjaameagaaGreat.V
open Go.RowKit
def AV.clean:AV->Bool
 | .int .. | .bool _| .str _| .bS| .gE| .iJ| .iT| .own .. | .ptr .. | .map .. | .qx _=>true
 | .sl l=>l.isEmpty
 |_=>false
def AV.rV:AV->Bool
 | .agg cs=>cs.all AV.clean
 | .gn cs=>cs.all fun a=>match a with
  | .agg cs=>cs.all AV.clean
  |a=>a.clean
 |a=>a.clean
def wm (ids:List Id) (g g':Rows):Rows:=fun id=>if id∈ids then g' id else g id
theorem oE {ids:List Id} {g g':Rows} {id:Id} (h:id∈ids):wm ids g g' id=g' id:=if_pos h
theorem mb {ids:List Id} {g g':Rows} {id:Id} (h:id∉ids):wm ids g g' id=g id:=if_neg h
section
variable {P:Program} {w w':World} {D D' D1 D2:Nat->Prop} {ι ι1 ι2:Names}
theorem jC {a:AV} {v:Value} (hp:a.clean=true) (h:dd P w D1 ι1 a v):dd P w D2 ι1 a v:=by
 cases h with
 |eM a v h=>
  cases h with
  |int=>exact .eM _ _ (.int _ _)
  |bool=>exact .eM _ _ (.bool _)
  |str=>exact .eM _ _ (.str _)
  |bS=>exact .eM _ _ .bS
  |gE=>exact .eM _ _ .gE
  |iJ=>exact .eM _ _ .iJ
  |iT=>exact .eM _ _ .iT
  |zL a c h=>exact .eM _ _ (.zL a c h)
  |sl rows b o n c sz vs h1 h2 h3=>
   have:rows=[]:=by simpa[AV.clean]using hp
   subst this
   simp only[List.length_nil]at h1
   subst h1
   exact .eM _ _ (.zL _ _ h3)
  |dt=>simp[AV.clean]at hp
  |agg=>simp[AV.clean]at hp
  |fn=>simp[AV.clean]at hp
 |own id off len o cap B h1 h2 h3 h4 h5 h6=>exact .own id off len o cap B h1 h2 h3 h4 h5 h6
 |map id m B h1 h2=>exact .map id m B h1 h2
 |qx id c B h1 h2=>exact .qx id c B h1 h2
 |ptr id i off B h1 h2=>exact .ptr id i off B h1 h2
 |agg=>simp[AV.clean]at hp
 |gn=>simp[AV.clean]at hp
 |fn=>simp[AV.clean]at hp
 |tY=>simp[AV.clean]at hp
theorem ly {cs:List AV} {v:Value} (hc:cs.all AV.clean=true) (h:dd P w D1 ι1 (.agg cs) v):dd P w D2 ι1 (.agg cs) v:=by
 obtain⟨vs,f,rfl,h1,h2,h3,h4⟩:=iu h
 rw[List.all_eq_true]at hc
 exact .agg cs vs f h1 h2 h3 fun j a ha=>jC (hc a (List.mem_of_getElem? ha)) (h4 j a ha)
theorem Ec {a:AV} {v:Value} (hp:a.rV=true) (h:dd P w D1 ι1 a v):dd P w D2 ι1 a v:=by
 cases a with
 |agg cs=>exact ly hp h
 |gn cs=>
  obtain⟨vs,f,rfl,h1,h3,h4⟩:=tZ h
  simp only[AV.rV,List.all_eq_true]at hp
  refine .gn cs vs f h1 h3 fun j a ha=>?_
  have:=hp a (List.mem_of_getElem? ha)
  split at this
  ·exact ly this (h4 j _ ha)
  ·exact jC this (h4 j _ ha)
 |_=>exact jC hp h
theorem D7 {ag:Bool} {n:Nat} {cs:List AV} {x:AV} {v:Value} (hc:∀a∈cs,a.clean=true) (hp:part ag n cs=some x) (hr:dd P w D1 ι1 x v):dd P w D2 ι1 x v:=by
 unfold part at hp
 split at hp
 ·split at hp
  ·simp only[Option.some.injEq]at hp;subst hp
   exact ly (List.all_eq_true.2 fun a ha=>hc a (List.mem_of_mem_take ha)) hr
  ·cases hp
 ·exact jC (hc x (List.mem_of_mem_head? hp)) hr
theorem gT.clean {B:rL} {r:Row} (R:gT P w D1 ι1 B r) (h:∀cs∈r.rows,∀a∈cs,a.clean=true):gT P w D2 ι1 B r:=
 ⟨R.sz,R.flat,fun hk=>⟨R.sz,(R.row hk).wS,(R.row hk).fits,(R.row hk).len,R.flat,fun i j cs a hi hj=>by
  obtain⟨v,q1,q2⟩:=(R.row hk).at_ i j cs a hi hj
  exact⟨v,q1,jC (h cs (List.mem_of_getElem? hi) a (List.mem_of_getElem? hj)) q2⟩⟩,fun m hm=>by
  obtain⟨h1,es,c,h2,h3,h5,h4⟩:=R.map m hm
  refine⟨h1,es,c,h2,h3,h5,fun i cs hi=>?_⟩
  obtain⟨e,kv,vv,q1,q2,q3,q4,q5⟩:=h4 i cs hi
  have hc:=h cs (List.mem_of_getElem? hi)
  exact⟨e,kv,vv,q1,q2,q3,D7 hc q2 q4,jC (hc vv (List.mem_of_getElem? q3)) q5⟩,fun c hc=>by
  obtain⟨h1,buf,s,q,h2,h3,h4⟩:=R.chan c hc
  refine⟨h1,buf,s,q,h2,h3,fun i cs hi=>?_⟩
  obtain⟨a,u,rfl,q2,q3⟩:=h4 i cs hi
  exact⟨a,u,rfl,q2,jC (h [a] (List.mem_of_getElem? hi) a (by simp)) q3⟩⟩
def Handed (ids:List Id) (g:Rows):Prop:=∀id∈ids,∃r,g id=some r/\r.w=true/\∀cs∈r.rows,∀a∈cs,a.clean=true
theorem Hp {f:Nat} {args eS:List AV} {g:Rows} {n:Nat} {K:AV->au->Prop} (hv:de (dR g) 6 args=some eS)
  (h:Sound P f eS ⟨fun _=>none,n⟩ fun r σ'=>∃ids,r.rV=true/\Handed ids σ'.get/\K r ⟨wm ids g σ'.get,σ'.next⟩):Sound P f args ⟨g,n⟩ K:=by
 intro hs D ι w vs S U A
 let E:Nat->Prop:=fun b=>D b∨∃id r B,g id=some r/\ι id=some B/\b=B.b
 have lt:∀id r B,g id=some r->ι id=some B->B.b<w.heap.size:=fun id r B h1 h2=>by
  obtain⟨B',dW,R,_⟩:=S.row id r h1
  rw[h2]at dW;injection dW with dW;subst dW
  exact R.lt
 have S0:gx P w.heap.size E ι (fun _=>none) w:=⟨Nat.le_refl _,fun b hb=>by
  rcases hb with hb|⟨id,r,B,h1,h2,rfl⟩
  ·exact S.dead b hb
  ·exact lt id r B h1 h2,fun id r h=>(by cases h),fun id jG r r' B B' h=>(by cases h)⟩
 obtain⟨l1,l2⟩:=gC hv
 have A':fw P w E ι eS vs:=⟨by rw[A.1,l1],fun j a hj=>by
  obtain⟨a0,kJ,hz⟩:=l2 j a hj
  obtain⟨u,hu,hr⟩:=A.2 j a0 kJ
  refine⟨u,hu,(qF (D2:=E) (ι2:=ι) (fun b h=>.inl h) (fun id row hg hw=>?_) 6 a0 u a hr hz).1⟩
  unfold dR at hg
  simp only[Option.map_eq_some_iff]at hg
  obtain⟨r,nA,rfl⟩:=hg
  obtain⟨B,hB,R,_,_⟩:=S.row id r nA
  exact⟨B,hB,R.flag true,.inr ⟨id,r,B,nA,hB,rfl⟩⟩⟩
 refine(h w.heap.size E ι w vs S0 U A').mono ?_
 rintro e w' ⟨r0,g',n',D2,ι1,u,rfl,⟨ids,lS,hid,hK⟩,T,S1,U1,hn,hR⟩
 have hb:∀b,b<w.heap.size->w'.heap[b]? =w.heap[b]? :=T.below.block
 have hz:=T.below.size
 have frame:∀{a v},dd P w D ι a v->dd P w' D ι1 a v:=fun h=>h.frame (fun b hd=>hb b (S.dead b hd)) (fun _ h=>h) T.names
 refine⟨r0,_,n',D,ι1,u,rfl,hK,⟨T.below.mono S.lo,fun b hd=>hb b (S.dead b hd),fun _ h=>h,T.names,fun _ h=>.inl h⟩,⟨Nat.le_trans S.lo hz,fun b hd=>Nat.lt_of_lt_of_le (S.dead b hd) hz,fun id r hr=>?_,fun RN id2 r1 r2 B1 B2 h1 h2 hw Ae pa MR=>?_⟩,U1,hn,Ec lS hR⟩
 ·by_cases hi:id∈ids
  ·rw[oE hi]at hr
   obtain⟨r',nA,hw,hcr⟩:=hid id hi
   rw[hr]at nA;injection nA with nA;subst nA
   obtain⟨B,hB,R,k1,k2⟩:=S1.row id r hr
   have ju:=k1 hw
   exact⟨B,hB,R.clean hcr,fun _=>Nat.le_trans S.lo ju,fun _ hd=>Nat.lt_irrefl _ (Nat.lt_of_lt_of_le (S.dead _ hd) ju)⟩
  ·rw[mb hi]at hr
   obtain⟨B,hB,R,k1,k2⟩:=S.row id r hr
   have SF:=lt id r B hr hB
   exact⟨B,T.names _ _ hB,R.frame (hb _ SF) fun a v h=>frame h,k1,k2⟩
 ·have new:∀{id r B},id∈ids->wm ids g g' id=some r->ι1 id=some B->w.heap.size<=B.b/\g' id=some r/\r.w=true:=fun {id r B} hi hr hB=>by
   rw[oE hi]at hr
   obtain⟨r',nA,hw,_⟩:=hid id hi
   replace nA:g' id=some r':=nA
   rw[hr]at nA;injection nA with nA;subst nA
   obtain⟨B',dW,_,k1,_⟩:=S1.row id r hr
   rw[hB]at dW;injection dW with dW;subst dW
   exact⟨k1 hw,hr,hw⟩
  have yn:∀{id r B},id∉ids->wm ids g g' id=some r->ι1 id=some B->B.b<w.heap.size/\g id=some r/\ι id=some B:=fun {id r B} hi hr hB=>by
   rw[mb hi]at hr
   obtain⟨B',dW,_⟩:=S.row id r hr
   have:=T.names _ _ dW
   rw[hB]at this;injection this with this;subst this
   exact⟨lt id r _ hr dW,hr,dW⟩
  by_cases i1:RN∈ids
  ·obtain⟨a1,a2,a3⟩:=new i1 h1 Ae
   by_cases i2:id2∈ids
   ·obtain⟨b1,b2,b3⟩:=new i2 h2 pa
    exact S1.inj RN id2 r1 r2 B1 B2 a2 b2 hw Ae pa MR
   ·obtain⟨b1,_⟩:=yn i2 h2 pa
    omega
  ·obtain⟨a1,a2,a3⟩:=yn i1 h1 Ae
   by_cases i2:id2∈ids
   ·obtain⟨b1,_⟩:=new i2 h2 pa
    omega
   ·obtain⟨b1,b2,b3⟩:=yn i2 h2 pa
    exact S.inj RN id2 r1 r2 B1 B2 a2 b2 hw a3 b3 MR
theorem ug (hm:P.follows .mixedOrders=true) {f:Nat} {args eS:List AV} {σ:au} {K:AV->au->Prop} (hv:de (dR σ.get) 6 args=some eS)
  (h:Call P f eS ⟨fun _=>none,σ.next⟩ fun r σ'=>∃ids,r.rV=true/\Handed ids σ'.get/\K r ⟨wm ids σ.get σ'.get,σ'.next⟩):Call P f args σ K:=
 fB (Hp hv (fR hm h))
end
inductive pD:List AV->List AV->Prop
 |nil:pD [] []
 |same (a) {l l'}:pD l l'->pD (a::l) (a::l')
 |ptr (cs rest) {l l'}:pD l l'->pD (.dt (cs++rest)::l) (.dt cs::l')
 |bS {l l'}:pD l l'->pD (.bS::l) (.sl []::l')
theorem Mg {P:Program} {w:World} {D:Nat->Prop} {ι:Names} {cs rest:List AV} {v:Value} (h:dd P w D ι (.dt (cs++rest)) v):dd P w D ι (.dt cs) v:=by
 obtain⟨b,o,vs,rfl,h1,h2,h3,h4⟩:=jS h
 exact .eM _ _ (.dt cs b o vs h1 (fun a ha=>h2 a (List.mem_append_left _ ha)) (fun j hj=>h3 j (by rw[List.length_append];omega)) fun j a ha=>h4 j a (by
  have:=(List.getElem?_eq_some_iff.1 ha).1
  rw[List.getElem?_append_left this];exact ha))
theorem Mj {P:Program} {w:World} {D:Nat->Prop} {ι:Names} {v:Value} (h:dd P w D ι .bS v):dd P w D ι (.sl []) v:=by
 cases h with
 |eM _ _ h=>
  cases h with
  |bS=>exact .eM _ _ (.zL none 0 (Nat.zero_le _))
theorem pD.len {l l':List AV} (h:pD l l'):l'.length=l.length:=by induction h<;>simp_all
theorem pD.get {P:Program} {w:World} {D:Nat->Prop} {ι:Names} {l l':List AV} (h:pD l l'):∀{j:Nat} {a':AV},l'[j]? =some a'->∃a,l[j]? =some a/\∀v,dd P w D ι a v->dd P w D ι a' v:=by
 induction h with
 |nil=>intro j a' hj;simp at hj
 |same a _ ih=>
  intro j a' hj
  cases j with
  |zero=>simp at hj;subst hj;exact⟨a,rfl,fun _ h=>h⟩
  |succ j=>exact ih (by simpa using hj)
 |ptr cs rest _ ih=>
  intro j a' hj
  cases j with
  |zero=>simp at hj;subst hj;exact⟨_,rfl,fun _ h=>Mg h⟩
  |succ j=>exact ih (by simpa using hj)
 |bS _ ih=>
  intro j a' hj
  cases j with
  |zero=>simp at hj;subst hj;exact⟨_,rfl,fun _ h=>Mj h⟩
  |succ j=>exact ih (by simpa using hj)
theorem Call.cut {P:Program} (hm:P.follows .mixedOrders=true) {f:Nat} {args eS:List AV} {σ:au} {K:AV->au->Prop} (hc:pD args eS) (h:Call P f eS σ K):Call P f args σ K:=
 fB fun hs D ι w vs S U A=>fR hm h hs D ι w vs S U ⟨by rw[A.1,hc.len],fun j a' hj=>by
  obtain⟨a,ha,hr⟩:=hc.get (P:=P) (w:=w) (D:=D) (ι:=ι) hj
  obtain⟨u,hu,hv⟩:=A.2 j a ha
  exact⟨u,hu,hr u hv⟩⟩
theorem aq.cut {P:Program} (hm:P.follows .mixedOrders=true) {f:Nat} {args eS:List AV} {r:AV} (hc:pD args eS) (h:aq P f eS r):aq P f args r:=fun n=>(h n).cut hm hc
end Go.Proofs.YtgoljkjaameagaaGreat.V

namespace Go.Proofs.YtgoljkjaameagaaGreat.V
open Go.RowKit
attribute [local irreducible] dQ wpOps ft Call
attribute [local go_sem] aA eV ef e9 e8 cZ upd bQ K.av cr AV.cells AV.cell rowOf rowsOf part ld rowAt bD bL dm dD fE bu cK dO fa eF db dH cI cH dw dx bz aQ cz bx cD cC dF dI dG cw bC cJ dE bw az cF bZ fD bj cq bB aJ cX aX dn AV.undef bp br dy dC du dz cm dM dP bU dK dJ cE cG List.getD_cons_zero List.getD_cons_succ List.getD_nil List.all_cons List.all_nil Bool.and_true Bool.true_and Bool.and_self Bool.not_true Bool.not_false Option.map_some Option.map_none Option.bind_some Option.bind_none List.length_cons List.length_nil List.take_succ_cons List.take_zero List.take_nil List.drop_succ_cons List.drop_zero List.drop_nil List.head?_cons List.map_cons List.map_nil List.getElem?_cons_zero List.getElem?_cons_succ List.cons_append List.nil_append List.append_nil List.length_map List.set_cons_zero List.set_cons_succ eq_self Int.toNat_natCast Int.natCast_nonneg and_self true_and and_true decide_true decide_false Bool.false_eq_true Nat.zero_add Nat.add_zero List.contains_cons List.contains_nil Bool.or_false Bool.false_or beq_self_eq_true ne_eq not_true_eq_false not_false_eq_true Id.mk.injEq false_and and_false Nat.le_refl List.length_append beq_true beq_false Bool.not_eq_eq_eq_not or_false false_or dR ab aj ay bo bJ aD aV aH aU cu bq
section
variable {P:Program} {α:Type} {e:α->List AV} {z:Nat} {g g':Rows} {v:AV} {L:List α} {ids:List Id}
def Tv (e:α->List AV) (z:Nat) (g:Rows) (v:AV) (L:List α) (ids:List Id):Prop:=(L=[]/\v=.bS/\ids=[])∨∃o,v=.own o 0 L.length/\g o=some ⟨true,z,L.map e⟩/\ids=[o]/\0<L.length
def KE (e:α->List AV) (L:List α):AV:=if L.length=0 then .bS else .sl (L.map e)
def jr (e:α->List AV) (L:List α) (w:AV):Prop:=(w=.bS/\L=[])∨w=.sl (L.map e)
def Tu (P:Program) (f:Nat) (args:List AV) (e:α->List AV) (z:Nat) (L:List α) (c:Int):Prop:=
 ∀n:Nat,Call P f args ⟨fun _=>none,n⟩ (fun r σ'=>∃v ids,r=.gn [v,.int .i64 c]/\Tv e z σ'.get v L ids/\fC n σ'.next ids)
theorem rN (hm:P.follows .mixedOrders=true) {f:Nat} {args:List AV} {σ:au} {K:AV->au->Prop} (h:Call P f args σ K):Call P f args σ (fun r σ'=>K r σ'/\σ.next<=σ'.next):=
 fB fun hs D ι w vs S U A=>(fR hm h hs D ι w vs S U A).mono (by
  rintro e w' ⟨r,g',n',D2,ι1,u,rfl,hK,T,S1,U1,hn,hR⟩
  exact⟨r,g',n',D2,ι1,u,rfl,⟨hK,hn⟩,T,S1,U1,hn,hR⟩)
theorem BW:jr e L (KE e L):=by
 unfold KE
 split
 ·rename_i h;exact .inl ⟨rfl,List.eq_nil_of_length_eq_zero h⟩
 ·exact .inr rfl
end
theorem jr.cut {α:Type} {e:α->List AV} {L:List α} {w:AV} (h:jr e L w) {l l':List AV} (hl:pD l l'):pD (w::l) (.sl (L.map e)::l'):=by
 rcases h with⟨rfl,rfl⟩|rfl
 ·exact .bS hl
 ·exact .same _ hl
end Go.Proofs.YtgoljkjaameagaaGreat.V

namespace Go.Proofs.YtgoljkjaameagaaGreat.V
open Go.RowKit
attribute [local irreducible] dQ wpOps ft Call
attribute [local go_sem] aA eV ef e9 e8 cZ upd bQ K.av cr AV.cells AV.cell rowOf rowsOf part ld rowAt bD bL dm dD fE bu cK dO fa eF db dH cI cH dw dx bz aQ cz bx cD cC dF dI dG cw bC cJ dE bw az cF bZ fD bj cq bB aJ cX aX dn AV.undef bp br dy dC du dz cm dM dP bU dK dJ cE cG List.getD_cons_zero List.getD_cons_succ List.getD_nil List.all_cons List.all_nil Bool.and_true Bool.true_and Bool.and_self Bool.not_true Bool.not_false Option.map_some Option.map_none Option.bind_some Option.bind_none List.length_cons List.length_nil List.take_succ_cons List.take_zero List.take_nil List.drop_succ_cons List.drop_zero List.drop_nil List.head?_cons List.map_cons List.map_nil List.getElem?_cons_zero List.getElem?_cons_succ List.cons_append List.nil_append List.append_nil List.length_map List.set_cons_zero List.set_cons_succ Nat.reduceMul eq_self Int.toNat_natCast Int.natCast_nonneg and_self true_and and_true decide_true decide_false Bool.false_eq_true Nat.zero_add Nat.add_zero List.contains_cons List.contains_nil Bool.or_false Bool.false_or beq_self_eq_true Nat.reduceBEq ne_eq not_true_eq_false not_false_eq_true Id.mk.injEq false_and and_false Nat.reduceLT Int.reduceLE Int.reduceLT Int.reduceToNat Int.reduceNeg Int.reduceAdd Nat.le_refl List.length_append beq_true beq_false Bool.not_eq_eq_eq_not or_false false_or dR ab aj ay bo bJ aD aV aH aU cu bq
end Go.Proofs.YtgoljkjaameagaaGreat.V

namespace Go.Proofs.YtgoljkjaameagaaGreat.V
open Go.RowKit
variable {P:Program}
theorem O7 (hm:P.follows .mixedOrders=true) {f:Nat} {args:List AV} {vs:Array Value} {w:World} (h:aq P f args (.bool true)) (hA:fw P w (fun b=>b<w.heap.size) (fun _=>none) args vs):
  Calls P f vs w fun e w'=>e=.returned (.bool true)/\Below w.heap.size w w':=by
 have hs:=fR hm (h 0) w.heap.size (fun b=>b<w.heap.size) (fun _=>none) w vs ⟨Nat.le_refl _,fun _ h=>h,fun id r h=>(by cases h),fun id jG r r' B B' h=>(by cases h)⟩ (fun id h=>absurd rfl h) hA
 refine hs.mono ?_
 rintro e w' ⟨r,g',n',D',ι',u,rfl,⟨r',hz,rfl⟩,eb,hsim,_,_,gH⟩
 have hr:r=.bool true:=by
  cases r<;>rw[gq]at hz<;>simp_all
  all_goals (repeat' (split at hz))<;>simp_all
 subst hr
 exact⟨by rw[fe gH],eb.below⟩
theorem lX {xs:List AV} {w:World} {D:Nat->Prop} {ι:Names} {a:AV} {v:Value} {vs:Array Value} (h:jl P w D a v) (k:fw P w D ι xs vs):fw P w D ι (a::xs) (#[v]++vs):=
 ot (xs:=[a]) ⟨rfl,fun j b hj=>by
  cases j with
  |zero=>simp at hj;subst hj;exact⟨v,rfl,.eM _ _ h⟩
  |succ j=>simp at hj⟩ k
end Go.Proofs.YtgoljkjaameagaaGreat.V

namespace Go.Proofs.YtgoljkjaameagaaGreat.V
open Go.RowKit
attribute [local irreducible] dQ wpOps ft Call
attribute [local go_sem] aA eV ef e9 e8 cZ upd bQ K.av cr AV.cells AV.cell rowOf rowsOf part ld rowAt bD bL dm dD fE bu cK dO fa eF db dH cI cH dw dx bz aQ cz bx cD cC dF dI dG cw bC cJ dE bw az cF bZ fD bj cq bB aJ cX aX dn AV.undef bp br dy dC du dz cm dM dP bU dK dJ cE cG List.getD_cons_zero List.getD_cons_succ List.getD_nil List.all_cons List.all_nil Bool.and_true Bool.true_and Bool.and_self Bool.not_true Bool.not_false Option.map_some Option.map_none Option.bind_some Option.bind_none List.length_cons List.length_nil List.take_succ_cons List.take_zero List.take_nil List.drop_succ_cons List.drop_zero List.drop_nil List.head?_cons List.map_cons List.map_nil List.getElem?_cons_zero List.getElem?_cons_succ List.cons_append List.nil_append List.append_nil List.length_map List.set_cons_zero List.set_cons_succ Nat.reduceMul eq_self Int.toNat_natCast Int.natCast_nonneg and_self true_and and_true decide_true decide_false Bool.false_eq_true Nat.zero_add Nat.add_zero List.contains_cons List.contains_nil Bool.or_false Bool.false_or beq_self_eq_true Nat.reduceBEq ne_eq not_true_eq_false not_false_eq_true Id.mk.injEq false_and and_false Nat.reduceLT Int.reduceLE Int.reduceLT Int.reduceToNat Int.reduceNeg Int.reduceAdd Nat.le_refl List.length_append beq_true beq_false Bool.not_eq_eq_eq_not or_false false_or dR ab aj ay bo bJ aD aV aH aU cu bq
theorem Px {α:Type} (f:α->Nat) {xs:List α} {x:α} (h:x∈xs):f x<=(xs.map f).sum:=by
 induction xs with
 |nil=>cases h
 |cons y ys ih=>
  simp only[List.map_cons,List.sum_cons]
  rcases List.mem_cons.1 h with rfl|h
  ·omega
  ·have:=ih h;omega
theorem yE {s:dc} (h:j3 s<=1048576):As s:=by
 unfold j3 tE at h
 refine⟨⟨ai,ai,fun t ht=>?_⟩,ai⟩
 have:=Px j7 ht
 have h2:t.b4.length<=j7 t:=by unfold j7;omega
 unfold rP
 omega
theorem yY (a:eu):aq Tryz.prog 22 [.agg (bh a),.agg (bh a)] (.bool true):=by
 refine aq.body eG rfl fun hl n0=>?_
 clear hl
 have h1:=nT a.ah a.ah
 rw[decide_eq_true rfl]at h1
 (repeat(first|((repeat(revert hN;revert N;apply Pn.out));refine wk @bh.eq_1 ?_;(repeat(refine Pn.mk ?_;intro N hN)))|((try apply Or.inl);refine⟨_,aq.x (h1) (sd @bh.eq_1),?_⟩;refine hN _ _ ?_;clear hN N)))
 exact bd (b:=true) (.inl rfl) (sd @Nat.zero_add) rfl
end Go.Proofs.YtgoljkjaameagaaGreat.V

namespace Go.Proofs.YtgoljkjaameagaaGreat.V
open Go.RowKit
attribute [local irreducible] dQ wpOps ft Call
attribute [local go_sem] aA eV ef e9 e8 cZ upd bQ K.av cr AV.cells AV.cell rowOf rowsOf part ld rowAt bD bL dm dD fE bu cK dO fa eF db dH cI cH dw dx bz aQ cz bx cD cC dF dI dG cw bC cJ dE bw az cF bZ fD bj cq bB aJ cX aX dn AV.undef bp br dy dC du dz cm dM dP bU dK dJ cE cG List.getD_cons_zero List.getD_cons_succ List.getD_nil List.all_cons List.all_nil Bool.and_true Bool.true_and Bool.and_self Bool.not_true Bool.not_false Option.map_some Option.map_none Option.bind_some Option.bind_none List.length_cons List.length_nil List.take_succ_cons List.take_zero List.take_nil List.drop_succ_cons List.drop_zero List.drop_nil List.head?_cons List.map_cons List.map_nil List.getElem?_cons_zero List.getElem?_cons_succ List.cons_append List.nil_append List.append_nil List.length_map List.set_cons_zero List.set_cons_succ eq_self Int.toNat_natCast Int.natCast_nonneg and_self true_and and_true decide_true decide_false Bool.false_eq_true Nat.zero_add Nat.add_zero List.contains_cons List.contains_nil Bool.or_false Bool.false_or beq_self_eq_true ne_eq not_true_eq_false not_false_eq_true Id.mk.injEq false_and and_false Nat.le_refl List.length_append beq_true beq_false Bool.not_eq_eq_eq_not or_false false_or dR ab aj ay bo bJ aD aV aH aU cu bq
theorem KM {g:Rows} {v w:AV} {s:eu} {i:List Id} (hX:yJ g v s i) (hw:fz (dR g) 6 w=some w):de (dR g) 6 [v,w]=some [.agg (bh s),w]:=by
 simp only[ab,aj,hX.fz 2,hw,Option.map_some]
theorem EU (g:Rows) (s:eu):fz g 6 (.agg (bh s))=some (.agg (bh s)):=by simp[bh,aV,ab,aj,bJ]
theorem wC {g:Rows} {v w v' w':AV} (h1:fz g 6 v=some v') (h2:fz g 6 w=some w'):de g 6 [v,w]=some [v',w']:=by
 simp only[ab,aj,h1,h2,Option.map_some]
theorem Fx (s:dc):p7 s<=3*j3 s:=by
 have h:∀l:List eW,(l.map gD).sum<=l.length+(l.map j7).sum:=fun l=>by
  induction l with
  |nil=>simp
  |cons t l ih=>simp only[List.map_cons,List.sum_cons,List.length_cons,gD,j7]at *;omega
 have:=h s.aM.ah
 unfold p7 j3 tE
 omega
theorem fC.not {a b:Nat} {ids:List Id} (h:fC a b ids) {x:Id} (hx:x.cV<a∨b<=x.cV):x∉ids:=fun hc=>by
 have:=h.2 x hc;omega
end Go.Proofs.YtgoljkjaameagaaGreat.V

namespace Go.Proofs.YtgoljkjaameagaaGreat.V
open Go.RowKit
attribute [local irreducible] dQ wpOps ft Call
attribute [local go_sem] aA eV ef e9 e8 cZ upd bQ K.av cr AV.cells AV.cell rowOf rowsOf part ld rowAt bD bL dm dD fE bu cK dO fa eF db dH cI cH dw dx bz aQ cz bx cD cC dF dI dG cw bC cJ dE bw az cF bZ fD bj cq bB aJ cX aX dn AV.undef bp br dy dC du dz cm dM dP bU dK dJ cE cG List.getD_cons_zero List.getD_cons_succ List.getD_nil List.all_cons List.all_nil Bool.and_true Bool.true_and Bool.and_self Bool.not_true Bool.not_false Option.map_some Option.map_none Option.bind_some Option.bind_none List.length_cons List.length_nil List.take_succ_cons List.take_zero List.take_nil List.drop_succ_cons List.drop_zero List.drop_nil List.head?_cons List.map_cons List.map_nil List.getElem?_cons_zero List.getElem?_cons_succ List.cons_append List.nil_append List.append_nil List.length_map List.set_cons_zero List.set_cons_succ Nat.reduceMul eq_self Int.toNat_natCast Int.natCast_nonneg and_self true_and and_true decide_true decide_false Bool.false_eq_true Nat.zero_add Nat.add_zero List.contains_cons List.contains_nil Bool.or_false Bool.false_or beq_self_eq_true Nat.reduceBEq ne_eq not_true_eq_false not_false_eq_true Id.mk.injEq false_and and_false Nat.reduceLT Int.reduceLE Int.reduceLT Int.reduceToNat Int.reduceNeg Int.reduceAdd Nat.le_refl List.length_append beq_true beq_false Bool.not_eq_eq_eq_not or_false false_or dR ab aj ay bo bJ aD aV aH aU cu bq
theorem LU (k:Int) {n j:Nat} (h:j<n):((Am k n).map aa)[j]? =some [.int .i64 (k+3*(j:Int)),.int .i64 (k+3*(j:Int)+1),.int .i64 (k+3*(j:Int)+2)]:=by
 simp[Am,h,aa]
theorem IE (k:Int) (n:Nat) (h0:0<=k) (h1:k+3*n<=4611686018427387904):aq Tryz.prog 60 [.sl ((Am k n).map aa),.int .i64 k] (.int .i64 (k+3*n)):=by
 refine aq.body eG rfl fun hl n0=>?_
 clear hl
 obtain⟨m,hm⟩:∃m,n=m:=⟨_,rfl⟩
 rw[hm]at h1 ⊢
 (try((repeat(revert hN;revert N;apply Pn.out));refine wk @iq ?_;(repeat(refine Pn.mk ?_;intro N hN))))
 refine bF (fun n env st=>∃j:Nat,n=(m)-j/\j<=(m)/\env 5=.int .i64 (j:Int)/\env 1=.int .i64 (k+3*j)) (m) ⟨0,ai,ai,sl (tw @Int.add_zero (tw @Int.natCast_zero (tw @Int.mul_zero @iq))),sl (tw @Int.add_zero (tw @Int.natCast_zero (tw @Int.mul_zero @iq)))⟩ ?_
 rintro n_a env_a st_a ⟨j,rfl,ale,a5,a1⟩ ev
 have a0:=ev 0 (by kernel_rfl)
 simp only[go_sem, ↓reduceIte,Nat.reduceEqDiff,Nat.reduceAdd,Nat.reduceSub,Nat.reduceLeDiff,reduceCtorEq,Int.add_zero,Int.natCast_zero,Int.mul_zero,iq]at a0
 clear ev
 by_cases hj:(j:Int)<(m:Int)
 ·have cY:∀{e:Env},(e 5=.int .i64 (IntKind.i64.wrap ((j:Int)+1)))->(e 1=.int .i64 (k+3*(j+1)))->∃m0,m0<(m)-j/\∃j:Nat,m0=(m)-j/\j<=(m)/\e 5=.int .i64 (j:Int)/\e 1=.int .i64 (k+3*j):=fun x1 x2=>⟨_,ai,j+1,rfl,ai,(by rw[x1,aI ai]),x2⟩
  have fq:=LU k (n:=m) (j:=j) ai
  have nB:IntKind.i64.wrap (k+3*(j:Int)+1)=k+3*(j:Int)+1:=bP ai
  have pe:IntKind.i64.wrap (k+3*(j:Int)+1+1)=k+3*(j:Int)+2:=by rw[bP ai];omega
  have I5:IntKind.i64.wrap (k+3*(j:Int)+2+1)=k+3*((j:Int)+1):=by rw[bP ai];omega
  have e1:decide (k+3*(j:Int)=k+3*(j:Int))=true:=decide_eq_true rfl
  have e2:decide (k+3*(j:Int)+1=k+3*(j:Int)+1)=true:=decide_eq_true rfl
  have e3:decide (k+3*(j:Int)+2=k+3*(j:Int)+2)=true:=decide_eq_true rfl
  (try((repeat(revert hN;revert N;apply Pn.out));refine wk (tw @a5 (tw @a1 (tw @a0 (tw @hj (tw @fq (tw @nB (tw @pe (tw @I5 (tw @iq (tw @e1 (tw @e2 @e3))))))))))) ?_;(repeat(refine Pn.mk ?_;intro N hN))))
  refine cY ?_ ?_
  all_goals simp only[go_sem, ↓reduceIte,Nat.reduceEqDiff,Nat.reduceAdd,Nat.reduceSub,Nat.reduceLeDiff,reduceCtorEq,a5,a1,a0,I5]
 ·have hZ:j=m:=ai
  subst hZ
  (try((repeat(revert hN;revert N;apply Pn.out));refine wk (tw @a5 (tw @a1 (tw @a0 (tw @hj @iq)))) ?_;(repeat(refine Pn.mk ?_;intro N hN))))
  exact cR (b:=k+3*(j:Int)) (.inl rfl) (sd (tw @a5 (tw @a1 @a0))) rfl
theorem GM (k:Int) (σ:au):Call Tryz.prog 59 [.bS,.int .i64 k] σ (fun r σ'=>r=.int .i64 k/\rM σ [] σ'.get σ'.next):=by
 refine fo eG rfl fun hl=>?_
 clear hl
 (try((repeat(revert hN;revert N;apply Pn.out));refine wk @Nat.zero_add ?_;(repeat(refine Pn.mk ?_;intro N hN))))
 refine bF (fun n env st=>(env 1=.int .i64 k/\env 5=.int .i64 0/\env 0=.bS)/\σ.next<=st.next/\∀x:Id,st.get x=σ.get x) 0 ⟨⟨sd @Nat.zero_add,sd @Nat.zero_add,sd @Nat.zero_add⟩,bK,fun _=>rfl⟩ ?_
 rintro m e st ⟨⟨a1,a5,a0⟩,an,aF⟩ -
 have d0:decide ((0:Int)<((0:Nat):Int))=false:=rfl
 (try((repeat(revert hN;revert N;apply Pn.out));refine wk (tw @a0 (tw @a1 (tw @a5 @d0))) ?_;(repeat(refine Pn.mk ?_;intro N hN))))
 exact fJ (.inl rfl) (vs:=[.int .i64 k]) (sd @a1) ⟨rfl,⟨bK,fun x hx hi=>aF x⟩⟩
theorem Gi {w:AV} (k:Int) (n:Nat) (h0:0<=k) (h1:k+3*n<=4611686018427387904) (hw:jr aa (Am k n) w):aq Tryz.prog 60 [w,.int .i64 k] (.int .i64 (k+3*n)):=
 (IE k n h0 h1).cut mixed (hw.cut (.same _ .nil))
theorem K7 {L:List ae} {v w:AV} (hv:jr aa L v) (hw:jr aa L w):aq Tryz.prog 58 [v,w] (.bool true):=by
 have h:=nT L L
 rw[decide_eq_true rfl]at h
 exact h.cut mixed (hv.cut (hw.cut .nil))
theorem uD {L:List ae} {v w:AV} (hv:jr aa L v) (hw:jr aa L w):aq Tryz.prog 22 [.agg [v],.agg [w]] (.bool true):=by
 refine aq.body eG rfl fun hl n0=>?_
 clear hl
 have h:=K7 hv hw
 rcases hv with⟨rfl,hL⟩|rfl<;>rcases hw with⟨rfl,hL2⟩|rfl
 ·(repeat(first|((repeat(revert hN;revert N;apply Pn.out));refine wk @Nat.zero_add ?_;(repeat(refine Pn.mk ?_;intro N hN)))|((try apply Or.inl);refine⟨_,aq.x (h) (sd @Nat.zero_add),?_⟩;refine hN _ _ ?_;clear hN N)))
  exact bd (b:=true) (.inl rfl) (sd @Nat.zero_add) rfl
 ·(repeat(first|((repeat(revert hN;revert N;apply Pn.out));refine wk @Nat.zero_add ?_;(repeat(refine Pn.mk ?_;intro N hN)))|((try apply Or.inl);refine⟨_,aq.x (h) (sd @Nat.zero_add),?_⟩;refine hN _ _ ?_;clear hN N)))
  exact bd (b:=true) (.inl rfl) (sd @Nat.zero_add) rfl
 ·(repeat(first|((repeat(revert hN;revert N;apply Pn.out));refine wk @Nat.zero_add ?_;(repeat(refine Pn.mk ?_;intro N hN)))|((try apply Or.inl);refine⟨_,aq.x (h) (sd @Nat.zero_add),?_⟩;refine hN _ _ ?_;clear hN N)))
  exact bd (b:=true) (.inl rfl) (sd @Nat.zero_add) rfl
 ·(repeat(first|((repeat(revert hN;revert N;apply Pn.out));refine wk @Nat.zero_add ?_;(repeat(refine Pn.mk ?_;intro N hN)))|((try apply Or.inl);refine⟨_,aq.x (h) (sd @Nat.zero_add),?_⟩;refine hN _ _ ?_;clear hN N)))
  exact bd (b:=true) (.inl rfl) (sd @Nat.zero_add) rfl
theorem uO {w:AV} (k:Int) (n:Nat) (h0:0<=k) (h1:k+3*n<=4611686018427387904) (hw:jr aa (Am k n) w):aq Tryz.prog 45 [.agg [w],.int .i64 k] (.int .i64 (k+3*n)):=by
 refine aq.body eG rfl fun hl n0=>?_
 clear hl
 have h:=Gi k n h0 h1 hw
 have hp:¬k+3*(n:Int)<0:=ai
 rcases hw with⟨rfl,hL⟩|rfl
 ·(repeat(first|((repeat(revert hN;revert N;apply Pn.out));refine wk @hp ?_;(repeat(refine Pn.mk ?_;intro N hN)))|((try apply Or.inl);refine⟨_,aq.x (h) (sd @hp),?_⟩;refine hN _ _ ?_;clear hN N)))
  exact cR (b:=k+3*(n:Int)) (.inl rfl) (sd @Nat.zero_add) rfl
 ·(repeat(first|((repeat(revert hN;revert N;apply Pn.out));refine wk @hp ?_;(repeat(refine Pn.mk ?_;intro N hN)))|((try apply Or.inl);refine⟨_,aq.x (h) (sd @hp),?_⟩;refine hN _ _ ?_;clear hN N)))
  exact cR (b:=k+3*(n:Int)) (.inl rfl) (sd @Nat.zero_add) rfl
end Go.Proofs.YtgoljkjaameagaaGreat.V

namespace Go.Proofs.YtgoljkjaameagaaGreat.V
open Go.RowKit
attribute [local irreducible] dQ wpOps ft Call
attribute [local go_sem] aA eV ef e9 e8 cZ upd bQ K.av cr AV.cells AV.cell rowOf rowsOf part ld rowAt bD bL dm dD fE bu cK dO fa eF db dH cI cH dw dx bz aQ cz bx cD cC dF dI dG cw bC cJ dE bw az cF bZ fD bj cq bB aJ cX aX dn AV.undef bp br dy dC du dz cm dM dP bU dK dJ cE cG List.getD_cons_zero List.getD_cons_succ List.getD_nil List.all_cons List.all_nil Bool.and_true Bool.true_and Bool.and_self Bool.not_true Bool.not_false Option.map_some Option.map_none Option.bind_some Option.bind_none List.length_cons List.length_nil List.take_succ_cons List.take_zero List.take_nil List.drop_succ_cons List.drop_zero List.drop_nil List.head?_cons List.map_cons List.map_nil List.getElem?_cons_zero List.getElem?_cons_succ List.cons_append List.nil_append List.append_nil List.length_map List.set_cons_zero List.set_cons_succ eq_self Int.toNat_natCast Int.natCast_nonneg and_self true_and and_true decide_true decide_false Bool.false_eq_true Nat.zero_add Nat.add_zero List.contains_cons List.contains_nil Bool.or_false Bool.false_or beq_self_eq_true ne_eq not_true_eq_false not_false_eq_true Id.mk.injEq false_and and_false Nat.le_refl List.length_append beq_true beq_false Bool.not_eq_eq_eq_not or_false false_or dR ab aj ay bo bJ aD aV aH aU cu bq
theorem jr.cell {α:Type} {e:α->List AV} {L:List α} {w:AV} (h:jr e L w):w.cells=[w]/\w.cell=true:=by
 rcases h with⟨rfl,rfl⟩|rfl<;>exact⟨rfl,rfl⟩
theorem kW {g:Rows} {v w:AV} (h:fz g 5 v=some w):fz g 6 (.agg [v])=some (.agg [w]):=by simp only[aV,ab,aj,h,Option.map_some]
theorem jr.SC {α:Type} {e:α->List AV} {L:List α} {w:AV} (h:jr e L w) (g:Rows):V.fz g 5 w=some w:=by
 rcases h with⟨rfl,rfl⟩|rfl
 ·exact aD _ _
 ·exact bJ _ _ _
end Go.Proofs.YtgoljkjaameagaaGreat.V

namespace Go.Proofs.YtgoljkjaameagaaGreat.V
open Go.RowKit
attribute [local irreducible] dQ wpOps ft Call
attribute [local go_sem] aA eV ef e9 e8 cZ upd bQ K.av cr AV.cells AV.cell rowOf rowsOf part ld rowAt bD bL dm dD fE bu cK dO fa eF db dH cI cH dw dx bz aQ cz bx cD cC dF dI dG cw bC cJ dE bw az cF bZ fD bj cq bB aJ cX aX dn AV.undef bp br dy dC du dz cm dM dP bU dK dJ cE cG List.getD_cons_zero List.getD_cons_succ List.getD_nil List.all_cons List.all_nil Bool.and_true Bool.true_and Bool.and_self Bool.not_true Bool.not_false Option.map_some Option.map_none Option.bind_some Option.bind_none List.length_cons List.length_nil List.take_succ_cons List.take_zero List.take_nil List.drop_succ_cons List.drop_zero List.drop_nil List.head?_cons List.map_cons List.map_nil List.getElem?_cons_zero List.getElem?_cons_succ List.cons_append List.nil_append List.append_nil List.length_map List.set_cons_zero List.set_cons_succ Nat.reduceMul eq_self Int.toNat_natCast Int.natCast_nonneg and_self true_and and_true decide_true decide_false Bool.false_eq_true Nat.zero_add Nat.add_zero List.contains_cons List.contains_nil Bool.or_false Bool.false_or beq_self_eq_true Nat.reduceBEq ne_eq not_true_eq_false not_false_eq_true Id.mk.injEq false_and and_false Nat.reduceLT Int.reduceLE Int.reduceLT Int.reduceToNat Int.reduceNeg Int.reduceAdd Nat.le_refl List.length_append beq_true beq_false Bool.not_eq_eq_eq_not or_false false_or dR ab aj ay bo bJ aD aV aH aU cu bq
theorem FM {P:Program} {K:AV->Rows->List Id->Prop} (hm:P.follows .mixedOrders=true) {f:Nat} {args eS:List AV} {σ:au}
  (lS:∀r g ids,K r g ids->r.rV=true/\Handed ids g) (kK:∀r g g' ids,K r g ids->(∀i∈ids,g' i=g i)->K r g' ids)
  (h:∀n:Nat,Call P f eS ⟨fun _=>none,n⟩ (fun r σ'=>∃ids,K r σ'.get ids/\fC n σ'.next ids)) (hv:de (dR σ.get) 6 args=some eS):
  Call P f args σ (fun r σ'=>∃ids,K r σ'.get ids/\fC σ.next σ'.next ids/\Kept σ σ'):=by
 refine ug hm hv (aY _ _ _ _ _ (fun r σ' hq=>?_) (rN hm (h σ.next)))
 obtain⟨⟨ids,hK,hi⟩,hn⟩:=hq
 obtain⟨c1,c2⟩:=lS _ _ _ hK
 exact⟨ids,c1,c2,ids,kK _ _ _ _ hK (fun i hi=>oE hi),hi,hn,fun j hj=>mb fun hc=>by have:=(hi.2 j hc).1;omega⟩
theorem Handed.nil {g:Rows}:Handed [] g:=fun x hx=>by cases hx
section
variable {P:Program} {α:Type} {e:α->List AV} {z:Nat} {g g':Rows} {v:AV} {L:List α} {ids:List Id}
def ki (e:α->List AV) (z:Nat) (g:Rows) (v:AV) (L:List α) (ids:List Id):Prop:=(L=[]/\v=.bS/\ids=[])∨∃(o:Id) (J:List α),v=.own o 0 L.length/\g o=some ⟨true,z,(L++J).map e⟩/\ids=[o]/\0<L.length
theorem ki.frame (h:ki e z g v L ids) (hf:∀i∈ids,g' i=g i):ki e z g' v L ids:=by
 rcases h with h|⟨o,J,h1,h2,rfl,hp⟩
 ·exact .inl h
 ·exact .inr ⟨o,J,h1,(hf o (by simp)).trans h2,rfl,hp⟩
def Nl (e:α->List AV) (v:AV) (L:List α):AV:=match v with| .bS=>.bS|_=>.sl (L.map e)
theorem ki.LP (h:ki e z g v L ids):jr e L (Nl e v L):=by
 rcases h with⟨rfl,rfl,_⟩|⟨o,J,rfl,_⟩
 ·exact .inl ⟨rfl,rfl⟩
 ·exact .inr rfl
theorem Bb {n:Nat} {o:Id} {J:List α} (h2:g o=some ⟨true,z,(L++J).map e⟩) (he:∀x g,de g n (e x)=some (e x)):V.fz (dR g) (n+1) (.own o 0 L.length)=some (.sl (L.map e)):=by
 rw[gV]
 have:dR g o=some ⟨true,z,(L++J).map e⟩:=by simp[dR,h2]
 simp only[this,if_true]
 have h4:((L++J).map e).take L.length=L.map e:=by rw[<-List.map_take,List.take_append_of_le_length (Nat.le_refl _),List.take_length]
 rw[if_pos (by simp),List.drop_zero,h4,mA fun x=>he x _];rfl
theorem ki.SE (h:ki e z g v L ids) {n:Nat} (he:∀x g,de g n (e x)=some (e x)):V.fz (dR g) (n+1) v=some (Nl e v L):=by
 rcases h with⟨rfl,rfl,_⟩|⟨o,J,rfl,h2,_⟩
 ·exact aD _ _
 ·exact Bb h2 he
theorem ki.cell (h:ki e z g v L ids):v.cells=[v]/\v.cell=true:=by
 rcases h with⟨_,rfl,_⟩|⟨o,J,rfl,_⟩<;>exact⟨rfl,rfl⟩
theorem ki.clean (h:ki e z g v L ids):v.clean=true:=by
 rcases h with⟨_,rfl,_⟩|⟨o,J,rfl,_⟩<;>rfl
theorem ki.hand (h:ki e z g v L ids) (lS:∀x,(e x).all AV.clean=true):Handed ids g:=by
 rcases h with⟨_,_,rfl⟩|⟨o,J,_,h2,rfl,_⟩
 ·exact Handed.nil
 ·intro i hi
  rw[List.mem_singleton.1 hi]
  refine⟨_,h2,rfl,fun cs dS a ha=>?_⟩
  obtain⟨x,_,rfl⟩:=List.mem_map.1 dS
  have:=lS x
  rw[List.all_eq_true]at this
  exact this a ha
theorem ki.s (h:ki e z g v L ids) {n:Nat} (he:∀x g,eB g n (e x)=some (e x)):gq g (n+1) v=some (KE e L):=by
 rcases h with⟨rfl,rfl,_⟩|⟨o,J,rfl,h2,_,hp⟩
 ·rw[jO];rfl
 ·rw[qE (sz:=z) (rows:=(L++J).map e) (rows':=L.map e) h2 (by simp) (by
   have h4:((L++J).map e).take L.length=L.map e:=by rw[<-List.map_take,List.take_append_of_le_length (Nat.le_refl _),List.take_length]
   rw[List.drop_zero,h4,nX fun x=>he x _]),KE,if_neg ai]
end
def uB (a:AV):Bool:=match a with| .agg cs=>cs.all AV.clean|a=>a.clean
theorem C0 (cs:List AV):(AV.gn cs).rV=cs.all uB:=rfl
theorem CY {a:AV} (h:a.clean=true):uB (.agg [a])=true:=by simp[uB,h]
theorem CZ (k:IntKind) (n:Int):uB (.int k n)=true:=rfl
theorem AJ (b:Bool):uB (.bool b)=true:=rfl
theorem QW {g:Rows} {u v u' v':AV} (h0:V.fz g 6 u=some u') (h1:V.fz g 6 v=some v'):de g 6 [u,v]=some [u',v']:=by simp only[ab,aj,h0,h1,Option.map_some]
theorem TE (x:ae):(aa x).all AV.clean=true:=rfl
theorem E6 (x:ae) (g:Rows):de g 4 (aa x)=some (aa x):=by simp[aa,ab,aj,ay]
theorem N9 (x:ae) (g:Rows):eB g 3 (aa x)=some (aa x):=by simp[aa,bW,cU,eC]
theorem xl (i:Id) (l:List ae) (m:Nat) (hm:m<=l.length) (k:Int) (h0:0<=k) (h1:k+3*m<=4611686018427387904) (σ:au) (hv:i.cV<σ.next) (hg:σ.get i=some ⟨true,3,l.map aa⟩):
  Call Tryz.prog 59 [.own i 0 m,.int .i64 k] σ (fun r σ'=>r=.int .i64 (k+3*m)/\rM σ [i] σ'.get σ'.next/\σ'.get i=some ⟨true,3,(je k l m).map aa⟩):=by
 refine fo eG rfl fun hl=>?_
 clear hl
 have hz:je k l 0=l:=by simp[je,Am]
 (try((repeat(revert hN;revert N;apply Pn.out));refine wk @Nat.zero_add ?_;(repeat(refine Pn.mk ?_;intro N hN))))
 refine bF (fun n env st=>∃j:Nat,n=(m)-j/\j<=(m)/\env 5=.int .i64 (j:Int)/\env 1=.int .i64 (k+3*j)/\st.get i=some ⟨true,3,(je k l j).map aa⟩/\(rM σ [i] st.get st.next)) (m) ⟨0,ai,ai,sl (tw @Int.add_zero (tw @Int.natCast_zero (tw @Int.mul_zero (tw @hz @hg)))),sl (tw @Int.add_zero (tw @Int.natCast_zero (tw @Int.mul_zero (tw @hz @hg)))),sl (tw @Int.add_zero (tw @Int.natCast_zero (tw @Int.mul_zero (tw @hz @hg)))),by(try dsimp only);exact⟨bK,fun x _ _=>rfl⟩⟩ ?_
 rintro n_a env_a st_a ⟨j,rfl,ale,a5,a1,ag0,lL⟩ ev
 have a0:=ev 0 (by kernel_rfl)
 simp only[go_sem, ↓reduceIte,Nat.reduceEqDiff,Nat.reduceAdd,Nat.reduceSub,Nat.reduceLeDiff,reduceCtorEq,Int.add_zero,Int.natCast_zero,Int.mul_zero,hz,hg]at a0
 clear ev
 obtain⟨an,aF⟩:=lL
 by_cases hj:(j:Int)<(m:Int)
 ·have cY:∀{e:Env} {gg:Rows} {nx:Nat},(e 5=.int .i64 (IntKind.i64.wrap ((j:Int)+1)))->(e 1=.int .i64 (k+3*(j+1)))->(gg i=some ⟨true,3,(je k l (j+1)).map aa⟩)->(rM σ [i] gg nx)->∃m0,m0<(m)-j/\∃j:Nat,m0=(m)-j/\j<=(m)/\e 5=.int .i64 (j:Int)/\e 1=.int .i64 (k+3*j)/\gg i=some ⟨true,3,(je k l j).map aa⟩/\(rM σ [i] gg nx):=fun x1 x2 x3 x4=>⟨_,ai,j+1,rfl,ai,(by rw[x1,aI ai]),x2,x3,x4⟩
  have hZ:j<l.length:=ai
  have fq:=Fy (k:=k) hZ
  have eI:=BR (k:=k) hZ
  have nB:IntKind.i64.wrap (k+3*(j:Int)+1)=k+3*(j:Int)+1:=bP ai
  have pe:IntKind.i64.wrap (k+3*(j:Int)+1+1)=k+3*(j:Int)+2:=by rw[bP ai];omega
  have I5:IntKind.i64.wrap (k+3*(j:Int)+2+1)=k+3*((j:Int)+1):=by rw[bP ai];omega
  have hlen:((je k l j).map aa).length=l.length:=by rw[List.length_map,BQ ai]
  have IH:∀c:List AV,(((je k l j).map aa).set j c)[j]? =some c:=fun c=>by rw[List.getElem?_set_self (by rw[hlen];exact hZ)]
  (try((repeat(revert hN;revert N;apply Pn.out));refine wk (tw @a5 (tw @a1 (tw @ag0 (tw @a0 (tw @hj (tw @hZ (tw @fq (tw @IH (tw @eI (tw @nB (tw @pe (tw @I5 (tw @hlen @rf))))))))))))) ?_;(repeat(refine Pn.mk ?_;intro N hN))))
  refine cY ?_ ?_ ?_ (by(try dsimp only);exact⟨bK,fun x hx hi=>by
   have h2:=aF x hx hi
   have h3:(x=i)=False:=eq_false fun e=>hi (by simp[e])
   simp only[go_sem, ↓reduceIte,Nat.reduceEqDiff,Nat.reduceAdd,Nat.reduceSub,Nat.reduceLeDiff,reduceCtorEq,h2,h3]⟩)
  all_goals simp only[go_sem, ↓reduceIte,Nat.reduceEqDiff,Nat.reduceAdd,Nat.reduceSub,Nat.reduceLeDiff,reduceCtorEq,a5,a1,ag0,a0,I5,eI]
 ·have hZ:j=m:=ai
  subst hZ
  (try((repeat(revert hN;revert N;apply Pn.out));refine wk (tw @a5 (tw @a1 (tw @ag0 (tw @a0 @hj)))) ?_;(repeat(refine Pn.mk ?_;intro N hN))))
  exact fJ (.inl rfl) (vs:=[.int .i64 (k+3*j)]) (sd (tw @a5 (tw @a1 (tw @ag0 @a0)))) ⟨rfl,⟨bK,fun x hx hi=>aF x hx hi⟩,ag0⟩
theorem Jo {k:Int} {l J:List ae}:je k (l++J) l.length=Am k l.length++J:=by simp[je]
theorem yi {v:AV} {L:List ae} {ids:List Id} (k:Int) (h0:0<=k) (h1:k+3*L.length<=4611686018427387904) (σ:au) (hv:∀i∈ids,i.cV<σ.next) (h:ki aa 3 σ.get v L ids):
  Call Tryz.prog 59 [v,.int .i64 k] σ (fun r σ'=>r=.int .i64 (k+3*L.length)/\rM σ ids σ'.get σ'.next/\ki aa 3 σ'.get v (Am k L.length) ids):=by
 rcases h with⟨rfl,rfl,rfl⟩|⟨o,J,rfl,h2,rfl,hp⟩
 ·refine aY _ _ _ _ _ (fun r σ' hq=>?_) (GM k σ)
  obtain⟨rfl,hB⟩:=hq
  exact⟨by simp,hB,.inl ⟨rfl,rfl,rfl⟩⟩
 ·refine aY _ _ _ _ _ (fun r σ' hq=>?_) (xl o (L++J) L.length (by simp) k h0 h1 σ (hv o (by simp)) h2)
  obtain⟨rfl,hB,hg⟩:=hq
  exact⟨rfl,hB,.inr ⟨o,J,by rw[iq],by rw[hg,Jo],rfl,by rw[iq];exact hp⟩⟩
theorem DQ {v:AV} {L:List ae} {ids:List Id} (k:Int) (h0:0<=k) (h1:k+3*L.length<=4611686018427387904) (σ:au) (hv:∀i∈ids,i.cV<σ.next) (h:ki aa 3 σ.get v L ids):
  Call Tryz.prog 25 [.agg [v],.int .i64 k] σ (fun r σ'=>r=.int .i64 (k+3*L.length)/\rM σ ids σ'.get σ'.next/\ki aa 3 σ'.get v (Am k L.length) ids):=by
 have kK:=h.frame (g':=bD σ.get ⟨25000000,σ.next⟩ ⟨true,1,[[v]]⟩) fun i hi=>by
  have:=eL (hv i hi)
  simp only[go_sem, ↓reduceIte,Nat.reduceEqDiff,Nat.reduceAdd,Nat.reduceSub,Nat.reduceLeDiff,reduceCtorEq,this]
 rcases h with⟨hL,rfl,Fe⟩|⟨o,J,rfl,h2,Fe,hp⟩
 ·skip
  refine fo eG rfl fun hl=>?_
  clear hl
  (try((repeat(revert hN;revert N;apply Pn.out));refine wk @Nat.zero_add ?_;(repeat(refine Pn.mk ?_;intro N hN))))
  refine .inr (aY _ _ _ _ _ (fun r σ1 hq=>?_) (yi k h0 h1 _ (fun i hi=>by have:=hv i hi;(try dsimp only);omega) kK))
  obtain⟨g1,x1⟩:=σ1
  obtain⟨rfl,⟨CC,n9⟩,hO⟩:=hq
  (try dsimp only at CC n9 hO)
  refine hN _ _ ?_
  clear hN N
  (try((repeat(revert hN;revert N;apply Pn.out));refine wk @Nat.zero_add ?_;(repeat(refine Pn.mk ?_;intro N hN))))
  exact fJ (.inl rfl) (vs:=[.int .i64 (k+3*L.length)]) (sd @Nat.zero_add) ⟨rfl,⟨bK,fun x hx hi=>by
   have h2:=n9 x bK hi
   have h3:=eL hx
   simp only[go_sem, ↓reduceIte,Nat.reduceEqDiff,Nat.reduceAdd,Nat.reduceSub,Nat.reduceLeDiff,reduceCtorEq,h3]at h2
   exact h2⟩,hO⟩
 ·skip
  refine fo eG rfl fun hl=>?_
  clear hl
  (try((repeat(revert hN;revert N;apply Pn.out));refine wk @Nat.zero_add ?_;(repeat(refine Pn.mk ?_;intro N hN))))
  refine .inr (aY _ _ _ _ _ (fun r σ1 hq=>?_) (yi k h0 h1 _ (fun i hi=>by have:=hv i hi;(try dsimp only);omega) kK))
  obtain⟨g1,x1⟩:=σ1
  obtain⟨rfl,⟨CC,n9⟩,hO⟩:=hq
  (try dsimp only at CC n9 hO)
  refine hN _ _ ?_
  clear hN N
  (try((repeat(revert hN;revert N;apply Pn.out));refine wk @Nat.zero_add ?_;(repeat(refine Pn.mk ?_;intro N hN))))
  exact fJ (.inl rfl) (vs:=[.int .i64 (k+3*L.length)]) (sd @Nat.zero_add) ⟨rfl,⟨bK,fun x hx hi=>by
   have h2:=n9 x bK hi
   have h3:=eL hx
   simp only[go_sem, ↓reduceIte,Nat.reduceEqDiff,Nat.reduceAdd,Nat.reduceSub,Nat.reduceLeDiff,reduceCtorEq,h3]at h2
   exact h2⟩,hO⟩
def gM (n lo hi:Int):Bool:=decide (lo<=n)&&decide (n<=hi)
theorem dX {n lo hi:Int} (h:gM n lo hi=true):lo<=n/\n<=hi:=by simpa[gM]using h
theorem uW {n lo hi:Int} (h:lo<=n/\n<=hi):gM n lo hi=true:=by simpa[gM]using h
def D8 (p:aO):Bool:=gM p.fb (-60) 60&&gM p.eT (-60) 60
theorem jH (n lo hi:Int):aq Tryz.prog 95 [.int .i64 n,.int .i64 lo,.int .i64 hi] (.bool (gM n lo hi)):=by
 refine aq.body eG rfl fun hl n0=>?_
 clear hl
 by_cases h1:lo<=n
 ·(try((repeat(revert hN;revert N;apply Pn.out));refine wk @h1 ?_;(repeat(refine Pn.mk ?_;intro N hN))))
  exact bd (b:=decide (n<=hi)) (.inl rfl) (sd @Nat.zero_add) (by simp[gM,h1])
 ·(try((repeat(revert hN;revert N;apply Pn.out));refine wk @h1 ?_;(repeat(refine Pn.mk ?_;intro N hN))))
  exact bd (b:=false) (.inl rfl) (sd @Nat.zero_add) (by simp[gM,h1])
theorem jj (n lo hi:Int):aq Tryz.prog 98 [.int .i64 n,.int .i64 lo,.int .i64 hi] (.bool (gM n lo hi)):=by
 refine aq.body eG rfl fun hl n0=>?_
 clear hl
 by_cases h1:lo<=n
 ·(try((repeat(revert hN;revert N;apply Pn.out));refine wk @h1 ?_;(repeat(refine Pn.mk ?_;intro N hN))))
  exact bd (b:=decide (n<=hi)) (.inl rfl) (sd @Nat.zero_add) (by simp[gM,h1])
 ·(try((repeat(revert hN;revert N;apply Pn.out));refine wk @h1 ?_;(repeat(refine Pn.mk ?_;intro N hN))))
  exact bd (b:=false) (.inl rfl) (sd @Nat.zero_add) (by simp[gM,h1])
theorem I9 (d:Int):aq Tryz.prog 278 [.int .i64 d] (.bool (gM d 0 3)):=by
 refine aq.body eG rfl fun hl n0=>?_
 clear hl
 have h:=jH d 0 3
 (repeat(first|((repeat(revert hN;revert N;apply Pn.out));refine wk @Nat.zero_add ?_;(repeat(refine Pn.mk ?_;intro N hN)))|((try apply Or.inl);refine⟨_,aq.x (h) (sd @Nat.zero_add),?_⟩;refine hN _ _ ?_;clear hN N)))
 exact bd (b:=gM d 0 3) (.inl rfl) (sd @Nat.zero_add) rfl
theorem DH (p:aO):aq Tryz.prog 222 [.agg (ar p)] (.bool (D8 p)):=by
 refine aq.body eG rfl fun hl n0=>?_
 clear hl
 have h1:=jH p.fb (-60) 60
 have h2:=jH p.eT (-60) 60
 by_cases q:gM p.fb (-60) 60=true
 ·rw[q]at h1
  (repeat(first|((repeat(revert hN;revert N;apply Pn.out));refine wk @ar.eq_1 ?_;(repeat(refine Pn.mk ?_;intro N hN)))|((try apply Or.inl);refine⟨_,aq.x (h1) (sd @ar.eq_1),?_⟩;refine hN _ _ ?_;clear hN N)|((try apply Or.inl);refine⟨_,aq.x (h2) (sd @ar.eq_1),?_⟩;refine hN _ _ ?_;clear hN N)))
  exact bd (b:=gM p.eT (-60) 60) (.inl rfl) (sd @Nat.zero_add) (by rw[D8,q];rfl)
 ·rw[Bool.not_eq_true]at q
  rw[q]at h1
  (repeat(first|((repeat(revert hN;revert N;apply Pn.out));refine wk @ar.eq_1 ?_;(repeat(refine Pn.mk ?_;intro N hN)))|((try apply Or.inl);refine⟨_,aq.x (h1) (sd @ar.eq_1),?_⟩;refine hN _ _ ?_;clear hN N)|((try apply Or.inl);refine⟨_,aq.x (h2) (sd @ar.eq_1),?_⟩;refine hN _ _ ?_;clear hN N)))
  exact bd (b:=false) (.inl rfl) (sd @Nat.zero_add) (by rw[D8,q];rfl)
theorem yO (p:aO):aq Tryz.prog 256 [.agg (ar p)] (.bool (D8 p)):=by
 refine aq.body eG rfl fun hl n0=>?_
 clear hl
 have h1:=jj p.fb (-60) 60
 have h2:=jj p.eT (-60) 60
 by_cases q:gM p.fb (-60) 60=true
 ·rw[q]at h1
  (repeat(first|((repeat(revert hN;revert N;apply Pn.out));refine wk @ar.eq_1 ?_;(repeat(refine Pn.mk ?_;intro N hN)))|((try apply Or.inl);refine⟨_,aq.x (h1) (sd @ar.eq_1),?_⟩;refine hN _ _ ?_;clear hN N)|((try apply Or.inl);refine⟨_,aq.x (h2) (sd @ar.eq_1),?_⟩;refine hN _ _ ?_;clear hN N)))
  exact bd (b:=gM p.eT (-60) 60) (.inl rfl) (sd @Nat.zero_add) (by rw[D8,q];rfl)
 ·rw[Bool.not_eq_true]at q
  rw[q]at h1
  (repeat(first|((repeat(revert hN;revert N;apply Pn.out));refine wk @ar.eq_1 ?_;(repeat(refine Pn.mk ?_;intro N hN)))|((try apply Or.inl);refine⟨_,aq.x (h1) (sd @ar.eq_1),?_⟩;refine hN _ _ ?_;clear hN N)|((try apply Or.inl);refine⟨_,aq.x (h2) (sd @ar.eq_1),?_⟩;refine hN _ _ ?_;clear hN N)))
  exact bd (b:=false) (.inl rfl) (sd @Nat.zero_add) (by rw[D8,q];rfl)
def sk (d:Int):Int:=if gM d 0 3 then(d+2) % 4 else -1
def eK (p:aO) (d:Int):aO:=
 if d=0 then⟨p.fb,p.eT+1⟩else if d=1 then⟨p.fb+1,p.eT⟩else if d=2 then⟨p.fb,p.eT-1⟩else if d=3 then⟨p.fb-1,p.eT⟩else p
def iB (n:Int):Prop:=-4611686018427387904<=n/\n<=4611686018427387904
theorem GA (p:aO) (d:Int) (hd:gM d 0 3=true) (hx:iB p.fb) (hy:iB p.eT):aq Tryz.prog 221 [.agg (ar p),.int .i64 d] (.agg (ar (eK p d))):=by
 refine aq.body eG rfl fun hl n0=>?_
 clear hl
 obtain⟨x1,x2⟩:=hx
 obtain⟨y1,y2⟩:=hy
 have w1:IntKind.i64.wrap (p.fb+1)=p.fb+1:=bP ai
 have w2:IntKind.i64.wrap (p.fb-1)=p.fb-1:=bP ai
 have w3:IntKind.i64.wrap (p.eT+1)=p.eT+1:=bP ai
 have w4:IntKind.i64.wrap (p.eT-1)=p.eT-1:=bP ai
 have hb:=dX hd
 have hc:d=0∨d=1∨d=2∨d=3:=ai
 rcases hc with rfl|rfl|rfl|rfl
 ·(try((repeat(revert hN;revert N;apply Pn.out));refine wk (tw @ar.eq_1 @w3) ?_;(repeat(refine Pn.mk ?_;intro N hN))))
  exact ll (.inl rfl) (vs:=[.agg (ar (eK p 0))]) (by simp only[go_sem, ↓reduceIte,Nat.reduceEqDiff,Nat.reduceAdd,Nat.reduceSub,Nat.reduceLeDiff,reduceCtorEq,fj,gJ,ar,eK]) (by simp[eX,ar,gq,eB])
 ·(try((repeat(revert hN;revert N;apply Pn.out));refine wk (tw @ar.eq_1 @w1) ?_;(repeat(refine Pn.mk ?_;intro N hN))))
  exact ll (.inl rfl) (vs:=[.agg (ar (eK p 1))]) (by simp[fj,gJ,ar,eK,ld,rowAt,bD,upd,part]) (by simp[eX,ar,gq,eB])
 ·(try((repeat(revert hN;revert N;apply Pn.out));refine wk (tw @ar.eq_1 @w4) ?_;(repeat(refine Pn.mk ?_;intro N hN))))
  exact ll (.inl rfl) (vs:=[.agg (ar (eK p 2))]) (by simp[fj,gJ,ar,eK,ld,rowAt,bD,upd,part]) (by simp[eX,ar,gq,eB])
 ·(try((repeat(revert hN;revert N;apply Pn.out));refine wk (tw @ar.eq_1 @w2) ?_;(repeat(refine Pn.mk ?_;intro N hN))))
  exact ll (.inl rfl) (vs:=[.agg (ar (eK p 3))]) (by simp[fj,gJ,ar,eK,ld,rowAt,bD,upd,part]) (by simp[eX,ar,gq,eB])
theorem zC (p p2:aO) (x y:Int) (hx:IntKind.i64.wrap (p.fb+p2.fb)=x) (hy:IntKind.i64.wrap (p.eT+p2.eT)=y):aq Tryz.prog 280 [.agg (ar p),.agg (ar p2)] (.agg [.int .i64 x,.int .i64 y]):=by
 refine aq.body eG rfl fun hl n0=>?_
 clear hl
 (try((repeat(revert hN;revert N;apply Pn.out));refine wk (tw @ar.eq_1 (tw @hx @hy)) ?_;(repeat(refine Pn.mk ?_;intro N hN))))
 exact ll (.inl rfl) (vs:=[.agg [.int .i64 x,.int .i64 y]]) (by simp only[go_sem, ↓reduceIte,Nat.reduceEqDiff,Nat.reduceAdd,Nat.reduceSub,Nat.reduceLeDiff,reduceCtorEq,fj,gJ,ar]) (by simp[eX,gq,eB])
theorem Pw (p:aO) (d:Int) (hd:gM d 0 3=true) (hx:iB p.fb) (hy:iB p.eT):aq Tryz.prog 228 [.agg (ar p),.int .i64 d] (.agg (ar (eK p d))):=by
 refine aq.body eG rfl fun hl n0=>?_
 clear hl
 obtain⟨x1,x2⟩:=hx
 obtain⟨y1,y2⟩:=hy
 have hb:=dX hd
 have hc:d=0∨d=1∨d=2∨d=3:=ai
 rcases hc with rfl|rfl|rfl|rfl
 ·have h:=zC p ⟨0,1⟩ (p.fb) (p.eT+1) (by rw[bP (by constructor<;>simp only<;>omega)]<;>(try simp only)<;>(try omega)) (by rw[bP (by constructor<;>simp only<;>omega)]<;>(try simp only)<;>(try omega))
  simp only[ar]at h
  (repeat(first|((repeat(revert hN;revert N;apply Pn.out));refine wk @ar.eq_1 ?_;(repeat(refine Pn.mk ?_;intro N hN)))|((try apply Or.inl);refine⟨_,aq.x (h) (sd @ar.eq_1),?_⟩;refine hN _ _ ?_;clear hN N)))
  exact ll (.inl rfl) (vs:=[.agg (ar (eK p 0))]) (by simp[fj,gJ,ar,eK,ld,rowAt,bD,upd,part]) (by simp[eX,ar,gq,eB])
 ·have h:=zC p ⟨1,0⟩ (p.fb+1) (p.eT) (by rw[bP (by constructor<;>simp only<;>omega)]<;>(try simp only)<;>(try omega)) (by rw[bP (by constructor<;>simp only<;>omega)]<;>(try simp only)<;>(try omega))
  simp only[ar]at h
  (repeat(first|((repeat(revert hN;revert N;apply Pn.out));refine wk @ar.eq_1 ?_;(repeat(refine Pn.mk ?_;intro N hN)))|((try apply Or.inl);refine⟨_,aq.x (h) (sd @ar.eq_1),?_⟩;refine hN _ _ ?_;clear hN N)))
  exact ll (.inl rfl) (vs:=[.agg (ar (eK p 1))]) (by simp[fj,gJ,ar,eK,ld,rowAt,bD,upd,part]) (by simp[eX,ar,gq,eB])
 ·have h:=zC p ⟨0,(-1)⟩ (p.fb) (p.eT-1) (by rw[bP (by constructor<;>simp only<;>omega)]<;>(try simp only)<;>(try omega)) (by rw[bP (by constructor<;>simp only<;>omega)]<;>(try simp only)<;>(try omega))
  simp only[ar]at h
  (repeat(first|((repeat(revert hN;revert N;apply Pn.out));refine wk @ar.eq_1 ?_;(repeat(refine Pn.mk ?_;intro N hN)))|((try apply Or.inl);refine⟨_,aq.x (h) (sd @ar.eq_1),?_⟩;refine hN _ _ ?_;clear hN N)))
  exact ll (.inl rfl) (vs:=[.agg (ar (eK p 2))]) (by simp[fj,gJ,ar,eK,ld,rowAt,bD,upd,part]) (by simp[eX,ar,gq,eB])
 ·have h:=zC p ⟨(-1),0⟩ (p.fb-1) (p.eT) (by rw[bP (by constructor<;>simp only<;>omega)]<;>(try simp only)<;>(try omega)) (by rw[bP (by constructor<;>simp only<;>omega)]<;>(try simp only)<;>(try omega))
  simp only[ar]at h
  (repeat(first|((repeat(revert hN;revert N;apply Pn.out));refine wk @ar.eq_1 ?_;(repeat(refine Pn.mk ?_;intro N hN)))|((try apply Or.inl);refine⟨_,aq.x (h) (sd @ar.eq_1),?_⟩;refine hN _ _ ?_;clear hN N)))
  exact ll (.inl rfl) (vs:=[.agg (ar (eK p 3))]) (by simp[fj,gJ,ar,eK,ld,rowAt,bD,upd,part]) (by simp[eX,ar,gq,eB])
theorem DZ (d:Int) (hd:gM d 0 3=true):aq Tryz.prog 304 [.int .i64 d] (.int .i64 (sk d)):=by
 refine aq.body eG rfl fun hl n0=>?_
 clear hl
 have hb:=dX hd
 have hw:IntKind.i64.wrap (d+2)=d+2:=bP ai
 have ht:Int.tmod (d+2) 4=(d+2) % 4:=Int.tmod_eq_emod_of_nonneg ai
 have h4:¬((4:Int)=0):=ai
 (try((repeat(revert hN;revert N;apply Pn.out));refine wk (tw @hw (tw @ht @h4)) ?_;(repeat(refine Pn.mk ?_;intro N hN))))
 exact cR (b:=(d+2) % 4) (.inl rfl) (sd @Nat.zero_add) (by rw[sk,if_pos hd])
theorem CN (d:Int) (hd:gM d 0 3=true):aq Tryz.prog 224 [.int .i64 d] (.int .i64 (sk d)):=by
 refine aq.body eG rfl fun hl n0=>?_
 clear hl
 have hb:=dX hd
 have hw:IntKind.i64.wrap (d+2)=d+2:=bP ai
 have ht:Int.tmod (d+2) 4=(d+2) % 4:=Int.tmod_eq_emod_of_nonneg ai
 have h4:¬((4:Int)=0):=ai
 have h:=I9 d
 rw[hd]at h
 (repeat(first|((repeat(revert hN;revert N;apply Pn.out));refine wk (tw @hw (tw @ht @h4)) ?_;(repeat(refine Pn.mk ?_;intro N hN)))|((try apply Or.inl);refine⟨_,aq.x (h) (sd (tw @hw (tw @ht @h4))),?_⟩;refine hN _ _ ?_;clear hN N)))
 exact cR (b:=(d+2) % 4) (.inl rfl) (sd @Nat.zero_add) (by rw[sk,if_pos hd])
def gY (s:ax) (t:Int):Bool:=gM t 0 ((s.ah.length:Int)-1)
theorem DI (s:ax) (t:Int):aq Tryz.prog 220 [.dt (ad s),.int .i64 t] (.bool (gY s t)):=by
 refine aq.body eG rfl fun hl n0=>?_
 have hn:s.ah.length<=9223372036854775807:=by
  have h1:=(hl (.dt (ad s)) (by simp)).Bz (a:=.sl (s.ah.map bV)) (by simp[ad])
  simpa using h1.len
 clear hl
 have hw:IntKind.i64.wrap ((s.ah.length:Int)-1)=(s.ah.length:Int)-1:=bP ai
 have h:=jH t 0 ((s.ah.length:Int)-1)
 (repeat(first|((repeat(revert hN;revert N;apply Pn.out));refine wk (tw @ad.eq_1 @hw) ?_;(repeat(refine Pn.mk ?_;intro N hN)))|((try apply Or.inl);refine⟨_,aq.x (h) (sd (tw @ad.eq_1 @hw)),?_⟩;refine hN _ _ ?_;clear hN N)))
 exact bd (b:=gY s t) (.inl rfl) (by simp only[go_sem, ↓reduceIte,Nat.reduceEqDiff,Nat.reduceAdd,Nat.reduceSub,Nat.reduceLeDiff,reduceCtorEq,gY]) rfl
theorem ya (t n:Int) (h0:0<=n) (h1:n<=9223372036854775807):aq Tryz.prog 257 [.int .i64 t,.int .i64 n] (.bool (gM t 0 (n-1))):=by
 refine aq.body eG rfl fun hl n0=>?_
 clear hl
 have hw:IntKind.i64.wrap (n-1)=n-1:=bP ai
 have h:=jj t 0 (n-1)
 (repeat(first|((repeat(revert hN;revert N;apply Pn.out));refine wk @hw ?_;(repeat(refine Pn.mk ?_;intro N hN)))|((try apply Or.inl);refine⟨_,aq.x (h) (sd @hw),?_⟩;refine hN _ _ ?_;clear hN N)))
 exact bd (b:=gM t 0 (n-1)) (.inl rfl) (sd @Nat.zero_add) rfl
theorem I8 (s:ax) (t:Int):aq Tryz.prog 203 [.agg (ad s),.int .i64 t] (.bool (gY s t)):=by
 refine aq.body eG rfl fun hl n0=>?_
 have hn:s.ah.length<=9223372036854775807:=by
  have h1:=(hl (.agg (ad s)) (by simp)).NG (a:=.sl (s.ah.map bV)) (by simp[ad])
  simpa using h1.len
 clear hl
 have h:=ya t s.ah.length ai ai
 (repeat(first|((repeat(revert hN;revert N;apply Pn.out));refine wk @ad.eq_1 ?_;(repeat(refine Pn.mk ?_;intro N hN)))|((try apply Or.inl);refine⟨_,aq.x (h) (sd @ad.eq_1),?_⟩;refine hN _ _ ?_;clear hN N)))
 exact bd (b:=gY s t) (.inl rfl) (by simp only[go_sem, ↓reduceIte,Nat.reduceEqDiff,Nat.reduceAdd,Nat.reduceSub,Nat.reduceLeDiff,reduceCtorEq,gY]) rfl
def DU:eW:=⟨⟨#[]⟩,[]⟩
def ek (s:ax) (t:Int):eW:=s.ah.getD t.toNat DU
def ei (t:eW) (d:Int):Int:=t.b4.getD d.toNat 0
def rX (s:ax) (g:Int):fH:=s.aw.getD g.toNat ⟨⟨#[]⟩,0⟩
def vZ (s:ax) (g:Int):Int:=if g=0 then 0 else(rX s (g-1)).eD
def iM (s:ax) (a d b:Int):Int:=if ei (ek s a) d=ei (ek s b) (sk d)then vZ s (ei (ek s a) d)else 0
structure ke (s:ax):Prop where
 vV:∀t∈s.ah,t.b4.length=4
 xS:∀t∈s.ah,∀g∈t.b4,0<=g/\g<=s.aw.length
theorem getD_map {α β:Type} (e:α->β) {l:List α} {k:Nat} {d:α} (h:k<l.length):(l.map e)[k]? =some (e (l.getD k d)):=by simp[List.getD_eq_getElem?_getD,h]
theorem xj (s:ax) (g:Int) (h0:0<=g) (h1:g<=s.aw.length):aq Tryz.prog 225 [.dt (ad s),.int .i64 g] (.int .i64 (vZ s g)):=by
 refine aq.body eG rfl fun hl n0=>?_
 have hn:s.aw.length<=9223372036854775807:=by
  have h1:=(hl (.dt (ad s)) (by simp)).Bz (a:=.sl (s.aw.map cL)) (by simp[ad])
  simpa using h1.len
 clear hl
 by_cases hg:g=0
 ·have e:decide (g=0)=true:=decide_eq_true hg
  (try((repeat(revert hN;revert N;apply Pn.out));refine wk (tw @ad.eq_1 @e) ?_;(repeat(refine Pn.mk ?_;intro N hN))))
  exact cR (b:=0) (.inl rfl) (sd @Nat.zero_add) (by rw[vZ,if_pos hg])
 ·have e:decide (g=0)=false:=decide_eq_false hg
  have hw:IntKind.i64.wrap (g-1)=g-1:=bP ai
  have pY:0<=g-1:=ai
  have fq:(s.aw.map cL)[(g-1).toNat]? =some (cL (rX s (g-1))):=getD_map cL ai
  (try((repeat(revert hN;revert N;apply Pn.out));refine wk (tw @ad.eq_1 (tw @e (tw @hw (tw @pY (tw @fq @cL.eq_1))))) ?_;(repeat(refine Pn.mk ?_;intro N hN))))
  exact cR (b:=(rX s (g-1)).eD) (.inl rfl) (sd @Nat.zero_add) (by rw[vZ,if_neg hg])
theorem oF {s:ax} {a:Int} (h:gY s a=true):0<=a/\(s.ah.map bV)[a.toNat]? =some (bV (ek s a))/\ek s a∈s.ah:=by
 have h':=dX h
 have eh:a.toNat<s.ah.length:=ai
 refine⟨h'.1,getD_map bV eh,?_⟩
 unfold ek
 rw[List.getD_eq_getElem?_getD,List.getElem?_eq_getElem eh]
 exact List.getElem_mem eh
theorem oy {t:eW} {d:Int} (h:t.b4.length=4) (hd:gM d 0 3=true):(t.b4.map bt)[d.toNat]? =some [.int .i64 (ei t d)]:=by
 have:=dX hd
 exact getD_map bt ai
theorem Ce {t:eW} {d:Int} (h:t.b4.length=4) (hd:gM d 0 3=true):ei t d∈t.b4:=by
 have:=dX hd
 have eh:d.toNat<t.b4.length:=ai
 unfold ei
 rw[List.getD_eq_getElem?_getD,List.getElem?_eq_getElem eh]
 exact List.getElem_mem eh
theorem zA {d:Int} (hd:gM d 0 3=true):gM (sk d) 0 3=true:=by
 have:=dX hd
 refine uW ?_
 rw[sk,if_pos hd];omega
theorem GB (s:ax) (hF:ke s) (a d b:Int) (ha:gY s a=true) (hb:gY s b=true) (hd:gM d 0 3=true):aq Tryz.prog 190 [.dt (ad s),.int .i64 a,.int .i64 d,.int .i64 b] (.int .i64 (iM s a d b)):=by
 refine aq.body eG rfl fun hl n0=>?_
 clear hl
 obtain⟨a0,a1,a2⟩:=oF ha
 obtain⟨b0,b1,b2⟩:=oF hb
 have s1:=oy (hF.vV _ a2) hd
 have s2:=oy (hF.vV _ b2) (zA hd)
 have gl:=hF.xS _ a2 _ (Ce (hF.vV _ a2) hd)
 have d0:=(dX hd).1
 have d1:=(dX (zA hd)).1
 have h:=CN d hd
 have hs:=xj s (ei (ek s a) d) gl.1 gl.2
 rw[ad]at hs
 by_cases e:ei (ek s a) d=ei (ek s b) (sk d)
 ·have e':decide (ei (ek s a) d=ei (ek s b) (sk d))=true:=decide_eq_true e
  (repeat(first|((repeat(revert hN;revert N;apply Pn.out));refine wk (tw @ad.eq_1 (tw @bV.eq_1 (tw @a0 (tw @a1 (tw @b0 (tw @b1 (tw @s1 (tw @s2 (tw @d0 (tw @d1 @e')))))))))) ?_;(repeat(refine Pn.mk ?_;intro N hN)))|((try apply Or.inl);refine⟨_,aq.x (h) (sd (tw @ad.eq_1 (tw @bV.eq_1 (tw @a0 (tw @a1 (tw @b0 (tw @b1 (tw @s1 (tw @s2 (tw @d0 (tw @d1 @e'))))))))))),?_⟩;refine hN _ _ ?_;clear hN N)|((try apply Or.inl);refine⟨_,aq.x (hs) (sd (tw @ad.eq_1 (tw @bV.eq_1 (tw @a0 (tw @a1 (tw @b0 (tw @b1 (tw @s1 (tw @s2 (tw @d0 (tw @d1 @e'))))))))))),?_⟩;refine hN _ _ ?_;clear hN N)))
  exact cR (b:=vZ s (ei (ek s a) d)) (.inl rfl) (sd @Nat.zero_add) (by rw[iM,if_pos e])
 ·have e':decide (ei (ek s a) d=ei (ek s b) (sk d))=false:=decide_eq_false e
  (repeat(first|((repeat(revert hN;revert N;apply Pn.out));refine wk (tw @ad.eq_1 (tw @bV.eq_1 (tw @a0 (tw @a1 (tw @b0 (tw @b1 (tw @s1 (tw @s2 (tw @d0 (tw @d1 @e')))))))))) ?_;(repeat(refine Pn.mk ?_;intro N hN)))|((try apply Or.inl);refine⟨_,aq.x (h) (sd (tw @ad.eq_1 (tw @bV.eq_1 (tw @a0 (tw @a1 (tw @b0 (tw @b1 (tw @s1 (tw @s2 (tw @d0 (tw @d1 @e'))))))))))),?_⟩;refine hN _ _ ?_;clear hN N)))
  exact cR (b:=0) (.inl rfl) (sd @Nat.zero_add) (by rw[iM,if_neg e])
theorem Ev (s:ax) (hF:ke s) (a d:Int) (ha:gY s a=true) (hd:gM d 0 3=true):aq Tryz.prog 305 [.agg (ad s),.int .i64 a,.int .i64 d] (.int .i64 (vZ s (ei (ek s a) d))):=by
 refine aq.body eG rfl fun hl n0=>?_
 have hn:s.aw.length<=9223372036854775807:=by
  have h1:=(hl (.agg (ad s)) (by simp)).NG (a:=.sl (s.aw.map cL)) (by simp[ad])
  simpa using h1.len
 clear hl
 obtain⟨a0,a1,a2⟩:=oF ha
 have s1:=oy (hF.vV _ a2) hd
 have gl:=hF.xS _ a2 _ (Ce (hF.vV _ a2) hd)
 have d0:=(dX hd).1
 by_cases hg:ei (ek s a) d=0
 ·have e:¬(0<ei (ek s a) d):=ai
  (try((repeat(revert hN;revert N;apply Pn.out));refine wk (tw @ad.eq_1 (tw @bV.eq_1 (tw @a0 (tw @a1 (tw @s1 (tw @d0 @e)))))) ?_;(repeat(refine Pn.mk ?_;intro N hN))))
  exact cR (b:=0) (.inl rfl) (sd @Nat.zero_add) (by rw[vZ,if_pos hg])
 ·have e:0<ei (ek s a) d:=ai
  have hw:IntKind.i64.wrap (ei (ek s a) d-1)=ei (ek s a) d-1:=bP ai
  have pY:0<=ei (ek s a) d-1:=ai
  have fq:(s.aw.map cL)[(ei (ek s a) d-1).toNat]? =some (cL (rX s (ei (ek s a) d-1))):=getD_map cL ai
  (try((repeat(revert hN;revert N;apply Pn.out));refine wk (tw @ad.eq_1 (tw @bV.eq_1 (tw @a0 (tw @a1 (tw @s1 (tw @d0 (tw @e (tw @hw (tw @pY (tw @fq @cL.eq_1)))))))))) ?_;(repeat(refine Pn.mk ?_;intro N hN))))
  exact cR (b:=(rX s (ei (ek s a) d-1)).eD) (.inl rfl) (sd @Nat.zero_add) (by rw[vZ,if_neg hg])
theorem NL (s:ax) (hF:ke s) (a d b:Int) (ha:gY s a=true) (hb:gY s b=true) (hd:gM d 0 3=true):aq Tryz.prog 261 [.agg (ad s),.int .i64 a,.int .i64 d,.int .i64 b] (.int .i64 (iM s a d b)):=by
 refine aq.body eG rfl fun hl n0=>?_
 clear hl
 obtain⟨a0,a1,a2⟩:=oF ha
 obtain⟨b0,b1,b2⟩:=oF hb
 have s1:=oy (hF.vV _ a2) hd
 have s2:=oy (hF.vV _ b2) (zA hd)
 have d0:=(dX hd).1
 have d1:=(dX (zA hd)).1
 have h:=DZ d hd
 have hs:=Ev s hF a d ha hd
 rw[ad]at hs
 by_cases e:ei (ek s a) d=ei (ek s b) (sk d)
 ·have e':decide (ei (ek s a) d=ei (ek s b) (sk d))=true:=decide_eq_true e
  (repeat(first|((repeat(revert hN;revert N;apply Pn.out));refine wk (tw @ad.eq_1 (tw @bV.eq_1 (tw @a0 (tw @a1 (tw @b0 (tw @b1 (tw @s1 (tw @s2 (tw @d0 (tw @d1 @e')))))))))) ?_;(repeat(refine Pn.mk ?_;intro N hN)))|((try apply Or.inl);refine⟨_,aq.x (h) (sd (tw @ad.eq_1 (tw @bV.eq_1 (tw @a0 (tw @a1 (tw @b0 (tw @b1 (tw @s1 (tw @s2 (tw @d0 (tw @d1 @e'))))))))))),?_⟩;refine hN _ _ ?_;clear hN N)|((try apply Or.inl);refine⟨_,aq.x (hs) (sd (tw @ad.eq_1 (tw @bV.eq_1 (tw @a0 (tw @a1 (tw @b0 (tw @b1 (tw @s1 (tw @s2 (tw @d0 (tw @d1 @e'))))))))))),?_⟩;refine hN _ _ ?_;clear hN N)))
  exact cR (b:=vZ s (ei (ek s a) d)) (.inl rfl) (sd @Nat.zero_add) (by rw[iM,if_pos e])
 ·have e':decide (ei (ek s a) d=ei (ek s b) (sk d))=false:=decide_eq_false e
  (repeat(first|((repeat(revert hN;revert N;apply Pn.out));refine wk (tw @ad.eq_1 (tw @bV.eq_1 (tw @a0 (tw @a1 (tw @b0 (tw @b1 (tw @s1 (tw @s2 (tw @d0 (tw @d1 @e')))))))))) ?_;(repeat(refine Pn.mk ?_;intro N hN)))|((try apply Or.inl);refine⟨_,aq.x (h) (sd (tw @ad.eq_1 (tw @bV.eq_1 (tw @a0 (tw @a1 (tw @b0 (tw @b1 (tw @s1 (tw @s2 (tw @d0 (tw @d1 @e'))))))))))),?_⟩;refine hN _ _ ?_;clear hN N)))
  exact cR (b:=0) (.inl rfl) (sd @Nat.zero_add) (by rw[iM,if_neg e])
def po (s:ax) (i:Nat):fH:=s.aw.getD i ⟨⟨#[]⟩,0⟩
def oD (s:ax) (i:Nat):eW:=s.ah.getD i DU
def CK (s:ax) (i:Nat):Prop:=jv (po s i).aW=true/\gM (po s i).eD 1 4=true/\∀j,j<i->(po s j).aW≠(po s i).aW
def Au (s:ax) (i:Nat):Prop:=jv (oD s i).aW=true/\(oD s i).b4.length=4/\(∀j,j<i->(oD s j).aW≠(oD s i).aW)/\∀g∈(oD s i).b4,gM g 0 s.aw.length=true
structure lK (s:ax):Prop where
 xS:s.aw.length<=200
 some:1<=s.ah.length
 Nr:s.ah.length<=160
 TW:∀i,i<s.aw.length->CK s i
 tok:∀i,i<s.ah.length->Au s i
noncomputable def re (s:ax):Bool:=@decide (lK s) (Classical.propDecidable _)
theorem lZ {s:ax}:re s=true↔lK s:=by simp[re]
theorem fK {s:ax} (h:¬lK s):false=re s:=by simp[re,h]
theorem Cd {s:ax} (h:lK s):true=re s:=by simp[re,h]
theorem zR {s:ax} {i:Nat} (h:i<s.ah.length):(s.ah.map bV)[i]? =some (bV (oD s i)):=getD_map bV h
theorem y7 {s:ax} {i:Nat} (h:i<s.aw.length):(s.aw.map cL)[i]? =some (cL (po s i)):=getD_map cL h
theorem lK.form {s:ax} (h:lK s):ke s:=by
 have key:∀t∈s.ah,∃i,i<s.ah.length/\t=oD s i:=fun t ht=>by
  obtain⟨i,hi,rfl⟩:=List.getElem_of_mem ht
  exact⟨i,hi,by simp[oD,List.getD_eq_getElem?_getD,hi]⟩
 refine⟨fun t ht=>?_,fun t ht g hg=>?_⟩
 ·obtain⟨i,hi,rfl⟩:=key t ht
  exact(h.tok i hi).2.1
 ·obtain⟨i,hi,rfl⟩:=key t ht
  exact dX ((h.tok i hi).2.2.2 g hg)
def dV (l:List ByteArray):List (List AV):=l.map fun n=>[.str n,.bool true]
abbrev mS:MK:=⟨false,[.tS]⟩
theorem yD (n:ByteArray):∀(l:List ByteArray) (i:Nat),∃r,gI mS [.str n] (dV l) i=some r/\((r=none/\n∉l)∨∃j,r=some (i+j)/\n∈l/\(dV l)[j]? =some [.str n,.bool true])
 |[],i=>⟨none,rfl,.inl ⟨rfl,by simp⟩⟩
 |m::l,i=>by
  obtain⟨r,h1,h2⟩:=yD n l (i+1)
  by_cases h:n=m
  ·subst h
   exact⟨some i,by simp[dV,gI,eF,fa,MK.ks],.inr ⟨0,rfl,by simp,rfl⟩⟩
  ·refine⟨r,?_,?_⟩
   ·unfold dV at h1 ⊢
    simp only[List.map_cons,gI,MK.ks,List.length_cons,List.length_nil,Nat.zero_add,List.take_succ_cons,List.take_zero,eF,fa,h,decide_false,Bool.and_true]
    exact h1
   ·rcases h2 with⟨rfl,h2⟩|⟨j,rfl,h2,h3⟩
    ·exact .inl ⟨rfl,by simp[h,h2]⟩
    ·exact .inr ⟨j+1,by congr 1;omega,by simp[h2],by simpa[dV]using h3⟩
theorem vU (n:ByteArray) (l:List ByteArray):(n∉l/\gu mS (.str n) (dV l)=some none)∨∃j,n∈l/\gu mS (.str n) (dV l)=some (some j)/\(dV l)[j]? =some [.str n,.bool true]:=by
 obtain⟨r,h1,h2⟩:=yD n l 0
 have e:gu mS (.str n) (dV l)=some r:=by
  unfold gu
  rw[if_pos ⟨rfl,rfl,rfl⟩];exact h1
 rcases h2 with⟨rfl,h2⟩|⟨j,rfl,h2,h3⟩
 ·exact .inl ⟨h2,e⟩
 ·exact .inr ⟨j,h2,by rw[e,Nat.zero_add],h3⟩
theorem Pt (s:ax) (g:Int):aq Tryz.prog 255 [.int .i64 g,.dt (ad s)] (.bool (!gM g 0 s.aw.length)):=by
 refine aq.body eG rfl fun hl n0=>?_
 clear hl
 have h:=jj g 0 s.aw.length
 (repeat(first|((repeat(revert hN;revert N;apply Pn.out));refine wk @ad.eq_1 ?_;(repeat(refine Pn.mk ?_;intro N hN)))|((try apply Or.inl);refine⟨_,aq.x (h) (sd @ad.eq_1),?_⟩;refine hN _ _ ?_;clear hN N)))
 exact bd (b:= !gM g 0 s.aw.length) (.inl rfl) (sd @Nat.zero_add) rfl
theorem K6:PZ bt (fun c=>.int .i64 c) 1 false:=⟨fun _=>rfl,fun _=>rfl,fun x g=>by rw[ab,ay,aj];rfl⟩
theorem Mo (s:ax) (l:List Int) (hl:l.length<=1048576):aq Tryz.prog 226 [.sl (l.map bt),.fn 255 [.dt (ad s)]] (.bool (l.any fun g=> !gM g 0 s.aw.length)):=
 ko K6 (show lP Tryz.prog 226=some (za 226 279) by kernel_rfl)
  (show lP Tryz.prog 279=some (sb 279 1 false) by kernel_rfl) l hl _ _ _ rfl (fun g=>by rw[ab,aH,aj];rfl) (fun x _=>Pt s x) fun g=>by rw[ab,aH,aj];rfl
theorem vn {α:Type} (f:Nat->α) (n k:Nat) (x:α):x∉(List.range k).map f↔∀j,j<k->f j≠x:=by
 constructor
 ·intro h j hj he
  exact h (List.mem_map.2 ⟨j,List.mem_range.2 hj,he⟩)
 ·intro h hm
  obtain⟨j,hj,he⟩:=List.mem_map.1 hm
  exact h j (List.mem_range.1 hj) he
theorem CP (s:ax) (hn:fZ s) (hg:s.aw.length<=1048576) (ht:s.ah.length<=1048576) (hs:∀t∈s.ah,t.b4.length<=1048576):aq Tryz.prog 199 [.agg (ad s)] (.bool (re s)):=by
 refine aq.body eG rfl fun hl n0=>?_
 clear hl
 have Rm:∀i,i<s.aw.length->(po s i).aW.size<=9223372036854775807:=fun i hi=>hn.1 _ (by simp[po,List.getD_eq_getElem?_getD,hi])
 have xY:∀i,i<s.ah.length->(oD s i).aW.size<=9223372036854775807:=fun i hi=>hn.2 _ (by simp[oD,List.getD_eq_getElem?_getD,hi])
 have xh:∀i,i<s.ah.length->(oD s i).b4.length<=1048576:=fun i hi=>hs _ (by simp[oD,List.getD_eq_getElem?_getD,hi])
 have hw:=jj (s.ah.length:Int) 1 160
 by_cases h1:(200:Int)<(s.aw.length:Int)
 ·(try((repeat(revert hN;revert N;apply Pn.out));refine wk (tw @ad.eq_1 @h1) ?_;(repeat(refine Pn.mk ?_;intro N hN))))
  exact bd (b:=false) (.inl rfl) (sd @Nat.zero_add) (fK fun h=>by have:=h.xS;omega)
 by_cases h2:gM (s.ah.length:Int) 1 160=true
 ·have w8:=dX h2
  rw[h2]at hw
  (repeat(first|((repeat(revert hN;revert N;apply Pn.out));refine wk (tw @ad.eq_1 @h1) ?_;(repeat(refine Pn.mk ?_;intro N hN)))|((try apply Or.inl);refine⟨_,aq.x (hw) (sd (tw @ad.eq_1 @h1)),?_⟩;refine hN _ _ ?_;clear hN N)))
  refine bF (fun n env st=>∃k:Nat,n=(s.aw.length)-k/\k<=(s.aw.length)/\env 24=.int .i64 (k:Int)/\st.get ⟨199000000,n0⟩=some ⟨true,2,[ad s]⟩/\st.get ⟨199003000,n0+1+1⟩=some ⟨true,mS.ua,dV ((List.range k).map fun i=>(po s i).aW)⟩/\(∀j:Nat,j<k->CK s j)) (s.aw.length) ⟨0,ai,ai,by(try simp only[go_sem, ↓reduceIte,Nat.reduceEqDiff,Nat.reduceAdd,Nat.reduceSub,Nat.reduceLeDiff,reduceCtorEq,ad,List.range_zero,List.map_nil,dV]);try rfl,by(try simp only[go_sem, ↓reduceIte,Nat.reduceEqDiff,Nat.reduceAdd,Nat.reduceSub,Nat.reduceLeDiff,reduceCtorEq,ad,List.range_zero,List.map_nil,dV]);try rfl,by(try simp only[go_sem, ↓reduceIte,Nat.reduceEqDiff,Nat.reduceAdd,Nat.reduceSub,Nat.reduceLeDiff,reduceCtorEq,ad,List.range_zero,List.map_nil,dV]);try rfl,fun _ h=>absurd h (Nat.not_lt_zero _)⟩ ?_
  rintro n_a env_a st_a ⟨k,rfl,ale,a24,ag0,ag1,lG⟩ ev
  have a1:=ev 1 (by kernel_rfl);have a3:=ev 3 (by kernel_rfl);have a22:=ev 22 (by kernel_rfl);have a23:=ev 23 (by kernel_rfl)
  simp only[go_sem, ↓reduceIte,Nat.reduceEqDiff,Nat.reduceAdd,Nat.reduceSub,Nat.reduceLeDiff,reduceCtorEq,ad,List.range_zero,List.map_nil,dV]at a1 a3 a22 a23
  clear ev
  by_cases hk:(k:Int)<(s.aw.length:Int)
  ·have cY:∀{e:Env} {gg:Rows},(e 24=.int .i64 (IntKind.i64.wrap ((k:Int)+1)))->(gg ⟨199000000,n0⟩=some ⟨true,2,[ad s]⟩)->(gg ⟨199003000,n0+1+1⟩=some ⟨true,mS.ua,dV ((List.range (k+1)).map fun i=>(po s i).aW)⟩)->(CK s k)->∃m0,m0<(s.aw.length)-k/\∃k:Nat,m0=(s.aw.length)-k/\k<=(s.aw.length)/\e 24=.int .i64 (k:Int)/\gg ⟨199000000,n0⟩=some ⟨true,2,[ad s]⟩/\gg ⟨199003000,n0+1+1⟩=some ⟨true,mS.ua,dV ((List.range k).map fun i=>(po s i).aW)⟩/\(∀j:Nat,j<k->CK s j):=fun x1 x2 x3 x4=>⟨_,ai,k+1,rfl,ai,(by rw[x1,aI ai]),x2,x3,(all_succ lG x4)⟩
   have fM:k<s.aw.length:=ai
   have eU:=y7 fM
   have rH:=Fo (po s k).aW (Rm k fM)
   have KD:=jj (po s k).eD 1 4
   have Bo:=vU (po s k).aW ((List.range k).map fun i=>(po s i).aW)
   rw[vn _ k]at Bo
   have lv:(¬CK s k)->¬lK s:=fun h hp=>h (hp.TW k fM)
   generalize tT:po s k=gl at *
   cases hb:jv gl.aW
   ·rw[hb]at rH
    (repeat(first|((repeat(revert hN;revert N;apply Pn.out));refine wk (tw @a24 (tw @ag0 (tw @ag1 (tw @a1 (tw @a3 (tw @a22 (tw @a23 (tw @hk (tw @eU (tw @cL.eq_1 @ad.eq_1)))))))))) ?_;(repeat(refine Pn.mk ?_;intro N hN)))|((try apply Or.inl);refine⟨_,aq.x (rH) (sd (tw @a24 (tw @ag0 (tw @ag1 (tw @a1 (tw @a3 (tw @a22 (tw @a23 (tw @hk (tw @eU (tw @cL.eq_1 @ad.eq_1))))))))))),?_⟩;refine hN _ _ ?_;clear hN N)))
    exact bd (b:=false) (.inl rfl) (sd @Nat.zero_add) (fK (lv fun h=>by rw[CK,tT,hb]at h;cases h.1))
   ·rw[hb]at rH
    rcases Bo with⟨Dp,k7⟩|⟨j,fP,k7,gh⟩
    ·cases eb:gM gl.eD 1 4
     ·rw[eb]at KD
      (repeat(first|((repeat(revert hN;revert N;apply Pn.out));refine wk (tw @a24 (tw @ag0 (tw @ag1 (tw @a1 (tw @a3 (tw @a22 (tw @a23 (tw @hk (tw @eU (tw @k7 (tw @cL.eq_1 @ad.eq_1))))))))))) ?_;(repeat(refine Pn.mk ?_;intro N hN)))|((try apply Or.inl);refine⟨_,aq.x (rH) (sd (tw @a24 (tw @ag0 (tw @ag1 (tw @a1 (tw @a3 (tw @a22 (tw @a23 (tw @hk (tw @eU (tw @k7 (tw @cL.eq_1 @ad.eq_1)))))))))))),?_⟩;refine hN _ _ ?_;clear hN N)|((try apply Or.inl);refine⟨_,aq.x (KD) (sd (tw @a24 (tw @ag0 (tw @ag1 (tw @a1 (tw @a3 (tw @a22 (tw @a23 (tw @hk (tw @eU (tw @k7 (tw @cL.eq_1 @ad.eq_1)))))))))))),?_⟩;refine hN _ _ ?_;clear hN N)))
      exact bd (b:=false) (.inl rfl) (sd @Nat.zero_add) (fK (lv fun h=>by rw[CK,tT,eb]at h;cases h.2.1))
     ·rw[eb]at KD
      have xd:dV ((List.range k).map fun i=>(po s i).aW)++[[.str gl.aW,.bool true]]=dV (List.map (fun i=>(po s i).aW) (List.range k++[k])):=by simp[dV,tT]
      (repeat(first|((repeat(revert hN;revert N;apply Pn.out));refine wk (tw @a24 (tw @ag0 (tw @ag1 (tw @a1 (tw @a3 (tw @a22 (tw @a23 (tw @hk (tw @eU (tw @k7 (tw @cL.eq_1 @ad.eq_1))))))))))) ?_;(repeat(refine Pn.mk ?_;intro N hN)))|((try apply Or.inl);refine⟨_,aq.x (rH) (sd (tw @a24 (tw @ag0 (tw @ag1 (tw @a1 (tw @a3 (tw @a22 (tw @a23 (tw @hk (tw @eU (tw @k7 (tw @cL.eq_1 @ad.eq_1)))))))))))),?_⟩;refine hN _ _ ?_;clear hN N)|((try apply Or.inl);refine⟨_,aq.x (KD) (sd (tw @a24 (tw @ag0 (tw @ag1 (tw @a1 (tw @a3 (tw @a22 (tw @a23 (tw @hk (tw @eU (tw @k7 (tw @cL.eq_1 @ad.eq_1)))))))))))),?_⟩;refine hN _ _ ?_;clear hN N)))
      refine cY ?_ ?_ ?_ (⟨by rw[tT];exact hb,by rw[tT];exact eb,fun j hj=>by rw[tT];exact Dp j hj⟩)
      all_goals simp only[go_sem, ↓reduceIte,Nat.reduceEqDiff,Nat.reduceAdd,Nat.reduceSub,Nat.reduceLeDiff,reduceCtorEq,a24,ag0,ag1,a1,a3,a22,a23,k7,xd]
    ·(repeat(first|((repeat(revert hN;revert N;apply Pn.out));refine wk (tw @a24 (tw @ag0 (tw @ag1 (tw @a1 (tw @a3 (tw @a22 (tw @a23 (tw @hk (tw @eU (tw @k7 (tw @gh (tw @cL.eq_1 @ad.eq_1)))))))))))) ?_;(repeat(refine Pn.mk ?_;intro N hN)))|((try apply Or.inl);refine⟨_,aq.x (rH) (sd (tw @a24 (tw @ag0 (tw @ag1 (tw @a1 (tw @a3 (tw @a22 (tw @a23 (tw @hk (tw @eU (tw @k7 (tw @gh (tw @cL.eq_1 @ad.eq_1))))))))))))),?_⟩;refine hN _ _ ?_;clear hN N)))
     exact bd (b:=false) (.inl rfl) (sd @Nat.zero_add) (fK (lv fun h=>by
      rw[CK,tT]at h
      obtain⟨i,hi,he⟩:=List.mem_map.1 fP
      exact h.2.2 i (List.mem_range.1 hi) he))
  ·have ml:k=s.aw.length:=ai
   (try((repeat(revert hN;revert N;apply Pn.out));refine wk (tw @a24 (tw @ag0 (tw @ag1 (tw @a1 (tw @a3 (tw @a22 (tw @a23 (tw @hk @ad.eq_1)))))))) ?_;(repeat(refine Pn.mk ?_;intro N hN))))
   refine bF (fun n env st=>∃j:Nat,n=(s.ah.length)-j/\j<=(s.ah.length)/\env 52=.int .i64 (j:Int)/\st.get ⟨199000000,n0⟩=some ⟨true,2,[ad s]⟩/\st.get ⟨199011000,st_a.next+1⟩=some ⟨true,mS.ua,dV ((List.range j).map fun i=>(oD s i).aW)⟩/\(∀i:Nat,i<j->Au s i)/\(st_a.next<st.next)) (s.ah.length) ⟨0,ai,ai,by(try simp only[go_sem, ↓reduceIte,Nat.reduceEqDiff,Nat.reduceAdd,Nat.reduceSub,Nat.reduceLeDiff,reduceCtorEq,a24,ag0,ag1,a1,a3,a22,a23,ad,List.range_zero,List.map_nil,dV]);try rfl,by(try simp only[go_sem, ↓reduceIte,Nat.reduceEqDiff,Nat.reduceAdd,Nat.reduceSub,Nat.reduceLeDiff,reduceCtorEq,a24,ag0,ag1,a1,a3,a22,a23,ad,List.range_zero,List.map_nil,dV]);try rfl,by(try simp only[go_sem, ↓reduceIte,Nat.reduceEqDiff,Nat.reduceAdd,Nat.reduceSub,Nat.reduceLeDiff,reduceCtorEq,a24,ag0,ag1,a1,a3,a22,a23,ad,List.range_zero,List.map_nil,dV]);try rfl,fun _ h=>absurd h (Nat.not_lt_zero _),bK⟩ ?_
   rintro n_b env_b st_b ⟨j,rfl,ble,b52,bg0,bg1,bA0,bI0⟩ bfr
   have b1:=bfr 1 (by kernel_rfl);have b6:=bfr 6 (by kernel_rfl);have CR:=bfr 50 (by kernel_rfl);have CT:=bfr 51 (by kernel_rfl)
   simp only[go_sem, ↓reduceIte,Nat.reduceEqDiff,Nat.reduceAdd,Nat.reduceSub,Nat.reduceLeDiff,reduceCtorEq,a24,ag0,ag1,a1,a3,a22,a23,ad,List.range_zero,List.map_nil,dV]at b1 b6 CR CT
   clear bfr
   by_cases hj:(j:Int)<(s.ah.length:Int)
   ·have j5:∀{e:Env} {gg:Rows} {nx:Nat},(e 52=.int .i64 (IntKind.i64.wrap ((j:Int)+1)))->(gg ⟨199000000,n0⟩=some ⟨true,2,[ad s]⟩)->(gg ⟨199011000,st_a.next+1⟩=some ⟨true,mS.ua,dV ((List.range (j+1)).map fun i=>(oD s i).aW)⟩)->(Au s j)->(st_a.next<nx)->∃m0,m0<(s.ah.length)-j/\∃j:Nat,m0=(s.ah.length)-j/\j<=(s.ah.length)/\e 52=.int .i64 (j:Int)/\gg ⟨199000000,n0⟩=some ⟨true,2,[ad s]⟩/\gg ⟨199011000,st_a.next+1⟩=some ⟨true,mS.ua,dV ((List.range j).map fun i=>(oD s i).aW)⟩/\(∀i:Nat,i<j->Au s i)/\(st_a.next<nx):=fun x1 x2 x3 x4 x5=>⟨_,ai,j+1,rfl,ai,(by rw[x1,aI ai]),x2,x3,(all_succ bA0 x4),x5⟩
    have hZ:j<s.ah.length:=ai
    have od:=zR hZ
    have rH:=Fo (oD s j).aW (xY j hZ)
    have Te:=Mo s (oD s j).b4 (xh j hZ)
    have Bo:=vU (oD s j).aW ((List.range j).map fun i=>(oD s i).aW)
    rw[vn _ j]at Bo
    have lv:(¬Au s j)->¬lK s:=fun h hp=>h (hp.tok j hZ)
    have gP:(⟨199011000,st_a.next+1⟩:Id)≠⟨199000000,n0⟩:=by simp
    generalize htd:oD s j=tl at *
    cases hb:jv tl.aW
    ·rw[hb]at rH
     (repeat(first|((repeat(revert hN;revert N;apply Pn.out));refine wk (tw @b52 (tw @bg0 (tw @bg1 (tw @b1 (tw @b6 (tw @CR (tw @CT (tw @hj (tw @od (tw @bV.eq_1 @ad.eq_1)))))))))) ?_;(repeat(refine Pn.mk ?_;intro N hN)))|((try apply Or.inl);refine⟨_,aq.x (rH) (sd (tw @b52 (tw @bg0 (tw @bg1 (tw @b1 (tw @b6 (tw @CR (tw @CT (tw @hj (tw @od (tw @bV.eq_1 @ad.eq_1))))))))))),?_⟩;refine hN _ _ ?_;clear hN N)))
     exact bd (b:=false) (.inl rfl) (sd @Nat.zero_add) (fK (lv fun h=>by rw[Au,htd,hb]at h;cases h.1))
    ·rw[hb]at rH
     rcases Bo with⟨Dp,k7⟩|⟨i,fP,k7,gh⟩
     ·by_cases h4:(tl.b4.length:Int)=4
      ·have y8:decide ((tl.b4.length:Int)=4)=true:=decide_eq_true h4
       cases hany:tl.b4.any fun g=> !gM g 0 s.aw.length
       ·rw[hany]at Te
        have xd:dV ((List.range j).map fun i=>(oD s i).aW)++[[.str tl.aW,.bool true]]=dV (List.map (fun i=>(oD s i).aW) (List.range j++[j])):=by simp[dV,htd]
        (repeat(first|((repeat(revert hN;revert N;apply Pn.out));refine wk (tw @b52 (tw @bg0 (tw @bg1 (tw @b1 (tw @b6 (tw @CR (tw @CT (tw @hj (tw @od (tw @k7 (tw @y8 (tw @bV.eq_1 @ad.eq_1)))))))))))) ?_;(repeat(refine Pn.mk ?_;intro N hN)))|((try apply Or.inl);refine⟨_,aq.x (rH) (sd (tw @b52 (tw @bg0 (tw @bg1 (tw @b1 (tw @b6 (tw @CR (tw @CT (tw @hj (tw @od (tw @k7 (tw @y8 (tw @bV.eq_1 @ad.eq_1))))))))))))),?_⟩;refine hN _ _ ?_;clear hN N)|((try apply Or.inl);refine⟨_,aq.x (Te) (sd (tw @b52 (tw @bg0 (tw @bg1 (tw @b1 (tw @b6 (tw @CR (tw @CT (tw @hj (tw @od (tw @k7 (tw @y8 (tw @bV.eq_1 @ad.eq_1))))))))))))),?_⟩;refine hN _ _ ?_;clear hN N)))
        refine j5 ?_ ?_ ?_ (⟨by rw[htd];exact hb,by rw[htd];omega,fun i hi=>(by rw[htd];exact Dp i hi),fun g hg=>by rw[htd]at hg;have:=List.any_eq_false.1 hany g hg;simpa using this⟩) bK
        all_goals simp only[go_sem, ↓reduceIte,Nat.reduceEqDiff,Nat.reduceAdd,Nat.reduceSub,Nat.reduceLeDiff,reduceCtorEq,b52,bg0,bg1,b1,b6,CR,CT,k7,xd]
       ·rw[hany]at Te
        (repeat(first|((repeat(revert hN;revert N;apply Pn.out));refine wk (tw @b52 (tw @bg0 (tw @bg1 (tw @b1 (tw @b6 (tw @CR (tw @CT (tw @hj (tw @od (tw @k7 (tw @y8 (tw @bV.eq_1 @ad.eq_1)))))))))))) ?_;(repeat(refine Pn.mk ?_;intro N hN)))|((try apply Or.inl);refine⟨_,aq.x (rH) (sd (tw @b52 (tw @bg0 (tw @bg1 (tw @b1 (tw @b6 (tw @CR (tw @CT (tw @hj (tw @od (tw @k7 (tw @y8 (tw @bV.eq_1 @ad.eq_1))))))))))))),?_⟩;refine hN _ _ ?_;clear hN N)|((try apply Or.inl);refine⟨_,aq.x (Te) (sd (tw @b52 (tw @bg0 (tw @bg1 (tw @b1 (tw @b6 (tw @CR (tw @CT (tw @hj (tw @od (tw @k7 (tw @y8 (tw @bV.eq_1 @ad.eq_1))))))))))))),?_⟩;refine hN _ _ ?_;clear hN N)))
        exact bd (b:=false) (.inl rfl) (sd @Nat.zero_add) (fK (lv fun h=>by
         rw[Au,htd]at h
         obtain⟨g,hg,hq⟩:=List.any_eq_true.1 hany
         have:=h.2.2.2 g hg
         rw[this]at hq;cases hq))
      ·have y8:decide ((tl.b4.length:Int)=4)=false:=decide_eq_false h4
       (repeat(first|((repeat(revert hN;revert N;apply Pn.out));refine wk (tw @b52 (tw @bg0 (tw @bg1 (tw @b1 (tw @b6 (tw @CR (tw @CT (tw @hj (tw @od (tw @k7 (tw @y8 (tw @bV.eq_1 @ad.eq_1)))))))))))) ?_;(repeat(refine Pn.mk ?_;intro N hN)))|((try apply Or.inl);refine⟨_,aq.x (rH) (sd (tw @b52 (tw @bg0 (tw @bg1 (tw @b1 (tw @b6 (tw @CR (tw @CT (tw @hj (tw @od (tw @k7 (tw @y8 (tw @bV.eq_1 @ad.eq_1))))))))))))),?_⟩;refine hN _ _ ?_;clear hN N)))
       exact bd (b:=false) (.inl rfl) (sd @Nat.zero_add) (fK (lv fun h=>by rw[Au,htd]at h;have:=h.2.1;omega))
     ·(repeat(first|((repeat(revert hN;revert N;apply Pn.out));refine wk (tw @b52 (tw @bg0 (tw @bg1 (tw @b1 (tw @b6 (tw @CR (tw @CT (tw @hj (tw @od (tw @k7 (tw @gh (tw @bV.eq_1 @ad.eq_1)))))))))))) ?_;(repeat(refine Pn.mk ?_;intro N hN)))|((try apply Or.inl);refine⟨_,aq.x (rH) (sd (tw @b52 (tw @bg0 (tw @bg1 (tw @b1 (tw @b6 (tw @CR (tw @CT (tw @hj (tw @od (tw @k7 (tw @gh (tw @bV.eq_1 @ad.eq_1))))))))))))),?_⟩;refine hN _ _ ?_;clear hN N)))
      exact bd (b:=false) (.inl rfl) (sd @Nat.zero_add) (fK (lv fun h=>by
       rw[Au,htd]at h
       obtain⟨i,hi,he⟩:=List.mem_map.1 fP
       exact h.2.2.1 i (List.mem_range.1 hi) he))
   ·(try((repeat(revert hN;revert N;apply Pn.out));refine wk (tw @b52 (tw @bg0 (tw @bg1 (tw @b1 (tw @b6 (tw @CR (tw @CT (tw @hj @ad.eq_1)))))))) ?_;(repeat(refine Pn.mk ?_;intro N hN))))
    exact bd (b:=true) (.inl rfl) (sd @Nat.zero_add) (Cd ⟨ai,ai,ai,fun i hi=>lG i ai,fun i hi=>bA0 i ai⟩)
 ·rw[Bool.not_eq_true]at h2
  rw[h2]at hw
  (repeat(first|((repeat(revert hN;revert N;apply Pn.out));refine wk (tw @ad.eq_1 @h1) ?_;(repeat(refine Pn.mk ?_;intro N hN)))|((try apply Or.inl);refine⟨_,aq.x (hw) (sd (tw @ad.eq_1 @h1)),?_⟩;refine hN _ _ ?_;clear hN N)))
  exact bd (b:=false) (.inl rfl) (sd @Nat.zero_add) (fK fun h=>by
   have h3:=h.some
   have h4:=h.Nr
   rw[uW ⟨ai,ai⟩]at h2;cases h2)
theorem tL {α:Type} {p:α->Bool} {xs:List α} {k:Nat} (hk:k<xs.length) (h1:p xs[k]=true) (h2:∀j (h:j<xs.length),j<k->p xs[j]=false):jX p xs=k:=by
 have:xs.findIdx p=k:=by rw[List.findIdx_eq hk];exact⟨h1,fun j hj=>h2 j ai hj⟩
 rw[jX,this,if_pos hk]
theorem xM {α:Type} {p:α->Bool} {xs:List α} (h:∀j (h:j<xs.length),p xs[j]=false):jX p xs= -1:=by
 rw[jX,if_neg]
 rw[List.findIdx_lt_length]
 rintro⟨x,hx,OM⟩
 obtain⟨j,hj,rfl⟩:=List.getElem_of_mem hx
 rw[h j hj]at OM;cases OM
theorem y6 {s:ax} {i:Nat} (h:i<s.aw.length):po s i=s.aw[i]:=by simp[po,List.getD_eq_getElem?_getD,h]
theorem zQ {s:ax} {i:Nat} (h:i<s.ah.length):oD s i=s.ah[i]:=by simp[oD,List.getD_eq_getElem?_getD,h]
def Kr (s:ax) (n:ByteArray):Int:=jX (fun g:fH=>decide (g.aW=n)) s.aw
def Nq (s:ax) (n:ByteArray):Int:=jX (fun t:eW=>decide (t.aW=n)) s.ah
theorem GC (s:ax) (nm:ByteArray):aq Tryz.prog 238 [.dt (ad s),.str nm] (.int .i64 (Kr s nm+1)):=by
 refine aq.body eG rfl fun hl n0=>?_
 have hlen:s.aw.length<=9223372036854775807:=by
  have h1:=(hl (.dt (ad s)) (by simp)).Bz (a:=.sl (s.aw.map cL)) (by simp[ad])
  simpa using h1.len
 clear hl
 (try((repeat(revert hN;revert N;apply Pn.out));refine wk @ad.eq_1 ?_;(repeat(refine Pn.mk ?_;intro N hN))))
 refine bF (fun n env st=>∃k:Nat,n=(s.aw.length)-k/\k<=(s.aw.length)/\env 5=.int .i64 (k:Int)/\(∀j:Nat,j<k->∀h:j<s.aw.length,decide (s.aw[j].aW=nm)=false)) (s.aw.length) ⟨0,ai,ai,sl @ad.eq_1,fun _ h=>absurd h (Nat.not_lt_zero _)⟩ ?_
 rintro n_a env_a st_a ⟨k,rfl,ale,a5,lG⟩ ev
 have a0:=ev 0 (by kernel_rfl);have a1:=ev 1 (by kernel_rfl)
 simp only[go_sem, ↓reduceIte,Nat.reduceEqDiff,Nat.reduceAdd,Nat.reduceSub,Nat.reduceLeDiff,reduceCtorEq,ad]at a0 a1
 clear ev
 by_cases hk:(k:Int)<(s.aw.length:Int)
 ·have cY:∀{e:Env},(e 5=.int .i64 (IntKind.i64.wrap ((k:Int)+1)))->(∀h:k<s.aw.length,decide (s.aw[k].aW=nm)=false)->∃m0,m0<(s.aw.length)-k/\∃k:Nat,m0=(s.aw.length)-k/\k<=(s.aw.length)/\e 5=.int .i64 (k:Int)/\(∀j:Nat,j<k->∀h:j<s.aw.length,decide (s.aw[j].aW=nm)=false):=fun x1 x2=>⟨_,ai,k+1,rfl,ai,(by rw[x1,aI ai]),(all_succ lG x2)⟩
  have fM:k<s.aw.length:=ai
  have eU:=y7 fM
  have e:=y6 fM
  cases hd:decide ((po s k).aW=nm)
  ·have Qb:=of_decide_eq_false hd
   (try((repeat(revert hN;revert N;apply Pn.out));refine wk (tw @a5 (tw @a0 (tw @a1 (tw @hk (tw @eU (tw @Qb (tw @hd (tw @cL.eq_1 @ad.eq_1)))))))) ?_;(repeat(refine Pn.mk ?_;intro N hN))))
   exact cY (sd (tw @a5 (tw @a0 @a1))) (fun _=>by rw[e]at hd;exact hd)
  ·have Qb:=of_decide_eq_true hd
   have hw:IntKind.i64.wrap ((k:Int)+1)=(k:Int)+1:=bP ai
   (try((repeat(revert hN;revert N;apply Pn.out));refine wk (tw @a5 (tw @a0 (tw @a1 (tw @hk (tw @eU (tw @hd (tw @hw (tw @cL.eq_1 @ad.eq_1)))))))) ?_;(repeat(refine Pn.mk ?_;intro N hN))))
   exact cR (b:=(k:Int)+1) (.inl rfl) (sd @Nat.zero_add) (by rw[Kr,tL fM (by rw[e]at hd;exact hd) fun j h hj=>lG j hj h])
 ·(try((repeat(revert hN;revert N;apply Pn.out));refine wk (tw @a5 (tw @a0 (tw @a1 (tw @hk @ad.eq_1)))) ?_;(repeat(refine Pn.mk ?_;intro N hN))))
  exact cR (b:=0) (.inl rfl) (sd @Nat.zero_add) (by rw[Kr,xM fun j h=>lG j ai h];rfl)
theorem GD (s:ax) (nm:ByteArray):aq Tryz.prog 239 [.dt (ad s),.str nm] (.int .i64 (Nq s nm)):=by
 refine aq.body eG rfl fun hl n0=>?_
 have hlen:s.ah.length<=9223372036854775807:=by
  have h1:=(hl (.dt (ad s)) (by simp)).Bz (a:=.sl (s.ah.map bV)) (by simp[ad])
  simpa using h1.len
 clear hl
 (try((repeat(revert hN;revert N;apply Pn.out));refine wk @ad.eq_1 ?_;(repeat(refine Pn.mk ?_;intro N hN))))
 refine bF (fun n env st=>∃k:Nat,n=(s.ah.length)-k/\k<=(s.ah.length)/\env 5=.int .i64 (k:Int)/\(∀j:Nat,j<k->∀h:j<s.ah.length,decide (s.ah[j].aW=nm)=false)) (s.ah.length) ⟨0,ai,ai,sl @ad.eq_1,fun _ h=>absurd h (Nat.not_lt_zero _)⟩ ?_
 rintro n_a env_a st_a ⟨k,rfl,ale,a5,lG⟩ ev
 have a0:=ev 0 (by kernel_rfl);have a1:=ev 1 (by kernel_rfl)
 simp only[go_sem, ↓reduceIte,Nat.reduceEqDiff,Nat.reduceAdd,Nat.reduceSub,Nat.reduceLeDiff,reduceCtorEq,ad]at a0 a1
 clear ev
 by_cases hk:(k:Int)<(s.ah.length:Int)
 ·have cY:∀{e:Env},(e 5=.int .i64 (IntKind.i64.wrap ((k:Int)+1)))->(∀h:k<s.ah.length,decide (s.ah[k].aW=nm)=false)->∃m0,m0<(s.ah.length)-k/\∃k:Nat,m0=(s.ah.length)-k/\k<=(s.ah.length)/\e 5=.int .i64 (k:Int)/\(∀j:Nat,j<k->∀h:j<s.ah.length,decide (s.ah[j].aW=nm)=false):=fun x1 x2=>⟨_,ai,k+1,rfl,ai,(by rw[x1,aI ai]),(all_succ lG x2)⟩
  have fM:k<s.ah.length:=ai
  have eU:=zR fM
  have e:=zQ fM
  cases hd:decide ((oD s k).aW=nm)
  ·(try((repeat(revert hN;revert N;apply Pn.out));refine wk (tw @a5 (tw @a0 (tw @a1 (tw @hk (tw @eU (tw @hd (tw @bV.eq_1 @ad.eq_1))))))) ?_;(repeat(refine Pn.mk ?_;intro N hN))))
   exact cY (sd (tw @a5 (tw @a0 @a1))) (fun _=>by rw[e]at hd;exact hd)
  ·(try((repeat(revert hN;revert N;apply Pn.out));refine wk (tw @a5 (tw @a0 (tw @a1 (tw @hk (tw @eU (tw @hd (tw @bV.eq_1 @ad.eq_1))))))) ?_;(repeat(refine Pn.mk ?_;intro N hN))))
   exact cR (b:=(k:Int)) (.inl rfl) (sd @Nat.zero_add) (by rw[Nq,tL fM (by rw[e]at hd;exact hd) fun j h hj=>lG j hj h])
 ·(try((repeat(revert hN;revert N;apply Pn.out));refine wk (tw @a5 (tw @a0 (tw @a1 (tw @hk @ad.eq_1)))) ?_;(repeat(refine Pn.mk ?_;intro N hN))))
  exact cR (b:=-1) (.inl rfl) (sd @Nat.zero_add) (by rw[Nq,xM fun j h=>lG j ai h])
theorem Ob {s:ax} {i:Nat} (h:i<s.aw.length):Kr s (po s i).aW=i↔∀j,j<i->(po s j).aW≠(po s i).aW:=by
 constructor
 ·intro he j hj hc
  have gZ:j<s.aw.length:=ai
  have:s.aw.findIdx (fun g:fH=>decide (g.aW=(po s i).aW))<=j:=by
   rcases Nat.lt_or_ge j (s.aw.findIdx fun g:fH=>decide (g.aW=(po s i).aW))with eh|pY
   ·have:=List.not_of_lt_findIdx eh
    rw[<-y6 gZ]at this
    simp[hc]at this
   ·exact pY
  unfold Kr jX at he
  split at he<;>omega
 ·intro hd
  exact tL h (by rw[<-y6 h];simp) fun j gZ hj=>by rw[<-y6 gZ];simpa using hd j hj
theorem Py {s:ax} {i:Nat} (h:i<s.ah.length):Nq s (oD s i).aW=i↔∀j,j<i->(oD s j).aW≠(oD s i).aW:=by
 constructor
 ·intro he j hj hc
  have gZ:j<s.ah.length:=ai
  have:s.ah.findIdx (fun g:eW=>decide (g.aW=(oD s i).aW))<=j:=by
   rcases Nat.lt_or_ge j (s.ah.findIdx fun g:eW=>decide (g.aW=(oD s i).aW))with eh|pY
   ·have:=List.not_of_lt_findIdx eh
    rw[<-zQ gZ]at this
    simp[hc]at this
   ·exact pY
  unfold Nq jX at he
  split at he<;>omega
 ·intro hd
  exact tL h (by rw[<-zQ h];simp) fun j gZ hj=>by rw[<-zQ gZ];simpa using hd j hj
theorem LK (s:ax) (hn:fZ s) (hg:s.aw.length<=1048576) (ht:s.ah.length<=1048576):aq Tryz.prog 167 [.dt (ad s)] (.bool (re s)):=by
 refine aq.body eG rfl fun hl n0=>?_
 clear hl
 have Rm:∀i,i<s.aw.length->(po s i).aW.size<=9223372036854775807:=fun i hi=>hn.1 _ (by simp[po,List.getD_eq_getElem?_getD,hi])
 have xY:∀i,i<s.ah.length->(oD s i).aW.size<=9223372036854775807:=fun i hi=>hn.2 _ (by simp[oD,List.getD_eq_getElem?_getD,hi])
 by_cases h1:(200:Int)<(s.aw.length:Int)
 ·(try((repeat(revert hN;revert N;apply Pn.out));refine wk (tw @ad.eq_1 @h1) ?_;(repeat(refine Pn.mk ?_;intro N hN))))
  exact bd (b:=false) (.inl rfl) (sd @Nat.zero_add) (fK fun h=>by have:=h.xS;omega)
 by_cases h2:(s.ah.length:Int)<1
 ·(try((repeat(revert hN;revert N;apply Pn.out));refine wk (tw @ad.eq_1 (tw @h1 @h2)) ?_;(repeat(refine Pn.mk ?_;intro N hN))))
  exact bd (b:=false) (.inl rfl) (sd @Nat.zero_add) (fK fun h=>by have:=h.some;omega)
 by_cases h3:(160:Int)<(s.ah.length:Int)
 ·(try((repeat(revert hN;revert N;apply Pn.out));refine wk (tw @ad.eq_1 (tw @h1 (tw @h2 @h3))) ?_;(repeat(refine Pn.mk ?_;intro N hN))))
  exact bd (b:=false) (.inl rfl) (sd @Nat.zero_add) (fK fun h=>by have:=h.Nr;omega)
 (try((repeat(revert hN;revert N;apply Pn.out));refine wk (tw @ad.eq_1 (tw @h1 (tw @h2 @h3))) ?_;(repeat(refine Pn.mk ?_;intro N hN))))
 refine bF (fun n env st=>∃k:Nat,n=(s.aw.length)-k/\k<=(s.aw.length)/\env 3=.int .i64 (k:Int)/\(∀j:Nat,j<k->CK s j)) (s.aw.length) ⟨0,ai,ai,sl @ad.eq_1,fun _ h=>absurd h (Nat.not_lt_zero _)⟩ ?_
 rintro n_a env_a st_a ⟨k,rfl,ale,a3,lG⟩ ev
 have a0:=ev 0 (by kernel_rfl)
 simp only[go_sem, ↓reduceIte,Nat.reduceEqDiff,Nat.reduceAdd,Nat.reduceSub,Nat.reduceLeDiff,reduceCtorEq,ad]at a0
 clear ev
 by_cases hk:(k:Int)<(s.aw.length:Int)
 ·have cY:∀{e:Env},(e 3=.int .i64 (IntKind.i64.wrap ((k:Int)+1)))->(CK s k)->∃m0,m0<(s.aw.length)-k/\∃k:Nat,m0=(s.aw.length)-k/\k<=(s.aw.length)/\e 3=.int .i64 (k:Int)/\(∀j:Nat,j<k->CK s j):=fun x1 x2=>⟨_,ai,k+1,rfl,ai,(by rw[x1,aI ai]),(all_succ lG x2)⟩
  have fM:k<s.aw.length:=ai
  have eU:=y7 fM
  have rH:=FC (po s k).aW (Rm k fM)
  have KD:=jH (po s k).eD 1 4
  have Gl:=GC s (po s k).aW
  have qH:=Ob fM
  have lv:(¬CK s k)->¬lK s:=fun h hp=>h (hp.TW k fM)
  have hw:IntKind.i64.wrap ((k:Int)+1)=(k:Int)+1:=bP ai
  generalize tT:po s k=gl at *
  cases hb:jv gl.aW
  ·rw[hb]at rH
   (repeat(first|((repeat(revert hN;revert N;apply Pn.out));refine wk (tw @a3 (tw @a0 (tw @hk (tw @eU (tw @cL.eq_1 @ad.eq_1))))) ?_;(repeat(refine Pn.mk ?_;intro N hN)))|((try apply Or.inl);refine⟨_,aq.x (rH) (sd (tw @a3 (tw @a0 (tw @hk (tw @eU (tw @cL.eq_1 @ad.eq_1)))))),?_⟩;refine hN _ _ ?_;clear hN N)))
   exact bd (b:=false) (.inl rfl) (sd @Nat.zero_add) (fK (lv fun h=>by rw[CK,tT,hb]at h;cases h.1))
  rw[hb]at rH
  cases eb:gM gl.eD 1 4
  ·rw[eb]at KD
   (repeat(first|((repeat(revert hN;revert N;apply Pn.out));refine wk (tw @a3 (tw @a0 (tw @hk (tw @eU (tw @cL.eq_1 @ad.eq_1))))) ?_;(repeat(refine Pn.mk ?_;intro N hN)))|((try apply Or.inl);refine⟨_,aq.x (rH) (sd (tw @a3 (tw @a0 (tw @hk (tw @eU (tw @cL.eq_1 @ad.eq_1)))))),?_⟩;refine hN _ _ ?_;clear hN N)|((try apply Or.inl);refine⟨_,aq.x (KD) (sd (tw @a3 (tw @a0 (tw @hk (tw @eU (tw @cL.eq_1 @ad.eq_1)))))),?_⟩;refine hN _ _ ?_;clear hN N)))
   exact bd (b:=false) (.inl rfl) (sd @Nat.zero_add) (fK (lv fun h=>by rw[CK,tT,eb]at h;cases h.2.1))
  rw[eb]at KD
  rw[ad]at Gl
  by_cases hq:Kr s gl.aW=(k:Int)
  ·have hd:decide (Kr s gl.aW+1=(k:Int)+1)=true:=decide_eq_true ai
   have nu:decide (Kr s gl.aW=(k:Int))=true:=decide_eq_true hq
   (repeat(first|((repeat(revert hN;revert N;apply Pn.out));refine wk (tw @a3 (tw @a0 (tw @hk (tw @eU (tw @hw (tw @hd (tw @nu (tw @cL.eq_1 @ad.eq_1)))))))) ?_;(repeat(refine Pn.mk ?_;intro N hN)))|((try apply Or.inl);refine⟨_,aq.x (rH) (sd (tw @a3 (tw @a0 (tw @hk (tw @eU (tw @hw (tw @hd (tw @nu (tw @cL.eq_1 @ad.eq_1))))))))),?_⟩;refine hN _ _ ?_;clear hN N)|((try apply Or.inl);refine⟨_,aq.x (KD) (sd (tw @a3 (tw @a0 (tw @hk (tw @eU (tw @hw (tw @hd (tw @nu (tw @cL.eq_1 @ad.eq_1))))))))),?_⟩;refine hN _ _ ?_;clear hN N)|((try apply Or.inl);refine⟨_,aq.x (Gl) (sd (tw @a3 (tw @a0 (tw @hk (tw @eU (tw @hw (tw @hd (tw @nu (tw @cL.eq_1 @ad.eq_1))))))))),?_⟩;refine hN _ _ ?_;clear hN N)))
   exact cY (sd (tw @a3 (tw @a0 @hw))) (⟨by rw[tT];exact hb,by rw[tT];exact eb,fun j hj=>by rw[tT];exact qH.1 hq j hj⟩)
  ·have hd:decide (Kr s gl.aW+1=(k:Int)+1)=false:=decide_eq_false ai
   have nu:decide (Kr s gl.aW=(k:Int))=false:=decide_eq_false hq
   (repeat(first|((repeat(revert hN;revert N;apply Pn.out));refine wk (tw @a3 (tw @a0 (tw @hk (tw @eU (tw @hw (tw @hd (tw @nu (tw @cL.eq_1 @ad.eq_1)))))))) ?_;(repeat(refine Pn.mk ?_;intro N hN)))|((try apply Or.inl);refine⟨_,aq.x (rH) (sd (tw @a3 (tw @a0 (tw @hk (tw @eU (tw @hw (tw @hd (tw @nu (tw @cL.eq_1 @ad.eq_1))))))))),?_⟩;refine hN _ _ ?_;clear hN N)|((try apply Or.inl);refine⟨_,aq.x (KD) (sd (tw @a3 (tw @a0 (tw @hk (tw @eU (tw @hw (tw @hd (tw @nu (tw @cL.eq_1 @ad.eq_1))))))))),?_⟩;refine hN _ _ ?_;clear hN N)|((try apply Or.inl);refine⟨_,aq.x (Gl) (sd (tw @a3 (tw @a0 (tw @hk (tw @eU (tw @hw (tw @hd (tw @nu (tw @cL.eq_1 @ad.eq_1))))))))),?_⟩;refine hN _ _ ?_;clear hN N)))
   exact bd (b:=false) (.inl rfl) (sd @Nat.zero_add) (fK (lv fun h=>by
    rw[CK,tT]at h
    exact hq (qH.2 h.2.2)))
 ·have ml:k=s.aw.length:=ai
  (try((repeat(revert hN;revert N;apply Pn.out));refine wk (tw @a3 (tw @a0 (tw @hk @ad.eq_1))) ?_;(repeat(refine Pn.mk ?_;intro N hN))))
  refine bF (fun n env st=>∃j:Nat,n=(s.ah.length)-j/\j<=(s.ah.length)/\env 5=.int .i64 (j:Int)/\(∀i:Nat,i<j->Au s i)) (s.ah.length) ⟨0,ai,ai,sl (tw @a3 (tw @a0 @ad.eq_1)),fun _ h=>absurd h (Nat.not_lt_zero _)⟩ ?_
  rintro n_b env_b st_b ⟨j,rfl,ble,b5,bA0⟩ bfr
  have b0:=bfr 0 (by kernel_rfl)
  simp only[go_sem, ↓reduceIte,Nat.reduceEqDiff,Nat.reduceAdd,Nat.reduceSub,Nat.reduceLeDiff,reduceCtorEq,a3,a0,ad]at b0
  clear bfr
  by_cases hj:(j:Int)<(s.ah.length:Int)
  ·have j5:∀{e:Env},(e 5=.int .i64 (IntKind.i64.wrap ((j:Int)+1)))->(Au s j)->∃m0,m0<(s.ah.length)-j/\∃j:Nat,m0=(s.ah.length)-j/\j<=(s.ah.length)/\e 5=.int .i64 (j:Int)/\(∀i:Nat,i<j->Au s i):=fun x1 x2=>⟨_,ai,j+1,rfl,ai,(by rw[x1,aI ai]),(all_succ bA0 x2)⟩
   have hZ:j<s.ah.length:=ai
   have od:=zR hZ
   have rH:=FC (oD s j).aW (xY j hZ)
   have Gl:=GD s (oD s j).aW
   have qH:=Py hZ
   have lv:(¬Au s j)->¬lK s:=fun h hp=>h (hp.tok j hZ)
   generalize htd:oD s j=tl at *
   cases hb:jv tl.aW
   ·rw[hb]at rH
    (repeat(first|((repeat(revert hN;revert N;apply Pn.out));refine wk (tw @b5 (tw @b0 (tw @hj (tw @od (tw @bV.eq_1 @ad.eq_1))))) ?_;(repeat(refine Pn.mk ?_;intro N hN)))|((try apply Or.inl);refine⟨_,aq.x (rH) (sd (tw @b5 (tw @b0 (tw @hj (tw @od (tw @bV.eq_1 @ad.eq_1)))))),?_⟩;refine hN _ _ ?_;clear hN N)))
    exact bd (b:=false) (.inl rfl) (sd @Nat.zero_add) (fK (lv fun h=>by rw[Au,htd,hb]at h;cases h.1))
   rw[hb]at rH
   by_cases h4:(tl.b4.length:Int)=4
   ·have y8:decide ((tl.b4.length:Int)=4)=true:=decide_eq_true h4
    rw[ad]at Gl
    by_cases hq:Nq s tl.aW=(j:Int)
    ·have hd:decide (Nq s tl.aW=(j:Int))=true:=decide_eq_true hq
     (repeat(first|((repeat(revert hN;revert N;apply Pn.out));refine wk (tw @b5 (tw @b0 (tw @hj (tw @od (tw @y8 (tw @hd (tw @bV.eq_1 @ad.eq_1))))))) ?_;(repeat(refine Pn.mk ?_;intro N hN)))|((try apply Or.inl);refine⟨_,aq.x (rH) (sd (tw @b5 (tw @b0 (tw @hj (tw @od (tw @y8 (tw @hd (tw @bV.eq_1 @ad.eq_1)))))))),?_⟩;refine hN _ _ ?_;clear hN N)|((try apply Or.inl);refine⟨_,aq.x (Gl) (sd (tw @b5 (tw @b0 (tw @hj (tw @od (tw @y8 (tw @hd (tw @bV.eq_1 @ad.eq_1)))))))),?_⟩;refine hN _ _ ?_;clear hN N)))
     refine bF (fun n env st=>∃i:Nat,n=(4)-i/\i<=(4)/\env 7=.int .i64 (i:Int)/\st.get ⟨167012007,st_b.next+1⟩=some ⟨true,2,[bV tl]⟩/\(∀x:Nat,x<i->gM (tl.b4.getD x 0) 0 s.aw.length=true)) (4) ⟨0,ai,ai,sl (tw @b5 (tw @b0 (tw @bV.eq_1 @ad.eq_1))),sl (tw @b5 (tw @b0 (tw @bV.eq_1 @ad.eq_1))),fun _ h=>absurd h (Nat.not_lt_zero _)⟩ ?_
     rintro n_c env_c st_c ⟨i,rfl,cle,c7,cg0,cA0⟩ cfr
     have c0:=cfr 0 (by kernel_rfl);have c5:=cfr 5 (by kernel_rfl);have c6:=cfr 6 (by kernel_rfl)
     simp only[go_sem, ↓reduceIte,Nat.reduceEqDiff,Nat.reduceAdd,Nat.reduceSub,Nat.reduceLeDiff,reduceCtorEq,b5,b0,bV,ad]at c0 c5 c6
     clear cfr
     by_cases hi:(i:Int)<4
     ·have gW:∀{e:Env} {gg:Rows},(e 7=.int .i64 (IntKind.i64.wrap ((i:Int)+1)))->(gg ⟨167012007,st_b.next+1⟩=some ⟨true,2,[bV tl]⟩)->(gM (tl.b4.getD i 0) 0 s.aw.length=true)->∃m0,m0<(4)-i/\∃i:Nat,m0=(4)-i/\i<=(4)/\e 7=.int .i64 (i:Int)/\gg ⟨167012007,st_b.next+1⟩=some ⟨true,2,[bV tl]⟩/\(∀x:Nat,x<i->gM (tl.b4.getD x 0) 0 s.aw.length=true):=fun x1 x2 x3=>⟨_,ai,i+1,rfl,ai,(by rw[x1,aI ai]),x2,(all_succ cA0 x3)⟩
      have fP:i<tl.b4.length:=ai
      have kO:(tl.b4.map bt)[i]? =some (bt (tl.b4.getD i 0)):=getD_map bt fP
      have r8:tl.b4.getD i 0∈tl.b4:=by rw[List.getD_eq_getElem?_getD,List.getElem?_eq_getElem fP];exact List.getElem_mem fP
      have IK:=jH (tl.b4.getD i 0) 0 s.aw.length
      generalize OB:tl.b4.getD i 0=gv at *
      cases hv:gM gv 0 s.aw.length
      ·rw[hv]at IK
       (repeat(first|((repeat(revert hN;revert N;apply Pn.out));refine wk (tw @c7 (tw @cg0 (tw @c0 (tw @c5 (tw @c6 (tw @hi (tw @kO (tw @bt.eq_1 (tw @bV.eq_1 @ad.eq_1))))))))) ?_;(repeat(refine Pn.mk ?_;intro N hN)))|((try apply Or.inl);refine⟨_,aq.x (IK) (sd (tw @c7 (tw @cg0 (tw @c0 (tw @c5 (tw @c6 (tw @hi (tw @kO (tw @bt.eq_1 (tw @bV.eq_1 @ad.eq_1)))))))))),?_⟩;refine hN _ _ ?_;clear hN N)))
       exact bd (b:=false) (.inl rfl) (sd @Nat.zero_add) (fK (lv fun h=>by
        rw[Au,htd]at h
        have:=h.2.2.2 gv r8
        rw[hv]at this;cases this))
      ·rw[hv]at IK
       (repeat(first|((repeat(revert hN;revert N;apply Pn.out));refine wk (tw @c7 (tw @cg0 (tw @c0 (tw @c5 (tw @c6 (tw @hi (tw @kO (tw @bt.eq_1 (tw @bV.eq_1 @ad.eq_1))))))))) ?_;(repeat(refine Pn.mk ?_;intro N hN)))|((try apply Or.inl);refine⟨_,aq.x (IK) (sd (tw @c7 (tw @cg0 (tw @c0 (tw @c5 (tw @c6 (tw @hi (tw @kO (tw @bt.eq_1 (tw @bV.eq_1 @ad.eq_1)))))))))),?_⟩;refine hN _ _ ?_;clear hN N)))
       refine gW ?_ ?_ (hv)
       all_goals simp only[go_sem, ↓reduceIte,Nat.reduceEqDiff,Nat.reduceAdd,Nat.reduceSub,Nat.reduceLeDiff,reduceCtorEq,c7,cg0,c0,c5,c6]
     ·have hi4:i=4:=ai
      (try((repeat(revert hN;revert N;apply Pn.out));refine wk (tw @c7 (tw @cg0 (tw @c0 (tw @c5 (tw @c6 (tw @hi (tw @bV.eq_1 @ad.eq_1))))))) ?_;(repeat(refine Pn.mk ?_;intro N hN))))
      exact j5 (sd (tw @b5 (tw @b0 (tw @c7 (tw @cg0 (tw @c0 (tw @c5 @c6))))))) (⟨by rw[htd];exact hb,by rw[htd];omega,fun x hx=>(by rw[htd];exact qH.1 hq x hx),fun g hg=>by
       rw[htd]at hg
       obtain⟨x,hx,rfl⟩:=List.getElem_of_mem hg
       have:=cA0 x ai
       rwa [List.getD_eq_getElem?_getD,List.getElem?_eq_getElem hx]at this⟩)
    ·have hd:decide (Nq s tl.aW=(j:Int))=false:=decide_eq_false hq
     (repeat(first|((repeat(revert hN;revert N;apply Pn.out));refine wk (tw @b5 (tw @b0 (tw @hj (tw @od (tw @y8 (tw @hd (tw @bV.eq_1 @ad.eq_1))))))) ?_;(repeat(refine Pn.mk ?_;intro N hN)))|((try apply Or.inl);refine⟨_,aq.x (rH) (sd (tw @b5 (tw @b0 (tw @hj (tw @od (tw @y8 (tw @hd (tw @bV.eq_1 @ad.eq_1)))))))),?_⟩;refine hN _ _ ?_;clear hN N)|((try apply Or.inl);refine⟨_,aq.x (Gl) (sd (tw @b5 (tw @b0 (tw @hj (tw @od (tw @y8 (tw @hd (tw @bV.eq_1 @ad.eq_1)))))))),?_⟩;refine hN _ _ ?_;clear hN N)))
     exact bd (b:=false) (.inl rfl) (sd @Nat.zero_add) (fK (lv fun h=>by
      rw[Au,htd]at h
      exact hq (qH.2 h.2.2.1)))
   ·have y8:decide ((tl.b4.length:Int)=4)=false:=decide_eq_false h4
    (repeat(first|((repeat(revert hN;revert N;apply Pn.out));refine wk (tw @b5 (tw @b0 (tw @hj (tw @od (tw @y8 (tw @bV.eq_1 @ad.eq_1)))))) ?_;(repeat(refine Pn.mk ?_;intro N hN)))|((try apply Or.inl);refine⟨_,aq.x (rH) (sd (tw @b5 (tw @b0 (tw @hj (tw @od (tw @y8 (tw @bV.eq_1 @ad.eq_1))))))),?_⟩;refine hN _ _ ?_;clear hN N)))
    exact bd (b:=false) (.inl rfl) (sd @Nat.zero_add) (fK (lv fun h=>by rw[Au,htd]at h;have:=h.2.1;omega))
  ·(try((repeat(revert hN;revert N;apply Pn.out));refine wk (tw @b5 (tw @b0 (tw @hj @ad.eq_1))) ?_;(repeat(refine Pn.mk ?_;intro N hN))))
   exact bd (b:=true) (.inl rfl) (sd @Nat.zero_add) (Cd ⟨ai,ai,ai,fun i hi=>lG i ai,fun i hi=>bA0 i ai⟩)
end Go.Proofs.YtgoljkjaameagaaGreat.V

namespace Go.Proofs.YtgoljkjaameagaaGreat.V
def jI (a b:aO):Bool:=decide (a.eT<b.eT)||(decide (a.eT=b.eT)&&decide (a.fb<b.fb))
theorem tX {a b:aO}:jI a b=true↔a.eT<b.eT∨(a.eT=b.eT/\a.fb<b.fb):=by simp[jI]
theorem oO {a b:aO}:jI a b=false↔¬(a.eT<b.eT∨(a.eT=b.eT/\a.fb<b.fb)):=by rw[<-tX,Bool.not_eq_true]
theorem D9 {a b:aO} (h1:a.fb=b.fb) (h2:a.eT=b.eT):a=b:=by cases a;cases b;simp_all
theorem jA {a b c:aO} (h:jI a b=true) (k:jI b c=true):jI a c=true:=by rw[tX]at *;omega
theorem j9 {a:aO}:jI a a=false:=by rw[oO];omega
theorem Jj {a b:aO} (h:jI a b=true):jI b a=false:=by rw[tX]at h;rw[oO];omega
theorem Fw {a b:aO} (h:jI a b=false) (gP:a≠b):jI b a=true:=by
 rw[oO]at h;rw[tX]
 by_cases hy:a.eT=b.eT
 ·by_cases hx:a.fb=b.fb
  ·exact absurd (D9 hx hy) gP
  ·omega
 ·omega
def qy (a b:Int):Int:=if a<b then -1 else if b<a then 1 else 0
def L4 (a b:Int):Int:=if a=0 then b else a
def qz (a b:aO):Int:=L4 (qy a.eT b.eT) (qy a.fb b.fb)
theorem tK (a b:aO):decide (qz a b<0)=jI a b:=by
 unfold qz L4 qy jI
 by_cases h1:a.eT<b.eT
 ·simp[h1]
 ·by_cases h2:b.eT<a.eT
  ·have:¬a.eT=b.eT:=ai
   simp[h1,h2,this]
  ·have:a.eT=b.eT:=ai
   by_cases h3:a.fb<b.fb
   ·simp[h1,h2,this,h3]
   ·by_cases h4:b.fb<a.fb<;>simp[h1,h2,this,h3,h4]
theorem FW (a b:aO):(qz a b=0)↔a=b:=by
 cases a;cases b
 unfold qz L4 qy
 simp only[aO.mk.injEq]
 split<;>(try split)<;>(try split)<;>(try split)<;>omega
def Jr:ae:=⟨⟨0,0⟩,0⟩
def bG (l:List ae) (i:Nat):ae:=l.getD i Jr
theorem eZ {l:List ae} {i:Nat} (h:i<l.length):bG l i=l[i]:=by simp[bG,List.getD_eq_getElem?_getD,h]
theorem jf {l:List ae} {i:Nat} (h:i<l.length):bG l i∈l:=by rw[eZ h];exact List.getElem_mem h
def nI (l:List ae):Prop:=∀i j:Nat,i<j->j<l.length->jI (bG l i).bE (bG l j).bE=true
def pf (l:List ae) (p:aO):Nat:=l.findIdx fun c=>decide (c.bE=p)
def eO (l:List ae) (p:aO):Int:=if pf l p<l.length then(pf l p:Int)else -1
def qP (l:List ae) (p:aO):Nat:=l.findIdx fun c=> !jI c.bE p
theorem zt {l:List ae} {p:aO} {i:Nat} (hi:i<=l.length) (h1:∀x,x<i->jI (bG l x).bE p=true) (h2:i<l.length->jI (bG l i).bE p=false):qP l p=i:=by
 unfold qP
 by_cases h:i<l.length
 ·rw[List.findIdx_eq h]
  refine⟨by have:=h2 h;rw[eZ h]at this;simp[this],fun j hj=>?_⟩
  have:=h1 j hj
  rw[eZ ai]at this
  simp[this]
 ·have:i=l.length:=ai
  subst this
  refine List.findIdx_eq_length_of_false fun x hx=>?_
  obtain⟨j,hj,rfl⟩:=List.getElem_of_mem hx
  have:=h1 j hj
  rw[eZ hj]at this
  simp[this]
theorem Fu {l:List ae} {p:aO} (hR:nI l):eO l p=if qP l p<l.length/\(bG l (qP l p)).bE=p then(qP l p:Int)else -1:=by
 by_cases h:∃i,i<l.length/\(bG l i).bE=p
 ·obtain⟨i,hi,hp⟩:=h
  have h1:qP l p=i:=zt ai (fun x hx=>by rw[<-hp];exact hR x i hx hi) fun _=>by rw[hp];exact j9
  have h2:pf l p=i:=by
   rw[pf,List.findIdx_eq hi]
   refine⟨by rw[eZ hi]at hp;simpa using hp,fun j hj=>?_⟩
   have:=hR j i hj hi
   rw[hp,eZ ai]at this
   simp only[decide_eq_false_iff_not]
   intro hc
   rw[hc,j9]at this
   cases this
  rw[eO,h1,h2,if_pos hi,if_pos ⟨hi,hp⟩]
 ·have h2:¬pf l p<l.length:=by
   rw[pf,List.findIdx_lt_length]
   rintro⟨c,hc,he⟩
   obtain⟨j,hj,rfl⟩:=List.getElem_of_mem hc
   exact h ⟨j,hj,by rw[eZ hj];simpa using he⟩
  rw[eO,if_neg h2,if_neg]
  rintro⟨h3,h4⟩
  exact h ⟨_,h3,h4⟩
theorem lg {l:List ae} {p:aO} (h:0<=eO l p):(eO l p).toNat<l.length/\(bG l (eO l p).toNat).bE=p:=by
 unfold eO at h ⊢
 split at h
 ·rename_i hc
  rw[if_pos hc]
  refine⟨ai,?_⟩
  have:=of_decide_eq_true (List.findIdx_getElem (p:=fun c:ae=>decide (c.bE=p)) (xs:=l) (w:=hc))
  rw[Int.toNat_natCast,eZ hc]
  exact this
 ·omega
def nk (l:List ae) (p:aO):Int:=if 0<=eO l p then(bG l (eO l p).toNat).bR else -1
end Go.Proofs.YtgoljkjaameagaaGreat.V

namespace Go.Proofs.YtgoljkjaameagaaGreat.V
open Go.RowKit
attribute [local irreducible] dQ wpOps ft Call
attribute [local go_sem] aA eV ef e9 e8 cZ upd bQ K.av cr AV.cells AV.cell rowOf rowsOf part ld rowAt bD bL dm dD fE bu cK dO fa eF db dH cI cH dw dx bz aQ cz bx cD cC dF dI dG cw bC cJ dE bw az cF bZ fD bj cq bB aJ cX aX dn AV.undef bp br dy dC du dz cm dM dP bU dK dJ cE cG List.getD_cons_zero List.getD_cons_succ List.getD_nil List.all_cons List.all_nil Bool.and_true Bool.true_and Bool.and_self Bool.not_true Bool.not_false Option.map_some Option.map_none Option.bind_some Option.bind_none List.length_cons List.length_nil List.take_succ_cons List.take_zero List.take_nil List.drop_succ_cons List.drop_zero List.drop_nil List.head?_cons List.map_cons List.map_nil List.getElem?_cons_zero List.getElem?_cons_succ List.cons_append List.nil_append List.append_nil List.length_map List.set_cons_zero List.set_cons_succ Nat.reduceMul eq_self Int.toNat_natCast Int.natCast_nonneg and_self true_and and_true decide_true decide_false Bool.false_eq_true Nat.zero_add Nat.add_zero List.contains_cons List.contains_nil Bool.or_false Bool.false_or beq_self_eq_true Nat.reduceBEq ne_eq not_true_eq_false not_false_eq_true Id.mk.injEq false_and and_false Nat.reduceLT Int.reduceLE Int.reduceLT Int.reduceToNat Int.reduceNeg Int.reduceAdd Nat.le_refl List.length_append beq_true beq_false Bool.not_eq_eq_eq_not or_false false_or dR ab aj ay bo bJ aD aV aH aU cu bq
theorem nE (a b:aO):aq Tryz.prog 175 [.agg (ar a),.agg (ar b)] (.bool (jI a b)):=by
 refine aq.body eG rfl fun hl n0=>?_
 clear hl
 by_cases h0:a.eT<b.eT
 ·(try((repeat(revert hN;revert N;apply Pn.out));refine wk (tw @ar.eq_1 @h0) ?_;(repeat(refine Pn.mk ?_;intro N hN))))
  exact bd (b:=true) (.inl rfl) (sd @Nat.zero_add) (by simp[jI,h0])
 ·by_cases h1:a.eT=b.eT
  ·have h2:¬b.eT<b.eT:=ai
   (try((repeat(revert hN;revert N;apply Pn.out));refine wk (tw @ar.eq_1 (tw @h1 @h2)) ?_;(repeat(refine Pn.mk ?_;intro N hN))))
   exact bd (b:=decide (a.fb<b.fb)) (.inl rfl) (sd @Nat.zero_add) (by simp[jI,h1])
  ·(try((repeat(revert hN;revert N;apply Pn.out));refine wk (tw @ar.eq_1 (tw @h0 @h1)) ?_;(repeat(refine Pn.mk ?_;intro N hN))))
   exact bd (b:=false) (.inl rfl) (sd @Nat.zero_add) (by simp[jI,h0,h1])
theorem gw {l:List ae} {i:Nat} (h:i<l.length):(l.map aa)[i]? =some (aa (bG l i)):=getD_map aa h
def FN (l:List ae) (i:Nat):Prop:=D8 (bG l i).bE=true/\gM (bG l i).bR 0 159=true/\(0<i->jI (bG l (i-1)).bE (bG l i).bE=true)
structure kg (l:List ae):Prop where
 Hu:l.length<=500
 ok:∀i,i<l.length->FN l i
noncomputable def nV (l:List ae):Bool:=@decide (kg l) (Classical.propDecidable _)
theorem Ga {l:List ae}:nV l=true↔kg l:=by simp[nV]
theorem jN {l:List ae} (h:¬kg l):false=nV l:=by simp[nV,h]
theorem xP {l:List ae} (h:kg l):true=nV l:=by simp[nV,h]
theorem kg.Nk {l:List ae} (h:kg l):nI l:=by
 intro i j Gk hj
 induction j with
 |zero=>omega
 |succ j ih=>
  have h1:=(h.ok (j+1) hj).2.2 ai
  rw[Nat.add_sub_cancel]at h1
  by_cases he:i=j
  ·subst he;exact h1
  ·exact jA (ih ai ai) h1
theorem kg.pt {l:List ae} (h:kg l) {i:Nat} (hi:i<l.length):D8 (bG l i).bE=true:=(h.ok i hi).1
theorem JF {p:aO} (h:D8 p=true):iB p.fb/\iB p.eT:=by
 unfold D8 at h
 simp only[Bool.and_eq_true]at h
 have:=dX h.1;have:=dX h.2
 unfold iB;omega
theorem GF (l:List ae):aq Tryz.prog 219 [.dt [.sl (l.map aa)]] (.bool (nV l)):=by
 refine aq.body eG rfl fun hl n0=>?_
 clear hl
 by_cases h1:(500:Int)<(l.length:Int)
 ·(try((repeat(revert hN;revert N;apply Pn.out));refine wk @h1 ?_;(repeat(refine Pn.mk ?_;intro N hN))))
  exact bd (b:=false) (.inl rfl) (sd @Nat.zero_add) (jN fun h=>by have:=h.Hu;omega)
 (try((repeat(revert hN;revert N;apply Pn.out));refine wk @h1 ?_;(repeat(refine Pn.mk ?_;intro N hN))))
 refine bF (fun n env st=>∃k:Nat,n=(l.length)-k/\k<=(l.length)/\env 3=.int .i64 (k:Int)/\(∀j:Nat,j<k->FN l j)) (l.length) ⟨0,ai,ai,sl @Nat.zero_add,fun _ h=>absurd h (Nat.not_lt_zero _)⟩ ?_
 rintro n_a env_a st_a ⟨k,rfl,ale,a3,lG⟩ ev
 have a0:=ev 0 (by kernel_rfl)
 simp only[go_sem, ↓reduceIte,Nat.reduceEqDiff,Nat.reduceAdd,Nat.reduceSub,Nat.reduceLeDiff,reduceCtorEq]at a0
 clear ev
 by_cases hk:(k:Int)<(l.length:Int)
 ·have cY:∀{e:Env},(e 3=.int .i64 (IntKind.i64.wrap ((k:Int)+1)))->(FN l k)->∃m0,m0<(l.length)-k/\∃k:Nat,m0=(l.length)-k/\k<=(l.length)/\e 3=.int .i64 (k:Int)/\(∀j:Nat,j<k->FN l j):=fun x1 x2=>⟨_,ai,k+1,rfl,ai,(by rw[x1,aI ai]),(all_succ lG x2)⟩
  have fM:k<l.length:=ai
  have eU:=gw fM
  have lv:(¬FN l k)->¬kg l:=fun h hp=>h (hp.ok k fM)
  have hp:=DH (bG l k).bE
  have ht:=jH (bG l k).bR 0 159
  cases b1:D8 (bG l k).bE
  ·rw[b1]at hp
   (repeat(first|((repeat(revert hN;revert N;apply Pn.out));refine wk (tw @a3 (tw @a0 (tw @hk (tw @eU (tw @aa.eq_1 @ar.eq_1))))) ?_;(repeat(refine Pn.mk ?_;intro N hN)))|((try apply Or.inl);refine⟨_,aq.x (hp) (sd (tw @a3 (tw @a0 (tw @hk (tw @eU (tw @aa.eq_1 @ar.eq_1)))))),?_⟩;refine hN _ _ ?_;clear hN N)))
   exact bd (b:=false) (.inl rfl) (sd @Nat.zero_add) (jN (lv fun h=>by rw[FN,b1]at h;cases h.1))
  rw[b1]at hp
  cases b2:gM (bG l k).bR 0 159
  ·rw[b2]at ht
   (repeat(first|((repeat(revert hN;revert N;apply Pn.out));refine wk (tw @a3 (tw @a0 (tw @hk (tw @eU (tw @aa.eq_1 @ar.eq_1))))) ?_;(repeat(refine Pn.mk ?_;intro N hN)))|((try apply Or.inl);refine⟨_,aq.x (hp) (sd (tw @a3 (tw @a0 (tw @hk (tw @eU (tw @aa.eq_1 @ar.eq_1)))))),?_⟩;refine hN _ _ ?_;clear hN N)|((try apply Or.inl);refine⟨_,aq.x (ht) (sd (tw @a3 (tw @a0 (tw @hk (tw @eU (tw @aa.eq_1 @ar.eq_1)))))),?_⟩;refine hN _ _ ?_;clear hN N)))
   exact bd (b:=false) (.inl rfl) (sd @Nat.zero_add) (jN (lv fun h=>by rw[FN,b2]at h;cases h.2.1))
  rw[b2]at ht
  by_cases h0:(0:Int)<(k:Int)
  ·have uP:=gw (l:=l) (i:=k-1) ai
   have hw:IntKind.i64.wrap ((k:Int)-1)=((k-1:Nat):Int):=by rw[bP (by have:=fM;omega)];omega
   have hq:=nE (bG l (k-1)).bE (bG l k).bE
   cases b3:jI (bG l (k-1)).bE (bG l k).bE
   ·rw[b3]at hq
    (repeat(first|((repeat(revert hN;revert N;apply Pn.out));refine wk (tw @a3 (tw @a0 (tw @hk (tw @eU (tw @uP (tw @h0 (tw @hw (tw @aa.eq_1 @ar.eq_1)))))))) ?_;(repeat(refine Pn.mk ?_;intro N hN)))|((try apply Or.inl);refine⟨_,aq.x (hp) (sd (tw @a3 (tw @a0 (tw @hk (tw @eU (tw @uP (tw @h0 (tw @hw (tw @aa.eq_1 @ar.eq_1))))))))),?_⟩;refine hN _ _ ?_;clear hN N)|((try apply Or.inl);refine⟨_,aq.x (ht) (sd (tw @a3 (tw @a0 (tw @hk (tw @eU (tw @uP (tw @h0 (tw @hw (tw @aa.eq_1 @ar.eq_1))))))))),?_⟩;refine hN _ _ ?_;clear hN N)|((try apply Or.inl);refine⟨_,aq.x (hq) (sd (tw @a3 (tw @a0 (tw @hk (tw @eU (tw @uP (tw @h0 (tw @hw (tw @aa.eq_1 @ar.eq_1))))))))),?_⟩;refine hN _ _ ?_;clear hN N)))
    exact bd (b:=false) (.inl rfl) (sd @Nat.zero_add) (jN (lv fun h=>by have:=h.2.2 ai;rw[b3]at this;cases this))
   ·rw[b3]at hq
    (repeat(first|((repeat(revert hN;revert N;apply Pn.out));refine wk (tw @a3 (tw @a0 (tw @hk (tw @eU (tw @uP (tw @h0 (tw @hw (tw @aa.eq_1 @ar.eq_1)))))))) ?_;(repeat(refine Pn.mk ?_;intro N hN)))|((try apply Or.inl);refine⟨_,aq.x (hp) (sd (tw @a3 (tw @a0 (tw @hk (tw @eU (tw @uP (tw @h0 (tw @hw (tw @aa.eq_1 @ar.eq_1))))))))),?_⟩;refine hN _ _ ?_;clear hN N)|((try apply Or.inl);refine⟨_,aq.x (ht) (sd (tw @a3 (tw @a0 (tw @hk (tw @eU (tw @uP (tw @h0 (tw @hw (tw @aa.eq_1 @ar.eq_1))))))))),?_⟩;refine hN _ _ ?_;clear hN N)|((try apply Or.inl);refine⟨_,aq.x (hq) (sd (tw @a3 (tw @a0 (tw @hk (tw @eU (tw @uP (tw @h0 (tw @hw (tw @aa.eq_1 @ar.eq_1))))))))),?_⟩;refine hN _ _ ?_;clear hN N)))
    exact cY (sd (tw @a3 @a0)) (⟨b1,b2,fun _=>b3⟩)
  ·have r6:k=0:=ai
   (repeat(first|((repeat(revert hN;revert N;apply Pn.out));refine wk (tw @a3 (tw @a0 (tw @hk (tw @eU (tw @h0 (tw @aa.eq_1 @ar.eq_1)))))) ?_;(repeat(refine Pn.mk ?_;intro N hN)))|((try apply Or.inl);refine⟨_,aq.x (hp) (sd (tw @a3 (tw @a0 (tw @hk (tw @eU (tw @h0 (tw @aa.eq_1 @ar.eq_1))))))),?_⟩;refine hN _ _ ?_;clear hN N)|((try apply Or.inl);refine⟨_,aq.x (ht) (sd (tw @a3 (tw @a0 (tw @hk (tw @eU (tw @h0 (tw @aa.eq_1 @ar.eq_1))))))),?_⟩;refine hN _ _ ?_;clear hN N)))
   exact cY (sd (tw @a3 @a0)) (⟨b1,b2,fun h=>ai⟩)
 ·(try((repeat(revert hN;revert N;apply Pn.out));refine wk (tw @a3 (tw @a0 @hk)) ?_;(repeat(refine Pn.mk ?_;intro N hN))))
  exact bd (b:=true) (.inl rfl) (sd @Nat.zero_add) (xP ⟨ai,fun i hi=>lG i ai⟩)
theorem xK (a b:Int):aq Tryz.prog 210 [.int .i64 a,.int .i64 b] (.int .i64 (qy a b)):=by
 have nan:∀x:Int,aq Tryz.prog 273 [.int .i64 x] (.bool false):=fun x=>by
  refine aq.body eG rfl fun hl n0=>?_
  clear hl
  have e:decide (x=x)=true:=decide_eq_true rfl
  (try((repeat(revert hN;revert N;apply Pn.out));refine wk @e ?_;(repeat(refine Pn.mk ?_;intro N hN))))
  exact bd (b:=false) (.inl rfl) (sd @Nat.zero_add) rfl
 refine aq.body eG rfl fun hl n0=>?_
 clear hl
 have ha:=nan a
 have hb:=nan b
 by_cases h1:a<b
 ·(repeat(first|((repeat(revert hN;revert N;apply Pn.out));refine wk @h1 ?_;(repeat(refine Pn.mk ?_;intro N hN)))|((try apply Or.inl);refine⟨_,aq.x (ha) (sd @h1),?_⟩;refine hN _ _ ?_;clear hN N)|((try apply Or.inl);refine⟨_,aq.x (hb) (sd @h1),?_⟩;refine hN _ _ ?_;clear hN N)))
  exact cR (b:=-1) (.inl rfl) (sd @Nat.zero_add) (by rw[qy,if_pos h1])
 by_cases h2:b<a
 ·(repeat(first|((repeat(revert hN;revert N;apply Pn.out));refine wk (tw @h1 @h2) ?_;(repeat(refine Pn.mk ?_;intro N hN)))|((try apply Or.inl);refine⟨_,aq.x (ha) (sd (tw @h1 @h2)),?_⟩;refine hN _ _ ?_;clear hN N)|((try apply Or.inl);refine⟨_,aq.x (hb) (sd (tw @h1 @h2)),?_⟩;refine hN _ _ ?_;clear hN N)))
  exact cR (b:=1) (.inl rfl) (sd @Nat.zero_add) (by rw[qy,if_neg h1,if_pos h2])
 ·(repeat(first|((repeat(revert hN;revert N;apply Pn.out));refine wk (tw @h1 @h2) ?_;(repeat(refine Pn.mk ?_;intro N hN)))|((try apply Or.inl);refine⟨_,aq.x (ha) (sd (tw @h1 @h2)),?_⟩;refine hN _ _ ?_;clear hN N)|((try apply Or.inl);refine⟨_,aq.x (hb) (sd (tw @h1 @h2)),?_⟩;refine hN _ _ ?_;clear hN N)))
  exact cR (b:=0) (.inl rfl) (sd @Nat.zero_add) (by rw[qy,if_neg h1,if_neg h2])
def HD:List Int->Int
 |[]=>0
 |a::r=>if a=0 then HD r else a
theorem Jw:∀{l:List Int} {k:Nat} (hk:k<l.length),l[k]≠0->(∀j (h:j<l.length),j<k->l[j]=0)->HD l=l[k]
 |a::r,0,_,h,_=>by
  have h':a≠0:=h
  rw[HD,if_neg h'];rfl
 |a::r,k+1,hk,h,h0=>by
  have h':a=0:=h0 0 (by simp) ai
  rw[HD,if_pos h',Jw (k:=k) (by simpa using hk) h fun j hj xV=>h0 (j+1) (by simpa using hj) ai];rfl
theorem BZ:∀{l:List Int},(∀j (h:j<l.length),l[j]=0)->HD l=0
 |[],_=>rfl
 |a::r,h=>by
  have h':a=0:=h 0 (by simp)
  rw[HD,if_pos h',BZ fun j hj=>h (j+1) (by simpa using hj)]
theorem L5 (a b:Int):HD [a,b]=L4 a b:=by
 unfold L4
 by_cases h:a=0
 ·rw[HD,if_pos h,if_pos h,HD,HD];split<;>simp_all
 ·rw[HD,if_neg h,if_neg h]
theorem KV (l:List Int):aq Tryz.prog 233 [.sl (l.map bt)] (.int .i64 (HD l)):=by
 refine aq.body eG rfl fun hl n0=>?_
 have hlen:l.length<=9223372036854775807:=by simpa using(hl (.sl (l.map bt)) (by simp)).len
 clear hl
 (try((repeat(revert hN;revert N;apply Pn.out));refine wk @Nat.zero_add ?_;(repeat(refine Pn.mk ?_;intro N hN))))
 refine bF (fun n env st=>∃k:Nat,n=(l.length)-k/\k<=(l.length)/\env 8=.int .i64 (k:Int)/\(∀j:Nat,j<k->∀h:j<l.length,l[j]=0)) (l.length) ⟨0,ai,ai,sl @Nat.zero_add,fun _ h=>absurd h (Nat.not_lt_zero _)⟩ ?_
 rintro n_a env_a st_a ⟨k,rfl,ale,a8,lG⟩ ev
 have a3:=ev 3 (by kernel_rfl);have a6:=ev 6 (by kernel_rfl);have a7:=ev 7 (by kernel_rfl)
 simp only[go_sem, ↓reduceIte,Nat.reduceEqDiff,Nat.reduceAdd,Nat.reduceSub,Nat.reduceLeDiff,reduceCtorEq]at a3 a6 a7
 clear ev
 by_cases hk:(k:Int)<(l.length:Int)
 ·have cY:∀{e:Env},(e 8=.int .i64 (IntKind.i64.wrap ((k:Int)+1)))->(∀h:k<l.length,l[k]=0)->∃m0,m0<(l.length)-k/\∃k:Nat,m0=(l.length)-k/\k<=(l.length)/\e 8=.int .i64 (k:Int)/\(∀j:Nat,j<k->∀h:j<l.length,l[j]=0):=fun x1 x2=>⟨_,ai,k+1,rfl,ai,(by rw[x1,aI ai]),(all_succ lG x2)⟩
  have fM:k<l.length:=ai
  have eU:(l.map bt)[k]? =some (bt l[k]):=by simp[fM]
  generalize hv:l[k]=v at eU
  by_cases h0:v=0
  ·have e:decide (v=0)=true:=decide_eq_true h0
   (try((repeat(revert hN;revert N;apply Pn.out));refine wk (tw @a8 (tw @a3 (tw @a6 (tw @a7 (tw @e (tw @hk (tw @eU @bt.eq_1))))))) ?_;(repeat(refine Pn.mk ?_;intro N hN))))
   exact cY (sd (tw @a8 (tw @a3 (tw @a6 @a7)))) (fun _=>hv.trans h0)
  ·have e:decide (v=0)=false:=decide_eq_false h0
   (try((repeat(revert hN;revert N;apply Pn.out));refine wk (tw @a8 (tw @a3 (tw @a6 (tw @a7 (tw @e (tw @hk (tw @eU @bt.eq_1))))))) ?_;(repeat(refine Pn.mk ?_;intro N hN))))
   exact cR (b:=v) (.inl rfl) (sd @Nat.zero_add) (by rw[Jw fM (by rw[hv];exact h0) fun j h hj=>lG j hj h,hv])
 ·(try((repeat(revert hN;revert N;apply Pn.out));refine wk (tw @a8 (tw @a3 (tw @a6 (tw @a7 @hk)))) ?_;(repeat(refine Pn.mk ?_;intro N hN))))
  exact cR (b:=0) (.inl rfl) (sd @Nat.zero_add) (by rw[BZ fun j h=>lG j ai h])
section
attribute [local go_sem] List.drop_zero List.take_succ_cons List.take_zero List.length_cons List.length_nil gV y5 nW
theorem mV (a b:aO):aq Tryz.prog 154 [.agg (ar a),.agg (ar b)] (.int .i64 (qz a b)):=by
 refine aq.body eG rfl fun hl n0=>?_
 clear hl
 have h1:=xK a.eT b.eT
 have h2:=xK a.fb b.fb
 have h3:=KV [qy a.eT b.eT,qy a.fb b.fb]
 rw[L5,List.map_cons,List.map_cons,List.map_nil,bt,bt]at h3
 (repeat(first|((repeat(revert hN;revert N;apply Pn.out));refine wk @ar.eq_1 ?_;(repeat(refine Pn.mk ?_;intro N hN)))|((try apply Or.inl);refine⟨_,aq.x (h1) (sd @ar.eq_1),?_⟩;refine hN _ _ ?_;clear hN N)|((try apply Or.inl);refine⟨_,aq.x (h2) (sd @ar.eq_1),?_⟩;refine hN _ _ ?_;clear hN N)|((try apply Or.inl);refine⟨_,aq.x (h3) (sd @ar.eq_1),?_⟩;refine hN _ _ ?_;clear hN N)))
 exact cR (b:=qz a b) (.inl rfl) (by simp only[go_sem, ↓reduceIte,Nat.reduceEqDiff,Nat.reduceAdd,Nat.reduceSub,Nat.reduceLeDiff,reduceCtorEq,qz]) rfl
end
theorem LC (a b:aO):aq Tryz.prog 179 [.agg (ar a),.agg (ar b)] (.bool (jI a b)):=by
 refine aq.body eG rfl fun hl n0=>?_
 clear hl
 have h1:=mV a b
 rw[ar,ar]at h1
 (repeat(first|((repeat(revert hN;revert N;apply Pn.out));refine wk @ar.eq_1 ?_;(repeat(refine Pn.mk ?_;intro N hN)))|((try apply Or.inl);refine⟨_,aq.x (h1) (sd @ar.eq_1),?_⟩;refine hN _ _ ?_;clear hN N)))
 exact bd (b:=decide (qz a b<0)) (.inl rfl) (sd @Nat.zero_add) (tK a b)
theorem jW (t:ae) (p:aO):aq Tryz.prog 164 [.agg (aa t),.agg (ar p)] (.int .i64 (qz t.bE p)):=by
 refine aq.body eG rfl fun hl n0=>?_
 clear hl
 have h1:=mV t.bE p
 rw[ar,ar]at h1
 (repeat(first|((repeat(revert hN;revert N;apply Pn.out));refine wk (tw @aa.eq_1 @ar.eq_1) ?_;(repeat(refine Pn.mk ?_;intro N hN)))|((try apply Or.inl);refine⟨_,aq.x (h1) (sd (tw @aa.eq_1 @ar.eq_1)),?_⟩;refine hN _ _ ?_;clear hN N)))
 exact cR (b:=qz t.bE p) (.inl rfl) (sd @Nat.zero_add) rfl
theorem Ge (l:List ae):aq Tryz.prog 200 [.agg [.sl (l.map aa)]] (.bool (nV l)):=by
 refine aq.body eG rfl fun hl n0=>?_
 have hlen:l.length<=9223372036854775807:=by
  have h1:=(hl (.agg [.sl (l.map aa)]) (by simp)).NG (a:=.sl (l.map aa)) (by simp)
  simpa using h1.len
 clear hl
 (try((repeat(revert hN;revert N;apply Pn.out));refine wk @Nat.zero_add ?_;(repeat(refine Pn.mk ?_;intro N hN))))
 refine bF (fun n env st=>∃k:Nat,n=(l.length)-k/\k<=(l.length)/\env 8=.int .i64 (k:Int)/\st.get ⟨200000000,n0⟩=some ⟨true,1,[[.sl (l.map aa)]]⟩/\(∀j:Nat,j<k->FN l j)) (l.length) ⟨0,ai,ai,sl @Nat.zero_add,sl @Nat.zero_add,fun _ h=>absurd h (Nat.not_lt_zero _)⟩ ?_
 rintro n_a env_a st_a ⟨k,rfl,ale,a8,ag0,lG⟩ ev
 have a1:=ev 1 (by kernel_rfl);have a6:=ev 6 (by kernel_rfl);have a7:=ev 7 (by kernel_rfl)
 simp only[go_sem, ↓reduceIte,Nat.reduceEqDiff,Nat.reduceAdd,Nat.reduceSub,Nat.reduceLeDiff,reduceCtorEq]at a1 a6 a7
 clear ev
 by_cases hk:(k:Int)<(l.length:Int)
 ·have cY:∀{e:Env} {gg:Rows},(e 8=.int .i64 (IntKind.i64.wrap ((k:Int)+1)))->(gg ⟨200000000,n0⟩=some ⟨true,1,[[.sl (l.map aa)]]⟩)->(FN l k)->∃m0,m0<(l.length)-k/\∃k:Nat,m0=(l.length)-k/\k<=(l.length)/\e 8=.int .i64 (k:Int)/\gg ⟨200000000,n0⟩=some ⟨true,1,[[.sl (l.map aa)]]⟩/\(∀j:Nat,j<k->FN l j):=fun x1 x2 x3=>⟨_,ai,k+1,rfl,ai,(by rw[x1,aI ai]),x2,(all_succ lG x3)⟩
  have fM:k<l.length:=ai
  have eU:=gw fM
  have lv:(¬FN l k)->¬kg l:=fun h hp=>h (hp.ok k fM)
  have hp:=yO (bG l k).bE
  have ht:=ya (bG l k).bR 160 ai ai
  rw[show(160:Int)-1=159 from rfl]at ht
  cases b1:D8 (bG l k).bE
  ·rw[b1]at hp
   (repeat(first|((repeat(revert hN;revert N;apply Pn.out));refine wk (tw @a8 (tw @ag0 (tw @a1 (tw @a6 (tw @a7 (tw @hk (tw @eU (tw @aa.eq_1 @ar.eq_1)))))))) ?_;(repeat(refine Pn.mk ?_;intro N hN)))|((try apply Or.inl);refine⟨_,aq.x (hp) (sd (tw @a8 (tw @ag0 (tw @a1 (tw @a6 (tw @a7 (tw @hk (tw @eU (tw @aa.eq_1 @ar.eq_1))))))))),?_⟩;refine hN _ _ ?_;clear hN N)))
   exact bd (b:=false) (.inl rfl) (sd @Nat.zero_add) (jN (lv fun h=>by rw[FN,b1]at h;cases h.1))
  rw[b1]at hp
  cases b2:gM (bG l k).bR 0 159
  ·rw[b2]at ht
   (repeat(first|((repeat(revert hN;revert N;apply Pn.out));refine wk (tw @a8 (tw @ag0 (tw @a1 (tw @a6 (tw @a7 (tw @hk (tw @eU (tw @aa.eq_1 @ar.eq_1)))))))) ?_;(repeat(refine Pn.mk ?_;intro N hN)))|((try apply Or.inl);refine⟨_,aq.x (hp) (sd (tw @a8 (tw @ag0 (tw @a1 (tw @a6 (tw @a7 (tw @hk (tw @eU (tw @aa.eq_1 @ar.eq_1))))))))),?_⟩;refine hN _ _ ?_;clear hN N)|((try apply Or.inl);refine⟨_,aq.x (ht) (sd (tw @a8 (tw @ag0 (tw @a1 (tw @a6 (tw @a7 (tw @hk (tw @eU (tw @aa.eq_1 @ar.eq_1))))))))),?_⟩;refine hN _ _ ?_;clear hN N)))
   exact bd (b:=false) (.inl rfl) (sd @Nat.zero_add) (jN (lv fun h=>by rw[FN,b2]at h;cases h.2.1))
  rw[b2]at ht
  by_cases h0:(0:Int)<(k:Int)
  ·have uP:=gw (l:=l) (i:=k-1) ai
   have hw:IntKind.i64.wrap ((k:Int)-1)=((k-1:Nat):Int):=by rw[bP ai];omega
   have hq:=LC (bG l (k-1)).bE (bG l k).bE
   cases b3:jI (bG l (k-1)).bE (bG l k).bE
   ·rw[b3]at hq
    (repeat(first|((repeat(revert hN;revert N;apply Pn.out));refine wk (tw @a8 (tw @ag0 (tw @a1 (tw @a6 (tw @a7 (tw @hk (tw @eU (tw @uP (tw @h0 (tw @hw (tw @aa.eq_1 @ar.eq_1))))))))))) ?_;(repeat(refine Pn.mk ?_;intro N hN)))|((try apply Or.inl);refine⟨_,aq.x (hp) (sd (tw @a8 (tw @ag0 (tw @a1 (tw @a6 (tw @a7 (tw @hk (tw @eU (tw @uP (tw @h0 (tw @hw (tw @aa.eq_1 @ar.eq_1)))))))))))),?_⟩;refine hN _ _ ?_;clear hN N)|((try apply Or.inl);refine⟨_,aq.x (ht) (sd (tw @a8 (tw @ag0 (tw @a1 (tw @a6 (tw @a7 (tw @hk (tw @eU (tw @uP (tw @h0 (tw @hw (tw @aa.eq_1 @ar.eq_1)))))))))))),?_⟩;refine hN _ _ ?_;clear hN N)|((try apply Or.inl);refine⟨_,aq.x (hq) (sd (tw @a8 (tw @ag0 (tw @a1 (tw @a6 (tw @a7 (tw @hk (tw @eU (tw @uP (tw @h0 (tw @hw (tw @aa.eq_1 @ar.eq_1)))))))))))),?_⟩;refine hN _ _ ?_;clear hN N)))
    exact bd (b:=false) (.inl rfl) (sd @Nat.zero_add) (jN (lv fun h=>by have:=h.2.2 ai;rw[b3]at this;cases this))
   ·rw[b3]at hq
    (repeat(first|((repeat(revert hN;revert N;apply Pn.out));refine wk (tw @a8 (tw @ag0 (tw @a1 (tw @a6 (tw @a7 (tw @hk (tw @eU (tw @uP (tw @h0 (tw @hw (tw @aa.eq_1 @ar.eq_1))))))))))) ?_;(repeat(refine Pn.mk ?_;intro N hN)))|((try apply Or.inl);refine⟨_,aq.x (hp) (sd (tw @a8 (tw @ag0 (tw @a1 (tw @a6 (tw @a7 (tw @hk (tw @eU (tw @uP (tw @h0 (tw @hw (tw @aa.eq_1 @ar.eq_1)))))))))))),?_⟩;refine hN _ _ ?_;clear hN N)|((try apply Or.inl);refine⟨_,aq.x (ht) (sd (tw @a8 (tw @ag0 (tw @a1 (tw @a6 (tw @a7 (tw @hk (tw @eU (tw @uP (tw @h0 (tw @hw (tw @aa.eq_1 @ar.eq_1)))))))))))),?_⟩;refine hN _ _ ?_;clear hN N)|((try apply Or.inl);refine⟨_,aq.x (hq) (sd (tw @a8 (tw @ag0 (tw @a1 (tw @a6 (tw @a7 (tw @hk (tw @eU (tw @uP (tw @h0 (tw @hw (tw @aa.eq_1 @ar.eq_1)))))))))))),?_⟩;refine hN _ _ ?_;clear hN N)))
    refine cY ?_ ?_ (⟨b1,b2,fun _=>b3⟩)
    all_goals simp only[go_sem, ↓reduceIte,Nat.reduceEqDiff,Nat.reduceAdd,Nat.reduceSub,Nat.reduceLeDiff,reduceCtorEq,a8,ag0,a1,a6,a7]
  ·have r6:k=0:=ai
   (repeat(first|((repeat(revert hN;revert N;apply Pn.out));refine wk (tw @a8 (tw @ag0 (tw @a1 (tw @a6 (tw @a7 (tw @hk (tw @eU (tw @h0 (tw @aa.eq_1 @ar.eq_1))))))))) ?_;(repeat(refine Pn.mk ?_;intro N hN)))|((try apply Or.inl);refine⟨_,aq.x (hp) (sd (tw @a8 (tw @ag0 (tw @a1 (tw @a6 (tw @a7 (tw @hk (tw @eU (tw @h0 (tw @aa.eq_1 @ar.eq_1)))))))))),?_⟩;refine hN _ _ ?_;clear hN N)|((try apply Or.inl);refine⟨_,aq.x (ht) (sd (tw @a8 (tw @ag0 (tw @a1 (tw @a6 (tw @a7 (tw @hk (tw @eU (tw @h0 (tw @aa.eq_1 @ar.eq_1)))))))))),?_⟩;refine hN _ _ ?_;clear hN N)))
   refine cY ?_ ?_ (⟨b1,b2,fun h=>ai⟩)
   all_goals simp only[go_sem, ↓reduceIte,Nat.reduceEqDiff,Nat.reduceAdd,Nat.reduceSub,Nat.reduceLeDiff,reduceCtorEq,a8,ag0,a1,a6,a7]
 ·(try((repeat(revert hN;revert N;apply Pn.out));refine wk (tw @a8 (tw @ag0 (tw @a1 (tw @a6 (tw @a7 @hk))))) ?_;(repeat(refine Pn.mk ?_;intro N hN))))
  refine bd (b:=decide ((l.length:Int)<=500)) (.inl rfl) (sd @Nat.zero_add) ?_
  by_cases h5:(l.length:Int)<=500
  ·rw[decide_eq_true h5];exact xP ⟨ai,fun i hi=>lG i ai⟩
  ·rw[decide_eq_false h5];exact jN fun h=>by have:=h.Hu;omega
theorem FU (cells:List ae) (p:aO) (hR:nI cells) (Of:cells.length<=1048576):
  aq Tryz.prog 163 [.sl (cells.map aa),.agg (ar p),.fn 164 []] (.gn [.int .i64 (qP cells p),.bool (decide (qP cells p<cells.length)&&decide ((bG cells (qP cells p)).bE=p))]):=by
 refine aq.body eG rfl fun hl n0=>?_
 clear hl
 (try((repeat(revert hN;revert N;apply Pn.out));refine wk @ar.eq_1 ?_;(repeat(refine Pn.mk ?_;intro N hN))))
 refine bF (fun n env st=>∃i j:Nat,n=j-i/\i<=j/\j<=cells.length/\(∀x,x<i->jI (bG cells x).bE p=true)/\(∀x,j<=x->x<cells.length->jI (bG cells x).bE p=false)/\env 9=.int .i64 i/\env 10=.int .i64 j/\st.get ⟨163000000,n0⟩=some ⟨true,2,[ar p]⟩) cells.length ⟨0,cells.length,ai,ai,ai,fun x h=>ai,fun x h1 h2=>ai,by(simp only[go_sem, ↓reduceIte,Nat.reduceEqDiff,Nat.reduceAdd,Nat.reduceSub,Nat.reduceLeDiff,reduceCtorEq])<;>rfl,sd @Nat.zero_add,sd @ar.eq_1⟩ ?_
 rintro n env st ⟨i,j,rfl,Gk,hj,ju,Cz,h9,h10,hg⟩ fr
 have h0:=fr 0 (by kernel_rfl)
 have h2:=fr 2 (by kernel_rfl)
 have h4:=fr 4 (by kernel_rfl)
 have h8:=fr 8 (by kernel_rfl)
 simp only[go_sem, ↓reduceIte,Nat.reduceEqDiff,Nat.reduceAdd,Nat.reduceSub,Nat.reduceLeDiff,reduceCtorEq]at h0 h2 h4 h8
 clear fr
 by_cases eh:(i:Int)<(j:Int)
 ·have e1:IntKind.i64.wrap ((i:Int)+j)=((i+j:Nat):Int):=by rw[bP ai];rfl
  have hm:(i+j) / 2<cells.length:=ai
  have fq:(cells.map aa)[(i+j) / 2]? =some (aa (bG cells ((i+j) / 2))):=gw (l:=cells) hm
  have e2:IntKind.i64.wrap ((IntKind.u64.wrap ((i+j:Nat):Int)).fdiv (2 ^ min 1 IntKind.u64.bits))=(((i+j) / 2:Nat):Int):=by
   have h:IntKind.u64.wrap ((i+j:Nat):Int)=((i+j:Nat):Int):=by rw[IntKind.wrap_u64];omega
   rw[h,show min 1 IntKind.u64.bits=1 from rfl,show((2:Int) ^ 1)=2 from rfl,Int.fdiv_eq_ediv_of_nonneg _ ai]
   rw[bP ai];omega
  have QJ:IntKind.i64.wrap ((IntKind.u64.wrap ((i+j:Nat):Int)).fdiv (2 ^ min 1 64))=(((i+j) / 2:Nat):Int):=e2
  have e3:=aI (k:=(i+j) / 2) ai
  by_cases hc:qz (bG cells ((i+j) / 2)).bE p<0
  ·have hl:jI (bG cells ((i+j) / 2)).bE p=true:=by rw[<-tK];simpa using hc
   (repeat(first|((repeat(revert hN;revert N;apply Pn.out));refine wk (tw @h0 (tw @h2 (tw @h4 (tw @h8 (tw @h9 (tw @h10 (tw @hg (tw @eh (tw @e1 (tw @e2 (tw @QJ (tw @fq (tw @hc (tw @aa.eq_1 @ar.eq_1)))))))))))))) ?_;(repeat(refine Pn.mk ?_;intro N hN)))|((try apply Or.inl);refine⟨_,aq.x (jW (bG cells ((i+j) / 2)) p) (sd (tw @h0 (tw @h2 (tw @h4 (tw @h8 (tw @h9 (tw @h10 (tw @hg (tw @eh (tw @e1 (tw @e2 (tw @QJ (tw @fq (tw @hc (tw @aa.eq_1 @ar.eq_1))))))))))))))),?_⟩;refine hN _ _ ?_;clear hN N)))
   refine⟨_,?_,(i+j) / 2+1,j,rfl,ai,hj,fun x hx=>?_,Cz,sd @e3,sd @h10,sd (tw @hg @ar.eq_1)⟩
   ·omega
   ·by_cases O0:x=(i+j) / 2
    ·subst O0;exact hl
    ·exact jA (hR x _ ai hm) hl
  ·have hl:jI (bG cells ((i+j) / 2)).bE p=false:=by rw[<-tK];simpa using hc
   (repeat(first|((repeat(revert hN;revert N;apply Pn.out));refine wk (tw @h0 (tw @h2 (tw @h4 (tw @h8 (tw @h9 (tw @h10 (tw @hg (tw @eh (tw @e1 (tw @e2 (tw @QJ (tw @fq (tw @hc (tw @aa.eq_1 @ar.eq_1)))))))))))))) ?_;(repeat(refine Pn.mk ?_;intro N hN)))|((try apply Or.inl);refine⟨_,aq.x (jW (bG cells ((i+j) / 2)) p) (sd (tw @h0 (tw @h2 (tw @h4 (tw @h8 (tw @h9 (tw @h10 (tw @hg (tw @eh (tw @e1 (tw @e2 (tw @QJ (tw @fq (tw @hc (tw @aa.eq_1 @ar.eq_1))))))))))))))),?_⟩;refine hN _ _ ?_;clear hN N)))
   refine⟨_,?_,i,(i+j) / 2,rfl,ai,ai,ju,fun x h1 h2=>?_,sd @h9,sd (tw @e2 @QJ),sd (tw @hg @ar.eq_1)⟩
   ·omega
   ·by_cases O0:x=(i+j) / 2
    ·subst O0;exact hl
    ·rw[Bool.eq_false_iff]
     intro hc
     have h3:=jA (hR ((i+j) / 2) x ai h2) hc
     rw[hl]at h3;cases h3
 ·have OD:i=j:=ai
  subst OD
  have Dt:qP cells p=i:=zt hj ju fun h=>Cz i (Nat.le_refl _) h
  by_cases hn:(i:Int)<(cells.length:Int)
  ·have fP:i<cells.length:=ai
   have fq:(cells.map aa)[i]? =some (aa (bG cells i)):=gw (l:=cells) fP
   have hd:decide (qz (bG cells i).bE p=0)=decide ((bG cells i).bE=p):=by simp only[FW]
   (repeat(first|((repeat(revert hN;revert N;apply Pn.out));refine wk (tw @h0 (tw @h2 (tw @h4 (tw @h8 (tw @h9 (tw @h10 (tw @hg (tw @eh (tw @hn (tw @fq (tw @aa.eq_1 @ar.eq_1))))))))))) ?_;(repeat(refine Pn.mk ?_;intro N hN)))|((try apply Or.inl);refine⟨_,aq.x (jW (bG cells i) p) (sd (tw @h0 (tw @h2 (tw @h4 (tw @h8 (tw @h9 (tw @h10 (tw @hg (tw @eh (tw @hn (tw @fq (tw @aa.eq_1 @ar.eq_1)))))))))))),?_⟩;refine hN _ _ ?_;clear hN N)))
   refine jh (.inl rfl) (r1:=.int .i64 i) (r2:=.bool (decide ((bG cells i).bE=p))) ?_ ?_ ?_
   ·simp only[go_sem, ↓reduceIte,Nat.reduceEqDiff,Nat.reduceAdd,Nat.reduceSub,Nat.reduceLeDiff,reduceCtorEq]
   ·simp only[go_sem, ↓reduceIte,Nat.reduceEqDiff,Nat.reduceAdd,Nat.reduceSub,Nat.reduceLeDiff,reduceCtorEq,hd]
   ·simp only[eP,bW,cU,eC,fF,Option.map_some,Dt,fP,decide_true,Bool.true_and]
  ·have fP:¬i<cells.length:=ai
   (try((repeat(revert hN;revert N;apply Pn.out));refine wk (tw @h0 (tw @h2 (tw @h4 (tw @h8 (tw @h9 (tw @h10 (tw @hg (tw @eh (tw @hn (tw @aa.eq_1 @ar.eq_1)))))))))) ?_;(repeat(refine Pn.mk ?_;intro N hN))))
   refine jh (.inl rfl) (r1:=.int .i64 i) (r2:=.bool false) ?_ ?_ ?_
   ·simp only[go_sem, ↓reduceIte,Nat.reduceEqDiff,Nat.reduceAdd,Nat.reduceSub,Nat.reduceLeDiff,reduceCtorEq]
   ·simp only[go_sem, ↓reduceIte,Nat.reduceEqDiff,Nat.reduceAdd,Nat.reduceSub,Nat.reduceLeDiff,reduceCtorEq]
   ·simp only[eP,bW,cU,eC,fF,Option.map_some,Dt,fP,decide_false,Bool.false_and]
theorem GY (l:List ae) (p:aO) (hR:nI l) (Of:l.length<=1048576):aq Tryz.prog 303 [.agg [.sl (l.map aa)],.agg (ar p)] (.int .i64 (eO l p)):=by
 refine aq.body eG rfl fun hl n0=>?_
 clear hl
 rw[Fu hR]
 have hb:=FU l p hR Of
 rw[ar]at hb
 cases hf:(decide (qP l p<l.length)&&decide ((bG l (qP l p)).bE=p))
 ·rw[hf]at hb
  (repeat(first|((repeat(revert hN;revert N;apply Pn.out));refine wk @ar.eq_1 ?_;(repeat(refine Pn.mk ?_;intro N hN)))|((try apply Or.inl);refine⟨_,aq.x (hb) (sd @ar.eq_1),?_⟩;refine hN _ _ ?_;clear hN N)))
  exact cR (b:=-1) (.inl rfl) (sd @Nat.zero_add) (by rw[if_neg];intro h;simp[h.1,h.2]at hf)
 ·rw[hf]at hb
  (repeat(first|((repeat(revert hN;revert N;apply Pn.out));refine wk @ar.eq_1 ?_;(repeat(refine Pn.mk ?_;intro N hN)))|((try apply Or.inl);refine⟨_,aq.x (hb) (sd @ar.eq_1),?_⟩;refine hN _ _ ?_;clear hN N)))
  exact cR (b:=(qP l p:Int)) (.inl rfl) (sd @Nat.zero_add) (by rw[if_pos];simpa using hf)
theorem uX (l:List ae) (p:aO) (hR:nI l) (Of:l.length<=1048576):aq Tryz.prog 173 [.dt [.sl (l.map aa)],.agg (ar p)] (.int .i64 (eO l p)):=by
 refine aq.body eG rfl fun hl n0=>?_
 clear hl
 rw[Fu hR]
 (try((repeat(revert hN;revert N;apply Pn.out));refine wk @ar.eq_1 ?_;(repeat(refine Pn.mk ?_;intro N hN))))
 refine bF (fun n env st=>∃i j:Nat,n=j-i/\i<=j/\j<=l.length/\(∀x,x<i->jI (bG l x).bE p=true)/\(∀x,j<=x->x<l.length->jI (bG l x).bE p=false)/\env 5=.int .i64 i/\env 6=.int .i64 j/\st.get ⟨173000000,n0⟩=some ⟨true,2,[ar p]⟩) l.length ⟨0,l.length,ai,ai,ai,fun x h=>ai,fun x h1 h2=>ai,by(simp only[go_sem, ↓reduceIte,Nat.reduceEqDiff,Nat.reduceAdd,Nat.reduceSub,Nat.reduceLeDiff,reduceCtorEq])<;>rfl,sd @Nat.zero_add,sd @ar.eq_1⟩ ?_
 rintro n env st ⟨i,j,rfl,Gk,hj,ju,Cz,h5,h6,hg⟩ fr
 have h0:=fr 0 (by kernel_rfl)
 have h3:=fr 3 (by kernel_rfl)
 simp only[go_sem, ↓reduceIte,Nat.reduceEqDiff,Nat.reduceAdd,Nat.reduceSub,Nat.reduceLeDiff,reduceCtorEq]at h0 h3
 clear fr
 by_cases eh:(i:Int)<(j:Int)
 ·have e1:IntKind.i64.wrap ((i:Int)+j)=((i+j:Nat):Int):=by rw[bP ai];rfl
  have hm:(i+j) / 2<l.length:=ai
  have fq:=gw hm
  have e2:IntKind.i64.wrap (((i+j:Nat):Int).tdiv 2)=(((i+j) / 2:Nat):Int):=by
   rw[Int.tdiv_eq_ediv_of_nonneg ai,bP ai];omega
  have e3:=aI (k:=(i+j) / 2) ai
  have hq:=nE (bG l ((i+j) / 2)).bE p
  cases hl:jI (bG l ((i+j) / 2)).bE p
  ·rw[hl]at hq
   (repeat(first|((repeat(revert hN;revert N;apply Pn.out));refine wk (tw @h0 (tw @h3 (tw @h5 (tw @h6 (tw @hg (tw @eh (tw @e1 (tw @e2 (tw @fq (tw @aa.eq_1 @ar.eq_1)))))))))) ?_;(repeat(refine Pn.mk ?_;intro N hN)))|((try apply Or.inl);refine⟨_,aq.x (hq) (sd (tw @h0 (tw @h3 (tw @h5 (tw @h6 (tw @hg (tw @eh (tw @e1 (tw @e2 (tw @fq (tw @aa.eq_1 @ar.eq_1))))))))))),?_⟩;refine hN _ _ ?_;clear hN N)))
   refine⟨_,?_,i,(i+j) / 2,rfl,ai,ai,ju,fun x h1 h2=>?_,sd @h5,sd @e2,sd (tw @hg @ar.eq_1)⟩
   ·omega
   ·by_cases O0:x=(i+j) / 2
    ·subst O0;exact hl
    ·rw[Bool.eq_false_iff]
     intro hc
     have h3:=jA (hR ((i+j) / 2) x ai h2) hc
     rw[hl]at h3;cases h3
  ·rw[hl]at hq
   (repeat(first|((repeat(revert hN;revert N;apply Pn.out));refine wk (tw @h0 (tw @h3 (tw @h5 (tw @h6 (tw @hg (tw @eh (tw @e1 (tw @e2 (tw @fq (tw @aa.eq_1 @ar.eq_1)))))))))) ?_;(repeat(refine Pn.mk ?_;intro N hN)))|((try apply Or.inl);refine⟨_,aq.x (hq) (sd (tw @h0 (tw @h3 (tw @h5 (tw @h6 (tw @hg (tw @eh (tw @e1 (tw @e2 (tw @fq (tw @aa.eq_1 @ar.eq_1))))))))))),?_⟩;refine hN _ _ ?_;clear hN N)))
   refine⟨_,?_,(i+j) / 2+1,j,rfl,ai,hj,fun x hx=>?_,Cz,sd @e3,sd @h6,sd (tw @hg @ar.eq_1)⟩
   ·omega
   ·by_cases O0:x=(i+j) / 2
    ·subst O0;exact hl
    ·exact jA (hR x _ ai hm) hl
 ·have OD:i=j:=ai
  subst OD
  have Dt:qP l p=i:=zt hj ju fun h=>Cz i (Nat.le_refl _) h
  by_cases hn:(i:Int)<(l.length:Int)
  ·have fP:i<l.length:=ai
   have fq:=gw fP
   by_cases hp:(bG l i).bE=p
   ·have hx:decide ((bG l i).bE.fb=p.fb)=true:=decide_eq_true (by rw[hp])
    have hy:decide ((bG l i).bE.eT=p.eT)=true:=decide_eq_true (by rw[hp])
    (try((repeat(revert hN;revert N;apply Pn.out));refine wk (tw @h0 (tw @h3 (tw @h5 (tw @h6 (tw @hg (tw @eh (tw @hn (tw @fq (tw @hx (tw @hy (tw @aa.eq_1 @ar.eq_1))))))))))) ?_;(repeat(refine Pn.mk ?_;intro N hN))))
    exact cR (b:=(i:Int)) (.inl rfl) (sd @Nat.zero_add) (by rw[Dt,if_pos ⟨fP,hp⟩])
   ·by_cases hx:(bG l i).bE.fb=p.fb
    ·have wM:decide ((bG l i).bE.fb=p.fb)=true:=decide_eq_true hx
     have hy':decide ((bG l i).bE.eT=p.eT)=false:=decide_eq_false fun h=>hp (D9 hx h)
     (try((repeat(revert hN;revert N;apply Pn.out));refine wk (tw @h0 (tw @h3 (tw @h5 (tw @h6 (tw @hg (tw @eh (tw @hn (tw @fq (tw @wM (tw @hy' (tw @aa.eq_1 @ar.eq_1))))))))))) ?_;(repeat(refine Pn.mk ?_;intro N hN))))
     exact cR (b:=-1) (.inl rfl) (sd @Nat.zero_add) (by rw[Dt,if_neg fun h=>hp h.2])
    ·have wM:decide ((bG l i).bE.fb=p.fb)=false:=decide_eq_false hx
     (try((repeat(revert hN;revert N;apply Pn.out));refine wk (tw @h0 (tw @h3 (tw @h5 (tw @h6 (tw @hg (tw @eh (tw @hn (tw @fq (tw @wM (tw @Bool.false_and (tw @aa.eq_1 @ar.eq_1))))))))))) ?_;(repeat(refine Pn.mk ?_;intro N hN))))
     exact cR (b:=-1) (.inl rfl) (sd @Nat.zero_add) (by rw[Dt,if_neg fun h=>hp h.2])
  ·have fP:¬i<l.length:=ai
   (try((repeat(revert hN;revert N;apply Pn.out));refine wk (tw @h0 (tw @h3 (tw @h5 (tw @h6 (tw @hg (tw @eh (tw @hn (tw @aa.eq_1 @ar.eq_1)))))))) ?_;(repeat(refine Pn.mk ?_;intro N hN))))
   exact cR (b:=-1) (.inl rfl) (sd @Nat.zero_add) (by rw[Dt,if_neg fun h=>fP h.1])
theorem LL (l:List ae) (p:aO) (hR:nI l) (Of:l.length<=1048576):aq Tryz.prog 216 [.dt [.sl (l.map aa)],.agg (ar p)] (.int .i64 (nk l p)):=by
 refine aq.body eG rfl fun hl n0=>?_
 clear hl
 have hb:=uX l p hR Of
 by_cases hi:eO l p<0
 ·rw[ar]at hb
  (repeat(first|((repeat(revert hN;revert N;apply Pn.out));refine wk (tw @ar.eq_1 @hi) ?_;(repeat(refine Pn.mk ?_;intro N hN)))|((try apply Or.inl);refine⟨_,aq.x (hb) (sd (tw @ar.eq_1 @hi)),?_⟩;refine hN _ _ ?_;clear hN N)))
  exact cR (b:=-1) (.inl rfl) (sd @Nat.zero_add) (by rw[nk,if_neg ai])
 ·have h0:0<=eO l p:=ai
  have hg:=gw (lg h0).1
  rw[ar]at hb
  (repeat(first|((repeat(revert hN;revert N;apply Pn.out));refine wk (tw @ar.eq_1 (tw @hi (tw @h0 (tw @hg @aa.eq_1)))) ?_;(repeat(refine Pn.mk ?_;intro N hN)))|((try apply Or.inl);refine⟨_,aq.x (hb) (sd (tw @ar.eq_1 (tw @hi (tw @h0 (tw @hg @aa.eq_1))))),?_⟩;refine hN _ _ ?_;clear hN N)))
  exact cR (b:=(bG l (eO l p).toNat).bR) (.inl rfl) (sd @Nat.zero_add) (by rw[nk,if_pos h0])
def pC (s:ax) (l:List ae):Prop:=kg l/\∀t∈l,gY s t.bR=true
noncomputable def nj (s:ax) (l:List ae):Bool:=nV l&&l.all fun t=>gY s t.bR
theorem km {s:ax} {l:List ae}:nj s l=true↔pC s l:=by simp[nj,pC,Ga]
theorem C2:PZ aa (fun c=>.agg (aa c)) 3 true:=⟨fun _=>rfl,fun _=>rfl,fun x g=>by simp only[aa,ab,aj,aV,ay,Option.map_some]⟩
theorem GU (s:ax) (t:ae) (hs:s.ah.length<=1048576):aq Tryz.prog 202 [.agg (aa t),.dt (ad s)] (.bool (!gY s t.bR)):=by
 refine aq.body eG rfl fun hl n0=>?_
 clear hl
 have h:=I8 s t.bR
 rw[ad]at h
 (repeat(first|((repeat(revert hN;revert N;apply Pn.out));refine wk (tw @aa.eq_1 @ad.eq_1) ?_;(repeat(refine Pn.mk ?_;intro N hN)))|((try apply Or.inl);refine⟨_,aq.x (h) (sd (tw @aa.eq_1 @ad.eq_1)),?_⟩;refine hN _ _ ?_;clear hN N)))
 exact bd (b:= !gY s t.bR) (.inl rfl) (sd @Nat.zero_add) rfl
theorem Mu (s:ax) (l:List ae) (hs:s.ah.length<=1048576) (hl:l.length<=1048576):aq Tryz.prog 201 [.sl (l.map aa),.fn 202 [.dt (ad s)]] (.bool (l.any fun t=> !gY s t.bR)):=
 ko C2 (show lP Tryz.prog 201=some (za 201 247) by kernel_rfl)
  (show lP Tryz.prog 247=some (sb 247 3 true) by kernel_rfl) l hl _ _ _ rfl (fun g=>by rw[ab,aH,aj];rfl) (fun x _=>GU s x hs) fun g=>by rw[ab,aH,aj];rfl
theorem EM {α:Type} (p:α->Bool) (l:List α):(!l.any fun t=> !p t)=l.all p:=by
 induction l with
 |nil=>rfl
 |cons x l ih=>simp only[List.any_cons,List.all_cons,<-ih];cases p x<;>simp
theorem mT (s:ax) (l:List ae) (hn:fZ s) (hg:s.aw.length<=1048576) (ht:s.ah.length<=1048576) (hs:∀t∈s.ah,t.b4.length<=1048576) (hl:l.length<=1048576):aq Tryz.prog 131 [.agg (ad s),.agg [.sl (l.map aa)]] (.bool (re s&&nj s l)):=by
 refine aq.body eG rfl fun hl n0=>?_
 clear hl
 have h1:=CP s hn hg ht hs
 have h2:=Ge l
 have h3:=Mu s l ht hl
 rw[ad]at h1 h3
 cases b1:re s
 ·rw[b1]at h1
  (repeat(first|((repeat(revert hN;revert N;apply Pn.out));refine wk @ad.eq_1 ?_;(repeat(refine Pn.mk ?_;intro N hN)))|((try apply Or.inl);refine⟨_,aq.x (h1) (sd @ad.eq_1),?_⟩;refine hN _ _ ?_;clear hN N)))
  exact bd (b:=false) (.inl rfl) (sd @Nat.zero_add) rfl
 rw[b1]at h1
 cases b2:nV l
 ·rw[b2]at h2
  (repeat(first|((repeat(revert hN;revert N;apply Pn.out));refine wk @ad.eq_1 ?_;(repeat(refine Pn.mk ?_;intro N hN)))|((try apply Or.inl);refine⟨_,aq.x (h1) (sd @ad.eq_1),?_⟩;refine hN _ _ ?_;clear hN N)|((try apply Or.inl);refine⟨_,aq.x (h2) (sd @ad.eq_1),?_⟩;refine hN _ _ ?_;clear hN N)))
  exact bd (b:=false) (.inl rfl) (sd @Nat.zero_add) (by rw[nj,b2];rfl)
 rw[b2]at h2
 (repeat(first|((repeat(revert hN;revert N;apply Pn.out));refine wk @ad.eq_1 ?_;(repeat(refine Pn.mk ?_;intro N hN)))|((try apply Or.inl);refine⟨_,aq.x (h1) (sd @ad.eq_1),?_⟩;refine hN _ _ ?_;clear hN N)|((try apply Or.inl);refine⟨_,aq.x (h2) (sd @ad.eq_1),?_⟩;refine hN _ _ ?_;clear hN N)|((try apply Or.inl);refine⟨_,aq.x (h3) (sd @ad.eq_1),?_⟩;refine hN _ _ ?_;clear hN N)))
 exact bd (b:= !(l.any fun t=> !gY s t.bR)) (.inl rfl) (sd @Nat.zero_add) (by rw[EM,nj,b2];rfl)
theorem Fq (s:ax) (l:List ae):aq Tryz.prog 146 [.dt (ad s),.dt [.sl (l.map aa)]] (.bool (nj s l)):=by
 refine aq.body eG rfl fun hl n0=>?_
 have hlen:l.length<=9223372036854775807:=by
  have h1:=(hl (.dt [.sl (l.map aa)]) (by simp)).Bz (a:=.sl (l.map aa)) (by simp)
  simpa using h1.len
 clear hl
 have h2:=GF l
 cases b2:nV l
 ·rw[b2]at h2
  (repeat(first|((repeat(revert hN;revert N;apply Pn.out));refine wk @Nat.zero_add ?_;(repeat(refine Pn.mk ?_;intro N hN)))|((try apply Or.inl);refine⟨_,aq.x (h2) (sd @Nat.zero_add),?_⟩;refine hN _ _ ?_;clear hN N)))
  exact bd (b:=false) (.inl rfl) (sd @Nat.zero_add) (by rw[nj,b2];rfl)
 rw[b2]at h2
 (repeat(first|((repeat(revert hN;revert N;apply Pn.out));refine wk @Nat.zero_add ?_;(repeat(refine Pn.mk ?_;intro N hN)))|((try apply Or.inl);refine⟨_,aq.x (h2) (sd @Nat.zero_add),?_⟩;refine hN _ _ ?_;clear hN N)))
 refine bF (fun n env st=>∃k:Nat,n=(l.length)-k/\k<=(l.length)/\env 5=.int .i64 (k:Int)/\(∀j:Nat,j<k->gY s (bG l j).bR=true)) (l.length) ⟨0,ai,ai,sl @Nat.zero_add,fun _ h=>absurd h (Nat.not_lt_zero _)⟩ ?_
 rintro n_a env_a st_a ⟨k,rfl,ale,a5,lG⟩ ev
 have a0:=ev 0 (by kernel_rfl);have a1:=ev 1 (by kernel_rfl)
 simp only[go_sem, ↓reduceIte,Nat.reduceEqDiff,Nat.reduceAdd,Nat.reduceSub,Nat.reduceLeDiff,reduceCtorEq]at a0 a1
 clear ev
 by_cases hk:(k:Int)<(l.length:Int)
 ·have cY:∀{e:Env},(e 5=.int .i64 (IntKind.i64.wrap ((k:Int)+1)))->(gY s (bG l k).bR=true)->∃m0,m0<(l.length)-k/\∃k:Nat,m0=(l.length)-k/\k<=(l.length)/\e 5=.int .i64 (k:Int)/\(∀j:Nat,j<k->gY s (bG l j).bR=true):=fun x1 x2=>⟨_,ai,k+1,rfl,ai,(by rw[x1,aI ai]),(all_succ lG x2)⟩
  have fM:k<l.length:=ai
  have eU:=gw fM
  have ht:=DI s (bG l k).bR
  cases b3:gY s (bG l k).bR
  ·rw[b3]at ht
   (repeat(first|((repeat(revert hN;revert N;apply Pn.out));refine wk (tw @a5 (tw @a0 (tw @a1 (tw @hk (tw @eU @aa.eq_1))))) ?_;(repeat(refine Pn.mk ?_;intro N hN)))|((try apply Or.inl);refine⟨_,aq.x (ht) (sd (tw @a5 (tw @a0 (tw @a1 (tw @hk (tw @eU @aa.eq_1)))))),?_⟩;refine hN _ _ ?_;clear hN N)))
   exact bd (b:=false) (.inl rfl) (sd @Nat.zero_add) (by
    have:l.all (fun t=>gY s t.bR)=false:=List.all_eq_false.2 ⟨_,jf fM,by rw[b3];simp⟩
    rw[nj,this,Bool.and_false])
  ·rw[b3]at ht
   (repeat(first|((repeat(revert hN;revert N;apply Pn.out));refine wk (tw @a5 (tw @a0 (tw @a1 (tw @hk (tw @eU @aa.eq_1))))) ?_;(repeat(refine Pn.mk ?_;intro N hN)))|((try apply Or.inl);refine⟨_,aq.x (ht) (sd (tw @a5 (tw @a0 (tw @a1 (tw @hk (tw @eU @aa.eq_1)))))),?_⟩;refine hN _ _ ?_;clear hN N)))
   exact cY (sd (tw @a5 (tw @a0 @a1))) (b3)
 ·(try((repeat(revert hN;revert N;apply Pn.out));refine wk (tw @a5 (tw @a0 (tw @a1 @hk))) ?_;(repeat(refine Pn.mk ?_;intro N hN))))
  exact bd (b:=true) (.inl rfl) (sd @Nat.zero_add) (by
   have:l.all (fun t=>gY s t.bR)=true:=List.all_eq_true.2 fun t ht=>by
    obtain⟨j,hj,rfl⟩:=List.getElem_of_mem ht
    have:=lG j ai
    rwa [eZ hj]at this
   rw[nj,b2,this];rfl)
theorem xk (l:List ae) (hF:kg l) (i:Nat) (d:Int) (hi:i<l.length) (hd:gM d 0 3=true):aq Tryz.prog 189 [.dt [.sl (l.map aa)],.int .i64 i,.int .i64 d] (.int .i64 (eO l (eK (bG l i).bE d))):=by
 refine aq.body eG rfl fun hl n0=>?_
 clear hl
 have hg:=gw hi
 have hp:=JF (hF.pt hi)
 have h1:=GA (bG l i).bE d hd hp.1 hp.2
 have h2:=uX l (eK (bG l i).bE d) hF.Nk (by have:=hF.Hu;omega)
 rw[ar]at h1 h2
 (repeat(first|((repeat(revert hN;revert N;apply Pn.out));refine wk (tw @aa.eq_1 (tw @hg @ar.eq_1)) ?_;(repeat(refine Pn.mk ?_;intro N hN)))|((try apply Or.inl);refine⟨_,aq.x (h1) (sd (tw @aa.eq_1 (tw @hg @ar.eq_1))),?_⟩;refine hN _ _ ?_;clear hN N)|((try apply Or.inl);refine⟨_,aq.x (h2) (sd (tw @aa.eq_1 (tw @hg @ar.eq_1))),?_⟩;refine hN _ _ ?_;clear hN N)))
 exact cR (b:=eO l (eK (bG l i).bE d)) (.inl rfl) (sd @Nat.zero_add) rfl
end Go.Proofs.YtgoljkjaameagaaGreat.V

namespace Go.Proofs.YtgoljkjaameagaaGreat.V
def bi (b:Bool):Int:=if b then 1 else 0
def lE (f:Nat->Int):Nat->Int
 |0=>0
 |n+1=>lE f n+f n
theorem ik {f g:Nat->Int}:∀{n:Nat},(∀i,i<n->f i=g i)->lE f n=lE g n
 |0,_=>rfl
 |n+1,h=>by
  simp only[lE]
  rw[ik fun i hi=>h i ai,h n ai]
theorem rl {f g:Nat->Int}:∀{n:Nat},(∀i,i<n->f i<=g i)->lE f n<=lE g n
 |0,_=>Int.le_refl _
 |n+1,h=>by
  simp only[lE]
  have:=rl (n:=n) fun i hi=>h i ai
  have:=h n ai
  omega
theorem jE:∀{n:Nat} {f:Nat->Int},(∀i,i<n->f i=0)->lE f n=0
 |0,_,_=>rfl
 |n+1,f,h=>by
  simp only[lE]
  rw[jE fun i hi=>h i ai,h n ai];rfl
theorem oY {f:Nat->Int} {a:Nat} {d:Int}:∀n,lE (fun i=>f i+if i=a then d else 0) n=lE f n+if a<n then d else 0
 |0=>by simp[lE]
 |n+1=>by
  simp only[lE]
  rw[oY n]
  by_cases h:n=a
  ·subst h;simp;omega
  ·rw[if_neg h]
   by_cases h2:a<n
   ·rw[if_pos h2,if_pos ai];omega
   ·rw[if_neg h2,if_neg ai];omega
def lQ (n:Nat) (S:Nat->Bool) (f:Nat->Nat->Int):Int:=lE (fun u=>lE (fun v=>if S u&& !S v then f u v else 0) n) n
def bump (f:Nat->Nat->Int) (a b:Nat) (d:Int):Nat->Nat->Int:=fun u v=>f u v+if u=a/\v=b then d else 0
theorem oM {n:Nat} {S:Nat->Bool} {f:Nat->Nat->Int} {a b:Nat} {d:Int} (ha:a<n) (hb:b<n):lQ n S (bump f a b d)=lQ n S f+if S a&& !S b then d else 0:=by
 unfold lQ
 have h1:∀u,u<n->lE (fun v=>if S u&& !S v then bump f a b d u v else 0) n=lE (fun v=>if S u&& !S v then f u v else 0) n+if u=a then(if S a&& !S b then d else 0)else 0:=by
  intro u hu
  by_cases h:u=a
  ·subst h
   have h2:∀v,v<n->(if S u&& !S v then bump f u b d u v else 0)=(fun v=>if S u&& !S v then f u v else 0) v+if v=b then(if S u&& !S b then d else 0)else 0:=by
    intro v hv
    unfold bump
    by_cases h3:v=b
    ·subst h3;simp only[and_self,if_true];split<;>omega
    ·simp only[h3,and_false,if_false];split<;>omega
   rw[ik h2,oY,if_pos hb,if_pos rfl]
  ·rw[if_neg h,Int.add_zero]
   refine ik fun v hv=>?_
   unfold bump
   simp[h]
 rw[ik h1,oY,if_pos ha]
theorem K1 {n:Nat} {S:Nat->Bool} {f c:Nat->Nat->Int} (h:∀u v,u<n->v<n->f u v<=c u v):lQ n S f<=lQ n S c:=
 rl fun u hu=>rl fun v hv=>by split;exact h u v hu hv;exact Int.le_refl _
theorem K0 {n:Nat} {S:Nat->Bool} {f c:Nat->Nat->Int} (h:∀u v,u<n->v<n->S u=true->S v=false->f u v=c u v):lQ n S f=lQ n S c:=
 ik fun u hu=>ik fun v hv=>by
  split
  ·rename_i hc
   simp only[Bool.and_eq_true,Bool.not_eq_true']at hc
   exact h u v hu hv hc.1 hc.2
  ·rfl
def j6 (f:Nat->Nat->Int) (a b:Nat):Nat->Nat->Int:=bump (bump f a b 1) b a (-1)
theorem F0 {n:Nat} {S:Nat->Bool} {f:Nat->Nat->Int} {a b:Nat} (ha:a<n) (hb:b<n):lQ n S (j6 f a b)=lQ n S f+bi (S a)-bi (S b):=by
 unfold j6
 rw[oM hb ha,oM ha hb]
 cases S a<;>cases S b<;>simp[bi]<;>omega
def lN (f:Nat->Nat->Int):List Nat->Nat->Nat->Int
 |a::b::r=>lN (j6 f a b) (b::r)
 |_=>f
def ql (f c:Nat->Nat->Int):List Nat->Prop
 |a::b::r=>f a b<c a b/\ql f c (b::r)
 |_=>True
theorem Ax {n:Nat} {S:Nat->Bool}:∀(r:List Nat) (a:Nat) (f:Nat->Nat->Int),(∀x∈a::r,x<n)->lQ n S (lN f (a::r))=lQ n S f+bi (S a)-bi (S ((a::r).getLast (by simp)))
 |[],a,f,_=>by simp[lN]
 |b::r,a,f,h=>by
  rw[lN,Ax r b (j6 f a b) fun x hx=>h x (List.mem_cons_of_mem _ hx),F0 (h a (by simp)) (h b (by simp)),List.getLast_cons_cons]
  generalize bi (S b)=q
  omega
theorem ql.less {f g c:Nat->Nat->Int}:∀{p:List Nat},ql f c p->(∀u,u∈p->∀v,g u v<=f u v)->ql g c p
 |[],_,_=>trivial
 |[_],_,_=>trivial
 |a::b::r,h,hl=>⟨Int.lt_of_le_of_lt (hl a (by simp) b) h.1,ql.less (p:=b::r) h.2 fun u hu=>hl u (List.mem_cons_of_mem _ hu)⟩
theorem EN {n:Nat} {c:Nat->Nat->Int}:∀(p:List Nat) (f:Nat->Nat->Int),p.Nodup->ql f c p->(∀u v,u<n->v<n->f u v<=c u v)->∀u v,u<n->v<n->lN f p u v<=c u v
 |[],f,_,_,h=>h
 |[_],f,_,_,h=>h
 |a::b::r,f,hn,hr,h=>by
  rw[lN]
  have pW:a∉b::r:=(List.nodup_cons.1 hn).1
  refine EN (b::r) _ (List.nodup_cons.1 hn).2 (hr.2.less fun u hu v=>?_) fun u v hu hv=>?_
  ·unfold j6 bump
   have:u≠a:=by rintro rfl;exact pW hu
   simp only[this,false_and,if_false]
   split<;>omega
  ·have h0:=h u v hu hv
   have h1:=hr.1
   unfold j6 bump
   by_cases e:u=a/\v=b
   ·obtain⟨rfl,rfl⟩:=e
    rw[if_pos ⟨rfl,rfl⟩];split<;>omega
   ·rw[if_neg e];split<;>omega
structure nD (n:Nat) (c f:Nat->Nat->Int) (x y:Nat) (val:Int):Prop where
 le:∀u v,u<n->v<n->f u v<=c u v
 cut:∀S:Nat->Bool,S x=true->S y=false->lQ n S f=val
theorem nD.zero {n:Nat} {c:Nat->Nat->Int} {x y:Nat} (h:∀u v,u<n->v<n->0<=c u v):nD n c (fun _ _=>0) x y 0:=
 ⟨h,fun S _ _=>jE fun u hu=>jE fun v hv=>by split<;>rfl⟩
theorem nD.aug {n:Nat} {c f:Nat->Nat->Int} {x y:Nat} {val:Int} (h:nD n c f x y val) {r:List Nat} (hl:(x::r).getLast (by simp)=y) (hn:(x::r).Nodup) (hr:ql f c (x::r)) (hb:∀v∈x::r,v<n):nD n c (lN f (x::r)) x y (val+1):=
 ⟨EN _ _ hn hr h.le,fun S hx hy=>by rw[Ax r x f hb,hl,h.cut S hx hy,hx,hy];simp[bi]⟩
theorem nD.bound {n:Nat} {c f:Nat->Nat->Int} {x y:Nat} {val:Int} (h:nD n c f x y val) {S:Nat->Bool} (hx:S x=true) (hy:S y=false):val<=lQ n S c:=by
 rw[<-h.cut S hx hy];exact K1 h.le
theorem nD.full {n:Nat} {c f:Nat->Nat->Int} {x y:Nat} {val:Int} (h:nD n c f x y val) {S:Nat->Bool} (hx:S x=true) (hy:S y=false) (hS:∀u v,u<n->v<n->S u=true->S v=false->¬f u v<c u v):val=lQ n S c:=by
 rw[<-h.cut S hx hy]
 exact K0 fun u v hu hv h1 h2=>by have:=hS u v hu hv h1 h2;have:=h.le u v hu hv;omega
structure PB where
 a:Nat
 b:Nat
 s:Int
 deriving Inhabited
def cW (bs:List PB) (i:Nat):PB:=bs.getD i default
def iP (S:Nat->Bool) (bs:List PB):Int:=(bs.map fun b=>if S b.a=S b.b then 0 else b.s).sum
def ni (c:Nat->Nat->Int) (b:PB):Nat->Nat->Int:=bump (bump c b.a b.b b.s) b.b b.a b.s
def kE (bs:List PB):Nat->Nat->Int:=bs.foldl ni fun _ _=>0
theorem Eg (bs:List PB) (b:PB):kE (bs++[b])=ni (kE bs) b:=by simp[kE]
theorem AN {n:Nat} {S:Nat->Bool}:∀(bs:List PB) (c:Nat->Nat->Int),(∀b∈bs,b.a<n/\b.b<n)->lQ n S (bs.foldl ni c)=lQ n S c+iP S bs
 |[],c,_=>by simp[iP]
 |b::bs,c,h=>by
  have hb:=h b (by simp)
  rw[List.foldl_cons,AN bs _ fun x hx=>h x (List.mem_cons_of_mem _ hx)]
  unfold ni iP
  rw[oM hb.2 hb.1,oM hb.1 hb.2,List.map_cons,List.sum_cons]
  cases S b.a<;>cases S b.b<;>simp<;>omega
theorem AO {n:Nat} {S:Nat->Bool} {bs:List PB} (h:∀b∈bs,b.a<n/\b.b<n):lQ n S (kE bs)=iP S bs:=by
 rw[kE,AN bs _ h]
 have:lQ n S (fun _ _=>0)=0:=jE fun u hu=>jE fun v hv=>by split<;>rfl
 omega
theorem zG:∀(bs:List PB) (c:Nat->Nat->Int),(∀b∈bs,0<=b.s)->(∀u v,0<=c u v)->∀u v,0<=bs.foldl ni c u v
 |[],c,_,h=>h
 |b::bs,c,hb,h=>by
  rw[List.foldl_cons]
  refine zG bs _ (fun x hx=>hb x (List.mem_cons_of_mem _ hx)) fun u v=>?_
  have:=hb b (by simp);have:=h u v
  unfold ni bump
  split<;>split<;>omega
theorem room_le:∀(bs:List PB) (c:Nat->Nat->Int) (m:Int),(∀b∈bs,b.s<=4)->(∀u v,c u v<=m)->0<=m->∀u v,bs.foldl ni c u v<=m+8*bs.length
 |[],c,m,_,h,_=>fun u v=>by have:=h u v;simp;omega
 |b::bs,c,m,hb,h,h0=>fun u v=>by
  rw[List.foldl_cons]
  have:=room_le bs (ni c b) (m+8) (fun x hx=>hb x (List.mem_cons_of_mem _ hx)) (fun u v=>by
   have:=hb b (by simp);have:=h u v
   unfold ni bump
   split<;>split<;>omega) ai u v
  simp only[List.length_cons];omega
def kh (n:Nat) (bs:List PB) (t:Int):Prop:=∀S:Nat->Bool,S 0=true->(∃y,y<n/\S y=false)->t<=iP S bs
def FY (S:Nat->Bool) (bs:List PB) (f:Nat->Int):Int:=lE (fun i=>f i*(bi (S (cW bs i).a)-bi (S (cW bs i).b))) bs.length
structure jL (bs:List PB) (f:Nat->Int) (x y:Nat) (val:Int):Prop where
 le:∀i,i<bs.length->f i<=(cW bs i).s/\-(cW bs i).s<=f i
 cut:∀S:Nat->Bool,S x=true->S y=false->FY S bs f=val
theorem uy (S:Nat->Bool):∀bs:List PB,iP S bs=lE (fun i=>if S (cW bs i).a=S (cW bs i).b then 0 else(cW bs i).s) bs.length:=by
 intro bs
 have key:∀n,n<=bs.length->iP S (bs.take n)=lE (fun i=>if S (cW bs i).a=S (cW bs i).b then 0 else(cW bs i).s) n:=by
  intro n
  induction n with
  |zero=>intro _;rfl
  |succ n ih=>
   intro h
   have e:cW bs n=bs[n]:=by simp[cW,List.getD_eq_getElem?_getD,List.getElem?_eq_getElem (show n<bs.length by omega)]
   rw[List.take_succ_eq_append_getElem ai,lE,<-ih ai,e]
   unfold iP
   rw[List.map_append,List.sum_append]
   simp only[List.map_cons,List.map_nil,List.sum_cons,List.sum_nil,Int.add_zero]
 have:=key bs.length (Nat.le_refl _)
 rwa [List.take_length]at this
theorem jL.bound {bs:List PB} {f:Nat->Int} {x y:Nat} {val:Int} (h:jL bs f x y val) {S:Nat->Bool} (hx:S x=true) (hy:S y=false):val<=iP S bs:=by
 rw[<-h.cut S hx hy,uy]
 refine rl fun i hi=>?_
 have:=h.le i hi
 cases S (cW bs i).a<;>cases S (cW bs i).b<;>simp[bi]<;>omega
def fN (bs:List PB) (f:Nat->Int) (i u:Nat):Int:=if (cW bs i).a=u then(cW bs i).s-f i else(cW bs i).s+f i
def cP (bs:List PB) (i u:Nat):Nat:=if (cW bs i).a=u then(cW bs i).b else(cW bs i).a
theorem jL.full {bs:List PB} {f:Nat->Int} {x y:Nat} {val:Int} (h:jL bs f x y val) {S:Nat->Bool} (hx:S x=true) (hy:S y=false)
  (hS:∀i,i<bs.length->((cW bs i).a≠(cW bs i).b->(S (cW bs i).a=true->S (cW bs i).b=false->¬0<fN bs f i (cW bs i).a)/\(S (cW bs i).b=true->S (cW bs i).a=false->¬0<fN bs f i (cW bs i).b))):val=iP S bs:=by
 rw[<-h.cut S hx hy,uy]
 refine ik fun i hi=>?_
 have h1:=h.le i hi
 by_cases pW:(cW bs i).a=(cW bs i).b
 ·rw[pW];simp
 ·have h2:=hS i hi pW
  unfold fN at h2
  rw[if_pos rfl,if_neg pW]at h2
  cases ha:S (cW bs i).a<;>cases hb:S (cW bs i).b<;>rw[ha,hb]at h2<;>simp[bi]at h2 ⊢ <;>omega
def tb (bs:List PB) (f:Nat->Int) (i u:Nat):Nat->Int:=fun j=>f j+if j=i then(if (cW bs i).a=u then 1 else -1)else 0
theorem FZ {S:Nat->Bool} {bs:List PB} {f:Nat->Int} {i u:Nat} (hi:i<bs.length) (hu:(cW bs i).a=u∨(cW bs i).b=u):FY S bs (tb bs f i u)=FY S bs f+bi (S u)-bi (S (cP bs i u)):=by
 unfold FY tb
 have e:∀j,j<bs.length->(f j+if j=i then(if (cW bs i).a=u then 1 else -1)else 0)*(bi (S (cW bs j).a)-bi (S (cW bs j).b))=(fun j=>f j*(bi (S (cW bs j).a)-bi (S (cW bs j).b))) j+if j=i then(if (cW bs i).a=u then 1 else -1)*(bi (S (cW bs i).a)-bi (S (cW bs i).b))else 0:=by
  intro j hj
  by_cases h:j=i
  ·subst h;simp only[if_true];rw[Int.add_mul]
  ·simp only[h,if_false];simp
 rw[ik e,oY,if_pos hi]
 unfold cP
 by_cases ha:(cW bs i).a=u
 ·rw[if_pos ha,if_pos ha,ha];omega
 ·rw[if_neg ha,if_neg ha]
  rcases hu with hu|hu
  ·exact absurd hu ha
  ·rw[hu];omega
theorem oi:∀(n:Nat) (l:List Nat),l.Nodup->(∀x∈l,x<n)->l.length<=n
 |0,l,_,h=>by
  cases l with
  |nil=>simp
  |cons x l=>exact absurd (h x (by simp)) ai
 |n+1,l,hn,h=>by
  have h1:=oi n (l.erase n) (hn.erase _) fun x hx=>by
   have h2:=(hn.mem_erase_iff).1 hx
   have h3:=h x h2.2
   have h4:=h2.1
   omega
  rw[List.length_erase]at h1
  split at h1<;>omega
def eQ (L:Nat->Nat) (b:PB):Nat->Nat:=fun k=>if L k=max (L b.a) (L b.b)then min (L b.a) (L b.b)else L k
def eE (bs:List PB):Nat->Nat:=bs.foldl eQ id
theorem u7 (bs:List PB) (b:PB):eE (bs++[b])=eQ (eE bs) b:=by simp[eE]
structure jq (L:Nat->Nat):Prop where
 le:∀k,L k<=k
 idem:∀k,L (L k)=L k
theorem jq.step {L:Nat->Nat} (h:jq L) (b:PB):jq (eQ L b):=by
 have ha:=h.idem b.a
 have hb:=h.idem b.b
 refine⟨fun k=>?_,fun k=>?_⟩
 ·have:=h.le k
  unfold eQ
  split<;>omega
 ·have hk:=h.idem k
  have hm:L (min (L b.a) (L b.b))=min (L b.a) (L b.b):=by
   rcases Nat.le_total (L b.a) (L b.b)with h1|h1
   ·rw[Nat.min_eq_left h1,ha]
   ·rw[Nat.min_eq_right h1,hb]
  unfold eQ
  by_cases h1:L k=max (L b.a) (L b.b)
  ·rw[if_pos h1,hm];split<;>rfl
  ·rw[if_neg h1,hk,if_neg h1]
theorem u9:∀(bs:List PB) (L:Nat->Nat),jq L->jq (bs.foldl eQ L)
 |[],_,h=>h
 |b::bs,L,h=>u9 bs _ (h.step b)
theorem s7 (bs:List PB):jq (eE bs):=u9 bs id ⟨fun _=>Nat.le_refl _,fun _=>rfl⟩
def leads (n:Nat) (L:Nat->Nat):List Nat:=(List.range n).filter fun i=>L i==i
def members (n:Nat) (L:Nat->Nat) (i:Nat):List Nat:=(List.range n).filter fun k=>L k==i
def fG (n:Nat) (L:Nat->Nat):List (List Nat):=(leads n L).map (members n L)
def cN (L:Nat->Nat) (k:Nat):Nat:=(leads (L k) L).length
theorem gN (n:Nat) (L:Nat->Nat):leads (n+1) L=leads n L++if L n=n then[n]else[]:=by
 unfold leads
 rw[List.range_succ,List.filter_append]
 congr 1
 by_cases h:L n=n<;>simp[h]
theorem jd (n:Nat) (L:Nat->Nat) (i:Nat):members (n+1) L i=members n L i++if L n=i then[n]else[]:=by
 unfold members
 rw[List.range_succ,List.filter_append]
 congr 1
 by_cases h:L n=i<;>simp[h]
theorem mD {L:Nat->Nat} (h:jq L) {n i:Nat} (hn:n<=i):members n L i=[]:=by
 unfold members
 rw[List.filter_eq_nil_iff]
 intro k hk
 have:=h.le k
 have:=List.mem_range.1 hk
 simp;omega
theorem s8 (n:Nat) (L:Nat->Nat):(leads n L).Nodup:=List.nodup_range.filter _
theorem yf {n:Nat} {L:Nat->Nat} {i:Nat}:i∈leads n L↔i<n/\L i=i:=by simp[leads]
theorem lh {n:Nat} {L:Nat->Nat} {i k:Nat}:k∈members n L i↔k<n/\L k=i:=by simp[members]
theorem GJ {L:Nat->Nat} {m n:Nat} (h:m<=n):∃r,leads n L=leads m L++r:=by
 obtain⟨d,rfl⟩:=Nat.le.dest h
 clear h
 induction d with
 |zero=>exact⟨[],by simp⟩
 |succ d ih=>
  obtain⟨r,hr⟩:=ih
  exact⟨r++if L (m+d)=m+d then[m+d]else[],by rw[<-Nat.add_assoc,gN,hr,List.append_assoc]⟩
theorem oN {L:Nat->Nat} (h:jq L) {n k:Nat} (hk:k<n):(leads n L)[cN L k]? =some (L k):=by
 have h1:=h.le k
 obtain⟨r,hr⟩:=GJ (L:=L) (show L k+1<=n by omega)
 rw[hr,gN,if_pos (h.idem k),List.append_assoc]
 unfold cN
 rw[List.getElem?_append_right (Nat.le_refl _),Nat.sub_self];rfl
theorem jR {L:Nat->Nat} (h:jq L) {n k:Nat} (hk:k<n):cN L k<(leads n L).length:=(List.getElem?_eq_some_iff.1 (oN h hk)).1
theorem si {L:Nat->Nat} (h:jq L) {n k i:Nat} (hk:k<n) (hi:i<(leads n L).length):k∈members n L (leads n L)[i]↔cN L k=i:=by
 rw[lh]
 have h1:=oN h hk
 rw[List.getElem?_eq_getElem (jR h hk)]at h1
 injection h1 with h1
 constructor
 ·rintro⟨_,h2⟩
  rw[<-h1]at h2
  exact(List.getElem_inj (s8 n L)).1 h2
 ·rintro rfl
  exact⟨hk,h1.symm⟩
def dU (L:Nat->Nat) (bs:List PB):List PB:=bs.filterMap fun b=>if cN L b.a=cN L b.b then none else some ⟨cN L b.a,cN L b.b,b.s⟩
def fc (L:Nat->Nat) (bs:List PB):List PB:=bs.filterMap fun b=>if cN L b.a=cN L b.b then none else some ⟨min (cN L b.a) (cN L b.b),max (cN L b.a) (cN L b.b),b.s⟩
theorem zI (L:Nat->Nat) (bs:List PB) (b:PB):dU L (bs++[b])=dU L bs++if cN L b.a=cN L b.b then[]else[⟨cN L b.a,cN L b.b,b.s⟩]:=by
 unfold dU
 rw[List.filterMap_append]
 congr 1
 by_cases h:cN L b.a=cN L b.b<;>simp[h]
theorem zJ (L:Nat->Nat) (bs:List PB) (b:PB):fc L (bs++[b])=fc L bs++if cN L b.a=cN L b.b then[]else[⟨min (cN L b.a) (cN L b.b),max (cN L b.a) (cN L b.b),b.s⟩]:=by
 unfold fc
 rw[List.filterMap_append]
 congr 1
 by_cases h:cN L b.a=cN L b.b<;>simp[h]
theorem rU (S:Nat->Bool) (b:PB) (bs:List PB):iP S (b::bs)=(if S b.a=S b.b then 0 else b.s)+iP S bs:=by simp[iP]
theorem xI (S:Nat->Bool) (L:Nat->Nat):∀bs:List PB,iP S (fc L bs)=iP S (dU L bs)
 |[]=>rfl
 |b::bs=>by
  have ih:=xI S L bs
  unfold fc dU at ih ⊢
  rw[List.filterMap_cons,List.filterMap_cons]
  by_cases h:cN L b.a=cN L b.b
  ·simp only[h,if_true];exact ih
  ·simp only[h,if_false]
   rw[rU,rU,ih]
   congr 1
   simp only
   rcases Nat.le_total (cN L b.a) (cN L b.b)with h1|h1
   ·rw[Nat.min_eq_left h1,Nat.max_eq_right h1]
   ·rw[Nat.min_eq_right h1,Nat.max_eq_left h1]
    cases S (cN L b.a)<;>cases S (cN L b.b)<;>rfl
theorem Ek {L:Nat->Nat} (h:jq L) {n:Nat} {bs:List PB} (hb:∀b∈bs,b.a<n/\b.b<n):∀b∈dU L bs,b.a<(leads n L).length/\b.b<(leads n L).length/\b.a≠b.b/\∃c∈bs,b.s=c.s:=by
 intro b hm
 unfold dU at hm
 obtain⟨c,hc,he⟩:=List.mem_filterMap.1 hm
 split at he
 ·cases he
 ·rename_i gP
  simp only[Option.some.injEq]at he
  subst he
  exact⟨jR h (hb c hc).1,jR h (hb c hc).2,gP,c,hc,rfl⟩
theorem El {L:Nat->Nat} (h:jq L) {n:Nat} {bs:List PB} (hb:∀b∈bs,b.a<n/\b.b<n):∀b∈fc L bs,b.a<(leads n L).length/\b.b<(leads n L).length/\b.a≠b.b/\∃c∈bs,b.s=c.s:=by
 intro b hm
 unfold fc at hm
 obtain⟨c,hc,he⟩:=List.mem_filterMap.1 hm
 split at he
 ·cases he
 ·rename_i gP
  simp only[Option.some.injEq]at he
  subst he
  have h1:=jR h (hb c hc).1
  have h2:=jR h (hb c hc).2
  refine⟨by simp only;omega,by simp only;omega,by simp only;omega,c,hc,rfl⟩
theorem mJ (L:Nat->Nat) (bs:List PB):(dU L bs).length<=bs.length/\(fc L bs).length<=bs.length:=⟨List.length_filterMap_le ..,List.length_filterMap_le ..⟩
theorem jz (n:Nat) (L:Nat->Nat):(leads n L).length<=n:=by
 have:=List.length_filter_le (fun i=>L i==i) (List.range n)
 simpa[leads]using this
def bc (t:Int) (bs:List PB):List PB:=bs.filter fun b=>decide (t<=b.s)
def oK (n:Nat) (bs:List PB) (t:Int):Prop:=
 (leads n (eE (bc t bs))).length<=64/\kh (leads n (eE (bc t bs))).length (dU (eE (bc t bs)) bs) t
theorem Du {n:Nat} {L:Nat->Nat} {bs:List PB} {t:Int}:kh n (fc L bs) t↔kh n (dU L bs) t:=by
 unfold kh
 constructor<;>intro h S h0 hy<;>have:=h S h0 hy<;>rw[xI]at *<;>exact this
end Go.Proofs.YtgoljkjaameagaaGreat.V

namespace Go.Proofs.YtgoljkjaameagaaGreat.V
open Go.RowKit
attribute [local irreducible] dQ wpOps ft Call
attribute [local go_sem] aA eV ef e9 e8 cZ upd bQ K.av cr AV.cells AV.cell rowOf rowsOf part ld rowAt bD bL dm dD fE bu cK dO fa eF db dH cI cH dw dx bz aQ cz bx cD cC dF dI dG cw bC cJ dE bw az cF bZ fD bj cq bB aJ cX aX dn AV.undef bp br dy dC du dz cm dM dP bU dK dJ cE cG List.getD_cons_zero List.getD_cons_succ List.getD_nil List.all_cons List.all_nil Bool.and_true Bool.true_and Bool.and_self Bool.not_true Bool.not_false Option.map_some Option.map_none Option.bind_some Option.bind_none List.length_cons List.length_nil List.take_succ_cons List.take_zero List.take_nil List.drop_succ_cons List.drop_zero List.drop_nil List.head?_cons List.map_cons List.map_nil List.getElem?_cons_zero List.getElem?_cons_succ List.cons_append List.nil_append List.append_nil List.length_map List.set_cons_zero List.set_cons_succ Nat.reduceMul eq_self Int.toNat_natCast Int.natCast_nonneg and_self true_and and_true decide_true decide_false Bool.false_eq_true Nat.zero_add Nat.add_zero List.contains_cons List.contains_nil Bool.or_false Bool.false_or beq_self_eq_true Nat.reduceBEq ne_eq not_true_eq_false not_false_eq_true Id.mk.injEq false_and and_false Nat.reduceLT Int.reduceLE Int.reduceLT Int.reduceToNat Int.reduceNeg Int.reduceAdd Nat.le_refl List.length_append beq_true beq_false Bool.not_eq_eq_eq_not or_false false_or dR ab aj ay bo bJ aD aV aH aU cu bq
def aB (b:PB):List AV:=[.int .i64 b.a,.int .i64 b.b,.int .i64 b.s]
theorem Nw:∀b:PB,(aB b).length=3/\(aB b).all AV.cell=true:=fun _=>⟨rfl,rfl⟩
theorem y4 (g:Rows) (n:Nat) (b:PB):de g (n+1) (aB b)=some (aB b):=by simp[aB,ab,aj,ay]
theorem tM (g:Rows) (n:Nat) (b:PB):eB g (n+1) (aB b)=some (aB b):=by simp[aB,bW,cU,eC]
theorem Ih:PZ aB (fun c=>.agg (aB c)) 3 true:=⟨fun _=>rfl,fun _=>rfl,fun x g=>by simp only[aB,ab,aj,aV,ay,Option.map_some]⟩
def mz (s:ax) (l:List ae) (i:Nat) (d:Int):List PB:=
 if 0<=eO l (eK (bG l i).bE d)/\0<iM s (bG l i).bR d (bG l (eO l (eK (bG l i).bE d)).toNat).bR then
  [⟨i,(eO l (eK (bG l i).bE d)).toNat,iM s (bG l i).bR d (bG l (eO l (eK (bG l i).bE d)).toNat).bR⟩]else[]
def ga (s:ax) (l:List ae) (i m:Nat):List PB:=(List.range m).flatMap fun j:Nat=>mz s l i (1-(j:Int))
def gK (s:ax) (l:List ae) (n:Nat):List PB:=(List.range n).flatMap fun i=>ga s l i 2
def dh (s:ax) (l:List ae):List PB:=gK s l l.length
theorem pk (s:ax) (l:List ae) (i m:Nat):ga s l i (m+1)=ga s l i m++mz s l i (1-(m:Int)):=by simp[ga,List.range_succ]
theorem qt (s:ax) (l:List ae) (n:Nat):gK s l (n+1)=gK s l n++ga s l n 2:=by simp[gK,List.range_succ]
theorem CU (s:ax) (l:List ae) (i:Nat) (d:Int):(mz s l i d).length<=1:=by unfold mz;split<;>simp
theorem qq (s:ax) (l:List ae) (i m:Nat):(ga s l i m).length<=m:=by
 induction m with
 |zero=>simp[ga]
 |succ m ih=>rw[pk,List.length_append];have:=CU s l i (1-(m:Int));omega
theorem sL (s:ax) (l:List ae) (n:Nat):(gK s l n).length<=2*n:=by
 induction n with
 |zero=>simp[gK]
 |succ n ih=>rw[qt,List.length_append];have:=qq s l n 2;omega
def sB:Id->Prop:=fun o=>o.site=124001000∨o.site=124012006
theorem DJ (s:ax) (l:List ae) (hS:ke s) (hA:pC s l):aq Tryz.prog 124 [.dt (ad s),.dt [.sl (l.map aa)]] (.sl ((dh s l).map aB)):=by
 refine aq.body eG rfl fun hl n0=>?_
 clear hl
 have hF:=hA.1
 have Lh:=hF.Hu
 (try((repeat(revert hN;revert N;apply Pn.out));refine wk @Nat.zero_add ?_;(repeat(refine Pn.mk ?_;intro N hN))))
 refine bF (fun n env st=>∃k:Nat,n=(l.length)-k/\k<=(l.length)/\env 6=.int .i64 (k:Int)/\(mo aB 3 (env 5) st.get sB (gK s l k))) (l.length) ⟨0,ai,ai,sl @Nat.zero_add,⟨⟨124001000,n0+1⟩,.inl rfl,by simp only[go_sem, ↓reduceIte,Nat.reduceEqDiff,Nat.reduceAdd,Nat.reduceSub,Nat.reduceLeDiff,reduceCtorEq];rfl,by simp only[go_sem, ↓reduceIte,Nat.reduceEqDiff,Nat.reduceAdd,Nat.reduceSub,Nat.reduceLeDiff,reduceCtorEq];rfl⟩⟩ ?_
 rintro n_a env_a st_a ⟨k,rfl,ale,a6,lL⟩ ev
 have a0:=ev 0 (by kernel_rfl);have a1:=ev 1 (by kernel_rfl)
 simp only[go_sem, ↓reduceIte,Nat.reduceEqDiff,Nat.reduceAdd,Nat.reduceSub,Nat.reduceLeDiff,reduceCtorEq]at a0 a1
 clear ev
 by_cases hk:(k:Int)<(l.length:Int)
 ·have cY:∀{e:Env} {gg:Rows},(e 6=.int .i64 (IntKind.i64.wrap ((k:Int)+1)))->(mo aB 3 (e 5) gg sB (gK s l (k+1)))->∃m0,m0<(l.length)-k/\∃k:Nat,m0=(l.length)-k/\k<=(l.length)/\e 6=.int .i64 (k:Int)/\(mo aB 3 (e 5) gg sB (gK s l k)):=fun x1 x2=>⟨_,ai,k+1,rfl,ai,(by rw[x1,aI ai]),x2⟩
  have fM:k<l.length:=ai
  have eU:=gw fM
  have hul:=sL s l k
  (try((repeat(revert hN;revert N;apply Pn.out));refine wk (tw @a6 (tw @a0 (tw @a1 @hk))) ?_;(repeat(refine Pn.mk ?_;intro N hN))))
  refine bF (fun n env st=>∃m:Nat,n=(2)-m/\m<=(2)/\env 7=(.int .i64 (1-(m:Int)))/\(mo aB 3 (env 5) st.get sB (gK s l k++ga s l k m))) (2) ⟨0,ai,ai,sl (tw @a6 (tw @a0 @a1)),by(simp only[go_sem, ↓reduceIte,Nat.reduceEqDiff,Nat.reduceAdd,Nat.reduceSub,Nat.reduceLeDiff,reduceCtorEq];exact lL.cast (by simp[ga]))⟩ ?_
  rintro n_b env_b st_b ⟨m,rfl,ble,b7,bI0⟩ bfr
  have b0:=bfr 0 (by kernel_rfl);have b1:=bfr 1 (by kernel_rfl);have b6:=bfr 6 (by kernel_rfl)
  simp only[go_sem, ↓reduceIte,Nat.reduceEqDiff,Nat.reduceAdd,Nat.reduceSub,Nat.reduceLeDiff,reduceCtorEq,a6,a0,a1]at b0 b1 b6
  clear bfr
  have SU:=qq s l k m
  have k9:=pk s l k m
  by_cases hm:(m:Int)<2
  ·have j5:∀{e:Env} {gg:Rows},(e 7=(.int .i64 (1-((m+1):Int))))->(mo aB 3 (e 5) gg sB (gK s l k++ga s l k (m+1)))->∃m0,m0<(2)-m/\∃m:Nat,m0=(2)-m/\m<=(2)/\e 7=(.int .i64 (1-(m:Int)))/\(mo aB 3 (e 5) gg sB (gK s l k++ga s l k m)):=fun x1 x2=>⟨_,ai,m+1,rfl,ai,x1,x2⟩
   have pY:(0:Int)<=1-(m:Int):=ai
   have hd:gM (1-(m:Int)) 0 3=true:=uW ai
   have hw:IntKind.i64.wrap (1-(m:Int)-1)=1-((m:Int)+1):=by rw[bP ai];omega
   have S8:=xk l hF k (1-(m:Int)) fM hd
   unfold mz at k9
   have hT:=hA.2 _ (jf fM)
   generalize Gl:eO l (eK (bG l k).bE (1-(m:Int)))=ix at *
   by_cases hi:ix<0
   ·rw[if_neg ai,List.append_nil]at k9
    (repeat(first|((repeat(revert hN;revert N;apply Pn.out));refine wk (tw @b7 (tw @b0 (tw @b1 (tw @b6 (tw @pY (tw @hw @hi)))))) ?_;(repeat(refine Pn.mk ?_;intro N hN)))|((try apply Or.inl);refine⟨_,aq.x (S8) (sd (tw @b7 (tw @b0 (tw @b1 (tw @b6 (tw @pY (tw @hw @hi))))))),?_⟩;refine hN _ _ ?_;clear hN N)))
    exact j5 (sd (tw @b7 (tw @b0 (tw @b1 (tw @b6 @hw))))) (by(simp only[go_sem, ↓reduceIte,Nat.reduceEqDiff,Nat.reduceAdd,Nat.reduceSub,Nat.reduceLeDiff,reduceCtorEq];exact bI0.cast (by rw[k9])))
   ·have Fe:0<=ix:=ai
    have OE:=lg (l:=l) (p:=eK (bG l k).bE (1-(m:Int))) ai
    rw[Gl]at OE
    have kO:=gw OE.1
    have Af:=GB s hS (bG l k).bR (1-(m:Int)) (bG l ix.toNat).bR hT (hA.2 _ (jf OE.1)) hd
    generalize SR:iM s (bG l k).bR (1-(m:Int)) (bG l ix.toNat).bR=bv at *
    by_cases hb:0<bv
    ·rw[if_pos ⟨Fe,hb⟩]at k9
     (repeat(first|((repeat(revert hN;revert N;apply Pn.out));refine wa (tw @b7 (tw @b0 (tw @b1 (tw @b6 (tw @pY (tw @hw (tw @hi (tw @Fe (tw @eU (tw @kO (tw @hb @aa.eq_1))))))))))) ?_;(repeat(refine Pn.mk ?_;intro N hN)))|((try apply Or.inl);refine⟨_,aq.x (S8) (sd (tw @b7 (tw @b0 (tw @b1 (tw @b6 (tw @pY (tw @hw (tw @hi (tw @Fe (tw @eU (tw @kO (tw @hb @aa.eq_1)))))))))))),?_⟩;refine hN _ _ ?_;clear hN N)|((try apply Or.inl);refine⟨_,aq.x (Af) (sd (tw @b7 (tw @b0 (tw @b1 (tw @b6 (tw @pY (tw @hw (tw @hi (tw @Fe (tw @eU (tw @kO (tw @hb @aa.eq_1)))))))))))),?_⟩;refine hN _ _ ?_;clear hN N)))
     refine PF (enc:=aB) (S:=sB) (L:=gK s l k++ga s l k m) (xv:=env_b 5) [⟨k,ix.toNat,bv⟩] rfl rfl (sd @Nat.zero_add) (bI0.frame fun o ho=>by rcases ho with ho|ho<;>simp only[go_sem, ↓reduceIte,Nat.reduceEqDiff,Nat.reduceAdd,Nat.reduceSub,Nat.reduceLeDiff,reduceCtorEq,zK ho]) (sd (tw @aB.eq_1 (Int.toNat_of_nonneg Fe))) Nw (.inr rfl) (by simp only[dn,List.length_append,List.length_cons,List.length_nil];omega) fun v g' hO kK=>?_
     rw[List.append_assoc,<-k9]at hO
     clear kK
     (try((repeat(revert hN;revert N;apply Pn.out));refine wk (tw @b7 (tw @b0 (tw @b1 (tw @b6 @hw)))) ?_;(repeat(refine Pn.mk ?_;intro N hN))))
     exact j5 (sd (tw @b7 (tw @b0 (tw @b1 (tw @b6 @hw))))) (by(simp only[go_sem, ↓reduceIte,Nat.reduceEqDiff,Nat.reduceAdd,Nat.reduceSub,Nat.reduceLeDiff,reduceCtorEq];exact hO))
    ·rw[if_neg fun h=>hb h.2,List.append_nil]at k9
     (repeat(first|((repeat(revert hN;revert N;apply Pn.out));refine wk (tw @b7 (tw @b0 (tw @b1 (tw @b6 (tw @pY (tw @hw (tw @hi (tw @Fe (tw @eU (tw @kO (tw @hb @aa.eq_1))))))))))) ?_;(repeat(refine Pn.mk ?_;intro N hN)))|((try apply Or.inl);refine⟨_,aq.x (S8) (sd (tw @b7 (tw @b0 (tw @b1 (tw @b6 (tw @pY (tw @hw (tw @hi (tw @Fe (tw @eU (tw @kO (tw @hb @aa.eq_1)))))))))))),?_⟩;refine hN _ _ ?_;clear hN N)|((try apply Or.inl);refine⟨_,aq.x (Af) (sd (tw @b7 (tw @b0 (tw @b1 (tw @b6 (tw @pY (tw @hw (tw @hi (tw @Fe (tw @eU (tw @kO (tw @hb @aa.eq_1)))))))))))),?_⟩;refine hN _ _ ?_;clear hN N)))
     exact j5 (sd (tw @b7 (tw @b0 (tw @b1 (tw @b6 @hw))))) (by(simp only[go_sem, ↓reduceIte,Nat.reduceEqDiff,Nat.reduceAdd,Nat.reduceSub,Nat.reduceLeDiff,reduceCtorEq];exact bI0.cast (by rw[k9])))
  ·have r7:m=2:=ai
   subst r7
   have eh:¬(0:Int)<=1-((2:Nat):Int):=ai
   (try((repeat(revert hN;revert N;apply Pn.out));refine wk (tw @b7 (tw @b0 (tw @b1 (tw @b6 @eh)))) ?_;(repeat(refine Pn.mk ?_;intro N hN))))
   exact cY (sd (tw @a6 (tw @a0 (tw @a1 (tw @b7 (tw @b0 (tw @b1 @b6))))))) (by(simp only[go_sem, ↓reduceIte,Nat.reduceEqDiff,Nat.reduceAdd,Nat.reduceSub,Nat.reduceLeDiff,reduceCtorEq];exact bI0.cast (by rw[qt])))
 ·have ml:k=l.length:=ai
  (try((repeat(revert hN;revert N;apply Pn.out));refine wk (tw @a6 (tw @a0 (tw @a1 @hk))) ?_;(repeat(refine Pn.mk ?_;intro N hN))))
  exact vN (.inl rfl) (by simp only[go_sem, ↓reduceIte,Nat.reduceEqDiff,Nat.reduceAdd,Nat.reduceSub,Nat.reduceLeDiff,reduceCtorEq];rfl) (by rw[ml]at lL;exact lL.gq fun b=>tM _ _ b)
end Go.Proofs.YtgoljkjaameagaaGreat.V
