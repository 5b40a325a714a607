/- Sequences are played: plain, and by the reference. -/
import Derived.Test.YtoodopepphhpoaaGreatDoorTtB
import Derived.Test.YtoodopepphhpoaaGreatDoorTtD
import Derived.Test.YtoodopepphhpoaaGreatDoorTtE
import Derived.Test.YtoodopepphhpoaaGreatDoorTtC
import Derived.Maps.OwnIn
import Derived.Stop.LaidErr
import Derived.Test.YtoodopepphhpoaaGreatDoorChecked
import Derived.Test.YtoodopepphhpoaaGreatDoorRows
import Derived.ProofKit
import Derived.ChangeOld
import Derived.Below
import Derived.LaidEql
import Derived.Stop.Asserts
import Derived.RowKitTokens
set_option linter.unusedVariables false
set_option linter.unusedSimpArgs false
set_option maxRecDepth 100000
set_option maxHeartbeats 16000000
namespace Go.Proofs.YtoodopepphhpoaaGreatDoor
namespace V
open Go.RowKit
attribute [local irreducible] dY wpOps fm Call
def dx (s:ar) (es:List aa) (i:Nat):List aa:=(es.take i).foldl (fun n x=>jB n x) s.cw.aq
noncomputable def RE (s:ar) (es:List aa) (i:Nat):Bool:=eE s.ay (bc es i).bK&&eu s (dx s es i) (bc es i).aH (bc es i).bK
noncomputable def j5 (s:ar) (es:List aa) (i:Nat):Bool:=RE s es i&&decide ((dx s es i).length<500)
theorem Ce (s:ar) (es:List aa):dx s es 0=s.cw.aq:=rfl
theorem jg (s:ar) (es:List aa) {i:Nat} (hi:i<es.length):dx s es (i+1)=jB (dx s es i) (bc es i):=by
 unfold dx;rw[Av hi,List.foldl_append];rfl
theorem IS {s:ar} {l:List aa} (hA:fS s.ay l) {x:aa} (hlen:l.length<500) (ht:eE s.ay x.bK=true) (hf:eu s l x.aH x.bK=true) (hs:s.ay.aq.length<=160):fS s.ay (jB l x):=by
 have jI:jj x.bK 0 159=true:=jc (by have h:=ht;unfold eE at h;have:=dV h;omega);have hp:s9 x.aH=true:=by simp[eu]at hf;exact hf.1.1
 have h0:ei l x.aH<0:=(CG hA x.aH).1 (by simp[eu]at hf;exact hf.1.2);have hR:=OL hA.1.pH h0;refine⟨⟨by rw[oL];omega,fun i wh=>?_⟩,fun t ht2=>?_⟩
 ·rcases jd.1 (e7 wh)with h|h
  ·rw[GA,h];exact⟨hp,jI,fun h1=>by have z:=hR (i-1) i ae wh;rw[h]at z;exact z⟩
  ·obtain⟨j,hj,iL⟩:=List.getElem_of_mem h;have h1:=hA.1.ok j hj;rw[GA,ev hj,iL]at h1;exact⟨h1.1,h1.2.1,fun h0=>hR _ _ ae wh⟩
 ·rcases jd.1 ht2 with rfl|h
  ·exact ht
  ·exact hA.2 t h
theorem nk {s:ar} (hP:lW s) {es:List aa}:∀i,i<=es.length->(∀j,j<i->j5 s es j=true)->fS s.ay (dx s es i)
 |0,_,_=>hP.ud
 |i+1,hi,h=>by
  have ih:=nk hP (es:=es) i ae fun j hj=>h j ae;have hg:=h i ae;rw[j5,Bool.and_eq_true,RE,Bool.and_eq_true]at hg;rw[jg s es ae];exact IS ih (of_decide_eq_true hg.2) hg.1.1 hg.1.2 hP.set.qj
def AtK (n:Nat) (l:List aa) (x:aa) (r:AV) (σ':aw):Prop:=(500<=l.length/\r=.gG [.agg [.ck],.int .i64 4])∨(l.length<500/\∃o:Id,r=.gG [.agg [.own o 0 (jB l x).length],.int .i64 0]/\σ'.get o=some ⟨true,3,(jB l x).map ad⟩/\n<=o.bH/\o.bH<σ'.next)
theorem FQ (l:List aa) (hl:l.length<=1048576) (x:aa) (n0:Nat):Call Tryz.prog 69 [.dZ [.sl (l.map ad)],.agg (ad x)] ⟨fun _=>none,n0⟩ (AtK n0 l x):=by
 refine fG fx rfl fun fM=>?_;clear fM
 by_cases h5:500<=l.length
 ·have hd:((500:Nat):Int)<=(l.length:Int):=ae;have rW:(500:Int)<=(l.length:Int):=ae;(try((repeat(revert N;apply g7));refine wk (tw3 @ad.eq_1 @hd @rW) ?_;repeat(apply g6;intro N hN)));exact eH (.inl rfl) (vs:=[.agg [.ck],.int .i64 4]) (sd @g8) (.inl ⟨h5,rfl⟩)
 ·have rW:¬(500:Int)<=(l.length:Int):=ae;(try((repeat(revert N;apply g7));refine wk (tw @ad.eq_1 @rW) ?_;repeat(apply g6;intro N hN)));refine .inr (ax _ _ _ _ _ (fun r σ1 hq=>?_) (TM.val (fun n=>N9 l hl x.aH x.bK n) (by simp only[ah,aj,aJ,bb,aL,Option.map_some];rfl)));obtain⟨⟨o,rfl,q1,q2,q3⟩,hK⟩:=hq;obtain⟨g1,x1⟩:=σ1;(try dsimp only at q1 q2 q3 hK);have hx:(⟨x.aH,x.bK⟩:aa)=x:=rfl;rw[hx]at q1 ⊢;have k4:=hK.2 ⟨69000001,n0⟩ aI;simp only[go_sem,↓reduceIte,Nat.reduceEqDiff,Nat.reduceAdd,Nat.reduceSub,Nat.reduceLeDiff,reduceCtorEq]at k4;have vo:=ew (a:=⟨69000001,n0⟩) (b:=o) (by(try dsimp only at q2);(try dsimp only);omega);apply hN;clear hN N;(try((repeat(revert N;apply g7));refine wk @k4 ?_;repeat(apply g6;intro N hN)));exact eH (.inl rfl) (vs:=[.agg [.own o 0 (jB l x).length],.int .i64 0]) (sd @g8) (.inr ⟨ae,o,rfl,sd (tw @vo @q1),by(try dsimp only at q2);omega,aI⟩)
theorem MJ {X o:Id} {l:List aa} {σ:aw} (hl:l.length<=1048576) (x:aa) (hX:σ.get X=some ⟨true,1,[[.own o 0 l.length]]⟩) (ho:σ.get o=some ⟨true,3,l.map ad⟩):
  Call Tryz.prog 69 [.ptr X 0 0,.agg (ad x)] σ (fun r σ'=>AtK σ.next l x r σ'/\Kept σ σ'):=by
 refine yI mixed (args':=[.dZ [.sl (l.map ad)],.agg (ad x)]) (by
  have hp:=JD hX ho
  simp only[ah,aj,hp,Option.map_some,ad,bb,aL]) (ax _ _ _ _ _ (fun r σ' hq=>?_) (wz mixed (FQ l hl x σ.next)))
 obtain⟨hq,hn⟩:=hq
 rcases hq with⟨h5,rfl⟩|⟨h5,o2,rfl,h2,h3,h4⟩
 ·exact⟨[],rfl,fun i hi=>by(cases hi),.inl ⟨h5,rfl⟩,hn,fun j hj=>lF (g':=σ'.get) (List.not_mem_nil)⟩
 ·refine⟨[o2],rfl,fun i hi=>?_,.inr ⟨h5,o2,rfl,(rF (by simp)).trans h2,h3,h4⟩,hn,fun j hj=>lF fun hc=>?_⟩
  ·rw[List.mem_singleton.1 hi]
   exact⟨_,h2,rfl,fun cs eD a ha=>by
    obtain⟨y,_,rfl⟩:=List.mem_map.1 eD;simp[ad]at ha
    rcases ha with rfl|rfl|rfl<;>rfl⟩
  ·rw[List.mem_singleton.1 hc]at hj;omega
theorem Tn (a b:af):(decide (a.eV=b.eV)&&decide (a.eR=b.eR))=decide (a=b):=by
 obtain⟨x,y⟩:=a;obtain⟨x',y'⟩:=b;rw[Bool.eq_iff_iff]
 simp
theorem KV (L:List af) (p:af) (hlen:L.length<=1048576):∃z:Int,(0<=z↔p∈L)/\au Tryz.prog 133 [.sl (L.map ab),.agg (ab p)] (.int .i64 z):=by
 have key:∀m:Nat,m<=L.length->(∀j (hj:j<L.length),j<m->¬p=L[j])->(∀hm:m<L.length,p=L[m])->au Tryz.prog 133 [.sl (L.map ab),.agg (ab p)] (.int .i64 (if m<L.length then(m:Int)else -1)):=by
  intro m hm hb ha;refine au.body fx rfl fun hl n0=>?_;clear hl;have eW:(L.map ab).length=L.length:=by simp
  (try((repeat(revert N;apply g7));refine wk (tw @ab.eq_1 @eW) ?_;repeat(apply g6;intro N hN)));refine cj (fun n env st=>∃k:Nat,n=(L.length)-k/\k<=(L.length)/\env 8=.int .i64 (k:Int)/\st.get ⟨133000000,n0⟩=some ⟨true,2,[ab p]⟩/\(k<=m)) (L.length) ⟨0,ae,ae,sl (tw @ab.eq_1 @eW),sl (tw @ab.eq_1 @eW),Nat.zero_le _⟩ ?_;rintro n_a m3 i8 ⟨k,rfl,ale,a8,eK,mD⟩ eC;have a0:=eC 0 g9;have a3:=eC 3 g9;have a7:=eC 7 g9;simp only[go_sem,↓reduceIte,Nat.reduceEqDiff,Nat.reduceAdd,Nat.reduceSub,Nat.reduceLeDiff,reduceCtorEq,ab,eW]at a0 a3 a7;clear eC
  by_cases hk:(k:Int)<(L.length:Int)
  ·have dW:∀{e:Env} {gg:Rows},(e 8=.int .i64 (IntKind.i64.wrap ((k:Int)+1)))->(gg ⟨133000000,n0⟩=some ⟨true,2,[ab p]⟩)->((k+1)<=m)->∃m0,m0<(L.length)-k/\∃k:Nat,m0=(L.length)-k/\k<=(L.length)/\e 8=.int .i64 (k:Int)/\gg ⟨133000000,n0⟩=some ⟨true,2,[ab p]⟩/\(k<=m):=fun x1 x2 x3=>⟨_,ae,k+1,rfl,ae,(by rw[x1,aZ ae]),x2,x3⟩;have hi:k<L.length:=ae;have ll:(L.map ab)[k]? =some (ab L[k]):=by simp[hi]
   by_cases Yz:k=m
   ·have he:=ha ae
    have hq:(decide (p.eV=L[k].eV)&&decide (p.eR=L[k].eR))=true:=by
     rw[Tn];subst Yz;exact decide_eq_true he
    generalize L[k]=c at *;(try((repeat(revert N;apply g7));refine wk (tw9 @a8 @eK @a0 @a3 @a7 @hk @ll @hq (tw @eW @ab.eq_1)) ?_;repeat(apply g6;intro N hN)));exact ed (b:=(k:Int)) (.inl rfl) (sd @g8) (by rw[if_pos ae,Yz])
   ·have hq:(decide (p.eV=L[k].eV)&&decide (p.eR=L[k].eR))=false:=by
     rw[Tn];exact decide_eq_false (hb k hi ae)
    generalize L[k]=c at *;(try((repeat(revert N;apply g7));refine wk (tw9 @a8 @eK @a0 @a3 @a7 @hk @ll @hq (tw @eW @ab.eq_1)) ?_;repeat(apply g6;intro N hN)));refine dW ?_ ?_ ae
    all_goals simp only[go_sem,↓reduceIte,Nat.reduceEqDiff,Nat.reduceAdd,Nat.reduceSub,Nat.reduceLeDiff,reduceCtorEq,a8,eK,a0,a3,a7,eW,ab]
  ·(try((repeat(revert N;apply g7));refine wk (tw6 @a8 @eK @a0 @a3 @a7 @hk) ?_;repeat(apply g6;intro N hN)));exact ed (b:=-1) (.inl rfl) (sd @g8) (by rw[if_neg ae])
 by_cases h:p∈L
 ·refine⟨_,?_,key (L.findIdx fun x=>decide (p=x)) List.findIdx_le_length (fun j hj eG=>?_) fun hm=>?_⟩
  ·have eG:(L.findIdx fun x=>decide (p=x))<L.length:=List.findIdx_lt_length.2 ⟨p,h,by simp⟩;rw[if_pos eG];exact⟨fun _=>h,fun _=>ae⟩
  ·have:=List.not_of_lt_findIdx eG
   simpa using this
  ·have:=List.findIdx_getElem (w:=hm)
   simpa using this
 ·refine⟨_,?_,key L.length i4 (fun j hj _ he=>h (he▸List.getElem_mem hj)) fun hm=>absurd hm (Nat.lt_irrefl _)⟩;rw[if_neg (Nat.lt_irrefl _)];exact⟨fun h=>ae,fun h'=>absurd h' h⟩
theorem CT (L:List af) (p:af) (hlen:L.length<=1048576):au Tryz.prog 93 [.sl (L.map ab),.agg (ab p)] (.bool (decide (p∈L))):=by
 refine au.body fx rfl fun hl n0=>?_;clear hl;obtain⟨z,hz,hi⟩:=KV L p hlen;(repeat(first|((repeat(revert N;apply g7));refine wk @ab.eq_1 ?_;repeat(apply g6;intro N hN))|((try apply i3);refine⟨_,au.x (hi) (sd @ab.eq_1),?_⟩;apply hN;clear hN N)));exact cZ (.inl rfl) (by simp only[go_sem,↓reduceIte,Nat.reduceEqDiff,Nat.reduceAdd,Nat.reduceSub,Nat.reduceLeDiff,reduceCtorEq];rfl) (by rw[Bool.eq_iff_iff];simp[hz])
def lr (qs:List af) (x:aa):Bool:=decide (x.aH∈qs)
theorem Az (qs:List af) (hq:qs.length<=1048576) (x:aa):au Tryz.prog 92 [.agg (ad x),.dZ [.sl (qs.map ab)]] (.bool (lr qs x)):=by
 refine au.body fx rfl fun hl n0=>?_;clear hl;have h:=CT qs x.aH hq;rw[ab]at h;(repeat(first|((repeat(revert N;apply g7));refine wk @ad.eq_1 ?_;repeat(apply g6;intro N hN))|((try apply i3);refine⟨_,au.x (h) (sd @ad.eq_1),?_⟩;apply hN;clear hN N)));exact cZ (b:=decide (x.aH∈qs)) (.inl rfl) (sd @g8) rfl
theorem Q9 (qs:List af) (hq:qs.length<=1048576) (ps:List aa) (hl:ps.length<=1048576):au Tryz.prog 132 [.sl (ps.map ad),.fn 92 [.dZ [.sl (qs.map ab)]]] (.int .i64 (iP (lr qs) ps)):=
 nP tx (show AJ Tryz.prog 132=some (pw 132 3 true) by kernel_rfl) ps hl 92 _ _ (fun x _=>Az qs hq x) fun g=>by simp only[ah,aj,aJ,Option.map_some]
def ee (p:aa->Bool) (l:List aa):List aa:=l.filter fun x=> !p x
theorem K2 (p:aa->Bool) (l:List aa):(ee p l).length<=l.length:=List.length_filter_le _ _
theorem tJ {p:aa->Bool} {l:List aa} {j:Nat} (hj:j<l.length):ee p (l.take (j+1))=ee p (l.take j)++if p l[j]=true then[]else[l[j]]:=by
 unfold ee;rw[List.take_succ_eq_append_getElem hj,List.filter_append]
 congr 1
 cases h:p l[j]<;>simp[h]
theorem tH {p:aa->Bool} {l:List aa} (h:∀b∈l,p b=false):ee p l=l:=by
 unfold ee;rw[List.filter_eq_self];intro b hb;rw[h b hb];rfl
structure L6 (p:aa->Bool) (bs:List aa) (j:Nat) (R:List aa):Prop where
 len:R.length=bs.length
 pre:R.take (ee p (bs.take j)).length=ee p (bs.take j)
 post:∀x,j<=x->R[x]? =bs[x]?
 lt:(ee p (bs.take j)).length<j
theorem L6.start {p:aa->Bool} {bs:List aa} {i:Nat} (hi:i<bs.length) (hw:p bs[i]=true) (hp:∀x (h:x<i),p bs[x]=false):L6 p bs (i+1) bs/\(ee p (bs.take (i+1))).length=i:=by
 have h1:ee p (bs.take i)=bs.take i:=tH fun b hb=>by
  obtain⟨x,hx,rfl⟩:=List.getElem_of_mem hb;rw[List.length_take]at hx;rw[List.getElem_take];exact hp x ae
 have h2:ee p (bs.take (i+1))=bs.take i:=by rw[tJ hi,if_pos hw,List.append_nil,h1]
 have h3:(bs.take i).length=i:=by rw[List.length_take];omega
 exact⟨⟨rfl,by rw[h2,h3],fun _ _=>rfl,by rw[h2,h3];omega⟩,by rw[h2,h3]⟩
theorem L6.Pt {p:aa->Bool} {bs R:List aa} {j:Nat} (h:L6 p bs j R) (hj:j<bs.length) (hw:p bs[j]=true):L6 p bs (j+1) R/\(ee p (bs.take (j+1))).length=(ee p (bs.take j)).length:=by
 have h2:ee p (bs.take (j+1))=ee p (bs.take j):=by rw[tJ hj,if_pos hw,List.append_nil]
 exact⟨⟨h.len,by rw[h2];exact h.pre,fun x hx=>h.post x ae,by rw[h2];have:=h.lt;omega⟩,by rw[h2]⟩
theorem L6.yc {p:aa->Bool} {bs R:List aa} {j:Nat} (h:L6 p bs j R) (hj:j<bs.length) (hw:p bs[j]=false):L6 p bs (j+1) (R.set (ee p (bs.take j)).length bs[j])/\(ee p (bs.take (j+1))).length=(ee p (bs.take j)).length+1:=by
 have h2:ee p (bs.take (j+1))=ee p (bs.take j)++[bs[j]]:=by rw[tJ hj,hw];rfl
 have eG:=h.lt;have hlen:=h.len;have nH:=h.pre;generalize hc:(ee p (bs.take j)).length=c at *;refine⟨⟨by rw[List.length_set];exact hlen,?_,fun x hx=>?_,by rw[h2,i6,hc];simp;omega⟩,by rw[h2,i6,hc];rfl⟩
 ·rw[h2,i6,hc,List.length_singleton,List.take_succ_eq_append_getElem (by rw[List.length_set];omega),List.getElem_set_self,List.take_set_of_le i4,nH]
 ·rw[List.getElem?_set_ne ae];exact h.post x ae
theorem L6.at_ {p:aa->Bool} {bs R:List aa} {j:Nat} (h:L6 p bs j R) (hj:j<bs.length):(R.map ad)[j]? =some (ad bs[j]):=by
 rw[List.getElem?_map,h.post j (Nat.le_refl j),i5 hj];rfl
theorem Hm {p:aa->Bool} {bs:List aa} (h:¬0<=iP p bs):∀b∈bs,p b=false:=by
 intro b hb;unfold iP at h
 split at h
 ·omega
 ·rename_i h1;rw[List.findIdx_lt_length]at h1
  cases hp:p b
  ·rfl
  ·exact absurd ⟨b,hb,hp⟩ h1
theorem Hn {p:aa->Bool} {bs:List aa} (h:0<=iP p bs):∃i,∃hi:i<bs.length,iP p bs=(i:Int)/\p bs[i]=true/\∀x (hx:x<i),p (bs[x]'ae)=false:=by
 unfold iP at h ⊢
 split
 ·rename_i h1;exact⟨bs.findIdx p,h1,rfl,List.findIdx_getElem,fun x hx=>by simpa using List.not_of_lt_findIdx hx⟩
 ·rename_i h1;rw[if_neg h1]at h;omega
theorem Kp (qs:List af) (U6:qs.length<=1048576) (ps X:List aa) (hl:ps.length<=1048576) (o A:Id) (σ:aw) (ho:σ.get o=some ⟨true,3,(ps++X).map ad⟩) (Yt:σ.get A=some ⟨true,1,[[.sl (qs.map ab)]]⟩) (qd:o.bH<σ.next) (hAv:A.bH<σ.next) (hoA:o≠A):
  Call Tryz.prog 90 [.own o 0 ps.length,.fn 92 [.ptr A 0 0]] σ fun r σ'=>∃J:List aa,r=.own o 0 (ee (lr qs) ps).length/\σ'.get o=some ⟨true,3,(ee (lr qs) ps++J).map ad⟩/\σ.next<=σ'.next/\∀i:Id,i.bH<σ.next->i≠o->σ'.get i=σ.get i:=by
 refine fG fx rfl fun fM=>?_;clear fM;have BM:=Q9 qs U6 ps hl;have Y1:∀(g:Rows) (n:Nat),g A=some ⟨true,1,[[.sl (qs.map ab)]]⟩->V.fz (ef g) (n+1+1) (.ptr A 0 0)=some (.dZ [.sl (qs.map ab)]):=fun g n hg=>mO (sz:=1) (rows:=[[.sl (qs.map ab)]]) (by simp[ef,hg]) rfl (by simp only[List.drop_zero,ah,aj,bP,Option.map_some])
 have wq:∀(g:Rows),g A=some ⟨true,1,[[.sl (qs.map ab)]]⟩->g o=some ⟨true,3,(ps++X).map ad⟩->eM (ef g) 6 [.own o 0 ps.length,.fn 92 [.ptr A 0 0]]=some [.sl (ps.map ad),.fn 92 [.dZ [.sl (qs.map ab)]]]:=fun g h1 h3=>by
  have q1:V.fz (ef g) 6 (.own o 0 ps.length)=some (.sl (ps.map ad)):=by
   rw[uL];have:ef g o=some ⟨true,3,(ps++X).map ad⟩:=by simp[ef,h3]
   simp only[this,if_true];have h4:((ps++X).map ad).take ps.length=ps.map ad:=by rw[<-List.map_take,List.take_append_of_le_length i4,List.take_length]
   rw[if_pos (by simp),List.drop_zero,h4,pk fun x=>by simp only[ad,ah,aj,aL,Option.map_some]];rfl
  have q2:=Y1 g 3 h1;simp only[ah,aj,q1,cq,List.all_cons,List.all_nil,AV.cell,Bool.and_true,if_true,q2,Option.map_some]
 have qt:∀(g:Rows),g A=some ⟨true,1,[[.sl (qs.map ab)]]⟩->∀b:aa,eM (ef g) 6 [.agg (ad b),.ptr A 0 0]=some [.agg (ad b),.dZ [.sl (qs.map ab)]]:=fun g h1 b=>by
  have q2:=Y1 g 4 h1;simp only[ah,aj,bb,ad,aL,q2,Option.map_some]
 have iy:(ps++X).length=ps.length+X.length:=i6;have lh:∀j,j<=ps.length->(ps++X).take j=ps.take j:=fun j hj=>List.take_append_of_le_length hj;have jV:∀j (hj:j<ps.length),(ps++X)[j]'(by rw[iy];omega)=ps[j]:=fun j hj=>List.getElem_append_left hj;(try((repeat(revert N;apply g7));refine wk @g8 ?_;repeat(apply g6;intro N hN)));refine .inl ⟨_,au.x BM (wq _ Yt ho),?_⟩;apply hN;clear hN N
 by_cases h0:0<=iP (lr qs) ps
 ·obtain⟨i,hi,Jf,YM,GK⟩:=Hn h0;rw[Jf]at *;have Fs:decide ((i:Int)= -1)=false:=decide_eq_false ae;have Td:IntKind.i64.wrap ((i:Int)+1)=((i+1:Nat):Int):=aZ ae;obtain⟨ez,nI⟩:=L6.start (p:=lr qs) (bs:=ps++X) (i:=i) (by rw[iy];omega) (by rw[jV i hi];exact YM) (fun x hx=>by rw[jV x ae];exact GK x hx);(try((repeat(revert N;apply g7));refine wk (tw @Fs @Td) ?_;repeat(apply g6;intro N hN)));refine cj (fun m env st=>∃(j:Nat) (R:List aa),m=ps.length-j/\env 6=.int .i64 (j:Int)/\env 5=.int .i64 ((ee (lr qs) (ps.take j)).length:Int)/\st.get o=some ⟨true,3,R.map ad⟩/\L6 (lr qs) (ps++X) j R/\j<=ps.length/\σ.next<=st.next/\∀x:Id,x.bH<σ.next->(x=o)=False->st.get x=σ.get x) (ps.length-(i+1)) ⟨i+1,ps++X,rfl,sd @Td,by rw[<-lh (i+1) ae];simp only[go_sem,↓reduceIte,Nat.reduceEqDiff,Nat.reduceAdd,Nat.reduceSub,Nat.reduceLeDiff,reduceCtorEq,nI],sd @ho,ez,ae,aI,fun x _ _=>sd @g8⟩ ?_;rintro m m4 i9 ⟨j,R,rfl,b6,b5,bg,hD,iL,hle,gQ⟩ eB;have b0:=eB 0 g9;have b1:=eB 1 g9;simp only[go_sem,↓reduceIte,Nat.reduceEqDiff,Nat.reduceAdd,Nat.reduceSub,Nat.reduceLeDiff,reduceCtorEq]at b0 b1;clear eB;have bA:=(gQ A hAv (by simp only[eq_iff_iff,iff_false];exact fun h=>hoA h.symm)).trans Yt;have ml:=cR (i:=o) (n:=i9.next) ae;have YT:=cR (i:=A) (n:=i9.next) ae;have UF:=hD.len;rw[iy]at UF;have Nt:(R.map ad).length=ps.length+X.length:=by rw[List.length_map,UF]
  have eG:=hD.lt
  by_cases hj:(j:Int)<(ps.length:Int)
  ·have oy:j<ps.length:=ae;have UT:j<(ps++X).length:=ae;have zo:=hD.at_ UT;have YY:=Az qs U6 (ps++X)[j];have Jl:IntKind.i64.wrap ((j:Int)+1)=((j+1:Nat):Int):=aZ ae;have QJ:=hD.Pt UT;have QK:=hD.yc UT;rw[lh j ae]at QJ QK eG;rw[lh (j+1) ae]at QJ QK;generalize (ps++X)[j]=b at *;(try((repeat(revert N;apply g7));refine wk (tw9 @b0 @b1 @b5 @b6 @bg @hj @zo @ad.eq_1 (tw3 @ml @YT @Nt)) ?_;repeat(apply g6;intro N hN)));refine .inl ⟨_,au.x YY (qt _ (sd (tw @YT @bA)) b),?_⟩;apply hN;clear hN N
   cases hw:lr qs b
   ·obtain⟨Ns,Nr⟩:=QK hw;have Nw:((ee (lr qs) (ps.take j)).length:Int)<(ps.length:Int):=ae;have Tb:IntKind.i64.wrap (((ee (lr qs) (ps.take j)).length:Int)+1)=(((ee (lr qs) (ps.take j)).length+1:Nat):Int):=aZ ae;have fV:(R.map ad).set (ee (lr qs) (ps.take j)).length [.int .i64 b.aH.eV,.int .i64 b.aH.eR,.int .i64 b.bK]=(R.set (ee (lr qs) (ps.take j)).length b).map ad:=by rw[List.map_set];rfl
    have Ei:∃y,(R.map ad)[(ee (lr qs) (ps.take j)).length]? =some (ad y):=⟨R[(ee (lr qs) (ps.take j)).length]'ae,by rw[List.getElem?_map,i5 ae];rfl⟩
    obtain⟨y,Ei⟩:=Ei;rw[ad]at Ei;(try((repeat(revert N;apply g7));refine wk (tw9 @b0 @b1 @b5 @b6 @bg @hw @Jl @Tb (tw5 @Nw @fV @Ei @ml @Nt)) ?_;repeat(apply g6;intro N hN)));refine⟨_,?_,j+1,_,rfl,sd @Jl,sd (tw @Tb @Nr),sd @fV,Ns,ae,aI,fun x hx uV=>?_⟩
    ·omega
    ·have NW:=cR (i:=x) (n:=i9.next) ae;have:=gQ x hx uV;simp only[go_sem,↓reduceIte,Nat.reduceEqDiff,Nat.reduceAdd,Nat.reduceSub,Nat.reduceLeDiff,reduceCtorEq,NW,this,uV]
   ·obtain⟨Ns,Nr⟩:=QJ hw;(try((repeat(revert N;apply g7));refine wk (tw6 @b0 @b1 @b5 @b6 @hw @Jl) ?_;repeat(apply g6;intro N hN)));refine⟨_,?_,j+1,R,rfl,sd @Jl,sd (tw @b5 @Nr),sd (tw @bg @ml),Ns,ae,aI,fun x hx uV=>?_⟩
    ·omega
    ·have NW:=cR (i:=x) (n:=i9.next) ae;have:=gQ x hx uV;simp only[go_sem,↓reduceIte,Nat.reduceEqDiff,Nat.reduceAdd,Nat.reduceSub,Nat.reduceLeDiff,reduceCtorEq,NW,this]
  ·have iL:j=ps.length:=ae;subst iL;have nH:=hD.pre;rw[lh _ i4]at eG nH;rw[List.take_length]at b5 eG nH;have Nw:((ee (lr qs) ps).length:Int)<=(ps.length:Int):=ae;have SR:(ee (lr qs) ps).length<=ps.length:=ae;have mV:(ee (lr qs) ps).length+(ps.length-(ee (lr qs) ps).length)=ps.length:=ae;have qV:ps.length<=ps.length+X.length:=ae;(try((repeat(revert N;apply g7));refine wk (tw9 @b0 @b1 @b5 @b6 @bg @hj @Nt @Nw (tw7 @SR @mV @qV @Nat.le_refl @Nat.sub_zero @Int.le_refl @ml)) ?_;repeat(apply g6;intro N hN)));have hm:List.take (ee (lr qs) ps).length (List.map ad R)=(ee (lr qs) ps).map ad:=by rw[<-List.map_take,nH]
   have hz9:∀n:Nat,List.replicate n [AV.int .i64 0,AV.int .i64 0,AV.int .i64 0]=(List.replicate n (⟨⟨0,0⟩,0⟩:aa)).map ad:=fun n=>by rw[List.map_replicate];rfl
   refine eH (.inl rfl) (vs:=[.own o 0 (ee (lr qs) ps).length]) (sd @g8) ⟨List.replicate (ps.length-(ee (lr qs) ps).length) ⟨⟨0,0⟩,0⟩++R.drop ps.length,rfl,?_,aI,fun x hx uV=>?_⟩
   ·simp only[go_sem,↓reduceIte,Nat.reduceEqDiff,Nat.reduceAdd,Nat.reduceSub,Nat.reduceLeDiff,reduceCtorEq];rw[hm,hz9,<-List.map_drop,<-List.map_append,<-List.map_append,List.append_assoc]
   ·have FB:(x=o)=False:=by simp only[eq_iff_iff,iff_false];exact uV
    have:=gQ x hx FB;simp only[go_sem,↓reduceIte,Nat.reduceEqDiff,Nat.reduceAdd,Nat.reduceSub,Nat.reduceLeDiff,reduceCtorEq,FB,this]
 ·have hn:=Hm h0;have ez:=tH (p:=lr qs) hn
  have hd:decide (iP (lr qs) ps= -1)=true:=decide_eq_true (by
   unfold iP at h0 ⊢
   split
   ·rename_i h;rw[if_pos h]at h0;omega
   ·rfl)
  (try((repeat(revert N;apply g7));refine wk @hd ?_;repeat(apply g6;intro N hN)));refine eH (.inl rfl) (vs:=[.own o 0 ps.length]) (sd @g8) ⟨X,by rw[ez];rfl,by rw[ez];simp only[go_sem,↓reduceIte,Nat.reduceEqDiff,Nat.reduceAdd,Nat.reduceSub,Nat.reduceLeDiff,reduceCtorEq,ho],aI,fun x _ _=>rfl⟩
theorem Kh (ps:List aa) (hp:0<ps.length) (hl:ps.length<=1048576) (σ:aw):
  Call Tryz.prog 91 [.sl (ps.map ad)] σ fun r σ'=>∃o:Id,r=.own o 0 ps.length/\σ'.get o=some ⟨true,3,ps.map ad⟩/\σ.next<=o.bH/\o.bH<σ'.next/\∀i:Id,i.bH<σ.next->σ'.get i=σ.get i:=by
 refine fG fx rfl fun hl=>?_;clear hl;have hz:(ps.map ad).all (fun c=>c.length==3&&c.all AV.cell)=true:=all_map fun x=>by simp[ad,AV.cell]
 obtain⟨b,r,rfl⟩:∃b r,ps=b::r:=by
  cases ps with
  |nil=>simp at hp
  |cons b r=>exact⟨b,r,rfl⟩
 have eW:(List.map ad (b::r)).length=(b::r).length:=by simp
 have e1:r.length<=16777215:=by simp at hl;omega
 rw[List.map_cons]at hz eW ⊢;(try((repeat(revert N;apply g7));refine wk (tw3 @hz @eW @e1) ?_;repeat(apply g6;intro N hN)));refine eH (.inl rfl) (vs:=[.own ⟨91003002,σ.next+1+1⟩ 0 (b::r).length]) (by simp only[ir,jw,go_sem,↓reduceIte,Nat.reduceEqDiff,Nat.reduceAdd,Nat.reduceSub,Nat.reduceLeDiff,reduceCtorEq,List.length_cons]) ⟨⟨91003002,σ.next+1+1⟩,rfl,sd @g8,aI,aI,fun i hi=>?_⟩;have hv:=cR hi;simp only[go_sem,↓reduceIte,Nat.reduceEqDiff,Nat.reduceAdd,Nat.reduceSub,Nat.reduceLeDiff,reduceCtorEq,hv]
def MkT (n:Nat) (L:List aa) (r:AV) (σ':aw):Prop:=∃(o:Id) (J:List aa),r=.agg [.own o 0 L.length]/\σ'.get o=some ⟨true,3,(L++J).map ad⟩/\n<=o.bH/\o.bH<σ'.next
theorem LV (a:List aa) (qs:List af) (h0:0<a.length) (ha:a.length<=1048576) (hq:qs.length<=1048576) (n0:Nat):Call Tryz.prog 45 [.agg [.sl (a.map ad)],.sl (qs.map ab)] ⟨fun _=>none,n0⟩ (MkT n0 (ee (lr qs) a)):=by
 refine fG fx rfl fun hl=>?_;clear hl;have hc:=fun σ=>Kh a h0 ha σ;(try((repeat(revert N;apply g7));refine wk @g8 ?_;repeat(apply g6;intro N hN)));refine .inr (ax _ _ _ _ _ (fun r σ1 GL=>?_) (hc _));obtain⟨g1,x1⟩:=σ1;obtain⟨o,rfl,q1,q2,q3,q4⟩:=GL;(try dsimp only at q1 q2 q3 q4);have kA:=q4 ⟨45000001,n0⟩ aI;have kC:=q4 ⟨45000002,n0⟩ aI;simp only[go_sem,↓reduceIte,Nat.reduceEqDiff,Nat.reduceAdd,Nat.reduceSub,Nat.reduceLeDiff,reduceCtorEq]at kA kC;apply hN;clear hN N;(try((repeat(revert N;apply g7));refine wk @g8 ?_;repeat(apply g6;intro N hN)));refine .inr (ax _ _ _ _ _ (fun r σ2 KN=>?_) (Kp qs hq a [] ha o ⟨45000001,n0⟩ _ (by rw[List.append_nil];exact q1) kA aI aI (fun e=>by first|(rw[e]at q2;(try dsimp only at q2);omega)|(rw[<-e]at q2;(try dsimp only at q2);omega))));obtain⟨g2,x2⟩:=σ2;obtain⟨J,rfl,u1,u4,u5⟩:=KN;(try dsimp only at u1 u4 u5);have kC2:=(u5 ⟨45000002,n0⟩ aI (fun e=>by first|(rw[e]at q2;(try dsimp only at q2);omega)|(rw[<-e]at q2;(try dsimp only at q2);omega))).trans kC;apply hN;clear hN N;(try((repeat(revert N;apply g7));refine wk @kC2 ?_;repeat(apply g6;intro N hN)));have oc:(o=(⟨45000002,n0⟩:Id))=False:=eq_false fun e=>by rw[e]at q2;(try dsimp only at q2);omega
 exact eH (.inl rfl) (vs:=[.agg [.own o 0 (ee (lr qs) a).length]]) (sd @g8) ⟨o,J,rfl,sd (tw @oc @u1),ae,aI⟩
theorem LW (a:List aa) (qs:List af) (h0:0<a.length) (ha:a.length<=1048576) (hq:qs.length<=1048576):au Tryz.prog 45 [.agg [.sl (a.map ad)],.sl (qs.map ab)] (.agg [.sl ((ee (lr qs) a).map ad)]):=fun n=>
 ax _ _ _ _ _ (fun r σ' hq=>by
  obtain⟨o,J,rfl,h2,_⟩:=hq;refine⟨.agg [.sl ((ee (lr qs) a).map ad)],?_,rfl⟩;simp only[mo,bR,cW]
  rw[uK (sz:=3) (rows:=(ee (lr qs) a++J).map ad) (rows':=(ee (lr qs) a).map ad) (n:=4) h2 (by simp) (by rw[List.drop_zero,<-List.map_take,List.take_append_of_le_length i4,List.take_length,xz fun x=>SH _ 3 x])];rfl) (LV a qs h0 ha hq n)
def sR (qs:List af):List aa:=qs.map fun q=>⟨q,0⟩
theorem DE {qs:List af} {x:Nat} (h:x<(sR qs).length):(bc (sR qs) x).aH=fI qs x:=by
 have hx:x<qs.length:=by simpa[sR]using h
 rw[ev h,gp hx];simp[sR]
theorem Vx {qs:List af} {x:Nat} (h:x<(sR qs).length):(qs.map ab)[x]? =some (ab (bc (sR qs) x).aH):=by
 have hx:x<qs.length:=by simpa[sR]using h
 rw[DE h];exact oM hx
theorem JF {qs:List af} (h:js qs):iJ (sR qs):=by
 intro i j uj hj;have Xa:j<qs.length:=by simpa[sR]using hj
 rw[DE ae,DE hj,gp ae,gp Xa];exact(List.pairwise_iff_getElem.1 h) i j ae Xa uj
theorem Rm {qs:List af} {p:af} (h:js qs):(decide (kN (sR qs) p<(sR qs).length)&&decide ((bc (sR qs) (kN (sR qs) p)).aH=p))=decide (p∈qs):=by
 have h1:=yw (l:=sR qs) (p:=p) (JF h);rw[Bool.eq_iff_iff,Bool.and_eq_true,decide_eq_true_eq,decide_eq_true_eq,decide_eq_true_eq]
 constructor
 ·rintro⟨h2,h3⟩;have hx:kN (sR qs) p<qs.length:=by simpa[sR]using h2
  rw[DE h2,gp hx]at h3;rw[<-h3];exact List.getElem_mem hx
 ·intro hm
  by_cases hc:kN (sR qs) p<(sR qs).length/\(bc (sR qs) (kN (sR qs) p)).aH=p
  ·exact hc
  ·rw[if_neg hc]at h1;exact absurd rfl (mX.1 (by omega:ei (sR qs) p<0) ⟨p,0⟩ (List.mem_map.2 ⟨p,hm,rfl⟩))
theorem Hd (qs:List af) (p:af) (hRq:js qs) (Jd:qs.length<=1048576):
  au Tryz.prog 162 [.sl (qs.map ab),.agg (ab p),.fn 141 []] (.gG [.int .i64 (kN (sR qs) p),.bool (decide (kN (sR qs) p<(sR qs).length)&&decide ((bc (sR qs) (kN (sR qs) p)).aH=p))]):=by
 have hR:=JF hRq;have mJ:(qs.map ab).length=(sR qs).length:=by simp[sR]
 have NM:qs.length=(sR qs).length:=by simp[sR]
 have hqg:∀{x:Nat},x<(sR qs).length->(qs.map ab)[x]? =some (ab (bc (sR qs) x).aH):=fun {x} h=>Vx h;rw[NM]at Jd;generalize sR qs=cells at hR mJ NM hqg Jd ⊢;refine au.body fx rfl fun hl n0=>?_;clear hl;(try((repeat(revert N;apply g7));refine wk (tw3 @ab.eq_1 @mJ @NM) ?_;repeat(apply g6;intro N hN)));refine cj (fun n env st=>∃i j:Nat,n=j-i/\i<=j/\j<=cells.length/\(∀x,x<i->jm (bc cells x).aH p=true)/\(∀x,j<=x->x<cells.length->jm (bc cells x).aH p=false)/\env 9=.int .i64 i/\env 10=.int .i64 j/\st.get ⟨162000000,n0⟩=some ⟨true,2,[ab p]⟩) cells.length ⟨0,cells.length,ae,ae,ae,fun x h=>ae,fun x h1 h2=>ae,by(simp only[go_sem,↓reduceIte,Nat.reduceEqDiff,Nat.reduceAdd,Nat.reduceSub,Nat.reduceLeDiff,reduceCtorEq])<;>rfl,sd @g8,sd @ab.eq_1⟩ ?_;rintro n env st ⟨i,j,rfl,uj,hj,lp,De,h9,we,hg⟩ fr;have h0:=fr 0 g9;have h2:=fr 2 g9;have h4:=fr 4 g9;have h8:=fr 8 g9;simp only[go_sem,↓reduceIte,Nat.reduceEqDiff,Nat.reduceAdd,Nat.reduceSub,Nat.reduceLeDiff,reduceCtorEq]at h0 h2 h4 h8;clear fr
 by_cases eG:(i:Int)<(j:Int)
 ·have e1:IntKind.i64.wrap ((i:Int)+j)=((i+j:Nat):Int):=by rw[db ae];rfl
  have hm:(i+j) / 2<cells.length:=ae;have ib:(qs.map ab)[(i+j) / 2]? =some (ab (bc cells ((i+j) / 2)).aH):=hqg hm
  have e2:IntKind.i64.wrap ((IntKind.u64.wrap ((i+j:Nat):Int)).fdiv (2 ^ min 1 IntKind.u64.bits))=(((i+j) / 2:Nat):Int):=by
   have h:IntKind.u64.wrap ((i+j:Nat):Int)=((i+j:Nat):Int):=by rw[IntKind.wrap_u64];omega
   rw[h,show min 1 IntKind.u64.bits=1 from rfl,show((2:Int) ^ 1)=2 from rfl,Int.fdiv_eq_ediv_of_nonneg _ ae];rw[db ae];omega
  have M0:IntKind.i64.wrap ((IntKind.u64.wrap ((i+j:Nat):Int)).fdiv (2 ^ min 1 64))=(((i+j) / 2:Nat):Int):=e2;have e3:=aZ (k:=(i+j) / 2) ae
  by_cases hc:pf (bc cells ((i+j) / 2)).aH p<0
  ·have hl:jm (bc cells ((i+j) / 2)).aH p=true:=by rw[<-lJ];simpa using hc
   (have zF:=tw9 @h0 @h2 @h4 @h8 @h9 @we @hg @eG (tw7 @e1 @e2 @M0 @ib @hc @mJ @ab.eq_1);(repeat(first|((repeat(revert N;apply g7));refine wk zF ?_;repeat(apply g6;intro N hN))|((try apply i3);refine⟨_,au.x (jt (bc cells ((i+j) / 2)).aH p) (sd zF),?_⟩;apply hN;clear hN N)));try clear zF)
   refine⟨_,?_,(i+j) / 2+1,j,rfl,ae,hj,fun x hx=>?_,De,sd @e3,sd @we,sd (tw @hg @ab.eq_1)⟩
   ·omega
   ·by_cases A3:x=(i+j) / 2
    ·subst A3;exact hl
    ·exact gF (hR x _ ae hm) hl
  ·have hl:jm (bc cells ((i+j) / 2)).aH p=false:=by rw[<-lJ];simpa using hc
   (have zF:=tw9 @h0 @h2 @h4 @h8 @h9 @we @hg @eG (tw7 @e1 @e2 @M0 @ib @hc @mJ @ab.eq_1);(repeat(first|((repeat(revert N;apply g7));refine wk zF ?_;repeat(apply g6;intro N hN))|((try apply i3);refine⟨_,au.x (jt (bc cells ((i+j) / 2)).aH p) (sd zF),?_⟩;apply hN;clear hN N)));try clear zF)
   refine⟨_,?_,i,(i+j) / 2,rfl,ae,ae,lp,fun x h1 h2=>?_,sd @h9,sd (tw @e2 @M0),sd (tw @hg @ab.eq_1)⟩
   ·omega
   ·by_cases A3:x=(i+j) / 2
    ·subst A3;exact hl
    ·rw[Bool.eq_false_iff];intro hc;have h3:=gF (hR ((i+j) / 2) x ae h2) hc;rw[hl]at h3;cases h3
 ·have NF:i=j:=ae;subst NF;have AU:kN cells p=i:=yv hj lp fun h=>De i i4 h
  by_cases hn:(i:Int)<(cells.length:Int)
  ·have jI:i<cells.length:=ae;have ib:(qs.map ab)[i]? =some (ab (bc cells i).aH):=hqg jI;have hd:decide (pf (bc cells i).aH p=0)=decide ((bc cells i).aH=p):=by simp only[Bu]
   (have zF:=tw9 @h0 @h2 @h4 @h8 @h9 @we @hg @eG (tw4 @hn @ib @mJ @ab.eq_1);(repeat(first|((repeat(revert N;apply g7));refine wk zF ?_;repeat(apply g6;intro N hN))|((try apply i3);refine⟨_,au.x (jt (bc cells i).aH p) (sd zF),?_⟩;apply hN;clear hN N)));try clear zF)
   refine lQ (.inl rfl) (r1:=.int .i64 i) (r2:=.bool (decide ((bc cells i).aH=p))) ?_ ?_ ?_
   ·simp only[go_sem,↓reduceIte,Nat.reduceEqDiff,Nat.reduceAdd,Nat.reduceSub,Nat.reduceLeDiff,reduceCtorEq]
   ·simp only[go_sem,↓reduceIte,Nat.reduceEqDiff,Nat.reduceAdd,Nat.reduceSub,Nat.reduceLeDiff,reduceCtorEq,hd]
   ·simp only[fY,bR,cW,ec,fK,Option.map_some,AU,jI,decide_true,Bool.true_and]
  ·have jI:¬i<cells.length:=ae;(try((repeat(revert N;apply g7));refine wk (tw9 @h0 @h2 @h4 @h8 @h9 @we @hg @eG (tw3 @hn @mJ @ab.eq_1)) ?_;repeat(apply g6;intro N hN)));refine lQ (.inl rfl) (r1:=.int .i64 i) (r2:=.bool false) ?_ ?_ ?_
   ·simp only[go_sem,↓reduceIte,Nat.reduceEqDiff,Nat.reduceAdd,Nat.reduceSub,Nat.reduceLeDiff,reduceCtorEq]
   ·simp only[go_sem,↓reduceIte,Nat.reduceEqDiff,Nat.reduceAdd,Nat.reduceSub,Nat.reduceLeDiff,reduceCtorEq]
   ·simp only[fY,bR,cW,ec,fK,Option.map_some,AU,jI,decide_false,Bool.false_and]
theorem Qn {s:aE} {l m:List aa} (hA:fS s l) (hR:iJ m) (hm:∀x∈m,x∈l) (hlen:m.length<=l.length):fS s m:=by
 refine⟨⟨Nat.le_trans hlen hA.1.oG,fun i hi=>?_⟩,fun t ht=>hA.2 t (hm t ht)⟩;obtain⟨j,hj,iL⟩:=List.getElem_of_mem (hm _ (e7 hi));have h1:=hA.1.ok j hj;rw[GA,ev hj,iL]at h1;exact⟨h1.1,h1.2.1,fun h0=>hR _ _ ae hi⟩
def Mo (s:ar) (x:aa):Bool:=decide (ej s.cw.aq x.aH=x.bK)
def Be (s:ar) (a:List aa) (qs:List af) (i:Nat):Bool:=decide (0<=ei a (fI qs i))&&(!Mo s (bc a (ei a (fI qs i)).toNat)&&(decide (i=0)||jm (fI qs (i-1)) (fI qs i)))
noncomputable def qu (s:ar) (a:List aa) (qs:List af):Bool:=@decide (∀i,i<qs.length->Be s a qs i=true) (Classical.propDecidable _)
theorem o8 {s:ar} {a:List aa} {qs:List af}:qu s a qs=true↔∀i,i<qs.length->Be s a qs i=true:=by simp[qu]
theorem Pv {s:ar} {a:List aa} {qs:List af} {i:Nat} (hi:i<qs.length) (h:Be s a qs i=false):qu s a qs=false:=by
 rw[Bool.eq_false_iff];intro hc;have:=o8.1 hc i hi;rw[h]at this;cases this
theorem sH {s:ar} {a:List aa} {qs:List af} {i:Nat} (h:Be s a qs i=true):0<=ei a (fI qs i)/\Mo s (bc a (ei a (fI qs i)).toNat)=false/\(i=0∨jm (fI qs (i-1)) (fI qs i)=true):=by
 unfold Be at h;simp only[Bool.and_eq_true,decide_eq_true_eq,Bool.not_eq_true',Bool.or_eq_true]at h;exact h
theorem R8 {s:ar} {a:List aa} {qs:List af} (h:qu s a qs=true):js qs:=by
 have h1:=o8.1 h
 have key:∀d i j:Nat,j=i+1+d->j<qs.length->jm (fI qs i) (fI qs j)=true:=by
  intro d
  induction d with
  |zero=>
   intro i j hj hl;subst hj
   rcases(sH (h1 (i+1+0) hl)).2.2 with h2|h2
   ·omega
   ·simpa using h2
  |succ d ih=>
   intro i j hj hl;have h3:=ih i (i+1+d) rfl ae
   rcases(sH (h1 j hl)).2.2 with h2|h2
   ·omega
   ·have e:j-1=i+1+d:=ae;rw[e]at h2;exact gF h3 h2
 unfold js;rw[List.pairwise_iff_getElem];intro i j hi hj uj;have:=key (j-i-1) i j ae hj
 rwa [gp hi,gp hj]at this
def fj (s:ar) (a:List aa):List af:=(a.filter fun x=> !Mo s x).map (·.aH)
theorem O1 {s:ar} {a:List aa} (h:iJ a):js (fj s a):=by
 rw[lR]at h;unfold fj js;rw[List.pairwise_map];exact List.Pairwise.sublist List.filter_sublist h
theorem mY {a:List aa} (h:iJ a) {i:Nat} (hi:i<a.length):ei a a[i].aH=i:=by
 have h0:0<=ei a a[i].aH:=by
  rcases Int.lt_or_le (ei a a[i].aH) 0 with h0|h0
  ·exact absurd rfl (mX.1 h0 a[i] (List.getElem_mem hi))
  ·exact h0
 obtain⟨h1,h2⟩:=iz h0
 have h3:(ei a a[i].aH).toNat=i:=by
  rcases Nat.lt_trichotomy (ei a a[i].aH).toNat i with h4|h4|h4
  ·have:=h _ _ h4 hi;rw[h2,ev hi,gJ]at this;cases this
  ·exact h4
  ·have:=h _ _ h4 h1;rw[h2,ev hi,gJ]at this;cases this
 omega
theorem O0 {s:ar} {a:List aa} (h:iJ a) (p:af):p∈fj s a↔0<=ei a p/\Mo s (bc a (ei a p).toNat)=false:=by
 unfold fj;rw[List.mem_map]
 constructor
 ·rintro⟨x,hx,rfl⟩;obtain⟨h1,h2⟩:=List.mem_filter.1 hx;obtain⟨i,hi,rfl⟩:=List.getElem_of_mem h1;rw[mY h hi];refine⟨ae,?_⟩;rw[Int.toNat_natCast,ev hi]
  simpa using h2
 ·rintro⟨h1,h2⟩;obtain⟨h3,h4⟩:=iz h1;rw[ev h3]at h2 h4;exact⟨_,List.mem_filter.2 ⟨List.getElem_mem h3,by rw[h2];rfl⟩,h4⟩
theorem BT {p:aa->Bool} {a:List aa} (h:iJ a):iJ (ee p a):=by
 rw[lR]at h ⊢;exact List.Pairwise.sublist List.filter_sublist h
theorem BU {p:aa->Bool} {a:List aa}:∀x∈ee p a,x∈a:=fun x hx=>(List.mem_filter.1 hx).1
theorem K0 {s:aE} {p:aa->Bool} {a:List aa} (h:fS s a):fS s (ee p a):=Qn h (BT h.1.pH) BU (K2 p a)
theorem T5 {a:List aa} (h:iJ a) {x:aa} (hx:x∈a):ej a x.aH=x.bK:=by
 obtain⟨i,hi,rfl⟩:=List.getElem_of_mem hx;unfold ej;rw[mY h hi,if_pos ae,Int.toNat_natCast,ev hi]
theorem Px {s:ar} {a:List aa} {qs:List af} (hR:iJ a) (h:qu s a qs=true) {x:aa} (hx:x∈a) (hs:Mo s x=true):x.aH∉qs:=by
 intro hq;obtain⟨i,hi,Jf⟩:=List.getElem_of_mem hq;obtain⟨j,hj,rfl⟩:=List.getElem_of_mem hx;have h1:=(sH (o8.1 h i hi)).2.1;rw[gp hi,Jf,mY hR hj,Int.toNat_natCast,ev hj,hs]at h1
 cases h1
theorem nZ {s:aE} (hS:gz s) {f g:af->Int} (h:∀p,0<=f p->g p=f p) (p:af) (t:Int):∀d,dv s f p t d<=dv s g p t d
 |0=>Int.le_refl _
 |d+1=>by
  have ih:=nZ hS h p t d;simp only[dv]
  by_cases h0:0<=f (bI p d)
  ·rw[if_pos h0,if_pos (by rw[h _ h0];exact h0),h _ h0];omega
  ·rw[if_neg h0];have:=uu hS t d (g (bI p d))
   split<;>omega
theorem at_mem {l:List aa} (hR:iJ l) {x:aa} (hx:x∈l):ej l x.aH=x.bK:=by
 obtain⟨j,hj,rfl⟩:=List.getElem_of_mem hx;have:=mY hR hj;unfold ej;rw[this,if_pos ae,Int.toNat_natCast,ev hj]
theorem tO {l:List aa} {p:af} (h:0<=ej l p):∃x∈l,x.aH=p/\x.bK=ej l p:=by
 unfold ej at h ⊢
 split at h
 ·rename_i h0;obtain⟨h1,h2⟩:=iz h0;exact⟨_,e7 h1,h2,by rw[if_pos h0]⟩
 ·omega
theorem RS {l:List aa} (hR:iJ l) {x y:aa} (hx:x∈l) (hy:y∈l) (h:x.aH=y.aH):x=y:=by
 obtain⟨i,hi,rfl⟩:=List.getElem_of_mem hx;obtain⟨j,hj,rfl⟩:=List.getElem_of_mem hy;have h1:=mY hR hi;have h2:=mY hR hj;rw[h]at h1;have:i=j:=ae;subst this;rfl
theorem E5 {s:ar} (hS:gz s.ay) {l l':List aa} (hR':iJ l') (h:∀x∈l,x∈l') {p:af} {t:Int} (hf:eu s l p t=true) (Fm:ej l' p<0):eu s l' p t=true:=by
 have mV:∀q,0<=ej l q->ej l' q=ej l q:=fun q hq=>by
  obtain⟨x,hx,rfl,e⟩:=tO hq;rw[<-e];exact at_mem hR' (h x hx)
 have hm:=nZ hS mV p t 4;simp only[eu,Bool.and_eq_true,decide_eq_true_eq,iT]at hf ⊢;refine⟨⟨hf.1.1,Fm⟩,?_⟩
 first
  |exact decide_eq_true (Int.le_trans (of_decide_eq_true hf.2) hm)
  |exact decide_eq_true (Int.le_trans hf.2 hm)
structure IJ (s:ar) (K M:List aa):Prop where
 pH:iJ M
 sub:∀x∈M,x∈K
 no:∀x∈K,eu s M x.aH x.bK=false
theorem IJ.in_ {s:ar} (hS:gz s.ay) {K M l:List aa} (h:IJ s K M) (hK:iJ K) (hl:∀x∈l,x∈M) {x:aa} (hx:x∈K) (hf:eu s l x.aH x.bK=true):x∈M:=by
 rcases Int.lt_or_le (ej M x.aH) 0 with h0|h0
 ·have:=E5 hS h.pH hl hf h0;rw[h.no x hx]at this;cases this
 ·obtain⟨y,hy,e,_⟩:=tO h0;rw[<-RS hK (h.sub y hy) hx e];exact hy
theorem OR {l l':List aa} (h:iJ l) (h':iJ l') (hm:∀x,x∈l↔x∈l'):l=l':=by
 rw[lR]at h h'
 induction l generalizing l' with
 |nil=>
  cases l' with
  |nil=>rfl
  |cons y r=>exact absurd ((hm y).2 (by simp)) (by simp)
 |cons x l ih=>
  cases l' with
  |nil=>exact absurd ((hm x).1 (by simp)) (by simp)
  |cons y r=>
   have h1:=List.pairwise_cons.1 h;have h2:=List.pairwise_cons.1 h'
   have hxy:x=y:=by
    rcases List.mem_cons.1 ((hm x).1 (by simp))with e|e
    ·exact e
    ·rcases List.mem_cons.1 ((hm y).2 (by simp))with e2|e2
     ·exact e2.symm
     ·have a1:=h1.1 y e2;have a2:=h2.1 x e;have:=gF a1 a2;rw[gJ]at this;cases this
   subst hxy;rw[ih h1.2 h2.2 fun z=>?_]
   constructor
   ·intro hz
    rcases List.mem_cons.1 ((hm z).1 (by simp[hz]))with e|e
    ·subst e;have:=h1.1 z hz;rw[gJ]at this;cases this
    ·exact e
   ·intro hz
    rcases List.mem_cons.1 ((hm z).2 (by simp[hz]))with e|e
    ·subst e;have:=h2.1 z hz;rw[gJ]at this;cases this
    ·exact e
theorem within_iff {l l':List aa} {s:aE} (hA:fS s l) (hR:iJ l'):mC l l'=true↔∀x∈l,x∈l':=by
 unfold mC;rw[List.all_eq_true]
 constructor
 ·intro h x hx;have h1:=of_decide_eq_true (h x hx);have h2:=(dV (hA.2 x hx)).1;obtain⟨y,hy,e1,e2⟩:=tO (l:=l') (p:=x.aH) ae;have:y=x:=by cases y;cases x;simp_all
  rw[<-this];exact hy
 ·intro h x hx;exact decide_eq_true (at_mem hR (h x hx))
theorem Cf {s:ar} (hS:gz s.ay) {K M es:List aa} (hM:IJ s K M) (hK:iJ K) (uS:∀x∈s.cw.aq,x∈M) (SX:∀x∈es,x∈K) (hg:∀j,j<es.length->j5 s es j=true):∀i,i<=es.length->∀x∈dx s es i,x∈M
 |0,_,x,hx=>uS x hx
 |i+1,hi,x,hx=>by
  have ih:=Cf hS hM hK uS SX hg i ae;rw[jg s es ae]at hx
  rcases jd.1 hx with rfl|hx
  ·have h1:=hg i ae;simp only[j5,RE,Bool.and_eq_true]at h1;exact hM.in_ hS hK ih (SX _ (e7 ae)) h1.1.2
  ·exact ih x hx
def GB (B:af->Int->Bool) (p:af):Nat->List aa
 |0=>[]
 |t+1=>if B p (t:Nat)=true then GB B p t++[⟨p,(t:Nat)⟩]else GB B p t
def ur (B:af->Int->Bool) (m:Nat) (ps:List af):List aa:=ps.flatMap fun p=>GB B p m
theorem IU (B:af->Int->Bool) (p:af):∀t,(GB B p t).length<=t
 |0=>by simp[GB]
 |t+1=>by
  have:=IU B p t;rw[GB]
  split
  ·rw[i6,List.length_singleton];omega
  ·omega
theorem yj (B:af->Int->Bool) (m:Nat):∀ps:List af,(ur B m ps).length<=ps.length*m
 |[]=>by simp[ur]
 |p::ps=>by
  have h:=yj B m ps;have h2:=IU B p m;unfold ur at *;rw[List.flatMap_cons,i6,List.length_cons,Nat.add_mul,Nat.one_mul];omega
theorem EH {B:af->Int->Bool} {m:Nat} {ps:List af} {k:Nat} (hk:k<ps.length):ur B m (ps.take (k+1))=ur B m (ps.take k)++GB B (fI ps k) m:=by
 unfold ur;rw[List.take_succ_eq_append_getElem hk,List.flatMap_append,gp hk]
 simp
def mF (B:af->Int->Bool) (p:af):Nat->List Int
 |0=>[]
 |t+1=>if B p (t:Nat)=true then mF B p t++[(t:Int)]else mF B p t
theorem uI (B:af->Int->Bool) (p:af):∀t,(mF B p t).length<=t
 |0=>by simp[mF]
 |t+1=>by
  have:=uI B p t;rw[mF]
  split
  ·rw[i6,List.length_singleton];omega
  ·omega
theorem CK (B:af->Int->Bool) (p:af):∀t,GB B p t=(mF B p t).map fun k=>(⟨p,k⟩:aa)
 |0=>rfl
 |t+1=>by
  rw[GB,mF,CK B p t]
  split<;>simp
theorem C2 {B:af->Int->Bool} {p:af} (h:∀t:Nat,B p t=false):∀t,mF B p t=[]
 |0=>rfl
 |t+1=>by rw[mF,if_neg (by rw[h t];simp),C2 h t]
theorem E9 {B:af->Int->Bool} {p:af}:∀{t:Nat},mF B p t≠[]->∃k:Nat,k<t/\B p k=true
 |0,h=>absurd rfl h
 |t+1,h=>by
  rw[mF]at h
  split at h
  ·rename_i hb;exact⟨t,Nat.lt_succ_self t,hb⟩
  ·obtain⟨k,hk,hb⟩:=E9 h;exact⟨k,Nat.lt_succ_of_lt hk,hb⟩
theorem rU {B C:af->Int->Bool} {p:af} (h:∀t:Nat,B p t=C p t):∀t,mF B p t=mF C p t
 |0=>rfl
 |t+1=>by rw[mF,mF,h t,rU h t]
abbrev En:=af×AV
def qn (e:En):List AV:=[.int .i64 e.1.eV,.int .i64 e.1.eR,e.2]
def pF:List En->af->AV->List En
 |[],q,v=>[(q,v)]
 |e::es,q,v=>if e.1=q then(q,v)::es else e::pF es q v
def qm:List En->af->List En
 |[],_=>[]
 |e::es,q=>if e.1=q then es else e::qm es q
theorem zK {q:af} {v:AV} {x:En}:∀{es:List En},x.1≠q->(x∈pF es q v↔x∈es)
 |[],h=>by
  rw[pF,List.mem_singleton];exact⟨fun e=>absurd (by rw[e]) h,fun e=>by cases e⟩
 |e::es,h=>by
  have ih:=@zK q v x es h;rw[pF]
  split
  ·rename_i he;rw[List.mem_cons,List.mem_cons];exact⟨fun h1=>h1.elim (fun e=>absurd (by rw[e]) h) .inr,fun h1=>h1.elim (fun e'=>absurd (by rw[e'];exact he) h) .inr⟩
  ·rw[List.mem_cons,List.mem_cons,ih]
theorem Cj (q:af) (v:AV):∀es:List En,(q,v)∈pF es q v
 |[]=>by simp[pF]
 |e::es=>by
  have ih:=Cj q v es;rw[pF]
  split
  ·simp
  ·exact List.mem_cons_of_mem _ ih
theorem FJ {q:af} {v:AV} {p:af}:∀{es:List En},p∈(pF es q v).map (·.1)->p=q∨p∈es.map (·.1)
 |[],h=>by simp[pF]at h;exact .inl h
 |e::es,h=>by
  rw[pF]at h
  split at h
  ·simp only[List.map_cons,List.mem_cons]at h ⊢;exact h.imp_right .inr
  ·simp only[List.map_cons,List.mem_cons]at h ⊢
   rcases h with h|h
   ·exact .inr (.inl h)
   ·exact(FJ h).imp_right .inr
theorem z6 (q:af) (v:AV):∀{es:List En},(es.map (·.1)).Nodup->((pF es q v).map (·.1)).Nodup
 |[],_=>by simp[pF]
 |e::es,h=>by
  obtain⟨h1,h2⟩:=List.nodup_cons.1 (show(e.1::es.map (·.1)).Nodup from h);rw[pF]
  split
  ·rename_i he;refine List.nodup_cons.2 ⟨?_,h2⟩;show q∉_;rw[<-he];exact h1
  ·rename_i he;refine List.nodup_cons.2 ⟨fun hc=>?_,z6 q v h2⟩
   rcases FJ hc with h3|h3
   ·exact he h3
   ·exact h1 h3
theorem zG {q:af} {x:En}:∀{es:List En},x.1≠q->(x∈qm es q↔x∈es)
 |[],_=>Iff.rfl
 |e::es,h=>by
  have ih:=@zG q x es h;rw[qm]
  split
  ·rename_i he;rw[List.mem_cons];exact⟨.inr,fun h1=>h1.elim (fun e'=>absurd (by rw[e'];exact he) h) id⟩
  ·rw[List.mem_cons,List.mem_cons,ih]
theorem uF {q:af}:∀{es:List En},(qm es q).Sublist es
 |[]=>List.Sublist.slnil
 |e::es=>by
  rw[qm]
  split
  ·exact List.sublist_cons_self _ _
  ·exact(uF (es:=es)).cons_cons _
theorem y5 (q:af) {es:List En} (h:(es.map (·.1)).Nodup):((qm es q).map (·.1)).Nodup:=((uF (q:=q) (es:=es)).map _).nodup h
theorem CY {q:af}:∀{es:List En},(es.map (·.1)).Nodup->∀e∈qm es q,e.1≠q
 |[],_,e,h=>by cases h
 |x::es,hn,e,h=>by
  obtain⟨h1,h2⟩:=List.nodup_cons.1 (show(x.1::es.map (·.1)).Nodup from hn);rw[qm]at h
  split at h
  ·rename_i hx;intro he;exact h1 (by rw[hx,<-he];exact List.mem_map_of_mem h)
  ·rename_i hx
   rcases List.mem_cons.1 h with rfl|h
   ·exact hx
   ·exact CY h2 e h
theorem Rg {es:List En} (hn:(es.map (·.1)).Nodup) {q:af} {u v:AV} (h1:(q,u)∈es) (h2:(q,v)∈es):u=v:=by
 induction es with
 |nil=>cases h1
 |cons e es ih=>
  obtain⟨n1,n2⟩:=List.nodup_cons.1 (show(e.1::es.map (·.1)).Nodup from hn)
  rcases List.mem_cons.1 h1 with a|a<;>rcases List.mem_cons.1 h2 with b|b
  ·rw[<-a]at b;injection b with _ b;exact b.symm
  ·exact absurd (by rw[<-a];exact List.mem_map_of_mem (f:=(·.1)) b) n1
  ·exact absurd (by rw[<-b];exact List.mem_map_of_mem (f:=(·.1)) a) n1
  ·exact ih n2 a b
structure yL (g:Rows) (n:Nat) (es:List En) (fs:af->List Int) (A:af->Prop):Prop where
 nodup:(es.map (·.1)).Nodup
 at_:∀q,A q->(fs q=[]/\∀e∈es,e.1≠q)∨(fs q≠[]/\∃o:Id,(q,AV.own o 0 (fs q).length)∈es/\o.bH<n/\g o=some ⟨true,1,(fs q).map bf⟩)
theorem yL.mono {g:Rows} {n:Nat} {es:List En} {fs:af->List Int} {A A':af->Prop} (h:yL g n es fs A) (hA:∀q,A' q->A q):yL g n es fs A':=⟨h.nodup,fun q hq=>h.at_ q (hA q hq)⟩
theorem yL.frame {g g':Rows} {n n':Nat} {es:List En} {fs:af->List Int} {A:af->Prop} (h:yL g n es fs A) (hn:n<=n') (hf:∀x:Id,x.bH<n->(∃k r,g x=some ⟨k,1,r⟩)->g' x=g x):yL g' n' es fs A:=⟨h.nodup,fun q hq=>by
 rcases h.at_ q hq with h1|⟨h1,o,h2,h3,h4⟩
 ·exact .inl h1
 ·exact .inr ⟨h1,o,h2,ae,(hf o h3 ⟨_,_,h4⟩).trans h4⟩⟩
theorem yL.put {g:Rows} {n:Nat} {es:List En} {fs:af->List Int} {A:af->Prop} (h:yL g n es fs A) {q:af} {o:Id} (h0:fs q≠[]) (ho:o.bH<n) (hg:g o=some ⟨true,1,(fs q).map bf⟩):yL g n (pF es q (.own o 0 (fs q).length)) fs (fun p=>A p∨p=q):=⟨z6 _ _ h.nodup,fun p hp=>by
 by_cases e:p=q
 ·subst e;exact .inr ⟨h0,o,Cj _ _ _,ho,hg⟩
 ·rcases hp with hp|hp
  ·rcases h.at_ p hp with⟨h1,h2⟩|⟨h1,o',h2,h3⟩
   ·refine .inl ⟨h1,fun x hx hxp=>?_⟩;have hxq:x.1≠q:=fun e'=>e (hxp.symm.trans e');exact h2 x ((zK hxq).1 hx) hxp
   ·exact .inr ⟨h1,o',(zK e).2 h2,h3⟩
  ·exact absurd hp e⟩
theorem yL.cut {g:Rows} {n:Nat} {es:List En} {fs:af->List Int} {A:af->Prop} (h:yL g n es fs A) {q:af} (h0:fs q=[]):yL g n (qm es q) fs (fun p=>A p∨p=q):=⟨y5 _ h.nodup,fun p hp=>by
 by_cases e:p=q
 ·subst e;exact .inl ⟨h0,CY h.nodup⟩
 ·rcases hp with hp|hp
  ·rcases h.at_ p hp with⟨h1,h2⟩|⟨h1,o',h2,h3⟩
   ·exact .inl ⟨h1,fun x hx=>h2 x (uF.subset hx)⟩
   ·exact .inr ⟨h1,o',(zG e).2 h2,h3⟩
  ·exact absurd hp e⟩
theorem F1 (p:af):∀(es:List En) (i:Nat),∃fi,ig ⟨true,[.tI,.tI]⟩ (ab p) (es.map qn) i=some fi/\
  (∀v,(match fi with|some j=>(es.map qn).set (j-i) [.int .i64 p.eV,.int .i64 p.eR,v]|none=>es.map qn++[[.int .i64 p.eV,.int .i64 p.eR,v]])=(pF es p v).map qn)/\
  ((match fi with|some j=>(es.map qn).eraseIdx (j-i)|none=>es.map qn)=(qm es p).map qn)/\
  (∀j,fi=some j->i<=j/\j-i<es.length/\∃v,es[j-i]? =some (p,v))/\(fi=none->∀e∈es,e.1≠p)
 |[],i=>⟨none,by simp[ig],fun v=>rfl,rfl,fun _ h=>(by cases h),fun _ _ he=>(by cases he)⟩
 |e::es,i=>by
  have hq:eF [TS.tI,TS.tI] (ab p) ((qn e).take 2)=some (decide (p=e.1)):=by
   have h:(p=e.1)↔(p.eV=e.1.eV/\p.eR=e.1.eR):=⟨fun h=>by rw[h];exact⟨rfl,rfl⟩,fun h=>zY h.1 h.2⟩
   simp[ab,qn,eF,e8,h]
  by_cases h:p=e.1
  ·refine⟨some i,?_,fun v=>?_,?_,fun j hj=>?_,fun hc=>by cases hc⟩
   ·rw[List.map_cons];unfold ig;rw[show(⟨true,[.tI,.tI]⟩:MK).ts=[.tI,.tI]from rfl,show(⟨true,[.tI,.tI]⟩:MK).ks=2 from rfl,hq,decide_eq_true h]
   ·simp[pF,h,qn]
   ·simp[qm,h]
   ·cases hj
    exact⟨Nat.le_refl _,by simp,e.2,by simp[h]⟩
  ·obtain⟨fi,h1,h2,h3,h4,h5⟩:=F1 p es (i+1);have he:¬e.1=p:=fun hc=>h hc.symm;refine⟨fi,?_,fun v=>?_,?_,fun j hj=>?_,fun hc x hx=>?_⟩
   ·rw[List.map_cons];unfold ig;rw[show(⟨true,[.tI,.tI]⟩:MK).ts=[.tI,.tI]from rfl,show(⟨true,[.tI,.tI]⟩:MK).ks=2 from rfl,hq,decide_eq_false h];exact h1
   ·have Z1:=h2 v;rw[pF,if_neg he]
    cases fi with
    |none=>
     simp only[List.map_cons,List.cons_append]at Z1 ⊢;rw[Z1]
    |some j=>
     obtain⟨h6,_⟩:=h4 j rfl
     obtain⟨k,hk⟩:∃k,j=i+1+k:=⟨j-(i+1),ae⟩
     subst hk;simp only[show i+1+k-i=k+1 by omega,show i+1+k-(i+1)=k by omega,List.map_cons,List.set_cons_succ]at Z1 ⊢;rw[Z1]
   ·rw[qm,if_neg he]
    cases fi with
    |none=>
     simp only[List.map_cons]at h3 ⊢;rw[h3]
    |some j=>
     obtain⟨h6,_⟩:=h4 j rfl
     obtain⟨k,hk⟩:∃k,j=i+1+k:=⟨j-(i+1),ae⟩
     subst hk;simp only[show i+1+k-i=k+1 by omega,show i+1+k-(i+1)=k by omega,List.map_cons,List.eraseIdx_cons_succ]at h3 ⊢;rw[h3]
   ·obtain⟨h6,h7,v,h8⟩:=h4 j hj;refine⟨ae,by simp only[List.length_cons];omega,v,?_⟩;rw[show j-i=(j-(i+1))+1 by omega,List.getElem?_cons_succ];exact h8
   ·rcases List.mem_cons.1 hx with rfl|hx
    ·exact he
    ·exact h5 hc x hx
theorem wT (p:af) (es:List En):∃fi,gZ ⟨true,[.tI,.tI]⟩ (.agg [.int .i64 p.eV,.int .i64 p.eR]) (es.map qn)=some fi/\(∀v,dn (es.map qn) [.int .i64 p.eV,.int .i64 p.eR,v] fi=(pF es p v).map qn)/\dm (es.map qn) fi=(qm es p).map qn/\
  (∀j,fi=some j->∃v,es[j]? =some (p,v))/\(fi=none->∀e∈es,e.1≠p):=by
 obtain⟨fi,h1,h2,h3,h4,h5⟩:=F1 p es 0;refine⟨fi,?_,fun v=>?_,?_,fun j hj=>?_,h5⟩
 ·unfold gZ;rw[if_pos ⟨rfl,rfl,rfl⟩];exact h1
 ·rw[<-h2 v];cases fi<;>rfl
 ·rw[<-h3];cases fi<;>rfl
 ·obtain⟨_,_,v,h6⟩:=h4 j hj;exact⟨v,by simpa using h6⟩
theorem xd (p:af) (k:Nat) (hk:k<4):bI (bI p k) (kH k)=p:=by
 have:k=0∨k=1∨k=2∨k=3:=ae
 rcases this with rfl|rfl|rfl|rfl<;>(cases p;simp[bI,kH,jj];try omega)
theorem bind_some {s:aE} {F:af->Int} {p:af} {t:Int}:∀d:Nat,0<dv s F p t d->∃k:Nat,k<d/\0<=F (bI p k)
 |0,h=>by simp[dv]at h
 |d+1,h=>by
  by_cases h0:0<=F (bI p d)
  ·exact⟨d,Nat.lt_succ_self d,h0⟩
  ·rw[dv,if_neg h0,Int.add_zero]at h;obtain⟨k,hk,h1⟩:=bind_some d h;exact⟨k,Nat.lt_succ_of_lt hk,h1⟩
theorem E6 {s:ar} (hT:1<=s.aQ) {l:List aa} (hA:fS s.ay l) {p:af} {t:Int} (h:eu s l p t=true):Bi l p:=by
 simp[eu]at h;obtain⟨⟨h1,h2⟩,h3⟩:=h;obtain⟨k,hk,h4⟩:=bind_some (s:=s.ay) (F:=ej l) (p:=p) (t:=t) 4 (by have:iT s.ay (ej l) p t=dv s.ay (ej l) p t 4:=rfl;omega)
 have h5:0<=ei l (bI p k):=by
  unfold ej at h4
  split at h4
  ·assumption
  ·omega
 obtain⟨h6,h7⟩:=iz h5;refine⟨h1,(CG hA p).1 h2,(ei l (bI p k)).toNat,(kH k).toNat,h6,?_,?_⟩
 ·have:k=0∨k=1∨k=2∨k=3:=ae
  rcases this with rfl|rfl|rfl|rfl<;>decide
 ·rw[h7]
  have:((kH k).toNat:Int)=kH k:=by
   have:k=0∨k=1∨k=2∨k=3:=ae
   rcases this with rfl|rfl|rfl|rfl<;>decide
  rw[this,xd p k hk]
noncomputable def oa (s:ar) (l:List aa):List af:=(jF l).filter fun p=>decide (mF (eu s l) p s.ay.aq.length≠[])
theorem zH {s:ar} (hT:1<=s.aQ) {l:List aa} (hA:fS s.ay l) (p:af):p∈oa s l↔mF (eu s l) p s.ay.aq.length≠[]:=by
 unfold oa;rw[List.mem_filter,oI,decide_eq_true_eq];refine⟨fun h=>h.2,fun h=>⟨?_,h⟩⟩;obtain⟨k,_,hk⟩:=E9 h;exact E6 hT hA hk
theorem Hs (s:ar) (l:List aa):js (oa s l):=List.Pairwise.sublist List.filter_sublist (pD l _)
theorem Ha (s:ar) (l:List aa):ur (eu s l) s.ay.aq.length (jF l)=ur (eu s l) s.ay.aq.length (oa s l):=by
 unfold oa;generalize jF l=ps
 induction ps with
 |nil=>rfl
 |cons p ps ih=>
  unfold ur at *;rw[List.flatMap_cons,List.filter_cons,ih]
  split
  ·rw[List.flatMap_cons]
  ·rename_i h;simp only[decide_eq_true_eq,ne_eq,Classical.not_not]at h;rw[CK,h];rfl
def qQ (s:aE) (F:af->Int) (p:af) (d:Nat):Int:=if F (bI p d)<0 then 0 else cV (cU s (F (bI p d))) (kH d)
def qR (s:aE) (F:af->Int) (p:af) (k:Nat):List Int:=(List.range k).map (qQ s F p)
theorem Fa (s:aE) (F:af->Int) (p:af) (k:Nat):(qR s F p k).length=k:=by simp[qR]
theorem KF (s:aE) (F:af->Int) (p:af) (k:Nat):qR s F p (k+1)=qR s F p k++[qQ s F p k]:=by simp[qR,List.range_succ]
theorem Nn {s:aE} {F:af->Int} {p:af} {k d:Nat} (h:d<k):((qR s F p k).map bf)[d]? =some [.int .i64 (qQ s F p d)]:=by simp[qR,h,bf]
theorem Ks {s:aE} (hF:kj s) {F:af->Int} (hT:∀q,0<=F q->eE s (F q)=true) {p:af} {t:Int} (ht:eE s t=true) {d:Nat} (hd:d<4):
  dv s F p t (d+1)=if cV (cU s t) d=qQ s F p d then dv s F p t d+pK s (qQ s F p d)else dv s F p t d:=by
 rw[dv];unfold qQ
 by_cases h0:F (bI p d)<0
 ·rw[if_neg ae,if_pos h0];have:pK s 0=0:=if_pos rfl;rw[this,Int.add_zero]
  split<;>rfl
 ·rw[if_pos ae,if_neg h0];unfold fQ
  split
  ·rename_i e;rw[e]
  ·rw[Int.add_zero]
theorem QE {s:aE} (hF:kj s) {F:af->Int} (hT:∀q,0<=F q->eE s (F q)=true) (p:af) {d:Nat} (hd:d<4):0<=qQ s F p d/\qQ s F p d<=s.bM.length:=by
 unfold qQ
 split
 ·exact⟨Int.le_refl _,ae⟩
 ·rename_i h0;obtain⟨_,_,a2⟩:=lS (hT _ (by omega:0<=F (bI p d)));exact hF.uN _ a2 _ (Aq (hF.jh _ a2) (tY (jc ae)))
noncomputable def CH (s:aE) (l:List aa) (T:Int) (p:af) (t:Int):Bool:=decide (T<=iT s (ej l) p t)
theorem Qo {s:ar} {l:List aa} {p:af} (h:Bi l p) (hA:fS s.ay l) (t:Int):eu s l p t=CH s.ay l s.aQ p t:=by
 obtain⟨h1,h2,_⟩:=h;simp[eu,CH,h1,(CG hA p).2 h2]
theorem Rh (s:aE) (hS:gz s) (l:List aa) (hA:fS s l) (p:af) (hx:iB p.eV) (hy:iB p.eR) (T:Int):
  au Tryz.prog 117 [.dZ (ai s),.dZ [.sl (l.map ad)],.agg (ab p),.int .i64 T] (.sl ((mF (CH s l T) p s.aq.length).map bf)):=by
 refine au.body fx rfl fun fM n0=>?_;clear fM;have hF:=hS.form;have AE:=hS.qj;have KG:∀q,0<=ej l q->eE s (ej l q)=true:=gz.EF hA;(try((repeat(revert N;apply g7));refine wk @ab.eq_1 ?_;repeat(apply g6;intro N hN)));refine cj (fun n env st=>∃k:Nat,n=(4)-k/\k<=(4)/\env 10=.int .i64 (k:Int)/\st.get ⟨117000000,n0⟩=some ⟨true,2,[ab p]⟩/\(n0+2<=st.next/\∃o:Id,env 9=.own o 0 k/\st.get o=some ⟨true,1,(qR s (ej l) p k).map bf⟩/\n0<o.bH/\o.bH<st.next)) (4) ⟨0,ae,ae,sl @ab.eq_1,sl @ab.eq_1,by(try dsimp only);exact⟨ae,⟨117001000,n0+1⟩,sl @g8,sl @g8,aI,aI⟩⟩ ?_;rintro n_a m3 i8 ⟨k,rfl,ale,a10,eK,mD⟩ eC;have a0:=eC 0 g9;have a1:=eC 1 g9;have a3:=eC 3 g9;have a6:=eC 6 g9;simp only[go_sem,↓reduceIte,Nat.reduceEqDiff,Nat.reduceAdd,Nat.reduceSub,Nat.reduceLeDiff,reduceCtorEq,ab]at a0 a1 a3 a6;clear eC;obtain⟨an,o,a9,ag,MF,aox⟩:=mD;have vo:=cR aox;have vb:=cR (i:=⟨117000000,n0⟩) (n:=i8.next) aI;have ob:=ew (a:=⟨117000000,n0⟩) (b:=o) aI
 by_cases hk:(k:Int)<4
 ·have dW:∀{e:Env} {gg:Rows} {nx:Nat},(e 10=.int .i64 (IntKind.i64.wrap ((k:Int)+1)))->(gg ⟨117000000,n0⟩=some ⟨true,2,[ab p]⟩)->(n0+2<=nx/\∃o:Id,e 9=.own o 0 (k+1)/\gg o=some ⟨true,1,(qR s (ej l) p (k+1)).map bf⟩/\n0<o.bH/\o.bH<nx)->∃m0,m0<(4)-k/\∃k:Nat,m0=(4)-k/\k<=(4)/\e 10=.int .i64 (k:Int)/\gg ⟨117000000,n0⟩=some ⟨true,2,[ab p]⟩/\(n0+2<=nx/\∃o:Id,e 9=.own o 0 k/\gg o=some ⟨true,1,(qR s (ej l) p k).map bf⟩/\n0<o.bH/\o.bH<nx):=fun x1 x2 x3=>⟨_,ae,k+1,rfl,ae,(by rw[x1,aZ ae]),x2,x3⟩;have hd:jj (k:Int) 0 3=true:=jc ae;have ez:=rY p k hd hx hy;have qb:=yu l (bI p k) hA.1.pH (by have:=hA.1.oG;omega);rw[ab]at ez qb;have eW:((qR s (ej l) p k).map bf).length=k:=by rw[List.length_map,Fa]
  have xD:k<=16777215:=ae;have W8:=KF s (ej l) p k;have wg:(qR s (ej l) p (k+1)).map bf=(qR s (ej l) p k).map bf++[[.int .i64 (qQ s (ej l) p k)]]:=by rw[W8,List.map_append];rfl
  by_cases h0:ej l (bI p k)<0
  ·have rX:qQ s (ej l) p k=0:=if_pos h0;rw[rX]at wg
   (have zF:=tw9 @a10 @eK @a0 @a1 @a3 @a6 @hk @a9 (tw8 @ag @vo @vb @ob @eW @xD @h0 @ab.eq_1);(repeat(first|((repeat(revert N;apply g7));refine wk zF ?_;repeat(apply g6;intro N hN))|((try apply i3);refine⟨_,au.x (ez) (sd zF),?_⟩;apply hN;clear hN N)|((try apply i3);refine⟨_,au.x (qb) (sd zF),?_⟩;apply hN;clear hN N)));try clear zF)
   refine dW ?_ ?_ (by(try dsimp only);exact⟨ae,⟨117007002,i8.next+1+1+1⟩,sl @g8,by rw[wg];simp only[go_sem,↓reduceIte,Nat.reduceEqDiff,Nat.reduceAdd,Nat.reduceSub,Nat.reduceLeDiff,reduceCtorEq]<;>rfl,aI,aI⟩)
   all_goals simp only[go_sem,↓reduceIte,Nat.reduceEqDiff,Nat.reduceAdd,Nat.reduceSub,Nat.reduceLeDiff,reduceCtorEq,a10,eK,a0,a1,a3,a6,vb,ob,ab]
  ·have rX:qQ s (ej l) p k=cV (cU s (ej l (bI p k))) (kH k):=if_neg h0;rw[rX]at wg;obtain⟨b0,b1,b2⟩:=lS (KG _ (by omega:0<=ej l (bI p k)));have s2:=ny (hF.jh _ b2) (tY hd);have d1:=(dV (tY hd)).1;have fb:=yM k hd
   (have zF:=tw9 @a10 @eK @a0 @a1 @a3 @a6 @hk @a9 (tw9 @ag @vo @vb @ob @eW @xD @h0 @b0 (tw6 @b1 @s2 @d1 @ab.eq_1 @ai.eq_1 @dp.eq_1));(repeat(first|((repeat(revert N;apply g7));refine wk zF ?_;repeat(apply g6;intro N hN))|((try apply i3);refine⟨_,au.x (ez) (sd zF),?_⟩;apply hN;clear hN N)|((try apply i3);refine⟨_,au.x (qb) (sd zF),?_⟩;apply hN;clear hN N)|((try apply i3);refine⟨_,au.x (fb) (sd zF),?_⟩;apply hN;clear hN N)));try clear zF)
   refine dW ?_ ?_ (by(try dsimp only);exact⟨ae,⟨117008014,i8.next+1+1+1⟩,sl @g8,by rw[wg];simp only[go_sem,↓reduceIte,Nat.reduceEqDiff,Nat.reduceAdd,Nat.reduceSub,Nat.reduceLeDiff,reduceCtorEq]<;>rfl,aI,aI⟩)
   all_goals simp only[go_sem,↓reduceIte,Nat.reduceEqDiff,Nat.reduceAdd,Nat.reduceSub,Nat.reduceLeDiff,reduceCtorEq,a10,eK,a0,a1,a3,a6,vb,ob,ab]
 ·have hk4:k=4:=ae;subst hk4;(try((repeat(revert N;apply g7));refine wk (tw8 @a10 @eK @a0 @a1 @a3 @a6 @hk @ai.eq_1) ?_;repeat(apply g6;intro N hN)));refine cj (fun n env st=>∃i:Nat,n=(s.aq.length)-i/\i<=(s.aq.length)/\env 13=.int .i64 (i:Int)/\(i8.next<=st.next/\st.get o=some ⟨true,1,(qR s (ej l) p 4).map bf⟩/\∃u:Id,env 12=.own u 0 (mF (CH s l T) p i).length/\st.get u=some ⟨true,1,(mF (CH s l T) p i).map bf⟩/\i8.next<=u.bH/\u.bH<st.next)) (s.aq.length) ⟨0,ae,ae,sl (tw8 @a10 @eK @a0 @a1 @a3 @a6 @a9 @ai.eq_1),by(try dsimp only);exact⟨ae,sd (tw @vo @ag),⟨117009000,i8.next+1⟩,sl @g8,sl @g8,aI,aI⟩⟩ ?_;rintro n_b m4 i9 ⟨i,rfl,ble,rM,bI0⟩ eB;have b0:=eB 0 g9;have b1:=eB 1 g9;have b3:=eB 3 g9;have b9:=eB 9 g9;simp only[go_sem,↓reduceIte,Nat.reduceEqDiff,Nat.reduceAdd,Nat.reduceSub,Nat.reduceLeDiff,reduceCtorEq,a10,eK,a0,a1,a3,a6,a9,ai]at b0 b1 b3 b9;clear eB;obtain⟨bn,bo,u,sK,bu,bum,ZP⟩:=bI0;have vob:=cR (i:=o) (n:=i9.next) ae;have JZ:=cR ZP;have GH:=uI (CH s l T) p i;have ou:=ew (a:=o) (b:=u) ae
  by_cases hi:(i:Int)<(s.aq.length:Int)
  ·have ep:∀{e:Env} {gg:Rows} {nx:Nat},(e 13=.int .i64 (IntKind.i64.wrap ((i:Int)+1)))->(i8.next<=nx/\gg o=some ⟨true,1,(qR s (ej l) p 4).map bf⟩/\∃u:Id,e 12=.own u 0 (mF (CH s l T) p (i+1)).length/\gg u=some ⟨true,1,(mF (CH s l T) p (i+1)).map bf⟩/\i8.next<=u.bH/\u.bH<nx)->∃m0,m0<(s.aq.length)-i/\∃i:Nat,m0=(s.aq.length)-i/\i<=(s.aq.length)/\e 13=.int .i64 (i:Int)/\(i8.next<=nx/\gg o=some ⟨true,1,(qR s (ej l) p 4).map bf⟩/\∃u:Id,e 12=.own u 0 (mF (CH s l T) p i).length/\gg u=some ⟨true,1,(mF (CH s l T) p i).map bf⟩/\i8.next<=u.bH/\u.bH<nx):=fun x1 x2=>⟨_,ae,i+1,rfl,ae,(by rw[x1,aZ ae]),x2⟩;have jI:i<s.aq.length:=ae;have htb:=vN jI;obtain⟨t0,t1,t2⟩:=lS htb;rw[Int.toNat_natCast]at t1;have HF:dv s (ej l) p i 0=0:=rfl;(try((repeat(revert N;apply g7));refine wk (tw6 @rM @b0 @b1 @b3 @b9 @hi) ?_;repeat(apply g6;intro N hN)))
   refine cj (fun n env st=>∃j:Nat,n=(4)-j/\j<=(4)/\env 15=.int .i64 (j:Int)/\env 14=.int .i64 (dv s (ej l) p i j)/\(i9.next<=st.next/\∀x:Id,x.bH<i9.next->st.get x=i9.get x)) (4) ⟨0,ae,ae,sl (tw8 @rM @b0 @b1 @b3 @b9 @a9 @HF @ai.eq_1),sl (tw8 @rM @b0 @b1 @b3 @b9 @a9 @HF @ai.eq_1),by(try dsimp only);exact⟨ae,fun x hx=>by
    have h1:=cR hx
    simp only[go_sem,↓reduceIte,Nat.reduceEqDiff,Nat.reduceAdd,Nat.reduceSub,Nat.reduceLeDiff,reduceCtorEq,h1]⟩⟩ ?_
   rintro n_c m7 m6 ⟨j,rfl,cle,c15,c14,cI0⟩ jN;have c0:=jN 0 g9;have c3:=jN 3 g9;have c9:=jN 9 g9;have qI:=jN 12 g9;have He:=jN 13 g9;simp only[go_sem,↓reduceIte,Nat.reduceEqDiff,Nat.reduceAdd,Nat.reduceSub,Nat.reduceLeDiff,reduceCtorEq,rM,b0,b1,b3,b9,a9,HF,ai]at c0 c3 c9 qI He;clear jN;obtain⟨cn,jN⟩:=cI0;have go:=(jN o ae).trans bo;have gu:=(jN u ZP).trans bu;have ZB:=cR (i:=o) (n:=m6.next) ae;have vuc:=cR (i:=u) (n:=m6.next) ae
   by_cases hj:(j:Int)<4
   ·have jf:∀{e:Env} {gg:Rows} {nx:Nat},(e 15=.int .i64 (IntKind.i64.wrap ((j:Int)+1)))->(e 14=.int .i64 (dv s (ej l) p i (j+1)))->(i9.next<=nx/\∀x:Id,x.bH<i9.next->gg x=i9.get x)->∃m0,m0<(4)-j/\∃j:Nat,m0=(4)-j/\j<=(4)/\e 15=.int .i64 (j:Int)/\e 14=.int .i64 (dv s (ej l) p i j)/\(i9.next<=nx/\∀x:Id,x.bH<i9.next->gg x=i9.get x):=fun x1 x2 x3=>⟨_,ae,j+1,rfl,ae,(by rw[x1,aZ ae]),x2,x3⟩;have hdj:jj (j:Int) 0 3=true:=jc ae;have QU:(j:Int)<((4:Nat):Int):=ae;have s1:=ny (hF.jh _ t2) hdj;rw[Int.toNat_natCast]at s1;have Yu:=Nn (s:=s) (F:=ej l) (p:=p) (k:=4) (d:=j) ae;have ui:((qR s (ej l) p 4).map bf).length=4:=by rw[List.length_map,Fa]
    have ez:=Ks hF KG (p:=p) htb (d:=j) ae;have qc:=jK hS (ej l) p i (j+1);have QN:=jK hS (ej l) p i j;have ll:=QE hF KG p (d:=j) ae;have hss:=s6 s (qQ s (ej l) p j) ll.1 ll.2;rw[ai]at hss
    by_cases he:cV (cU s i) j=qQ s (ej l) p j
    ·have Fi:decide (cV (cU s i) j=qQ s (ej l) p j)=true:=decide_eq_true he;rw[if_pos he]at ez;have hw:IntKind.i64.wrap (dv s (ej l) p i j+pK s (qQ s (ej l) p j))=dv s (ej l) p i (j+1):=by rw[<-ez,db ae]
     (have zF:=tw9 @c15 @c14 @c0 @c3 @c9 @qI @He @hj (tw9 @QU @t1 @s1 @Yu @go @ZB @Fi @ai.eq_1 @dp.eq_1);(repeat(first|((repeat(revert N;apply g7));refine wk zF ?_;repeat(apply g6;intro N hN))|((try apply i3);refine⟨_,au.x (hss) (sd zF),?_⟩;apply hN;clear hN N)));try clear zF)
     refine jf ?_ ?_ (by(try dsimp only);exact⟨ae,fun x hx=>by exact jN x hx⟩)
     all_goals simp only[go_sem,↓reduceIte,Nat.reduceEqDiff,Nat.reduceAdd,Nat.reduceSub,Nat.reduceLeDiff,reduceCtorEq,c15,c14,c0,c3,c9,qI,He,hw,ai]
    ·have Fi:decide (cV (cU s i) j=qQ s (ej l) p j)=false:=decide_eq_false he;rw[if_neg he]at ez;(try((repeat(revert N;apply g7));refine wk (tw9 @c15 @c14 @c0 @c3 @c9 @qI @He @hj (tw9 @QU @t1 @s1 @Yu @go @ZB @Fi @ai.eq_1 @dp.eq_1)) ?_;repeat(apply g6;intro N hN)));refine jf ?_ ?_ (by(try dsimp only);exact⟨ae,fun x hx=>by exact jN x hx⟩)
     all_goals simp only[go_sem,↓reduceIte,Nat.reduceEqDiff,Nat.reduceAdd,Nat.reduceSub,Nat.reduceLeDiff,reduceCtorEq,c15,c14,c0,c3,c9,qI,He,ez,ai]
   ·have hj4:j=4:=ae;subst hj4;have hbe:dv s (ej l) p i 4=iT s (ej l) p i:=rfl;have mU:mF (CH s l T) p (i+1)=if CH s l T p i=true then mF (CH s l T) p i++[(i:Int)]else mF (CH s l T) p i:=rfl
    have AP:CH s l T p i=decide (T<=iT s (ej l) p i):=rfl;generalize mF (CH s l T) p i=L at mU sK bu GH gu
    cases hb:CH s l T p i
    ·rw[hb,if_neg (by simp)]at mU;rw[hb]at AP;(try((repeat(revert N;apply g7));refine wk (tw9 @c15 @c14 @c0 @c3 @c9 @qI @He @hj (tw @hbe @AP.symm)) ?_;repeat(apply g6;intro N hN)));exact ep (sd (tw9 @rM @b0 @b1 @b3 @b9 @c15 @c14 @c0 (tw5 @c3 @c9 @qI @He @ai.eq_1))) (by(try dsimp only);exact⟨ae,go,⟨u,by rw[mU];simp only[go_sem,↓reduceIte,Nat.reduceEqDiff,Nat.reduceAdd,Nat.reduceSub,Nat.reduceLeDiff,reduceCtorEq,c15,c14,c0,c3,c9,qI,He,sK],by rw[mU];simp only[go_sem,↓reduceIte,Nat.reduceEqDiff,Nat.reduceAdd,Nat.reduceSub,Nat.reduceLeDiff,reduceCtorEq,gu],ae,aI⟩⟩)
    ·rw[hb,if_pos rfl]at mU;rw[hb]at AP;have eW:(L.map bf).length=L.length:=by simp
     have hL1:L.length<=16777215:=ae;have o9:(L++[(i:Int)]).length=L.length+1:=by simp
     have j3:(L++[(i:Int)]).map bf=L.map bf++[[.int .i64 i]]:=by rw[List.map_append];rfl
     (try((repeat(revert N;apply g7));refine wk (tw9 @c15 @c14 @c0 @c3 @c9 @qI @He @hj (tw9 @hbe @AP.symm @sK @gu @vuc @eW @hL1 @ZB @ou)) ?_;repeat(apply g6;intro N hN)));exact ep (sd (tw9 @rM @b0 @b1 @b3 @b9 @c15 @c14 @c0 (tw5 @c3 @c9 @qI @He @ai.eq_1))) (by(try dsimp only);exact⟨ae,sd (tw3 @go @ZB @ou),⟨⟨117020003,m6.next+1+1⟩,by rw[mU,o9];simp only[go_sem,↓reduceIte,Nat.reduceEqDiff,Nat.reduceAdd,Nat.reduceSub,Nat.reduceLeDiff,reduceCtorEq]<;>rfl,by rw[mU,j3];simp only[go_sem,↓reduceIte,Nat.reduceEqDiff,Nat.reduceAdd,Nat.reduceSub,Nat.reduceLeDiff,reduceCtorEq]<;>rfl,aI,aI⟩⟩)
  ·have sO:i=s.aq.length:=ae;subst sO;(try((repeat(revert N;apply g7));refine wk (tw7 @rM @b0 @b1 @b3 @b9 @hi @sK) ?_;repeat(apply g6;intro N hN)))
   exact lu (.inl rfl) (vs:=[.own u 0 (mF (CH s l T) p s.aq.length).length]) (sd @sK) (by
    simp only[gH]
    exact eQ (e:=bf) (n:=5) bu rfl fun x=>by simp[bf,bR,cW,ec])
noncomputable def iQ (s:ar) (ts:List aa) (q:af):List Int:=mF (eu s ts) q s.ay.aq.length
def jT (σ:aw) (O:Id) (s:ar) (ts:List aa) (A:af->Prop) (g:Rows) (n:Nat):Prop:=σ.next<=n/\(∀x:Id,x.bH<σ.next->x≠O->g x=σ.get x)/\∃es:List En,g O=some ⟨true,mP.j6,es.map qn⟩/\yL g n es (iQ s ts) A
theorem jT.CX {σ:aw} {g:Rows} {n:Nat} {c T O:Id} {s s':ar} {ts P9:List aa} {A:af->Prop} (h:Bg σ.get σ.next c T O s ts) (hc:c≠O) (hT:T≠O) (k:jT σ O s' P9 A g n):Bg g n c T O s ts:=
 h.frame k.1 (k.2.1 _ h.cv hc) (k.2.1 _ h.tv hT)
theorem jT.frame {a:aw} {O:Id} {s:ar} {ts:List aa} {A:af->Prop} {g g':Rows} {n n' m:Nat} (h:jT a O s ts A g n) (ha:n<=m) (ho:O.bH<m) (hn:n<=n') (hf:∀x:Id,x.bH<m->g' x=g x):jT a O s ts A g' n':=by
 refine⟨Nat.le_trans h.1 hn,fun x hx hO=>(hf x (Nat.lt_of_lt_of_le hx (Nat.le_trans h.1 ha))).trans (h.2.1 x hx hO),?_⟩;obtain⟨es,h1,h2⟩:=h.2.2;exact⟨es,(hf O ho).trans h1,h2.frame hn fun x hx _=>hf x (Nat.lt_of_lt_of_le hx ha)⟩
theorem Ah:¬mP.j6=1:=by decide
theorem jT.put {a:aw} {O:Id} {s:ar} {ts:List aa} {A A':af->Prop} {g g':Rows} {n n':Nat} {es:List En} (h:jT a O s ts A g n) (hg:g O=some ⟨true,mP.j6,es.map qn⟩) (hw:yL g n es (iQ s ts) A) (hn:n<=n') (hf:∀x:Id,x.bH<n->x≠O->g' x=g x) {q:af} {o:Id} (h0:iQ s ts q≠[]) (ho:o.bH<n') (sZ:g' o=some ⟨true,1,(iQ s ts q).map bf⟩) (hO:g' O=some ⟨true,mP.j6,(pF es q (.own o 0 (iQ s ts q).length)).map qn⟩) (hA:∀p,A' p->A p∨p=q):jT a O s ts A' g' n':=
 ⟨Nat.le_trans h.1 hn,fun x hx Ep=>(hf x (Nat.lt_of_lt_of_le hx h.1) Ep).trans (h.2.1 x hx Ep),_,hO,((hw.frame hn fun x hx hr=>hf x hx (by
  rintro rfl;obtain⟨k,r,hr⟩:=hr;rw[hg]at hr;injection hr with hr
  injection hr with _ hr _
  exact Ah hr)).put h0 ho sZ).mono hA⟩
theorem jT.cut {a:aw} {O:Id} {s:ar} {ts:List aa} {A A':af->Prop} {g g':Rows} {n n':Nat} {es:List En} (h:jT a O s ts A g n) (hg:g O=some ⟨true,mP.j6,es.map qn⟩) (hw:yL g n es (iQ s ts) A) (hn:n<=n') (hf:∀x:Id,x.bH<n->x≠O->g' x=g x) {q:af} (h0:iQ s ts q=[]) (hO:g' O=some ⟨true,mP.j6,(qm es q).map qn⟩) (hA:∀p,A' p->A p∨p=q):jT a O s ts A' g' n':=
 ⟨Nat.le_trans h.1 hn,fun x hx Ep=>(hf x (Nat.lt_of_lt_of_le hx h.1) Ep).trans (h.2.1 x hx Ep),_,hO,((hw.frame hn fun x hx hr=>hf x hx (by
  rintro rfl;obtain⟨k,r,hr⟩:=hr;rw[hg]at hr;injection hr with hr
  injection hr with _ hr _
  exact Ah hr)).cut h0).mono hA⟩
theorem jT.ow {a:aw} {O:Id} {s:ar} {ts:List aa} {A:af->Prop} {g:Rows} {n:Nat} (h:jT a O s ts A g n):lj a O g n:=by
 obtain⟨h1,h2,es,h3,_⟩:=h;refine⟨h1,h2,_,h3,fun r hr=>?_⟩;obtain⟨e,_,rfl⟩:=List.mem_map.1 hr;exact⟨_,_,_,rfl⟩
theorem uZ {σ:aw} {c T O:Id} {s:ar} {ts:List aa} (h:Bg σ.get σ.next c T O s ts) (hc:c≠O) (hT:T≠O) (A:af->Prop) (hO:∃es:List En,σ.get O=some ⟨true,mP.j6,es.map qn⟩/\yL σ.get σ.next es (iQ s ts) A) (hS:gz s.ay) (hF:∀q,0<=ej ts q->eE s.ay (ej ts q)=true) (p:af) (hx:iB p.eV) (hy:iB p.eR):
  Call Tryz.prog 89 [.ptr c 0 0,.agg (ab p)] σ (fun r σ'=>r=.gG []/\jT σ O s ts (fun q=>A q∨∃k:Nat,k<4/\q=bI p k) σ'.get σ'.next):=by
 refine fG fx rfl fun fM=>?_;clear fM;have AE:=hS.qj
 have h0:jT σ O s ts (fun q=>A q∨∃k:Nat,k<0/\q=bI p k) σ.get σ.next:=⟨Nat.le_refl _,fun _ _ _=>rfl,by
  obtain⟨es,h1,h2⟩:=hO
  exact⟨es,h1,h2.mono fun q hq=>hq.elim id fun⟨k,hk,_⟩=>absurd hk (Nat.not_lt_zero k)⟩⟩
 (try((repeat(revert N;apply g7));refine wk @ab.eq_1 ?_;repeat(apply g6;intro N hN)))
 refine cj (fun n env st=>∃k:Nat,n=(4)-k/\k<=(4)/\env 8=.int .i64 (k:Int)/\st.get ⟨89000000,σ.next⟩=some ⟨true,2,[ab p]⟩/\(σ.next<st.next/\jT σ O s ts (fun q=>A q∨∃j:Nat,j<k/\q=bI p j) st.get st.next)) (4) ⟨0,ae,ae,sl @ab.eq_1,sl @ab.eq_1,⟨aI,h0.frame i4 h.ov aI (fun x hx=>by
  have:=cR hx
  simp only[go_sem,↓reduceIte,Nat.reduceEqDiff,Nat.reduceAdd,Nat.reduceSub,Nat.reduceLeDiff,reduceCtorEq,this])⟩⟩ ?_
 rintro n_a m3 i8 ⟨k,rfl,ale,a8,eK,mD⟩ eC;have a0:=eC 0 g9;have a3:=eC 3 g9;simp only[go_sem,↓reduceIte,Nat.reduceEqDiff,Nat.reduceAdd,Nat.reduceSub,Nat.reduceLeDiff,reduceCtorEq,ab]at a0 a3;clear eC;obtain⟨an,ak⟩:=mD;have ha:=ak.CX h hc hT
 by_cases hk:(k:Int)<4
 ·have dW:∀{e:Env} {gg:Rows} {nx:Nat},(e 8=.int .i64 (IntKind.i64.wrap ((k:Int)+1)))->(gg ⟨89000000,σ.next⟩=some ⟨true,2,[ab p]⟩)->(σ.next<nx/\jT σ O s ts (fun q=>A q∨∃j:Nat,j<(k+1)/\q=bI p j) gg nx)->∃m0,m0<(4)-k/\∃k:Nat,m0=(4)-k/\k<=(4)/\e 8=.int .i64 (k:Int)/\gg ⟨89000000,σ.next⟩=some ⟨true,2,[ab p]⟩/\(σ.next<nx/\jT σ O s ts (fun q=>A q∨∃j:Nat,j<k/\q=bI p j) gg nx):=fun x1 x2 x3=>⟨_,ae,k+1,rfl,ae,(by rw[x1,aZ ae]),x2,x3⟩;have ez:=xf p k (jc ae) hx hy;obtain⟨b,h1⟩:=ha.row;have v1:=cR ha.cv
  (have zF:=tw8 @a8 @eK @a0 @a3 @hk @h1 @v1 @ab.eq_1;(repeat(first|((repeat(revert N;apply g7));refine wk zF ?_;repeat(apply g6;intro N hN))|((try apply i3);refine⟨_,au.x (ez) (sd zF),?_⟩;apply hN;clear hN N)));try clear zF)
  refine cj (fun n env st=>∃t:Nat,n=(s.ay.aq.length)-t/\t<=(s.ay.aq.length)/\env 21=.int .i64 (t:Int)/\st.get ⟨89000000,σ.next⟩=some ⟨true,2,[ab p]⟩/\st.get ⟨89004003,i8.next+1+1⟩=some ⟨true,2,[ab (bI p k)]⟩/\(i8.next+3<=st.next/\jT σ O s ts (fun q=>A q∨∃j:Nat,j<k/\q=bI p j) st.get i8.next/\((mF (eu s ts) (bI p k) t=[]/\env 6=.ck)∨∃o:Id,env 6=.own o 0 (mF (eu s ts) (bI p k) t).length/\st.get o=some ⟨true,1,(mF (eu s ts) (bI p k) t).map bf⟩/\0<(mF (eu s ts) (bI p k) t).length/\i8.next+3<=o.bH/\o.bH<st.next))) (s.ay.aq.length) ⟨0,ae,ae,sl (tw5 @a8 @eK @a0 @a3 @ab.eq_1),sl (tw5 @a8 @eK @a0 @a3 @ab.eq_1),sl (tw5 @a8 @eK @a0 @a3 @ab.eq_1),⟨aI,ak.frame i4 ha.ov i4 (fun x hx=>(by
   have:=cR hx
   simp only[go_sem,↓reduceIte,Nat.reduceEqDiff,Nat.reduceAdd,Nat.reduceSub,Nat.reduceLeDiff,reduceCtorEq,this])),.inl ⟨rfl,sd @g8⟩⟩⟩ ?_
  rintro n_b m4 i9 ⟨t,rfl,ble,b21,bg0,bg1,bI0⟩ eB;have b0:=eB 0 g9;have b3:=eB 3 g9;have b5:=eB 5 g9;have b8:=eB 8 g9;have nD:=eB 20 g9;simp only[go_sem,↓reduceIte,Nat.reduceEqDiff,Nat.reduceAdd,Nat.reduceSub,Nat.reduceLeDiff,reduceCtorEq,a8,eK,a0,a3,ab]at b0 b3 b5 b8 nD;clear eB;obtain⟨bn,bk,b6⟩:=bI0;have Ma:Bg i9.get i9.next c T O s ts:=(bk.CX h hc hT).frame ae rfl rfl;obtain⟨b2,h2⟩:=Ma.row;have v2:=cR Ma.cv;have vt:=cR (i:=⟨89000000,σ.next⟩) (n:=i9.next) aI;have vq:=cR (i:=⟨89004003,i8.next+1+1⟩) (n:=i9.next) aI
  by_cases ht:(t:Int)<(s.ay.aq.length:Int)
  ·have ep:∀{e:Env} {gg:Rows} {nx:Nat},(e 21=.int .i64 (IntKind.i64.wrap ((t:Int)+1)))->(gg ⟨89000000,σ.next⟩=some ⟨true,2,[ab p]⟩)->(gg ⟨89004003,i8.next+1+1⟩=some ⟨true,2,[ab (bI p k)]⟩)->(i8.next+3<=nx/\jT σ O s ts (fun q=>A q∨∃j:Nat,j<k/\q=bI p j) gg i8.next/\((mF (eu s ts) (bI p k) (t+1)=[]/\e 6=.ck)∨∃o:Id,e 6=.own o 0 (mF (eu s ts) (bI p k) (t+1)).length/\gg o=some ⟨true,1,(mF (eu s ts) (bI p k) (t+1)).map bf⟩/\0<(mF (eu s ts) (bI p k) (t+1)).length/\i8.next+3<=o.bH/\o.bH<nx))->∃m0,m0<(s.ay.aq.length)-t/\∃t:Nat,m0=(s.ay.aq.length)-t/\t<=(s.ay.aq.length)/\e 21=.int .i64 (t:Int)/\gg ⟨89000000,σ.next⟩=some ⟨true,2,[ab p]⟩/\gg ⟨89004003,i8.next+1+1⟩=some ⟨true,2,[ab (bI p k)]⟩/\(i8.next+3<=nx/\jT σ O s ts (fun q=>A q∨∃j:Nat,j<k/\q=bI p j) gg i8.next/\((mF (eu s ts) (bI p k) t=[]/\e 6=.ck)∨∃o:Id,e 6=.own o 0 (mF (eu s ts) (bI p k) t).length/\gg o=some ⟨true,1,(mF (eu s ts) (bI p k) t).map bf⟩/\0<(mF (eu s ts) (bI p k) t).length/\i8.next+3<=o.bH/\o.bH<nx)):=fun x1 x2 x3 x4=>⟨_,ae,t+1,rfl,ae,(by rw[x1,aZ ae]),x2,x3,x4⟩;have KQ:t<s.ay.aq.length:=ae;have GH:=uI (eu s ts) (bI p k) t;have mU:mF (eu s ts) (bI p k) (t+1)=if eu s ts (bI p k) t=true then mF (eu s ts) (bI p k) t++[(t:Int)]else mF (eu s ts) (bI p k) t:=rfl
   generalize mF (eu s ts) (bI p k) t=L at b6 GH mU;(try((repeat(revert N;apply g7));refine wk (tw9 @b21 @bg0 @bg1 @b0 @b3 @b5 @b8 @nD (tw6 @ht @h2 @v2 @vt @vq @ab.eq_1)) ?_;repeat(apply g6;intro N hN)));refine .inl ⟨_,Nb (Ma.frame aI (sd @v2) (by(have:=cR Ma.tv;simp only[go_sem,↓reduceIte,Nat.reduceEqDiff,Nat.reduceAdd,Nat.reduceSub,Nat.reduceLeDiff,reduceCtorEq,this]))) hS hF (bI p k) t (vN KQ),?_⟩;apply hN;clear hN N
   cases hb:eu s ts (bI p k) t
   ·rw[hb,if_neg (by simp)]at mU;(try((repeat(revert N;apply g7));refine wk (tw9 @b21 @bg0 @bg1 @b0 @b3 @b5 @b8 @nD @hb) ?_;repeat(apply g6;intro N hN)))
    refine ep ?_ ?_ ?_ (by(try dsimp only);exact⟨ae,bk.frame i4 ha.ov i4 (fun x hx=>by
      have h1:=cR (i:=x) (n:=i9.next) ae
      simp only[go_sem,↓reduceIte,Nat.reduceEqDiff,Nat.reduceAdd,Nat.reduceSub,Nat.reduceLeDiff,reduceCtorEq,h1]),by
     rw[mU]
     rcases b6 with⟨hL,h⟩|⟨o,h1,h2,h3,h4,h5⟩
     ·exact .inl ⟨hL,sd @h⟩
     ·have h8:=cR h5
      exact .inr ⟨o,sd @h1,sd (tw @h2 @h8),h3,h4,ae⟩⟩)
    all_goals simp only[go_sem,↓reduceIte,Nat.reduceEqDiff,Nat.reduceAdd,Nat.reduceSub,Nat.reduceLeDiff,reduceCtorEq,b21,bg0,bg1,b0,b3,b5,b8,nD,ab,vt,vq]
   ·rw[hb,if_pos rfl]at mU;have o9:(L++[(t:Int)]).length=L.length+1:=by simp
    have j3:(L++[(t:Int)]).map bf=L.map bf++[[.int .i64 t]]:=by rw[List.map_append];rfl
    rcases b6 with⟨hL,b6⟩|⟨o,b6,bo,o4,o6,o7⟩
    ·subst hL;(try((repeat(revert N;apply g7));refine wk (tw9 @b21 @bg0 @bg1 @b0 @b3 @b5 @b8 @nD (tw @b6 @hb)) ?_;repeat(apply g6;intro N hN)))
     refine ep ?_ ?_ ?_ (by(try dsimp only);exact⟨ae,bk.frame i4 ha.ov i4 (fun x hx=>by
      have h1:=cR (i:=x) (n:=i9.next) ae
      simp only[go_sem,↓reduceIte,Nat.reduceEqDiff,Nat.reduceAdd,Nat.reduceSub,Nat.reduceLeDiff,reduceCtorEq,h1]),.inr ⟨⟨89010003,i9.next+1+1+1⟩,by rw[mU,o9];simp only[go_sem,↓reduceIte,Nat.reduceEqDiff,Nat.reduceAdd,Nat.reduceSub,Nat.reduceLeDiff,reduceCtorEq]<;>rfl,by rw[mU,j3];simp only[go_sem,↓reduceIte,Nat.reduceEqDiff,Nat.reduceAdd,Nat.reduceSub,Nat.reduceLeDiff,reduceCtorEq]<;>rfl,by rw[mU,o9];omega,aI,aI⟩⟩)
     all_goals simp only[go_sem,↓reduceIte,Nat.reduceEqDiff,Nat.reduceAdd,Nat.reduceSub,Nat.reduceLeDiff,reduceCtorEq,b21,bg0,bg1,b0,b3,b5,b8,nD,ab,vt,vq]
    ·have e1:L.length<=16777215:=ae;have Ek:(L.map bf).length=L.length:=by simp
     have vo:=cR o7;have vto:=ew (a:=⟨89000000,σ.next⟩) (b:=o) aI;have vqo:=ew (a:=⟨89004003,i8.next+1+1⟩) (b:=o) aI;(try((repeat(revert N;apply g7));refine wk (tw9 @b21 @bg0 @bg1 @b0 @b3 @b5 @b8 @nD (tw6 @b6 @bo @hb @e1 @Ek @vo)) ?_;repeat(apply g6;intro N hN)))
     refine ep ?_ ?_ ?_ (by(try dsimp only);exact⟨ae,bk.frame i4 ha.ov i4 (fun x hx=>by
      have h1:=cR (i:=x) (n:=i9.next) ae;have h2:=ew (a:=x) (b:=o) ae
      simp only[go_sem,↓reduceIte,Nat.reduceEqDiff,Nat.reduceAdd,Nat.reduceSub,Nat.reduceLeDiff,reduceCtorEq,h1,h2]),.inr ⟨⟨89010003,i9.next+1+1+1⟩,by rw[mU,o9];simp only[go_sem,↓reduceIte,Nat.reduceEqDiff,Nat.reduceAdd,Nat.reduceSub,Nat.reduceLeDiff,reduceCtorEq]<;>rfl,by rw[mU,j3];simp only[go_sem,↓reduceIte,Nat.reduceEqDiff,Nat.reduceAdd,Nat.reduceSub,Nat.reduceLeDiff,reduceCtorEq]<;>rfl,by rw[mU,o9];omega,aI,aI⟩⟩)
     all_goals simp only[go_sem,↓reduceIte,Nat.reduceEqDiff,Nat.reduceAdd,Nat.reduceSub,Nat.reduceLeDiff,reduceCtorEq,b21,bg0,bg1,b0,b3,b5,b8,nD,ab,vt,vq,vto,vqo]
  ·obtain⟨es,hg,Xg⟩:=bk.2.2;have vo:=cR Ma.ov;obtain⟨fi,Dd,zq,Db,_,_⟩:=wT (bI p k) es;unfold dn at zq;unfold dm at Db;have hq:((⟨89000000,σ.next⟩:Id)=O)=False:=(ew (a:=O) (b:=⟨89000000,σ.next⟩) (by have:=h.ov;(try dsimp only);omega)).2;have htt:t=s.ay.aq.length:=ae;subst htt;have wL:mF (eu s ts) (bI p k) s.ay.aq.length=iQ s ts (bI p k):=rfl;rw[wL]at b6
   have hAk:∀q,(A q∨∃j:Nat,j<k+1/\q=bI p j)->(A q∨∃j:Nat,j<k/\q=bI p j)∨q=bI p k:=fun q hq=>by
    rcases hq with hq|⟨j,hj,hq⟩
    ·exact .inl (.inl hq)
    ·rcases Nat.lt_or_ge j k with h|h
     ·exact .inl (.inr ⟨j,h,hq⟩)
     ·exact .inr (by rw[hq,show j=k by omega])
   rcases b6 with⟨hL,b6⟩|⟨o,b6,bo,o4,o6,o7⟩
   ·have d0:decide ((0:Int)<((0:Nat):Int))=false:=rfl;(try((repeat(revert N;apply g7));refine wk (tw9 @b21 @bg0 @bg1 @b0 @b3 @b5 @b8 @nD (tw9 @b6 @ht @h2 @v2 @vt @vq @vo @hg (tw4 @Dd @Db @ab.eq_1 @d0))) ?_;repeat(apply g6;intro N hN)))
    refine dW ?_ ?_ (by(try dsimp only);exact⟨ae,bk.cut hg Xg ae (fun x hx Ep=>by
     have h1:=cR (i:=x) (n:=i9.next) ae;have h2:(x=O)=False:=eq_false Ep
     simp only[go_sem,↓reduceIte,Nat.reduceEqDiff,Nat.reduceAdd,Nat.reduceSub,Nat.reduceLeDiff,reduceCtorEq,h1,h2]) hL (sl @Db) hAk⟩)
    all_goals simp only[go_sem,↓reduceIte,Nat.reduceEqDiff,Nat.reduceAdd,Nat.reduceSub,Nat.reduceLeDiff,reduceCtorEq,a8,eK,a0,a3,b21,bg0,bg1,b0,b3,b5,b8,nD,ab,vt,vo,hq]
   ·have ju:iQ s ts (bI p k)≠[]:=fun e=>by rw[e]at o4;cases o4
    have d1:decide ((0:Int)<((iQ s ts (bI p k)).length:Int))=true:=decide_eq_true ae;have Ji:=zq (.own o 0 (iQ s ts (bI p k)).length);have v8:=cR o7
    have oO:(o=O)=False:=eq_false (by
     rintro rfl;rw[hg]at bo;injection bo with bo
     injection bo with _ bo _
     exact Ah bo)
    (try((repeat(revert N;apply g7));refine wk (tw9 @b21 @bg0 @bg1 @b0 @b3 @b5 @b8 @nD (tw9 @b6 @ht @h2 @v2 @vt @vq @vo @hg (tw4 @Dd @Ji @ab.eq_1 @d1))) ?_;repeat(apply g6;intro N hN)))
    refine dW ?_ ?_ (by(try dsimp only);exact⟨ae,bk.put hg Xg ae (fun x hx Ep=>by
     have h1:=cR (i:=x) (n:=i9.next) ae;have h2:(x=O)=False:=eq_false Ep
     simp only[go_sem,↓reduceIte,Nat.reduceEqDiff,Nat.reduceAdd,Nat.reduceSub,Nat.reduceLeDiff,reduceCtorEq,h1,h2]) (o:=o) ju ae (sd (tw3 @oO @v8 @bo)) (sl @Ji) hAk⟩)
    all_goals simp only[go_sem,↓reduceIte,Nat.reduceEqDiff,Nat.reduceAdd,Nat.reduceSub,Nat.reduceLeDiff,reduceCtorEq,a8,eK,a0,a3,b21,bg0,bg1,b0,b3,b5,b8,nD,ab,vt,vo,hq]
 ·have hk4:k=4:=ae;subst hk4;(try((repeat(revert N;apply g7));refine wk (tw5 @a8 @eK @a0 @a3 @hk) ?_;repeat(apply g6;intro N hN)));exact eH (.inr rfl) (vs:=[]) rfl ⟨rfl,ak.frame i4 ha.ov aI (fun x hx=>rfl)⟩
structure sI (g:Rows) (n:Nat) (c T O:Id) (s:ar) (ts:List aa):Prop where
 o:k9 g n c T O s ts
 op:∃es:List En,g O=some ⟨true,mP.j6,es.map qn⟩/\yL g n es (iQ s ts) (fun _=>True)
theorem sI.frame {g g':Rows} {n n':Nat} {c T O:Id} {s:ar} {ts:List aa} (h:sI g n c T O s ts) (hn:n<=n') (hf:∀x:Id,x.bH<n->g' x=g x):sI g' n' c T O s ts:=
 ⟨h.o.frame hn hf,by
  obtain⟨es,h1,h2⟩:=h.op
  exact⟨es,(hf _ h.o.ov).trans h1,h2.frame hn fun x hx _=>hf x hx⟩⟩
theorem k9.Tj {σ:aw} {g:Rows} {n:Nat} {c T O:Id} {s:ar} {ts:List aa} {A:af->Prop} (h:k9 σ.get σ.next c T O s ts) (k:jT σ O s ts A g n):k9 g n c T O s ts:=h.look k.ow
theorem M9 {s:ar} (hT:1<=s.aQ) {ts:List aa} {q:af} (h:∀t∈ts,∀k:Nat,k<4->q≠bI t.aH k):iQ s ts q=[]:=by
 unfold iQ;refine C2 (fun t=>?_) _
 cases hb:eu s ts q t
 ·rfl
 ·exfalso;simp[eu]at hb;obtain⟨⟨h1,h2⟩,h3⟩:=hb;obtain⟨k,hk,h4⟩:=bind_some (s:=s.ay) (F:=ej ts) (p:=q) (t:=t) 4 (by have:iT s.ay (ej ts) q t=dv s.ay (ej ts) q t 4:=rfl;omega)
  have h5:0<=ei ts (bI q k):=by
   unfold ej at h4
   split at h4
   ·assumption
   ·omega
  obtain⟨h6,h7⟩:=iz h5
  have AS:(kH k).toNat<4/\((kH k).toNat:Int)=kH k:=by
   have:k=0∨k=1∨k=2∨k=3:=ae
   rcases this with rfl|rfl|rfl|rfl<;>decide
  refine h _ (e7 h6) (kH k).toNat AS.1 ?_;rw[h7,AS.2,xd q k hk]
theorem Gd {l:List aa} {t:aa} (h:t∈l):∃j,j<l.length/\t=bc l j:=by
 obtain⟨j,hj,rfl⟩:=List.getElem_of_mem h;exact⟨j,hj,(ev hj).symm⟩
def G4 (s:ar) (l:List aa) (j:Nat) (q:af):Prop:=iQ s l q=[]/\(∀i:Nat,i<l.length->∀k:Nat,k<4->q≠bI (bc l i).aH k)∨∃i:Nat,i<j/\∃k:Nat,k<4/\q=bI (bc l i).aH k
theorem Pj {s:ar} (hT:1<=s.aQ) (l:List aa) (q:af):G4 s l l.length q:=by
 by_cases h:∃i:Nat,i<l.length/\∃k:Nat,k<4/\q=bI (bc l i).aH k
 ·exact .inr h
 ·have h2:∀i:Nat,i<l.length->∀k:Nat,k<4->q≠bI (bc l i).aH k:=fun i hi k hk e=>h ⟨i,hi,k,hk,e⟩
  exact .inl ⟨M9 hT fun t ht k hk=>by
   obtain⟨j,hj,rfl⟩:=Gd ht
   exact h2 j hj k hk,h2⟩
def NewS (σ:aw) (s:ar) (ts:List aa) (r:AV) (σ':aw):Prop:=
 ∃c T O:Id,r=.ptr c 0 0/\sI σ'.get σ'.next c T O s ts/\σ.next<=c.bH/\σ.next<=T.bH/\σ.next<=O.bH/\σ.next<=σ'.next/\∀x:Id,x.bH<σ.next->σ'.get x=σ.get x
theorem DJ (s:ar) (hS:gz s.ay) (SM:1<=s.aQ) (l:List aa) (hA:fS s.ay l) (σ:aw):Call Tryz.prog 44 [.agg (aK s),.agg [.sl (l.map ad)]] σ (NewS σ s l):=by
 refine fG fx rfl fun fM=>?_;clear fM;have sM:=hA.1.oG;(try((repeat(revert N;apply g7));refine wk @aK.eq_1 ?_;repeat(apply g6;intro N hN)))
 refine cj (fun n env st=>∃k:Nat,n=(l.length)-k/\k<=(l.length)/\env 18=.int .i64 (k:Int)/\st.get ⟨44001004,σ.next+1⟩=some ⟨true,6,[[.sl (s.ay.bM.map dU),.sl (s.ay.aq.map dp),.sl (s.cw.aq.map ad),.int .i64 s.aQ,.map ⟨44001001,σ.next+1⟩ mP,.map ⟨44001002,σ.next+1⟩ mP]]⟩/\st.get ⟨44001001,σ.next+1⟩=some ⟨true,mP.j6,(l.take k).map ad⟩/\st.get ⟨44001002,σ.next+1⟩=some ⟨true,mP.j6,[]⟩/\st.get ⟨44000001,σ.next⟩=some ⟨true,1,[[.sl (l.map ad)]]⟩/\(σ.next+3<=st.next/\∀x:Id,x.bH<σ.next->st.get x=σ.get x)) (l.length) ⟨0,ae,ae,sl @g8,sl @g8,sl @g8,sl @g8,sl @g8,⟨aI,fun x hx=>by
  have:=cR hx
  simp only[go_sem,↓reduceIte,Nat.reduceEqDiff,Nat.reduceAdd,Nat.reduceSub,Nat.reduceLeDiff,reduceCtorEq,this]⟩⟩ ?_
 rintro n_a m3 i8 ⟨k,rfl,ale,a18,eK,jx,ag2,ag3,mD⟩ eC;have a3:=eC 3 g9;have a5:=eC 5 g9;have Ka:=eC 16 g9;have a17:=eC 17 g9;simp only[go_sem,↓reduceIte,Nat.reduceEqDiff,Nat.reduceAdd,Nat.reduceSub,Nat.reduceLeDiff,reduceCtorEq]at a3 a5 Ka a17;clear eC;obtain⟨an,eC⟩:=mD;have v1:=cR (i:=⟨44001004,σ.next+1⟩) (n:=i8.next) aI;have v2:=cR (i:=⟨44001001,σ.next+1⟩) (n:=i8.next) aI;have v3:=cR (i:=⟨44001002,σ.next+1⟩) (n:=i8.next) aI;have v4:=cR (i:=⟨44000001,σ.next⟩) (n:=i8.next) aI
 by_cases hk:(k:Int)<(l.length:Int)
 ·have dW:∀{e:Env} {gg:Rows} {nx:Nat},(e 18=.int .i64 (IntKind.i64.wrap ((k:Int)+1)))->(gg ⟨44001004,σ.next+1⟩=some ⟨true,6,[[.sl (s.ay.bM.map dU),.sl (s.ay.aq.map dp),.sl (s.cw.aq.map ad),.int .i64 s.aQ,.map ⟨44001001,σ.next+1⟩ mP,.map ⟨44001002,σ.next+1⟩ mP]]⟩)->(gg ⟨44001001,σ.next+1⟩=some ⟨true,mP.j6,(l.take (k+1)).map ad⟩)->(gg ⟨44001002,σ.next+1⟩=some ⟨true,mP.j6,[]⟩)->(gg ⟨44000001,σ.next⟩=some ⟨true,1,[[.sl (l.map ad)]]⟩)->(σ.next+3<=nx/\∀x:Id,x.bH<σ.next->gg x=σ.get x)->∃m0,m0<(l.length)-k/\∃k:Nat,m0=(l.length)-k/\k<=(l.length)/\e 18=.int .i64 (k:Int)/\gg ⟨44001004,σ.next+1⟩=some ⟨true,6,[[.sl (s.ay.bM.map dU),.sl (s.ay.aq.map dp),.sl (s.cw.aq.map ad),.int .i64 s.aQ,.map ⟨44001001,σ.next+1⟩ mP,.map ⟨44001002,σ.next+1⟩ mP]]⟩/\gg ⟨44001001,σ.next+1⟩=some ⟨true,mP.j6,(l.take k).map ad⟩/\gg ⟨44001002,σ.next+1⟩=some ⟨true,mP.j6,[]⟩/\gg ⟨44000001,σ.next⟩=some ⟨true,1,[[.sl (l.map ad)]]⟩/\(σ.next+3<=nx/\∀x:Id,x.bH<σ.next->gg x=σ.get x):=fun x1 x2 x3 x4 x5 x6=>⟨_,ae,k+1,rfl,ae,(by rw[x1,aZ ae]),x2,x3,x4,x5,x6⟩;have iD:k<l.length:=ae;have hg:=fZ iD;have hm:=pB (Gq hA.1.pH iD);have lL:=JP iD;(try((repeat(revert N;apply g7));refine wk (tw9 @a18 @eK @jx @ag2 @ag3 @a3 @a5 @Ka (tw9 @a17 @hk @hg @hm @v1 @v2 @v3 @v4 @ad.eq_1)) ?_;repeat(apply g6;intro N hN)))
  refine dW ?_ ?_ ?_ ?_ ?_ (by(try dsimp only);exact⟨ae,fun x hx=>by
   have h1:=cR (i:=x) (n:=i8.next) ae;have h2:=ew (a:=x) (b:=⟨44001001,σ.next+1⟩) aI;have h3:=eC x hx
   simp only[go_sem,↓reduceIte,Nat.reduceEqDiff,Nat.reduceAdd,Nat.reduceSub,Nat.reduceLeDiff,reduceCtorEq,h1,h2,h3]⟩)
  all_goals simp only[go_sem,↓reduceIte,Nat.reduceEqDiff,Nat.reduceAdd,Nat.reduceSub,Nat.reduceLeDiff,reduceCtorEq,a18,eK,jx,ag2,ag3,a3,a5,Ka,a17,ad,v1,v2,v3,v4,lL]
 ·have l8:k=l.length:=ae;subst l8;have lh:l.take l.length=l:=List.take_length;(try((repeat(revert N;apply g7));refine wk (tw9 @a18 @eK @jx @ag2 @ag3 @a3 @a5 @Ka (tw6 @a17 @hk @v1 @v2 @v3 @v4)) ?_;repeat(apply g6;intro N hN)))
  refine cj (fun n env st=>∃j:Nat,n=(l.length)-j/\j<=(l.length)/\env 34=.int .i64 (j:Int)/\(σ.next+3<=st.next/\k9 st.get st.next ⟨44001004,σ.next+1⟩ ⟨44001001,σ.next+1⟩ ⟨44001002,σ.next+1⟩ s l/\(∀x:Id,x.bH<σ.next->st.get x=σ.get x)/\∃es:List En,st.get ⟨44001002,σ.next+1⟩=some ⟨true,mP.j6,es.map qn⟩/\yL st.get st.next es (iQ s l) (G4 s l j))) (l.length) ⟨0,ae,ae,sl (tw9 @a18 @eK @jx @ag2 @ag3 @a3 @a5 @Ka @a17),by(try dsimp only);exact⟨ae,⟨sd @eK,sd (tw @jx @lh),⟨[],sd @ag2,by intro r hr;cases hr⟩,aI,aI,aI,(by intro e;injection e with e1 e2;revert e1;decide),(by intro e;injection e with e1 e2;revert e1;decide),(by intro e;injection e with e1 e2;revert e1;decide)⟩,fun x hx=>by
   have h3:=eC x hx
   simp only[go_sem,↓reduceIte,Nat.reduceEqDiff,Nat.reduceAdd,Nat.reduceSub,Nat.reduceLeDiff,reduceCtorEq,h3],[],sl @ag2,List.nodup_nil,fun q hq=>.inl ⟨by
    rcases hq with hq|⟨i,hi,_⟩
    ·exact hq.1
    ·exact absurd hi (Nat.not_lt_zero i),fun e he=>by cases he⟩⟩⟩ ?_
  rintro n_b m4 i9 ⟨j,rfl,ble,b34,bI0⟩ eB;have b5:=eB 5 g9;have sV:=eB 32 g9;have tj:=eB 33 g9;simp only[go_sem,↓reduceIte,Nat.reduceEqDiff,Nat.reduceAdd,Nat.reduceSub,Nat.reduceLeDiff,reduceCtorEq,a18,eK,jx,ag2,ag3,a3,a5,Ka,a17]at b5 sV tj;clear eB;obtain⟨bn,bC,eB,es,bO,bS⟩:=bI0
  by_cases hj:(j:Int)<(l.length:Int)
  ·have ep:∀{e:Env} {gg:Rows} {nx:Nat},(e 34=.int .i64 (IntKind.i64.wrap ((j:Int)+1)))->(σ.next+3<=nx/\k9 gg nx ⟨44001004,σ.next+1⟩ ⟨44001001,σ.next+1⟩ ⟨44001002,σ.next+1⟩ s l/\(∀x:Id,x.bH<σ.next->gg x=σ.get x)/\∃es:List En,gg ⟨44001002,σ.next+1⟩=some ⟨true,mP.j6,es.map qn⟩/\yL gg nx es (iQ s l) (G4 s l (j+1)))->∃m0,m0<(l.length)-j/\∃j:Nat,m0=(l.length)-j/\j<=(l.length)/\e 34=.int .i64 (j:Int)/\(σ.next+3<=nx/\k9 gg nx ⟨44001004,σ.next+1⟩ ⟨44001001,σ.next+1⟩ ⟨44001002,σ.next+1⟩ s l/\(∀x:Id,x.bH<σ.next->gg x=σ.get x)/\∃es:List En,gg ⟨44001002,σ.next+1⟩=some ⟨true,mP.j6,es.map qn⟩/\yL gg nx es (iQ s l) (G4 s l j)):=fun x1 x2=>⟨_,ae,j+1,rfl,ae,(by rw[x1,aZ ae]),x2⟩;have oy:j<l.length:=ae;have hg:=fZ oy;have NK:=np (hA.1.pt oy);(try((repeat(revert N;apply g7));refine wk (tw7 @b34 @b5 @sV @tj @hj @hg @ad.eq_1) ?_;repeat(apply g6;intro N hN)))
   have hG:∀x:Id,x.bH<i9.next->(bJ (bJ i9.get ⟨44009002,i9.next+1⟩ ⟨true,3,[[.int .i64 0,.int .i64 0,.int .i64 0]]⟩) ⟨44009002,i9.next+1⟩ ⟨true,3,[[.int .i64 (bc l j).aH.eV,.int .i64 (bc l j).aH.eR,.int .i64 (bc l j).bK]]⟩) x=i9.get x:=fun x hx=>by
    have h1:=cR hx;simp only[go_sem,↓reduceIte,Nat.reduceEqDiff,Nat.reduceAdd,Nat.reduceSub,Nat.reduceLeDiff,reduceCtorEq,h1]
   have AO:k9 (bJ (bJ i9.get ⟨44009002,i9.next+1⟩ ⟨true,3,[[.int .i64 0,.int .i64 0,.int .i64 0]]⟩) ⟨44009002,i9.next+1⟩ ⟨true,3,[[.int .i64 (bc l j).aH.eV,.int .i64 (bc l j).aH.eR,.int .i64 (bc l j).bK]]⟩) (i9.next+1+1+1) ⟨44001004,σ.next+1⟩ ⟨44001001,σ.next+1⟩ ⟨44001002,σ.next+1⟩ s l:=bC.frame ae hG;refine .inr (ax _ _ _ _ _ (fun r σ1 hq=>?_) (uZ (σ:=⟨bJ (bJ i9.get ⟨44009002,i9.next+1⟩ ⟨true,3,[[.int .i64 0,.int .i64 0,.int .i64 0]]⟩) ⟨44009002,i9.next+1⟩ ⟨true,3,[[.int .i64 (bc l j).aH.eV,.int .i64 (bc l j).aH.eR,.int .i64 (bc l j).bK]]⟩,i9.next+1+1+1⟩) AO.CX AO.cO AO.TO (G4 s l j) ⟨es,(hG _ aI).trans bO,bS.frame aI fun x hx _=>hG x hx⟩ hS (gz.EF hA) (bc l j).aH NK.1 NK.2));obtain⟨g1,x1⟩:=σ1;obtain⟨rfl,hL⟩:=hq;(try dsimp only at hL);have x7:=AO.Tj hL;have hLn:=hL.1;have X5:=hL.2.1;obtain⟨es2,L9,hS2⟩:=hL.2.2;(try dsimp only at hLn X5)
   have hAj:∀q,G4 s l (j+1) q->G4 s l j q∨∃k:Nat,k<4/\q=bI (bc l j).aH k:=fun q hq=>by
    rcases hq with hq|⟨i,hi,hq⟩
    ·exact .inl (.inl hq)
    ·rcases Nat.lt_or_ge i j with h|h
     ·exact .inl (.inr ⟨i,h,hq⟩)
     ·exact .inr (by rw[show i=j by omega]at hq;exact hq)
   apply hN;clear hN N;(try((repeat(revert N;apply g7));refine wk (tw4 @b34 @b5 @sV @tj) ?_;repeat(apply g6;intro N hN)))
   exact ep (sd (tw4 @b34 @b5 @sV @tj)) (by(try dsimp only);exact⟨ae,x7.frame ae (fun x hx=>rfl),fun x hx=>by
    have h1:=cR (i:=x) (n:=i9.next) ae;have h2:=X5 x ae (fun e=>by rw[e]at hx;(try dsimp only at hx);omega);have h3:=eB x hx;simp only[h2]
    simp only[go_sem,↓reduceIte,Nat.reduceEqDiff,Nat.reduceAdd,Nat.reduceSub,Nat.reduceLeDiff,reduceCtorEq,h1,h3],es2,L9,(hS2.frame ae fun x hx _=>rfl).mono hAj⟩)
  ·have iL:j=l.length:=ae;subst iL;(try((repeat(revert N;apply g7));refine wk (tw5 @b34 @b5 @sV @tj @hj) ?_;repeat(apply g6;intro N hN)));exact eH (.inl rfl) (vs:=[.ptr ⟨44001004,σ.next+1⟩ 0 0]) (sd @g8) ⟨_,_,_,rfl,⟨bC.frame aI (fun x hx=>rfl),es,bO,(bS.frame aI fun x hx _=>rfl).mono fun q _=>Pj SM l q⟩,aI,aI,aI,aI,eB⟩
theorem Ky {s:ar} {ts:List aa} {p q:af} {t:Int} (h0:ei ts p<0) (hqp:q≠p) (hn:∀k:Nat,k<4->q≠bI p k):iQ s (ts++[⟨p,t⟩]) q=iQ s ts q:=by
 unfold iQ;have mT:=nO.1 h0
 have qb:∀x,x≠p->ej (ts++[⟨p,t⟩]) x=ej ts x:=fun x hx=>by
  rw[uq (q:=⟨p,t⟩) x mT];exact if_neg fun e=>hx e.symm
 have ez:∀k:Nat,k<4->bI q k≠p:=fun k hk e=>by
  have AS:(kH k).toNat<4/\((kH k).toNat:Int)=kH k:=by
   have:k=0∨k=1∨k=2∨k=3:=ae
   rcases this with rfl|rfl|rfl|rfl<;>decide
  refine hn _ AS.1 ?_;rw[AS.2,<-e,xd q k hk]
 have hb:∀(u:Int) (d:Nat),d<=4->dv s.ay (ej (ts++[⟨p,t⟩])) q u d=dv s.ay (ej ts) q u d:=fun u d=>by
  induction d with
  |zero=>intro _;rfl
  |succ d ih=>
   intro hd;rw[dv,dv,ih ae,qb _ (ez d ae)]
 refine rU (fun k=>?_) _;unfold eu;rw[qb q hqp,show iT s.ay (ej (ts++[⟨p,t⟩])) q k=iT s.ay (ej ts) q k from hb k 4 i4]
theorem Kz {s:ar} {ts:List aa} {p:af} {t:Int} (h0:ei ts p<0) (ht:0<=t):iQ s (ts++[⟨p,t⟩]) p=[]:=by
 unfold iQ;refine C2 (fun k=>?_) _
 have:¬ej (ts++[⟨p,t⟩]) p<0:=by
  rw[uq (q:=⟨p,t⟩) p (nO.1 h0),if_pos rfl];show ¬t<0;omega
 simp[eu,this]
theorem Zl {σ:aw} {c T O:Id} {s:ar} {ts:List aa} (h:sI σ.get σ.next c T O s ts) (hS:gz s.ay) (hF:∀q,0<=ej ts q->eE s.ay (ej ts q)=true) (p:af) (hp:s9 p=true) (t:Int) (ht:eE s.ay t=true) (h0:ei ts p<0):
  Call Tryz.prog 136 [.ptr c 0 0,.agg (ab p),.int .i64 t] σ (fun r σ'=>r=.gG []/\sI σ'.get σ'.next c T O s (ts++[⟨p,t⟩])/\σ.next<=σ'.next/\∀x:Id,x.bH<σ.next->x≠T->x≠O->σ'.get x=σ.get x):=by
 refine fG fx rfl fun fM=>?_;clear fM;obtain⟨hx,hy⟩:=np hp;have mT:=nO.1 h0;have YR:0<=t:=(dV ht).1
 have hF2:∀q,0<=ej (ts++[⟨p,t⟩]) q->eE s.ay (ej (ts++[⟨p,t⟩]) q)=true:=fun q hq=>by
  rw[uq q mT]at hq ⊢
  split at hq
  ·rename_i he;rw[if_pos he];exact ht
  ·rename_i he;rw[if_neg he];exact hF q hq
 obtain⟨es,ho,hw⟩:=h.op;obtain⟨fi,Dd,_,Db,_,_⟩:=wT p es;unfold dm at Db;have h1:=h.o.row;have h2:=h.o.tl;have v1:=cR h.o.cv;have v2:=cR h.o.tv;have v3:=cR h.o.ov;have hm:=pB h0;have cT:=eq_false h.o.cT;have cO:=eq_false h.o.cO;have TO:=eq_false h.o.TO;have Tc:=eq_false (fun e:T=c=>h.o.cT e.symm);have Oc:=eq_false (fun e:O=c=>h.o.cO e.symm);have OT:=eq_false (fun e:O=T=>h.o.TO e.symm);(try((repeat(revert N;apply g7));refine wk (tw9 @h1 @h2 @ho @v1 @v2 @v3 @hm @Dd (tw8 @Db @cT @cO @TO @Tc @Oc @OT @ab.eq_1)) ?_;repeat(apply g6;intro N hN)))
 have hG:∀x:Id,x.bH<σ.next->x≠T->x≠O->(bJ (bJ (bJ σ.get ⟨136000000,σ.next⟩ ⟨true,2,[[.int .i64 p.eV,.int .i64 p.eR]]⟩) T ⟨true,mP.j6,ts.map ad++[[.int .i64 p.eV,.int .i64 p.eR,.int .i64 t]]⟩) O ⟨true,mP.j6,(qm es p).map qn⟩) x=σ.get x:=fun x hxv hxT Ep=>by
  have a1:=eq_false hxT;have a2:=eq_false Ep;have a3:=cR hxv;simp only[go_sem,↓reduceIte,Nat.reduceEqDiff,Nat.reduceAdd,Nat.reduceSub,Nat.reduceLeDiff,reduceCtorEq,a1,a2,a3]
 have eT:∀x:Id,(∃k r,σ.get x=some ⟨k,1,r⟩)->x≠T/\x≠O:=fun x hr=>by
  obtain⟨k,r,hr⟩:=hr
  constructor
  ·rintro rfl;rw[h2]at hr;injection hr with hr
   injection hr with _ hr _
   exact Ah hr
  ·rintro rfl;rw[ho]at hr;injection hr with hr
   injection hr with _ hr _
   exact Ah hr
 obtain⟨G,Z5⟩:∃G,G=bJ (bJ (bJ σ.get ⟨136000000,σ.next⟩ ⟨true,2,[[.int .i64 p.eV,.int .i64 p.eR]]⟩) T ⟨true,mP.j6,ts.map ad++[[.int .i64 p.eV,.int .i64 p.eR,.int .i64 t]]⟩) O ⟨true,mP.j6,(qm es p).map qn⟩:=⟨_,rfl⟩
 have hGT:G T=some ⟨true,mP.j6,ts.map ad++[[.int .i64 p.eV,.int .i64 p.eR,.int .i64 t]]⟩:=by rw[Z5];simp only[go_sem,↓reduceIte,Nat.reduceEqDiff,Nat.reduceAdd,Nat.reduceSub,Nat.reduceLeDiff,reduceCtorEq,TO]
 have hGO:G O=some ⟨true,mP.j6,(qm es p).map qn⟩:=by rw[Z5];simp only[go_sem,↓reduceIte,Nat.reduceEqDiff,Nat.reduceAdd,Nat.reduceSub,Nat.reduceLeDiff,reduceCtorEq]
 rw[<-Z5]at hG ⊢;clear Z5
 have hC:k9 G (σ.next+1+1+1+1) c T O s (ts++[⟨p,t⟩]):=
  ⟨(hG c h.o.cv h.o.cT h.o.cO).trans h1,by rw[hGT,List.map_append];rfl,⟨_,hGO,fun r hr=>by
   obtain⟨e,_,rfl⟩:=List.mem_map.1 hr
   exact⟨_,_,_,rfl⟩⟩,by have:=h.o.cv;omega,by have:=h.o.tv;omega,by have:=h.o.ov;omega,h.o.cT,h.o.cO,h.o.TO⟩
 have hE:yL G (σ.next+1+1+1+1) (qm es p) (iQ s (ts++[⟨p,t⟩])) (fun q=>¬∃k:Nat,k<4/\q=bI p k):=by
  have e1:yL G (σ.next+1+1+1+1) es (iQ s ts) (fun _=>True):=hw.frame ae fun x hx hr=>hG x hx (eT x hr).1 (eT x hr).2;refine⟨y5 _ e1.nodup,fun q hq=>?_⟩;have hqk:∀k:Nat,k<4->q≠bI p k:=fun k hk e=>hq ⟨k,hk,e⟩
  by_cases e:q=p
  ·subst e;exact .inl ⟨Kz h0 YR,CY e1.nodup⟩
  ·rw[Ky h0 e hqk]
   rcases e1.at_ q trivial with⟨a1,a2⟩|⟨a1,o',a2,a3⟩
   ·exact .inl ⟨a1,fun x hx=>a2 x (uF.subset hx)⟩
   ·exact .inr ⟨a1,o',(zG e).2 a2,a3⟩
 refine .inr (ax _ _ _ _ _ (fun r σ1 hq=>?_) (uZ (σ:=⟨G,σ.next+1+1+1+1⟩) hC.CX hC.cO hC.TO _ ⟨_,hGO,hE⟩ hS hF2 p hx hy));obtain⟨g1,x1⟩:=σ1;obtain⟨rfl,hL⟩:=hq;(try dsimp only at hL);have x7:=hC.Tj (σ:=⟨G,σ.next+1+1+1+1⟩) hL;have hn:=hL.1;have hf:=hL.2.1;obtain⟨es2,L9,hS2⟩:=hL.2.2;(try dsimp only at hn hf);apply hN;clear hN N;(try((repeat(revert N;apply g7));refine wk @g8 ?_;repeat(apply g6;intro N hN)))
 exact eH (.inr rfl) (vs:=[]) rfl ⟨rfl,⟨x7.frame aI fun _ _=>rfl,es2,L9,(hS2.frame aI fun x hx _=>rfl).mono fun q _=>by
  by_cases hq:∃k:Nat,k<4/\q=bI p k
  ·exact .inr hq
  ·exact .inl hq⟩,aI,fun x hxv hxT Ep=>(hf x ae Ep).trans (hG x hxv hxT Ep)⟩
end V

namespace V
open Go.RowKit Go.Shelf
attribute [local go_sem] Oper.semAt_some
section
variable {F:Fence} {n:Nat} {P:Program} {ops:Array Oper} {Q:Exit->Act->World->Prop} {rest:List Oper} {a:Act} {w:World} {o:Oper}
theorem Iz (hg:o.guard=none) (m:Operand) (t:TypeId) (fb:o.op=Op.range t m) {v:Value} {w':World} (gW:(Instr.range t (a.eval m)).run P w=.ok v w') (h:wpListIn F n P ops Q rest (a.put o.dst v) w'):wpListIn F n P ops Q (o::rest) a w:=by
 refine wpListIn_plain hg fun K' Z9=>?_;unfold Oper.wpIn;refine⟨by simp[Oper.about,fb],?_⟩;rw[Oper.semAt_plain F _ _ (by rw[fb];intro c l7;cases l7)];simp[execOp,fb,gW,Result.andThen];exact Z9 _ _ h
theorem LX (hg:o.guard=none) (it:Operand) (fb:o.op=Op.next it false) (rr b clock:Nat) (seen:Array Nat) (es:Array MapEntry) (Mf:a.eval it=.pointer (some ⟨rr,0,none⟩)) (hr:w.heap[rr]? =some (.mapIter (some b) clock seen clock)) (hb:w.heap[b]? =some (.map es clock)) (ez:IK es clock)
  (XZ:(leftOf es seen).toList=[]->wpListIn F n P ops Q rest (a.put o.dst (.tuple #[.bool false])) w)
  (X7:∀e∈(leftOf es seen).toList,∀w',w'.heap[rr]? =some (.mapIter (some b) clock (seen.push e.born) clock)->w'.heap[b]? =some (.map es clock)->w.grownBy w' (some rr)->w'.heap.size=w.heap.size->(Instr.entry (.pointer (some ⟨rr,0,none⟩))).run P w'=.ok (.tuple #[e.key,e.val]) w'->wpListIn F n P ops Q rest (a.put o.dst (.tuple #[.bool true,e.key,e.val])) w'):
  wpListIn F n P ops Q (o::rest) a w:=by
 refine wpListIn_plain hg fun K' Z9=>?_;unfold Oper.wpIn;refine⟨by simp[Oper.about,fb],?_⟩;rw[Oper.semAt_plain F _ _ (by rw[fb];intro c l7;cases l7)]
 rcases run_next_at (P:=P) w o.type rr b clock clock seen es clock hr hb ez.1 i4 with⟨h0,gW⟩|⟨e,he,w1,qX,gW⟩
 ·simp[execOp,fb,Mf,gW,Result.andThen];exact Z9 _ _ (XZ (List.eq_nil_of_length_eq_zero (by simpa using h0)))
 ·have KO:w1.heap[rr]? =some (.mapIter (some b) clock seen clock):=by rcases qX with rfl|rfl<;>exact hr
  have fV:=MapKept.heap_set (o':=.mapIter (some b) clock (seen.push e.born) clock) KO
  obtain⟨w2,AZ⟩:∃w2,ChangeMaps.setBlock w1 rr (.mapIter (some b) clock (seen.push e.born) clock)=w2:=⟨_,rfl⟩
  have ho:∀k,k≠rr->w2.heap[k]? =w.heap[k]? :=fun k hk=>by
   rw[<-AZ];refine(fV.2 k hk).trans ?_
   rcases qX with rfl|rfl<;>rfl
  have hz:w2.heap.size=w.heap.size:=by
   rw[<-AZ]
   rcases qX with rfl|rfl<;>simp[ChangeMaps.setBlock]
  have GM:w2.heap[rr]? =some (.mapIter (some b) clock (seen.push e.born) clock):=by rw[<-AZ];exact fV.1
  have x9:w2.os=w.os/\w2.tape=w.tape/\w2.output=w.output:=by
   rw[<-AZ]
   rcases qX with rfl|rfl<;>exact⟨rfl,rfl,rfl⟩
  have hbr:b≠rr:=fun e=>by subst e;rw[hr]at hb;cases hb
  have HG:w2.heap[b]? =some (.map es clock):=(ho b hbr).trans hb;have SV:=run_entry_at (P:=P) w2 rr b clock seen es clock e GM HG (mem_left he).1 ez.2;rw[AZ]at gW;simp[execOp,fb,Mf,gW,Result.andThen];exact Z9 _ _ (X7 e he w2 GM HG ⟨x9.1,x9.2.1,x9.2.2,ae,fun k _ hk=>ho k fun e=>hk (by rw[e])⟩ hz SV)
end
def uG (p:af):Value:=.agg #[.int .i64 p.eV,.int .i64 p.eR]
def HY (es:Array MapEntry) (rr:Nat) (w:World):Nat:=match w.heap[rr]? with
 |some (.mapIter _ _ seen _)=>(leftOf es seen).size
 |_=>0
theorem B6 {es:Array MapEntry} {rr b clock:Nat} {seen:Array Nat} {w:World} (h:w.heap[rr]? =some (.mapIter (some b) clock seen clock)):HY es rr w=(leftOf es seen).size:=by unfold HY;rw[h]
theorem Lk {es:Array MapEntry} {clock:Nat} {seen:Array Nat} {e:MapEntry} (hs:IK es clock) (he:e∈(leftOf es seen).toList):((e.key::(leftOf es (seen.push e.born)).toList.map (·.key)).Perm ((leftOf es seen).toList.map (·.key)))/\(leftOf es (seen.push e.born)).size+1=(leftOf es seen).size:=by
 obtain⟨i,hi,Jf⟩:=List.getElem_of_mem he;have h2:=zD hs (i:=i) (e:=e) (seen:=seen) (by rw[i5 hi,Jf]);have hp:=tZ (l:=(leftOf es seen).toList) (i:=i) (x:=e) (by rw[i5 hi,Jf]);rw[h2];refine⟨by simpa using hp.map fun e:MapEntry=>e.key,?_⟩;have h3:=congrArg List.length h2;have h4:=hp.length_eq;simp only[Array.length_toList,List.length_cons]at h3 h4;rw[<-h3]at h4;exact h4
theorem Kw {a b:List af} (h:(a.map uG).Perm (b.map uG)):a.Perm b:=by
 have h2:=h.map (fun v:Value=>match v with| .agg ⟨[.int _ x,.int _ y]⟩=>(⟨x,y⟩:af)|_=>⟨0,0⟩)
 simpa[List.map_map,Function.comp_def,uG]using h2
theorem N4 (q Bm b:Nat) (es:Array MapEntry) (clock:Nat) (ez:IK es clock) (ks:List af) (hk:es.toList.map (·.key)=ks.map uG) (J Jx:List af->World->Prop) (n:Nat) (hn:1<=n)
  (hY:∀pre x W,J pre W->pre.length<ks.length->YieldAt Fence.wide (n-1) Tryz.prog q #[uG x] W fun e W'=>
   (e=.returned (.bool true)/\J (pre++[x]) W'/\KeepsWalks W W')∨(e=.returned (.bool false)/\Jx (pre++[x]) W'))
  (W:World) (hJ:AbidesFrom W.heap.size J) (hm:W.cell? ⟨Bm,0,none⟩=some (.map (some b))) (hb:W.heap[b]? =some (.map es clock)) (h0:J [] W):
  CallsIn Fence.wide n Tryz.prog 177 #[.func (.yield q) #[] #[],.pointer (some ⟨Bm,0,none⟩)] W fun e W'=>(∃v,e=.returned v)/\
   ((∃ss:List af,ss.Perm ks/\J ss W')∨(∃pre,Jx pre W')):=by
 refine callsIn_of_wp Tryz.func177 rfl trivial ?_ rfl;simp only[Tryz.ntmps177,List.size_toArray,List.length_cons,List.length_nil,Nat.reduceAdd,Nat.reduceSub,Array.replicate_succ,Array.replicate_zero,List.push_toArray,List.append_toArray,List.nil_append,List.cons_append];have hrg:=fun(wx:World) (h:wx.heap[b]? =some (.map es clock))=>run_range_map (P:=Tryz.prog) wx 125 _ _ b es clock Tryz.underlying125 h
 gi_wp2_with (first
  |(refine Iz rfl _ _ rfl (hrg _ hb) ?_)
  |gi_in)
 have iy:b<W.heap.size:=(Array.getElem?_eq_some_iff.1 hb).1;have hJ1:J [] (W.alloc (.mapIter (some b) clock #[] clock)):=hJ _ _ _ none h0 (grown_of ((Below.refl _ W).alloc i4 _)) (fun r h=>by cases h);have KO:(W.alloc (.mapIter (some b) clock #[] clock)).heap[W.heap.size]? =some (.mapIter (some b) clock #[] clock):=World.alloc_heap_new _ _;have UK:(W.alloc (.mapIter (some b) clock #[] clock)).heap[b]? =some (.map es clock):=(Below.heap_alloc _ _ _ iy).trans hb
 go_frame
 gi_loopw [3] (fun _ wr=>∃(seen:Array Nat) (ss:List af),wr.heap[W.heap.size]? =some (.mapIter (some b) clock seen clock)/\wr.heap[b]? =some (.map es clock)/\(ss.map uG++(leftOf es seen).toList.map (·.key)).Perm (ks.map uG)/\J ss wr)
  (fun _ wr=>HY es W.heap.size wr)
 case atStart=>
  exact⟨#[],[],KO,UK,by rw[<-hk,show(leftOf es #[]).toList=es.toList by simp[leftOf]];exact List.Perm.refl _,hJ1⟩
 case round=>
  obtain⟨seen,ss,hr,hbr,hp,X3⟩:=hrel
  gi_wp2_with (first
   |(refine LX rfl _ rfl W.heap.size b clock seen es rfl hr hbr ez ?_ ?_)
   |gi_in)
  ·intro wM
   gi_wp2
   go_end0
   rw[wM]at hp;exact⟨⟨_,rfl⟩,.inl ⟨ss,Kw (by simpa using hp),X3⟩⟩
  ·intro e he0 w2 GM HG hg2 qt SV;have he:e∈(leftOf es seen).toList:=by simpa using he0
   obtain⟨Di,eG⟩:=Lk ez he
   obtain⟨x,hx⟩:∃x,e.key=uG x:=by
    have h1:e.key∈es.toList.map (·.key):=List.mem_map_of_mem (mem_left he).1;rw[hk]at h1;obtain⟨x,_,hx⟩:=List.mem_map.1 h1;exact⟨x,hx.symm⟩
   have hJ2:J ss w2:=hJ ss wr w2 (some W.heap.size) X3 hg2 (fun r e=>by cases e;exact⟨Nat.le_refl _,_,hr,rfl⟩)
   have hlen:ss.length<ks.length:=by
    have h1:=hp.length_eq;have h2:0<(leftOf es seen).toList.length:=List.length_pos_of_mem he;simp only[i6,List.length_map]at h1;omega
   obtain⟨fn,tmps,assign,body,hy,hR⟩:=hY ss x (w2.alloc (.cells #[.int .i64 x.eV,.int .i64 x.eR] 41)) (hJ _ _ _ none hJ2 (grown_of ((Below.refl _ w2).alloc i4 _)) (fun r h=>by cases h)) hlen;rw[hx]at SV ⊢;simp only[uG]at SV hy ⊢
   gi_wp2
   refine hR.mono ?_;rintro e3 W3 (⟨rfl,hJ3,AS⟩|⟨rfl,hJx3⟩)
   ·gi_wp2
    have SN:=KeepsWalks.alloc w2 (.cells #[.int .i64 x.eV,.int .i64 x.eR] 41);have hr3:=AS.same _ _ (SN.same _ _ GM rfl) rfl;have hb3:=AS.same _ _ (SN.same _ _ HG rfl) rfl
    go_roundw
    case rel=>
     refine⟨_,ss++[x],hr3,hb3,?_,hJ3⟩;rw[List.map_append,List.append_assoc];refine List.Perm.trans ?_ hp;rw[hx]at Di;exact Di.append_left _
    case measure=>rw[B6 hr3,B6 hr];omega
   ·gi_wp2
    refine bodyPost_ret (results_none rfl _ _ _) rfl ?_;exact⟨⟨_,rfl⟩,.inr ⟨_,hJx3⟩⟩
theorem HR (Bm b:Nat) (es:Array MapEntry) (clock:Nat) (ez:IK es clock) (ks:List af) (hk:es.toList.map (·.key)=ks.map uG) (n:Nat) (hn:1<=n) (w:World) (hBm:Bm<w.heap.size) (hm:w.cell? ⟨Bm,0,none⟩=some (.map (some b))) (hb:w.heap[b]? =some (.map es clock)):
  SeqStopsK Fence.wide n Tryz.prog 177 #[.pointer (some ⟨Bm,0,none⟩)] (fun x:af=> #[uG x]) KeepsWalks (fun ss=>ss.Perm ks) (fun _=>True) ks.length w:=fun q J Jx W hW hJ _ hY h0=>by
 refine(N4 q Bm b es clock ez ks hk J Jx n hn hY W hJ ((hW.cell (p:=⟨Bm,0,none⟩) hBm).trans hm) ((hW.block b (Array.getElem?_eq_some_iff.1 hb).1).trans hb) h0).mono ?_;rintro e W' ⟨h1,⟨ss,h2,h3⟩|⟨pre,h3⟩⟩
 ·exact⟨h1,.inl ⟨ss,h2,h3⟩⟩
 ·exact⟨h1,.inr ⟨pre,trivial,h3⟩⟩
def To (ps:List af):List Value:=ps.flatMap fun p=>[.int .i64 p.eV,.int .i64 p.eR]
theorem OK (ps:List af) (p:af):To (ps++[p])=To ps++[.int .i64 p.eV,.int .i64 p.eR]:=by simp[To]
theorem RH {ps:List af} {i j:Nat} {p:af} (h:ps[i]? =some p) (hj:j<2):(To ps)[i*2+j]? =([.int .i64 p.eV,.int .i64 p.eR]:List Value)[j]? :=by
 induction ps generalizing i with
 |nil=>simp at h
 |cons q r ih=>
  cases i with
  |zero=>
   simp at h;subst h
   match j,hj with
   |0,_=>rfl
   |1,_=>rfl
  |succ i=>
   simp only[List.getElem?_cons_succ]at h;have:=ih h;have e:(i+1)*2+j=i*2+j+2:=ae;rw[e]
   simpa[To]using this
theorem cell_two_new (W:World) (T:TypeId) (x y:Value):∀(j:Nat) (u:Value),[x,y][j]? =some u->(W.alloc (.cells #[x,y] T)).cell? ((⟨W.heap.size,0,none⟩:Addr).add j)=some u:=fun j u h=>by
 have hb:(W.alloc (.cells #[x,y] T)).heap[W.heap.size]? =some (.cells #[x,y] T (0,0)):=World.alloc_heap_new _ _
 have e:∀k,(W.alloc (.cells #[x,y] T)).cell? ⟨W.heap.size,k,none⟩=(#[x,y]:Array Value)[k]? :=fun k=>by
  unfold World.cell?;rw[show(W.alloc (.cells #[x,y] T)).heap[(⟨W.heap.size,k,none⟩:Addr).block]? = _ from hb]
  rfl
 rw[show(⟨W.heap.size,0,none⟩:Addr).add j=⟨W.heap.size,j,none⟩ by simp[Addr.add];exact fun h=>h.symm,e]
 simpa using h
theorem Vf:(Tryz.prog.info? 41).map (fun i=>(i.zero,i.size,i.bytes))=some (some (.agg #[.int .i64 0,.int .i64 0]),2,16):=by kernel_rfl
theorem KJ {β:Type} (B:Nat) (c:Array Value) (t:TypeId) (fr:Nat×Nat):Own (fun(_:β) W=>W.heap[B]? =some (.cells c t fr)):=fun _ X _ row h hg hr=>(hg.block B (Array.getElem?_eq_some_iff.1 h).1 (fun e=>by
 obtain⟨o,ho,hc⟩:=hr B e.symm
 rw[h]at ho;cases ho;cases hc)).trans h
theorem CD (Bm b:Nat) (es:Array MapEntry) (clock:Nat) (ez:IK es clock) (ks:List af) (hk:es.toList.map (·.key)=ks.map uG) (hl:ks.length<=1000000) (w:World) (hBm:Bm<w.heap.size) (hm:w.cell? ⟨Bm,0,none⟩=some (.map (some b))) (hb:w.heap[b]? =some (.map es clock)):
  CallsIn Fence.wide 5 Tryz.prog 206 #[.slice none 0 0,.func (.func 177) #[] #[.pointer (some ⟨Bm,0,none⟩)]] w fun e W'=>∃(ss:List af) (v:Value),ss.Perm ks/\e=.returned v/\W'.ownsRow w.heap.size 41 2 v ss.length (To ss)/\(v=.slice none 0 0↔ss=[])/\Below w.heap.size w W':=by
 obtain⟨i0,hi,Ml,wq,qt⟩:=info_parts Vf;refine callsIn_of_wp_marks Tryz.func206 rfl trivial ?_ rfl;simp only[Tryz.ntmps206,List.size_toArray,List.length_cons,List.length_nil,Nat.reduceAdd,Nat.reduceSub,Array.replicate_succ,Array.replicate_zero,List.push_toArray,List.append_toArray,List.nil_append,List.cons_append]
 gi_wp2
 have bO:=Boxed.new w 46 (.slice none 0 0);have Fe:Below w.heap.size w (w.alloc (.cells #[.slice none 0 0] 46)):=(Below.refl _ w).alloc i4 _;have eT:(w.alloc (.cells #[.slice none 0 0] 46)).heap.size=w.heap.size+1:=by simp
 obtain⟨W0,X9⟩:∃W0,w.alloc (.cells #[.slice none 0 0] 46)=W0:=⟨_,rfl⟩
 rw[X9]at bO Fe eT ⊢;clear X9;have UZ:W0.cell? ⟨Bm,0,none⟩=some (.map (some b)):=(Fe.cell (p:=⟨Bm,0,none⟩) hBm).trans hm;have HF:=(Fe.block b (Array.getElem?_eq_some_iff.1 hb).1).trans hb
 refine wpIn_rangeFunc_ownH (n:=5) rfl ae (gf:=177) (lb:= #[.pointer (some ⟨Bm,0,none⟩)]) rfl trivial (enters_of Tryz.func177 g9 rfl)
  (HR Bm b es clock ez ks hk (5-1) ae W0 ae UZ HF) walksK_t (walksK_b (w:=W0)) (Below.refl _ _) (fun _=>rfl)
  (fun pre W=>(∃v,Boxed W w.heap.size 46 v/\W.ownsRow w.heap.size 41 2 v pre.length (To pre)/\(v=.slice none 0 0↔pre=[]))/\Below w.heap.size w W)
  (fun _ _ _=>False)
  (OwnFrom.and (Own.from (holdsRow_own w.heap.size w.heap.size 46 41 2 (fun pre=>pre.length) (fun pre=>To pre) (fun pre v=>v=.slice none 0 0↔pre=[])) _) (ownFrom_below i4 ae))
  (fun _ _ _ _ _ hs _ _=>hs)
  ⟨⟨_,bO,World.ownsRow_nil _ _ _ _,by simp⟩,Fe⟩
  (fun x a' W=>∃Bx,w.heap.size<Bx/\W.heap[Bx]? =some (.cells #[.int .i64 x.eV,.int .i64 x.eR] 41 (0,0))/\a'={tmps:= #[.slice none 0 0,.func (.func 177) #[] #[.pointer (some ⟨Bm,0,none⟩)],.pointer (some ⟨w.heap.size,0,none⟩),undef,.slice none 0 0,.pointer (some ⟨Bx,0,none⟩),.func (.func 177) #[] #[.pointer (some ⟨Bm,0,none⟩)],.agg #[.int .i64 x.eV,.int .i64 x.eR],undef,undef,undef,undef,undef],defers:=[]})
  (fun x a' _ X Y row hs hg hr=>by obtain⟨Bx,h1,h2,h3⟩:=hs;exact⟨Bx,h1,KJ Bx _ _ _ () X Y row h2 hg (fun r e=>(hr r e).2),h3⟩)
  ?assign ?body ?done ?stop
 case assign=>
  rintro q pre x W K ⟨⟨v,hv,eP,pr⟩,hB⟩ hK;simp only[uG]
  gi_wp2
  exact hK _ _ ((KeepsOthers.alloc _ _).from _) (KeepsWalks.alloc _ _) ⟨⟨v,hv.alloc _,eP.alloc _,pr⟩,hB.alloc hB.size _⟩ ⟨W.heap.size,hv.lt,World.alloc_heap_new _ _,rfl⟩
 case body=>
  rintro q pre x a' W hq hqr ⟨⟨v,hv,eP,pr⟩,hB⟩ ⟨Bx,hBx,bX,rfl⟩ eG;have hc:=hv.cell;have cX0:W.cell? ⟨Bx,0,none⟩=some (.int .i64 x.eV):=by simp[World.cell?,bX]
  have cX1:W.cell? ⟨Bx,1,none⟩=some (.int .i64 x.eR):=by simp[World.cell?,bX]
  have QY:=hB.size
  gi_wp2_with (gi_at_builtin;refine wpListIn_append_own _ rfl _ _ 46 rfl w.heap.size 41 i0 (.agg #[.int .i64 0,.int .i64 0]) 2 16 g9 hi Ml wq qt rfl (by decide) _ _ _ rfl (eP.alloc _) ⟨W.heap.size,0,none⟩ 1 1 [.int .i64 x.eV,.int .i64 x.eR] rfl rfl (cell_two_new _ _ _ _) (by simp[Value.oneCell']) (by unfold maxLen;omega) ae (by simp;omega) ?_;intro v' w4 Fu BJ _;obtain⟨g',cap',rfl⟩:=ownsRow_succ Fu;obtain⟨tG,Q4,GM,qU,HG⟩:=hv.appended (by decide) eP QY ae Fu BJ;have uh:=tG.cell;have hf1:=tG.frozen)
  exact⟨qU.from _,⟨qU.size,fun k o hk hw=>qU.same k o hk (Obj.not_cells_of_walk hw)⟩,⟨⟨_,Q4,by rw[OK,i6];exact GM,by simp⟩,hB.trans HG⟩⟩
 case done=>
  rintro D ys W hD GP ⟨⟨v,hv,eP,pr⟩,hB⟩ hK;have hc:=hv.cell
  gi_wp2
  refine⟨by simp,.inl ⟨_,_,rfl,run_takeDeferred hK,?_⟩⟩;exact⟨_,results_tmp rfl _ _ _,ys,v,GP,rfl,ownsRow_putObj eP _ hK rfl,pr,hB.trans (belowK_b (w:=w) i4 W D _ _ ae hK rfl rfl)⟩
 case stop=>
  rintro D c pre W _ _ h _;exact h.elim
end V

namespace V
open Go.RowKit
theorem Vz {P:Program} {w:World} {D:Nat->Prop} {ι:Names} {x y:Int} {v:Value} (h:dX P w D ι (.agg [.int .i64 x,.int .i64 y]) v):v=.agg #[.int .i64 x,.int .i64 y]:=by
 obtain⟨vs,f,rfl,eT,_,h1,h2⟩:=jQ h;have v0:=h1 0 (by simp);have v1:=h1 1 (by simp);rw[eh (h2 0 _ rfl)]at v0;rw[eh (h2 1 _ rfl)]at v1;obtain⟨vl⟩:=vs
 match vl,eT with
 |[a,b],_=>
  simp at v0 v1
  rw[v0,v1]
theorem EC {σ:aw} {X O:Id} {b1 b2:Bool} {es:List En} (hX:σ.get X=some ⟨b1,1,[[.map O mP]]⟩) (hO:σ.get O=some ⟨b2,mP.j6,es.map qn⟩) (hl:es.length<=1000000):
  Call Tryz.prog 206 [.ck,.fn 177 [.ptr X 0 0]] σ (fun r σ'=>σ.next<=σ'.next/\(∀x:Id,x.bH<σ.next->σ'.get x=σ.get x)/\∃ss:List af,ss.Perm (es.map (·.1))/\((ss=[]/\r=.ck)∨∃o:Id,r=.own o 0 ss.length/\σ'.get o=some ⟨true,2,ss.map ab⟩/\σ.next<=o.bH/\o.bH<σ'.next/\ss≠[])):=by
 refine fW fun hs D ι w vs S U A=>?_;obtain⟨u1,us1,rfl,h1,h2⟩:=kz A;obtain⟨u2,us2,h3,h4,h5⟩:=kz h2
 simp at h3;subst h3
 have:=vF h5
 simp at this;subst this
 obtain rfl:=j8 h1;obtain⟨vc,gf,rfl,_,A5,Ei,hrc⟩:=w7 h4;obtain⟨BX,hp,Uu,hkX⟩:=jG (hrc 0 _ rfl)
 have YU:vc= #[.pointer (some ⟨BX.b,0,none⟩)]:=by
  obtain⟨l⟩:=vc;have q0:=Ei 0 (by simp)
  match l,A5 with
  |[a],_=>simp at q0;rw[q0,hp];simp
 subst YU;obtain⟨BX',QH,RX,_,_⟩:=S.row X _ hX;rw[Uu]at QH;injection QH with QH;subst QH
 obtain⟨vm,KR,hrm⟩:=(RX.row hkX).at_ 0 0 _ _ rfl rfl;obtain⟨BO,rfl,hBO,hkO⟩:=DO hrm;obtain⟨BO',QG,RO,_,_⟩:=S.row O _ hO;rw[hBO]at QG;injection QG with QG;subst QG
 obtain⟨_,C0,clock,hblk,eT,⟨_,Fz⟩,hM⟩:=RO.map mP hkO
 have hk:C0.toList.map (·.key)=(es.map (·.1)).map uG:=by
  have iA:C0.toList.length=es.length:=by simpa using eT
  refine List.ext_getElem (by simpa using iA) fun i h1 h2=>?_;have hi:i<es.length:=by simpa using h2
  obtain⟨e,kv,vv,q1,q2,_,q4,_⟩:=hM i (qn es[i]) (by simp[hi])
  have e1:kv=.agg [.int .i64 es[i].1.eV,.int .i64 es[i].1.eR]:=by
   simp[part,MK.ks,qn]at q2;exact q2.symm
  subst e1;have e2:=Vz q4;simp only[List.getElem_map]
  have e3:C0.toList[i]'ae=e:=by
   have:=Array.getElem?_eq_some_iff.1 q1;obtain⟨_,h⟩:=this
   simpa using h
  rw[e3,e2];rfl
 have eG:∀b,D b->b<w.heap.size:=S.dead;have hbx:BX.b<w.heap.size:=RX.lt;have Ye:w.cell? ⟨BX.b,0,none⟩=some (.map (some BO.b)):=by simpa using KR
 refine(callsIn_wide.1 (CD BX.b BO.b C0 clock Fz (es.map (·.1)) hk (by simpa using hl) w hbx Ye hblk)).mono ?_;rintro e W' ⟨ss,v,s5,rfl,⟨hle',hown⟩,pr,hB⟩;have S':iE Tryz.prog hs D ι σ.get W':=S.stay (fun b hb=>hB.block b hb) hB.size (fun _ h=>h) (fun b hb=>Nat.lt_of_lt_of_le (eG b hb) hB.size) (fun _ h=>.inl h) (fun _ _ h=>h);have T:Step hs D ι w D ι W':=Step.stay S (fun b hb=>hB.block b hb) hB.size hB.os hB.tape hB.output (fun _ h=>h) (fun _ h=>.inl h) (fun _ _ h=>h)
 rcases hown with⟨rfl,h0⟩|⟨gb,cap,cur,rfl,hgb,hblk2,hle,Fh,eD,lh⟩
 ·have HF:ss=[]:=pr.1 rfl;exact⟨.ck,_,σ.next,D,ι,_,rfl,⟨Nat.le_refl _,fun _ _=>rfl,ss,s5,.inl ⟨HF,rfl⟩⟩,T,S',U,Nat.le_refl _,.fw _ _ .ck⟩
 ·have HF:ss≠[]:=fun h=>by have:=pr.2 h;cases this
  have gQ:ι ⟨0,σ.next⟩=none:=fresh U (fun h=>h)
  have hR:jl Tryz.prog W' D (lT ι ⟨0,σ.next⟩ ⟨gb,2,cap*2,none⟩) ⟨gb,2,cap*2,none⟩ ⟨true,2,ss.map ab⟩:=by
   refine mi.obj ⟨rfl,⟨cur,_,hblk2,eD⟩,?_,fun cs hc=>?_,fun cs hc a ha=>?_,fun i j cs a hi hj=>?_⟩ rfl
   ·simp only[List.length_map];exact Nat.mul_le_mul_right 2 hle
   ·obtain⟨b,_,rfl⟩:=List.mem_map.1 hc;rfl
   ·obtain⟨b,_,rfl⟩:=List.mem_map.1 hc;simp[ab]at ha
    rcases ha with rfl|rfl<;>rfl
   ·rw[List.getElem?_map]at hi;simp only[i7]at hi;obtain⟨b,hb,rfl⟩:=hi;have hj3:j<2:=by have:=(List.getElem?_eq_some_iff.1 hj).1;simpa[ab]using this
    have sO:=(List.getElem?_eq_some_iff.1 hb).1;have hg:=RH hb hj3;rw[<-lh,List.getElem?_take,if_pos ae]at hg
    have key:∀x:Value,([.int .i64 b.eV,.int .i64 b.eR]:List Value)[j]? =some x->W'.cell? ⟨gb,i*2+j,none⟩=some x:=fun x hx=>by
     rw[hx]at hg
     have e:W'.cell? ⟨gb,i*2+j,none⟩=cur[i*2+j]? :=by
      unfold World.cell?;rw[show W'.heap[(⟨gb,i*2+j,none⟩:Addr).block]? = _ from hblk2]
      rfl
     rw[e,<-Array.getElem?_toList];exact hg
    match j,hj with
    |0,hj=>simp[ab]at hj;subst hj;exact⟨_,key _ rfl,.fw _ _ (.int _ _)⟩
    |1,hj=>simp[ab]at hj;subst hj;exact⟨_,key _ rfl,.fw _ _ (.int _ _)⟩
    |j+2,hj=>simp[ab]at hj
  have S2:=iE.add (r:=⟨true,2,ss.map ab⟩) S S' gQ hgb hR;refine⟨.own ⟨0,σ.next⟩ 0 ss.length,bJ σ.get ⟨0,σ.next⟩ ⟨true,2,ss.map ab⟩,σ.next+1,D,lT ι ⟨0,σ.next⟩ ⟨gb,2,cap*2,none⟩,_,rfl,⟨Nat.le_succ _,fun x hx=>?_,ss,s5,.inr ⟨_,rfl,by simp[bJ],Nat.le_refl _,Nat.lt_succ_self _,HF⟩⟩,T.trans (Step.stay S' (fun _ _=>rfl) i4 rfl rfl rfl (fun _ h=>h) (fun _ h=>.inl h) (gq gQ)),S2,U.upd.next,Nat.le_succ _,.own _ _ _ _ _ _ (fa _ _ _) rfl hle (.inr (by simp)) (by simp) Fh⟩;have:¬x=⟨0,σ.next⟩:=fun e=>by subst e;simp at hx
  simp[bJ,this]
end V

namespace V
open Go.RowKit
attribute [local irreducible] dY wpOps fm Call
theorem rj {α:Type} [DecidableEq α]:∀{xs ys:List α},xs.Nodup->(∀x∈xs,x∈ys)->xs.length=ys.length->xs.Perm ys
 |[],ys,_,_,h=>by
  have:ys=[]:=List.eq_nil_of_length_eq_zero h.symm;subst this;exact List.Perm.nil
 |x::xs,ys,hn,hs,h=>by
  obtain⟨h1,h2⟩:=List.nodup_cons.1 hn;have hx:=hs x (by simp);have hl:=List.length_erase_of_mem hx;have:=@rj α _ xs (ys.erase x) h2 (fun y hy=>(List.mem_erase_of_ne fun e=>h1 (by rw[<-e];exact hy)).2 (hs y (by simp[hy]))) (by rw[hl];simp only[List.length_cons]at h;omega);exact(this.cons x).trans (List.perm_cons_erase hx).symm
theorem pI {L:List af} (h:js L):L.Nodup:=List.Pairwise.imp (fun {a b} AP e=>by rw[e,gJ]at AP;cases AP) h
theorem RW {L qs:List af} (hR:js L) (hp:qs.Perm L) (hs:∀i j:Nat,i<j->j<qs.length->jm (fI qs j) (fI qs i)=false):qs=L:=by
 have hd:qs.Nodup:=hp.nodup_iff.2 (pI hR)
 have hq:js qs:=by
  unfold js;unfold List.Nodup at hd;rw[List.pairwise_iff_getElem]at hd ⊢;intro i j hi hj uj;have h1:=hs i j uj hj;rw[gp hj,gp hi]at h1;exact sa h1 fun e=>hd i j hi hj uj e.symm
 exact yD hq hR fun x=>hp.mem_iff
theorem LG (σ:aw):Call Tryz.prog 156 [.ck,.fn 141 []] σ fun r σ'=>r=.gG []/\σ'.next=σ.next/\σ'.get=σ.get:=by
 refine fW fun hs D ι w vs S U A=>?_;obtain⟨u1,us1,rfl,h1,h2⟩:=kz A;obtain⟨u2,us2,h3,h4,h5⟩:=kz h2
 simp at h3;subst h3
 have:=vF h5
 simp at this;subst this
 obtain rfl:=j8 h1;refine(O2 _ _ _ w).mono ?_;rintro e w' ⟨rfl,rfl⟩;exact⟨.gG [],σ.get,σ.next,D,ι,_,rfl,⟨rfl,rfl,rfl⟩,Step.refl _ _ _ _,S,U,Nat.le_refl _,.gG [] #[] (fun _=>Go.undef) rfl (fun j hj=>by simp at hj) (fun j a h=>by simp at h)⟩
theorem N5 (O:Id) (σ:aw):Call Tryz.prog 164 [.map O mP] σ (fun r σ'=>r=.fn 177 [.ptr ⟨164000000,σ.next⟩ 0 0]/\σ'.get ⟨164000000,σ.next⟩=some ⟨true,1,[[.map O mP]]⟩/\σ.next<σ'.next/\∀x:Id,x.bH<σ.next->σ'.get x=σ.get x):=by
 refine fG fx rfl fun hl=>?_;clear hl;(try((repeat(revert N;apply g7));refine wk @g8 ?_;repeat(apply g6;intro N hN)))
 exact eH (.inl rfl) (vs:=[.fn 177 [.ptr ⟨164000000,σ.next⟩ 0 0]]) (sd @g8) ⟨rfl,sd @g8,aI,fun x hx=>by
  have:=cR hx
  simp only[go_sem,↓reduceIte,Nat.reduceEqDiff,Nat.reduceAdd,Nat.reduceSub,Nat.reduceLeDiff,reduceCtorEq,this]⟩
theorem Kj {σ:aw} {X O:Id} {b1 b2:Bool} {es:List En} (hX:σ.get X=some ⟨b1,1,[[.map O mP]]⟩) (hO:σ.get O=some ⟨b2,mP.j6,es.map qn⟩) (hl:es.length<=1000000) (hXv:X.bH<σ.next) (HE:O.bH<σ.next):
  Call Tryz.prog 176 [.fn 177 [.ptr X 0 0]] σ (fun r σ'=>σ.next<=σ'.next/\(∀x:Id,x.bH<σ.next->σ'.get x=σ.get x)/\∃ss:List af,ss.Perm (es.map (·.1))/\((ss=[]/\r=.ck)∨∃o:Id,r=.own o 0 ss.length/\σ'.get o=some ⟨true,2,ss.map ab⟩/\σ.next<=o.bH/\o.bH<σ'.next/\ss≠[])):=by
 refine fG fx rfl fun fM=>?_;clear fM;(try((repeat(revert N;apply g7));refine wk @g8 ?_;repeat(apply g6;intro N hN)));refine .inr (ax _ _ _ _ _ (fun r σ1 hq=>?_) (EC (σ:=⟨σ.get,_⟩) hX hO hl));obtain⟨g1,x1⟩:=σ1;obtain⟨q1,q2,ss,q3,q4⟩:=hq;(try dsimp only at q1 q2 q4);apply hN;clear hN N;(try((repeat(revert N;apply g7));refine wk @g8 ?_;repeat(apply g6;intro N hN)))
 exact eH (.inl rfl) (vs:=[r]) (sd @g8) ⟨aI,fun x hx=>q2 x ae,ss,q3,by
  rcases q4 with h|⟨o,h1,h2,h3,h4,h5⟩
  ·exact .inl h
  ·exact .inr ⟨o,h1,h2,ae,aI,h5⟩⟩
theorem O5 {σ:aw} {X O:Id} {b1 b2:Bool} {es:List En} (hX:σ.get X=some ⟨b1,1,[[.map O mP]]⟩) (hO:σ.get O=some ⟨b2,mP.j6,es.map qn⟩) (hl:es.length<=1000000) (hXv:X.bH<σ.next) (HE:O.bH<σ.next) (L:List af) (hR:js L) (hn:(es.map (·.1)).Nodup) (hm:∀x,x∈L↔x∈es.map (·.1)):
  Call Tryz.prog 163 [.fn 177 [.ptr X 0 0],.fn 141 []] σ (fun r σ'=>σ.next<=σ'.next/\(∀x:Id,x.bH<σ.next->σ'.get x=σ.get x)/\((L=[]/\r=.ck)∨∃o:Id,r=.own o 0 L.length/\σ'.get o=some ⟨true,2,L.map ab⟩/\σ.next<=o.bH/\o.bH<σ'.next/\L≠[])):=by
 refine fG fx rfl fun fM=>?_;clear fM;(try((repeat(revert N;apply g7));refine wk @g8 ?_;repeat(apply g6;intro N hN)));refine .inr (ax _ _ _ _ _ (fun r σ1 hq=>?_) (Kj (σ:=⟨σ.get,_⟩) hX hO hl aI aI));obtain⟨g1,x1⟩:=σ1;obtain⟨q1,q2,ss,q3,q4⟩:=hq;(try dsimp only at q1 q2 q4);have uk:ss.Nodup:=q3.nodup_iff.2 hn;have sP:∀x,x∈L↔x∈ss:=fun x=>(hm x).trans q3.mem_iff.symm;apply hN;clear hN N
 rcases q4 with⟨hs,rfl⟩|⟨o,rfl,q5,q6,q7,q8⟩
 ·have hL:L=[]:=List.eq_nil_iff_forall_not_mem.2 fun x hx=>by have:=(sP x).1 hx;rw[hs]at this;cases this
  (try((repeat(revert N;apply g7));refine wk @g8 ?_;repeat(apply g6;intro N hN)));refine .inr (ax _ _ _ _ _ (fun r σ2 hq=>?_) (LG ⟨g1,_⟩));obtain⟨g2,x2⟩:=σ2;obtain⟨rfl,u1,u2⟩:=hq;(try dsimp only at u1 u2);apply hN;clear hN N;(try((repeat(revert N;apply g7));refine wk @g8 ?_;repeat(apply g6;intro N hN)));exact eH (.inl rfl) (vs:=[.ck]) (sd @g8) ⟨aI,fun x hx=>(congrFun u2 x).trans (q2 x ae),.inl ⟨hL,rfl⟩⟩
 ·have nI:ss.length<=1048576:=by rw[q3.length_eq,List.length_map];omega
  (try((repeat(revert N;apply g7));refine wk @g8 ?_;repeat(apply g6;intro N hN)));refine .inr (ax _ _ _ _ _ (fun r σ2 hq=>?_) (Cp Tu O2 ss nI ⟨g1,_⟩ o q5));obtain⟨g2,x2⟩:=σ2;obtain⟨u1,u2,qs,u3,u4,u5,u6⟩:=hq;(try dsimp only at u1 u2 u3)
  have U6:qs=L:=RW hR ((rj (pI hR) (fun x hx=>(u5 x).2 ((sP x).1 hx)) (by
   rw[u4]
   exact(rj (pI hR) (fun x hx=>(sP x).1 hx) (Nat.le_antisymm (sj (pI hR) fun x hx=>(sP x).1 hx) (sj uk fun x hx=>(sP x).2 hx))).length_eq)).symm) u6
  rw[U6]at u3 u4;have PT:L≠[]:=fun e=>by rw[e]at u4;exact q8 (List.eq_nil_of_length_eq_zero u4.symm)
  apply hN;clear hN N;(try((repeat(revert N;apply g7));refine wk @g8 ?_;repeat(apply g6;intro N hN)))
  exact eH (.inl rfl) (vs:=[.own o 0 ss.length]) (sd @g8) ⟨aI,fun x hx=>by
   have h1:x≠o:=fun e=>by rw[e]at hx;omega
   exact(u2 x h1).trans (q2 x ae),.inr ⟨o,by rw[u4];rfl,u3,ae,aI,PT⟩⟩
def IG (z m:Nat) (L:List aa) (v:AV) (g:Rows) (n:Nat):Prop:=(L=[]/\v=.ck)∨∃u:Id,v=.own u 0 L.length/\g u=some ⟨true,3,L.map ad⟩/\m<=u.bH/\u.bH<n/\0<L.length/\u.site=z
theorem IG.frame {z m:Nat} {L:List aa} {v v':AV} {g g':Rows} {n n':Nat} (h:IG z m L v g n) (he:v'=v) (hn:n<=n') (hf:∀x:Id,x.bH<n->g' x=g x):IG z m L v' g' n':=by
 subst he
 rcases h with h|⟨u,h1,h2,h3,h4,h5⟩
 ·exact .inl h
 ·exact .inr ⟨u,h1,(hf u h4).trans h2,h3,ae,h5⟩
def kR (p:af) (ks:List Int) (j:Nat):List aa:=(ks.take j).map fun k=>⟨p,k⟩
theorem Cc {p:af} {ks:List Int} {j:Nat} (h:j<ks.length):kR p ks (j+1)=kR p ks j++[⟨p,ks.getD j 0⟩]:=by
 unfold kR;rw[List.take_succ_eq_append_getElem h,List.map_append];simp[List.getD_eq_getElem?_getD,h]
theorem Gb (p:af) (ks:List Int):kR p ks ks.length=ks.map fun k=>(⟨p,k⟩:aa):=by unfold kR;rw[List.take_length]
theorem Jq {ks:List Int} {j:Nat} (h:j<ks.length):(ks.map bf)[j]? =some [.int .i64 (ks.getD j 0)]:=by simp[bf,List.getD_eq_getElem?_getD,h]
structure CryL (g:Rows) (n:Nat) (c T O:Id) (s:ar) (l:List aa):Prop where
 row:g c=some ⟨true,6,[[.sl (s.ay.bM.map dU),.sl (s.ay.aq.map dp),.sl (s.cw.aq.map ad),.int .i64 s.aQ,.map T mP,.map O mP]]⟩
 cv:c.bH<n
 ov:O.bH<n
 op:∃es:List En,g O=some ⟨true,mP.j6,es.map qn⟩/\yL g n es (iQ s l) (fun _=>True)
theorem Vj {σ:aw} {c T O:Id} {s:ar} {l:List aa} (h:CryL σ.get σ.next c T O s l) (hT:1<=s.aQ) (hS:gz s.ay) (hA:fS s.ay l):
  Call Tryz.prog 135 [.ptr c 0 0] σ (fun r σ'=>σ.next<=σ'.next/\(∀x:Id,x.bH<σ.next->σ'.get x=σ.get x)/\IG 135008005 σ.next (ur (eu s l) s.ay.aq.length (jF l)) r σ'.get σ'.next):=by
 refine fG fx rfl fun fM=>?_;clear fM;obtain⟨es,hO,hE⟩:=h.op;have eP:=h.row;have v1:=cR h.cv;have v2:=cR h.ov;have AE:=hS.qj;have sM:=hA.1.oG
 have UU:∀q,q∈oa s l↔q∈es.map (·.1):=fun q=>by
  rw[zH hT hA]
  rcases hE.at_ q trivial with⟨h1,h2⟩|⟨h1,o,h2,_⟩
  ·refine⟨fun h=>absurd h1 h,fun h=>?_⟩;obtain⟨e,he,rfl⟩:=List.mem_map.1 h;exact absurd rfl (h2 e he)
  ·exact⟨fun _=>List.mem_map_of_mem (f:=(·.1)) h2,fun _=>h1⟩
 have NM:(oa s l).length<=10000:=by
  have h1:(oa s l).length<=(jF l).length:=List.length_filter_le _ _;have h2:(jF l).length<=l.length*4:=nj l l.length;omega
 have SX:es.length<=1000000:=by
  have h1:=sj hE.nodup fun x hx=>(UU x).2 hx;rw[List.length_map]at h1;omega
 rw[Ha];have hR:=Hs s l;have wL:∀q∈oa s l,iQ s l q≠[]:=fun q hq=>(zH hT hA q).1 hq;generalize oa s l=ps at UU NM hR wL;(try((repeat(revert N;apply g7));refine wk (tw @eP @v1) ?_;repeat(apply g6;intro N hN)));refine .inr (ax _ _ _ _ _ (fun r σ1 hq=>?_) (N5 O _));obtain⟨g1,x1⟩:=σ1;obtain⟨rfl,q1,q2,q3⟩:=hq;(try dsimp only at q1 q2 q3);have hO1:g1 O=some ⟨true,mP.j6,es.map qn⟩:=(q3 O (by have:=h.ov;(try dsimp only);omega)).trans hO;apply hN;clear hN N;(try((repeat(revert N;apply g7));refine wk @g8 ?_;repeat(apply g6;intro N hN)));refine .inr (ax _ _ _ _ _ (fun r σ2 hq=>?_) (O5 (σ:=⟨g1,_⟩) q1 hO1 SX aI (by have:=h.ov;(try dsimp only);omega) ps hR hE.nodup UU));obtain⟨g2,x2⟩:=σ2;obtain⟨u1,u2,u3⟩:=hq;(try dsimp only at u1 u2 u3);have Ym:∀x:Id,x.bH<σ.next->g2 x=σ.get x:=fun x hx=>(u2 x ae).trans (q3 x aI);apply hN;clear hN N
 rcases u3 with⟨hps,rfl⟩|⟨o,rfl,ho,qd,hox,hpne⟩
 ·(try((repeat(revert N;apply g7));refine wk @g8 ?_;repeat(apply g6;intro N hN)));refine cj (fun n env st=>(env 15=.int .i64 0/\env 14=.int .i64 0/\env 3=.ck)/\σ.next<=st.next/\∀x:Id,x.bH<σ.next->st.get x=σ.get x) 0 ⟨⟨sd @g8,sl @g8,sd @g8⟩,aI,fun x hx=>Ym x hx⟩ ?_;rintro m e st ⟨⟨a15,Qk,a3⟩,an,aF⟩ -;have d0:decide ((0:Int)<0)=false:=rfl;(try((repeat(revert N;apply g7));refine wk (tw4 @a3 @Qk @a15 @d0) ?_;repeat(apply g6;intro N hN)));exact eH (.inl rfl) (vs:=[.ck]) (sd @a3) ⟨aI,fun x hx=>aF x hx,.inl ⟨by rw[hps];rfl,rfl⟩⟩
 ·have xC:g2 c=some ⟨true,6,[[.sl (s.ay.bM.map dU),.sl (s.ay.aq.map dp),.sl (s.cw.aq.map ad),.int .i64 s.aQ,.map T mP,.map O mP]]⟩:=(Ym c h.cv).trans eP;have L9:g2 O=some ⟨true,mP.j6,es.map qn⟩:=(Ym O h.ov).trans hO;have QP:=h.cv;have HE:=h.ov;(try((repeat(revert N;apply g7));refine wk @g8 ?_;repeat(apply g6;intro N hN)));refine cj (fun n env st=>∃k:Nat,n=(ps.length)-k/\k<=(ps.length)/\env 15=.int .i64 (k:Int)/\(x2<=st.next/\(∀x:Id,x.bH<x2->st.get x=g2 x)/\IG 135008005 x2 (ur (eu s l) s.ay.aq.length (ps.take k)) (env 3) st.get st.next)) (ps.length) ⟨0,ae,ae,sl @g8,by(try dsimp only);exact⟨ae,fun x hx=>sd @g8,.inl ⟨rfl,sd @g8⟩⟩⟩ ?_;rintro n_a m3 i8 ⟨k,rfl,ale,a15,mD⟩ eC;have a0:=eC 0 g9;have IM:=eC 13 g9;have Qk:=eC 14 g9;simp only[go_sem,↓reduceIte,Nat.reduceEqDiff,Nat.reduceAdd,Nat.reduceSub,Nat.reduceLeDiff,reduceCtorEq]at a0 IM Qk;clear eC;obtain⟨an,eC,a3⟩:=mD
  have bl:(ur (eu s l) s.ay.aq.length (ps.take k)).length<=10000*160:=by
   have h2:=yj (eu s l) s.ay.aq.length (ps.take k);have h3:(ps.take k).length*s.ay.aq.length<=10000*160:=Nat.mul_le_mul (by rw[List.length_take];omega) AE;omega
  by_cases hk:(k:Int)<(ps.length:Int)
  ·have dW:∀{e:Env} {gg:Rows} {nx:Nat},(e 15=.int .i64 (IntKind.i64.wrap ((k:Int)+1)))->(x2<=nx/\(∀x:Id,x.bH<x2->gg x=g2 x)/\IG 135008005 x2 (ur (eu s l) s.ay.aq.length (ps.take (k+1))) (e 3) gg nx)->∃m0,m0<(ps.length)-k/\∃k:Nat,m0=(ps.length)-k/\k<=(ps.length)/\e 15=.int .i64 (k:Int)/\(x2<=nx/\(∀x:Id,x.bH<x2->gg x=g2 x)/\IG 135008005 x2 (ur (eu s l) s.ay.aq.length (ps.take k)) (e 3) gg nx):=fun x1 x2=>⟨_,ae,k+1,rfl,ae,(by rw[x1,aZ ae]),x2⟩;have iD:k<ps.length:=ae;have sZ:=(eC o hox).trans ho;have vao:=cR (i:=o) (n:=i8.next) ae;have ib:=oM iD;have Ei:=(eC c ae).trans xC;have vac:=cR (i:=c) (n:=i8.next) ae;have hgO:=(eC O ae).trans L9;have vaO:=cR (i:=O) (n:=i8.next) ae
   obtain⟨o',Fi,ho'v,U0⟩:∃o':Id,(fI ps k,AV.own o' 0 (iQ s l (fI ps k)).length)∈es/\o'.bH<σ.next/\σ.get o'=some ⟨true,1,(iQ s l (fI ps k)).map bf⟩:=by
    rcases hE.at_ (fI ps k) trivial with⟨h1,_⟩|⟨_,o',h2⟩
    ·exact absurd h1 (wL _ (yB iD))
    ·exact⟨o',h2⟩
   obtain⟨fi,Dd,_,_,Fy,YH⟩:=wT (fI ps k) es
   obtain⟨j0,rfl,S4⟩:∃j,fi=some j/\(es.map qn)[j]? =some [.int .i64 (fI ps k).eV,.int .i64 (fI ps k).eR,.own o' 0 (iQ s l (fI ps k)).length]:=by
    cases fi with
    |none=>exact absurd rfl (YH rfl _ Fi)
    |some j=>
     obtain⟨v,hv⟩:=Fy j rfl;have e:=Rg hE.nodup (List.mem_of_getElem? hv) Fi;subst e;exact⟨j,rfl,by rw[List.getElem?_map,hv];rfl⟩
   have Mb:=EH (B:=eu s l) (m:=s.ay.aq.length) iD;have qc:GB (eu s l) (fI ps k) s.ay.aq.length=(iQ s l (fI ps k)).map fun t=>(⟨fI ps k,t⟩:aa):=CK _ _ _;rw[qc,<-Gb]at Mb
   have Q3:(iQ s l (fI ps k)).length<=160:=by
    have:=uI (eu s l) (fI ps k) s.ay.aq.length;unfold iQ;omega
   generalize fI ps k=q at Dd S4 Fi U0 ib Mb Q3;generalize iQ s l q=us at S4 Fi U0 Mb Q3;generalize ur (eu s l) s.ay.aq.length (ps.take k)=L at a3 bl Mb;(try((repeat(revert N;apply g7));refine wk (tw9 @a15 @a0 @IM @Qk @hk @sZ @vao @ib (tw7 @Ei @vac @hgO @vaO @Dd @S4 @ab.eq_1)) ?_;repeat(apply g6;intro N hN)))
   refine cj (fun n env st=>∃j:Nat,n=(us.length)-j/\j<=(us.length)/\env 26=.int .i64 (j:Int)/\st.get ⟨135004002,i8.next+1⟩=some ⟨true,2,[ab q]⟩/\(i8.next+2<=st.next/\(∀x:Id,x.bH<x2->st.get x=g2 x)/\IG 135008005 x2 (L++kR q us j) (env 3) st.get st.next)) (us.length) ⟨0,ae,ae,sl (tw5 @a15 @a0 @IM @Qk @ab.eq_1),sl (tw5 @a15 @a0 @IM @Qk @ab.eq_1),by(try dsimp only);exact⟨ae,fun x hx=>by
    have h2:=cR (i:=x) (n:=i8.next) ae;have h3:=eC x hx
    simp only[go_sem,↓reduceIte,Nat.reduceEqDiff,Nat.reduceAdd,Nat.reduceSub,Nat.reduceLeDiff,reduceCtorEq,h2,h3],by
    rw[show kR q us 0=[]from rfl,List.append_nil]
    exact a3.frame (sd @g8) ae fun x hx=>by
     have h2:=cR hx
     simp only[go_sem,↓reduceIte,Nat.reduceEqDiff,Nat.reduceAdd,Nat.reduceSub,Nat.reduceLeDiff,reduceCtorEq,h2]⟩⟩ ?_
   rintro n_b m4 i9 ⟨j,rfl,ble,b26,bg0,bI0⟩ eB;have b0:=eB 0 g9;have b5:=eB 5 g9;have rM:=eB 13 g9;have T8:=eB 14 g9;have T9:=eB 15 g9;have EG:=eB 24 g9;have Ua:=eB 25 g9;simp only[go_sem,↓reduceIte,Nat.reduceEqDiff,Nat.reduceAdd,Nat.reduceSub,Nat.reduceLeDiff,reduceCtorEq,a15,a0,IM,Qk,ab]at b0 b5 rM T8 T9 EG Ua;clear eB;obtain⟨bn,eB,b3⟩:=bI0;have vZ:=cR (i:=⟨135004002,i8.next+1⟩) (n:=i9.next) aI
   have jL:(L++kR q us j).length<=16777214:=by
    have:(kR q us j).length<=us.length:=by unfold kR;simp;omega
    rw[i6];omega
   by_cases hj:(j:Int)<(us.length:Int)
   ·have ep:∀{e:Env} {gg:Rows} {nx:Nat},(e 26=.int .i64 (IntKind.i64.wrap ((j:Int)+1)))->(gg ⟨135004002,i8.next+1⟩=some ⟨true,2,[ab q]⟩)->(i8.next+2<=nx/\(∀x:Id,x.bH<x2->gg x=g2 x)/\IG 135008005 x2 (L++kR q us (j+1)) (e 3) gg nx)->∃m0,m0<(us.length)-j/\∃j:Nat,m0=(us.length)-j/\j<=(us.length)/\e 26=.int .i64 (j:Int)/\gg ⟨135004002,i8.next+1⟩=some ⟨true,2,[ab q]⟩/\(i8.next+2<=nx/\(∀x:Id,x.bH<x2->gg x=g2 x)/\IG 135008005 x2 (L++kR q us j) (e 3) gg nx):=fun x1 x2 x3=>⟨_,ae,j+1,rfl,ae,(by rw[x1,aZ ae]),x2,x3⟩;have oy:j<us.length:=ae;have mU:=Cc (p:=q) oy;have zo:=Jq oy;have Yv:=(eB o' ae).trans ((Ym o' ho'v).trans U0);have Zy:=cR (i:=o') (n:=i9.next) ae;have Xe:(us.map bf).length=us.length:=by simp
    have GC:L++kR q us (j+1)=(L++kR q us j)++[⟨q,us.getD j 0⟩]:=by rw[mU,List.append_assoc]
    generalize us.getD j 0=t at zo GC;generalize L++kR q us j=M at b3 jL GC;have o9:(M++[(⟨q,t⟩:aa)]).length=M.length+1:=by simp
    have j3:(M++[(⟨q,t⟩:aa)]).map ad=M.map ad++[[.int .i64 q.eV,.int .i64 q.eR,.int .i64 t]]:=by rw[List.map_append];rfl
    rcases b3 with⟨hM,b3⟩|⟨u,b3,hug,hum,huv,hul0,Xk⟩
    ·subst hM;(try((repeat(revert N;apply g7));refine wk (tw9 @b26 @bg0 @b0 @b5 @rM @T8 @T9 @EG (tw9 @Ua @hj @zo @Yv @Zy @Xe @b3 @vZ @ab.eq_1)) ?_;repeat(apply g6;intro N hN)))
     refine ep ?_ ?_ (by(try dsimp only);exact⟨ae,fun x hx=>by
      have h2:=cR (i:=x) (n:=i9.next) ae;have h3:=eB x hx
      simp only[go_sem,↓reduceIte,Nat.reduceEqDiff,Nat.reduceAdd,Nat.reduceSub,Nat.reduceLeDiff,reduceCtorEq,h2,h3],.inr ⟨⟨135008005,i9.next+1+1⟩,by rw[GC,o9];simp only[go_sem,↓reduceIte,Nat.reduceEqDiff,Nat.reduceAdd,Nat.reduceSub,Nat.reduceLeDiff,reduceCtorEq]<;>rfl,by rw[GC,j3];simp only[go_sem,↓reduceIte,Nat.reduceEqDiff,Nat.reduceAdd,Nat.reduceSub,Nat.reduceLeDiff,reduceCtorEq]<;>rfl,aI,aI,by rw[GC,o9];omega,rfl⟩⟩)
     all_goals simp only[go_sem,↓reduceIte,Nat.reduceEqDiff,Nat.reduceAdd,Nat.reduceSub,Nat.reduceLeDiff,reduceCtorEq,b26,bg0,b0,b5,rM,T8,T9,EG,Ua,vZ,ab]
    ·have JZ:=cR huv;have eW:(M.map ad).length=M.length:=by simp
     have UE:M.length<=16777215:=ae;have ux:=j9 Xk (b:=135004002) (v:=i8.next+1) (by decide);(try((repeat(revert N;apply g7));refine wk (tw9 @b26 @bg0 @b0 @b5 @rM @T8 @T9 @EG (tw9 @Ua @hj @zo @Yv @Zy @Xe @b3 @hug (tw6 @JZ @eW @UE @vZ @ux @ab.eq_1))) ?_;repeat(apply g6;intro N hN)))
     refine ep ?_ ?_ (by(try dsimp only);exact⟨ae,fun x hx=>by
      have h2:=cR (i:=x) (n:=i9.next) ae;have h4:=ew (a:=x) (b:=u) ae;have h3:=eB x hx
      simp only[go_sem,↓reduceIte,Nat.reduceEqDiff,Nat.reduceAdd,Nat.reduceSub,Nat.reduceLeDiff,reduceCtorEq,h2,h3,h4],.inr ⟨⟨135008005,i9.next+1+1⟩,by rw[GC,o9];simp only[go_sem,↓reduceIte,Nat.reduceEqDiff,Nat.reduceAdd,Nat.reduceSub,Nat.reduceLeDiff,reduceCtorEq]<;>rfl,by rw[GC,j3];simp only[go_sem,↓reduceIte,Nat.reduceEqDiff,Nat.reduceAdd,Nat.reduceSub,Nat.reduceLeDiff,reduceCtorEq]<;>rfl,aI,aI,by rw[GC,o9];omega,rfl⟩⟩)
     all_goals simp only[go_sem,↓reduceIte,Nat.reduceEqDiff,Nat.reduceAdd,Nat.reduceSub,Nat.reduceLeDiff,reduceCtorEq,b26,bg0,b0,b5,rM,T8,T9,EG,Ua,vZ,ux,ab]
   ·have hju:j=us.length:=ae;subst hju;(try((repeat(revert N;apply g7));refine wk (tw9 @b26 @bg0 @b0 @b5 @rM @T8 @T9 @EG (tw @Ua @hj)) ?_;repeat(apply g6;intro N hN)))
    exact dW (sd (tw9 @a15 @a0 @IM @Qk @b26 @bg0 @b0 @b5 (tw5 @rM @T8 @T9 @EG @Ua))) (by(try dsimp only);exact⟨ae,fun x hx=>eB x hx,by
     rw[Mb]
     exact b3.frame (sd @g8) ae fun x hx=>rfl⟩)
  ·have l8:k=ps.length:=ae;subst l8;rw[List.take_length]at a3;(try((repeat(revert N;apply g7));refine wk (tw5 @a15 @a0 @IM @Qk @hk) ?_;repeat(apply g6;intro N hN)))
   exact eH (.inl rfl) (vs:=[m3 3]) (sd @g8) ⟨aI,fun x hx=>(eC x ae).trans (Ym x hx),by
    rcases a3 with h1|⟨u,h1,h2,h3,h4,h5⟩
    ·exact .inl h1
    ·exact .inr ⟨u,h1,h2,ae,aI,h5⟩⟩
theorem Dt (s:ar) (hP:lW s) (l:List aa) (hA:fS s.ay l):au Tryz.prog 68 [.dZ (aK s),.dZ [.sl (l.map ad)]] (.sl ((ur (eu s l) s.ay.aq.length (jF l)).map ad)):=by
 refine au.body fx rfl fun fM n0=>?_;clear fM;have hS:=hP.set;have AE:=hS.qj;have sM:=hA.1.oG;have hlen:=nj l l.length;have o9:fP l l.length=jF l:=rfl;rw[o9]at hlen;have NJ:∀x∈jF l,Bi l x:=fun x hx=>(oI l x).1 hx;have hnv:=fun σ=>Lc l hA.1 σ;clear o9;generalize jF l=ps at hlen NJ hnv ⊢;(try((repeat(revert N;apply g7));refine wk @g8 ?_;repeat(apply g6;intro N hN)));refine .inr (ax _ _ _ _ _ (fun r σ1 hq=>?_) (hnv _));obtain⟨g1,x1⟩:=σ1;obtain⟨o0,rfl,q1,q2,q3,q4,q5⟩:=hq;(try dsimp only at q1 q2 q3 q4 q5);have q6:=q5 ⟨68001000,n0+1⟩ aI trivial;simp only[go_sem,↓reduceIte,Nat.reduceEqDiff,Nat.reduceAdd,Nat.reduceSub,Nat.reduceLeDiff,reduceCtorEq]at q6;have on:n0+2<=o0.bH:=by rcases q4 with h|h;omega;exact absurd trivial h
 clear q4 q5;apply hN;clear hN N;(try((repeat(revert N;apply g7));refine wk (tw @q1 @q6) ?_;repeat(apply g6;intro N hN)));refine cj (fun n env st=>∃k:Nat,n=(ps.length)-k/\k<=(ps.length)/\env 7=.int .i64 (k:Int)/\st.get o0=some ⟨true,2,ps.map ab⟩/\(∃o:Id,env 5=.own o 0 (ur (eu s l) s.ay.aq.length (ps.take k)).length/\st.get o=some ⟨true,3,(ur (eu s l) s.ay.aq.length (ps.take k)).map ad⟩/\o.bH<st.next/\o0.bH<st.next/\o≠o0)) (ps.length) ⟨0,ae,ae,sl (tw @q1 @q6),sl (tw @q1 @q6),by(try dsimp only);exact⟨⟨68001000,n0+1⟩,sl @g8,sl @q6,aI,ae,fun e=>by rw[<-e]at on;(try dsimp only at on);omega⟩⟩ ?_;rintro n_a m3 i8 ⟨k,rfl,ale,a7,eK,mD⟩ eC;have a0:=eC 0 g9;have a1:=eC 1 g9;have a6:=eC 6 g9;simp only[go_sem,↓reduceIte,Nat.reduceEqDiff,Nat.reduceAdd,Nat.reduceSub,Nat.reduceLeDiff,reduceCtorEq,q1,q6]at a0 a1 a6;clear eC;obtain⟨o,a5,ao,MF,Sz,aoo⟩:=mD;have vo:=cR MF;have v0:=cR Sz;have hoo:=eq_false aoo;have hoo2:=eq_false (fun e:o0=o=>aoo e.symm)
 have hB:(ur (eu s l) s.ay.aq.length (ps.take k)).length<=10000*160:=by
  have h2:=yj (eu s l) s.ay.aq.length (ps.take k);have h3:(ps.take k).length*s.ay.aq.length<=10000*160:=Nat.mul_le_mul (by rw[List.length_take];omega) AE;omega
 by_cases hk:(k:Int)<(ps.length:Int)
 ·have dW:∀{e:Env} {gg:Rows} {nx:Nat},(e 7=.int .i64 (IntKind.i64.wrap ((k:Int)+1)))->(gg o0=some ⟨true,2,ps.map ab⟩)->(∃o:Id,e 5=.own o 0 (ur (eu s l) s.ay.aq.length (ps.take (k+1))).length/\gg o=some ⟨true,3,(ur (eu s l) s.ay.aq.length (ps.take (k+1))).map ad⟩/\o.bH<nx/\o0.bH<nx/\o≠o0)->∃m0,m0<(ps.length)-k/\∃k:Nat,m0=(ps.length)-k/\k<=(ps.length)/\e 7=.int .i64 (k:Int)/\gg o0=some ⟨true,2,ps.map ab⟩/\(∃o:Id,e 5=.own o 0 (ur (eu s l) s.ay.aq.length (ps.take k)).length/\gg o=some ⟨true,3,(ur (eu s l) s.ay.aq.length (ps.take k)).map ad⟩/\o.bH<nx/\o0.bH<nx/\o≠o0):=fun x1 x2 x3=>⟨_,ae,k+1,rfl,ae,(by rw[x1,aZ ae]),x2,x3⟩;have iD:k<ps.length:=ae;have gm:=oM iD;have qW:=NJ _ (yB iD);obtain⟨hx,hy⟩:=np qW.1;have qb:=(Rh s.ay hS l hA (fI ps k) hx hy s.aQ).cut mixed (.ptr _ [.sl (s.cw.aq.map ad),.int .i64 s.aQ] (.same _ (.same _ (.same _ .nil))));have Yq:mF (CH s.ay l s.aQ) (fI ps k) s.ay.aq.length=iQ s l (fI ps k):=rU (fun t=>(Qo qW hA t).symm) _;rw[Yq]at qb;have Mb:=EH (B:=eu s l) (m:=s.ay.aq.length) iD;have qc:GB (eu s l) (fI ps k) s.ay.aq.length=(iQ s l (fI ps k)).map fun t=>(⟨fI ps k,t⟩:aa):=CK _ _ _;rw[qc,<-Gb]at Mb
  have Q3:(iQ s l (fI ps k)).length<=160:=by
   have:=uI (eu s l) (fI ps k) s.ay.aq.length;unfold iQ;omega
  have Xe:(ps.map ab).length=ps.length:=by simp
  generalize fI ps k=q at qb Mb gm Q3;generalize iQ s l q=us at qb Mb Q3;generalize ur (eu s l) s.ay.aq.length (ps.take k)=L at a5 ao hB Mb;rw[ai]at qb
  (have zF:=tw9 @a7 @eK @a0 @a1 @a6 @hk @gm @v0 (tw3 @Xe @aK.eq_1 @ab.eq_1);(repeat(first|((repeat(revert N;apply g7));refine wk zF ?_;repeat(apply g6;intro N hN))|((try apply i3);refine⟨_,au.x (qb) (sd zF),?_⟩;apply hN;clear hN N)));try clear zF)
  refine cj (fun n env st=>∃j:Nat,n=(us.length)-j/\j<=(us.length)/\env 9=.int .i64 (j:Int)/\st.get o0=some ⟨true,2,ps.map ab⟩/\(∃o:Id,env 5=.own o 0 (L++kR q us j).length/\st.get o=some ⟨true,3,(L++kR q us j).map ad⟩/\o.bH<st.next/\o0.bH<st.next/\o≠o0)) (us.length) ⟨0,ae,ae,sl (tw5 @a7 @eK @a0 @a1 @a6),sl (tw5 @a7 @eK @a0 @a1 @a6),by(try dsimp only);exact⟨o,by rw[show kR q us 0=[]from rfl,List.append_nil];simp only[go_sem,↓reduceIte,Nat.reduceEqDiff,Nat.reduceAdd,Nat.reduceSub,Nat.reduceLeDiff,reduceCtorEq,a5],by rw[show kR q us 0=[]from rfl,List.append_nil];simp only[go_sem,↓reduceIte,Nat.reduceEqDiff,Nat.reduceAdd,Nat.reduceSub,Nat.reduceLeDiff,reduceCtorEq,ao,vo],ae,ae,aoo⟩⟩ ?_;rintro n_b m4 i9 ⟨j,rfl,ble,b9,bg0,bI0⟩ eB;have b0:=eB 0 g9;have b1:=eB 1 g9;have b6:=eB 6 g9;have b7:=eB 7 g9;have b8:=eB 8 g9;simp only[go_sem,↓reduceIte,Nat.reduceEqDiff,Nat.reduceAdd,Nat.reduceSub,Nat.reduceLeDiff,reduceCtorEq,a7,eK,a0,a1,a6]at b0 b1 b6 b7 b8;clear eB;obtain⟨u,b5,bu,XC,SC,buo⟩:=bI0
  have jL:(L++kR q us j).length<=16777215:=by
   have:(kR q us j).length<=us.length:=by unfold kR;simp;omega
   rw[i6];omega
  have vu:=cR XC;have v0b:=cR SC;have hou:=eq_false buo;have YJ:=eq_false (fun e:o0=u=>buo e.symm)
  by_cases hj:(j:Int)<(us.length:Int)
  ·have ep:∀{e:Env} {gg:Rows} {nx:Nat},(e 9=.int .i64 (IntKind.i64.wrap ((j:Int)+1)))->(gg o0=some ⟨true,2,ps.map ab⟩)->(∃o:Id,e 5=.own o 0 (L++kR q us (j+1)).length/\gg o=some ⟨true,3,(L++kR q us (j+1)).map ad⟩/\o.bH<nx/\o0.bH<nx/\o≠o0)->∃m0,m0<(us.length)-j/\∃j:Nat,m0=(us.length)-j/\j<=(us.length)/\e 9=.int .i64 (j:Int)/\gg o0=some ⟨true,2,ps.map ab⟩/\(∃o:Id,e 5=.own o 0 (L++kR q us j).length/\gg o=some ⟨true,3,(L++kR q us j).map ad⟩/\o.bH<nx/\o0.bH<nx/\o≠o0):=fun x1 x2 x3=>⟨_,ae,j+1,rfl,ae,(by rw[x1,aZ ae]),x2,x3⟩;have oy:j<us.length:=ae;have mU:=Cc (p:=q) oy;have zo:=Jq oy;have GC:L++kR q us (j+1)=(L++kR q us j)++[⟨q,us.getD j 0⟩]:=by rw[mU,List.append_assoc]
   generalize us.getD j 0=t at zo GC;generalize L++kR q us j=M at b5 bu jL GC;have o9:(M++[(⟨q,t⟩:aa)]).length=M.length+1:=by simp
   have j3:(M++[(⟨q,t⟩:aa)]).map ad=M.map ad++[[.int .i64 q.eV,.int .i64 q.eR,.int .i64 t]]:=by rw[List.map_append];rfl
   have eW:(M.map ad).length=M.length:=by simp
   have hmu:(us.map bf).length=us.length:=by simp
   (try((repeat(revert N;apply g7));refine wk (tw9 @b9 @bg0 @b0 @b1 @b6 @b7 @b8 @b5 (tw9 @bu @hj @hk @zo @gm @vu @v0b @hou (tw6 @YJ @Xe @eW @hmu @jL @ab.eq_1))) ?_;repeat(apply g6;intro N hN)));refine ep ?_ ?_ (by(try dsimp only);exact⟨⟨68010011,i9.next+1⟩,by rw[GC,o9];simp only[go_sem,↓reduceIte,Nat.reduceEqDiff,Nat.reduceAdd,Nat.reduceSub,Nat.reduceLeDiff,reduceCtorEq]<;>rfl,by rw[GC,j3];simp only[go_sem,↓reduceIte,Nat.reduceEqDiff,Nat.reduceAdd,Nat.reduceSub,Nat.reduceLeDiff,reduceCtorEq]<;>rfl,aI,aI,fun e=>by rw[<-e]at SC;(try dsimp only at SC);omega⟩)
   all_goals simp only[go_sem,↓reduceIte,Nat.reduceEqDiff,Nat.reduceAdd,Nat.reduceSub,Nat.reduceLeDiff,reduceCtorEq,b9,bg0,b0,b1,b6,b7,b8,v0b,YJ]
  ·have hju:j=us.length:=ae;subst hju;(try((repeat(revert N;apply g7));refine wk (tw8 @b9 @bg0 @b0 @b1 @b6 @b7 @b8 @hj) ?_;repeat(apply g6;intro N hN)));refine dW ?_ ?_ (by(try dsimp only);exact⟨u,by rw[Mb];simp only[go_sem,↓reduceIte,Nat.reduceEqDiff,Nat.reduceAdd,Nat.reduceSub,Nat.reduceLeDiff,reduceCtorEq,b5],by rw[Mb];simp only[go_sem,↓reduceIte,Nat.reduceEqDiff,Nat.reduceAdd,Nat.reduceSub,Nat.reduceLeDiff,reduceCtorEq,bu],ae,ae,buo⟩)
   all_goals simp only[go_sem,↓reduceIte,Nat.reduceEqDiff,Nat.reduceAdd,Nat.reduceSub,Nat.reduceLeDiff,reduceCtorEq,a7,eK,a0,a1,a6,b9,bg0,b0,b1,b6,b7,b8]
 ·have l8:k=ps.length:=ae;subst l8;rw[List.take_length]at a5 ao;(try((repeat(revert N;apply g7));refine wk (tw7 @a7 @eK @a0 @a1 @a6 @hk @a5) ?_;repeat(apply g6;intro N hN)))
  exact lu (.inl rfl) (vs:=[.own o 0 (ur (eu s l) s.ay.aq.length ps).length]) (sd @a5) (by
   simp only[gH]
   exact eQ (e:=ad) (n:=5) ao rfl fun x=>SH _ 4 x)
theorem CL {B:af->Int->Bool} {p:af}:∀{t:Nat} {x:aa},x∈GB B p t->∃k:Nat,k<t/\x=⟨p,k⟩/\B p k=true
 |0,x,h=>by simp[GB]at h
 |t+1,x,h=>by
  rw[GB]at h
  split at h
  ·rename_i hb
   rcases List.mem_append.1 h with h|h
   ·obtain⟨k,hk,h1⟩:=CL h;exact⟨k,ae,h1⟩
   ·exact⟨t,ae,by simpa using h,hb⟩
  ·obtain⟨k,hk,h1⟩:=CL h;exact⟨k,ae,h1⟩
theorem IV {B:af->Int->Bool} {m:Nat} {ps:List af} {x:aa} (h:x∈ur B m ps):x.aH∈ps/\∃k:Nat,k<m/\x.bK=k/\B x.aH x.bK=true:=by
 obtain⟨p,hp,hx⟩:=List.mem_flatMap.1 h;obtain⟨k,hk,rfl,hb⟩:=CL hx;exact⟨hp,k,hk,rfl,hb⟩
noncomputable def jP (s:ar) (l:List aa):List aa:=ur (eu s l) s.ay.aq.length (jF l)
theorem OA {s:ar} {l:List aa} (hS:gz s.ay) (hA:fS s.ay l):(jP s l).length<=320000:=by
 have h1:=yj (eu s l) s.ay.aq.length (jF l);have h2:(jF l).length<=l.length*4:=nj l l.length;have h3:=hA.1.oG;have h4:=hS.qj;have h5:(jF l).length*s.ay.aq.length<=2000*160:=Nat.mul_le_mul ae h4;unfold jP;omega
def ue (sch:List Int) (d n:Nat):Nat:=if sch.length=0 then 0 else(sch.getD (d % sch.length) 0).toNat % n
theorem nU {sch:List Int} {d n:Nat} (h:0<n):ue sch d n<n:=by
 unfold ue
 split
 ·exact h
 ·exact Nat.mod_lt _ h
noncomputable def l6 (s:ar) (sch:List Int) (steps:Nat):Nat->List aa->Option (List aa)
 |0,es=>some es
 |f+1,es=>if (jP s (dx s es es.length)).length=0 then some es else if steps<=es.length then some es else if 500<=(dx s es es.length).length then none else l6 s sch steps f (es++[bc (jP s (dx s es es.length)) (ue sch es.length (jP s (dx s es es.length)).length)])
theorem zX {s:ar} {es ds:List aa} {i:Nat} (h:i<=es.length):dx s (es++ds) i=dx s es i:=by
 unfold dx;rw[List.take_append_of_le_length h]
theorem OI (s:ar) (es:List aa) (x:aa):dx s (es++[x]) (es.length+1)=jB (dx s es es.length) x:=by
 rw[jg s (es++[x]) (by simp),zX i4]
 congr 1
 simp[bc]
theorem OH {es ds:List aa} {i:Nat} (h:i<es.length):bc (es++ds) i=bc es i:=by
 simp[bc,List.getD_eq_getElem?_getD,List.getElem?_append_left h]
theorem Ib {s:ar} {es ds:List aa} {i:Nat} (h:i<es.length):j5 s (es++ds) i=j5 s es i:=by
 unfold j5 RE;rw[zX ae,OH h]
theorem zW {s:ar} {l:List aa} {x:aa} (h:x∈jP s l):eE s.ay x.bK=true/\eu s l x.aH x.bK=true:=by
 obtain⟨_,k,hk,e,hf⟩:=IV h;refine⟨?_,hf⟩;rw[e];exact jc ae
def iI (s:ar) (es:List aa):Prop:=∀j,j<es.length->j5 s es j=true
theorem iI.nil (s:ar):iI s []:=fun j hj=>by simp at hj
theorem iI.add {s:ar} {es:List aa} (h:iI s es) {x:aa} (hx:x∈jP s (dx s es es.length)) (hl:(dx s es es.length).length<500):iI s (es++[x]):=fun j hj=>by
 rw[i6,List.length_singleton]at hj
 by_cases h0:j<es.length
 ·rw[Ib h0];exact h j h0
 ·have e:j=es.length:=ae;subst e;obtain⟨h1,h2⟩:=zW hx;unfold j5 RE;rw[zX i4,show bc (es++[x]) es.length=x by simp[bc],h1,h2]
  simpa using hl
theorem nn (s:ar) (es:List aa):∀i,i<=es.length->(dx s es i).length=s.cw.aq.length+i
 |0,_=>rfl
 |i+1,hi=>by rw[jg s es ae,oL,nn s es i ae];rfl
theorem BG {s:ar} {sch:List Int} {steps:Nat}:∀(f:Nat) (es C0:List aa),iI s es->es.length<=steps->l6 s sch steps f es=some C0->iI s C0/\C0.length<=steps
 |0,es,C0,h,hl,he=>by
  rw[l6]at he;injection he with he;subst he
  exact⟨h,hl⟩
 |f+1,es,C0,h,hl,he=>by
  rw[l6]at he
  split at he
  ·injection he with he;subst he;exact⟨h,hl⟩
  ·split at he
   ·injection he with he;subst he;exact⟨h,hl⟩
   ·split at he
    ·cases he
    ·refine BG f _ _ (h.add (e7 (nU ae)) ae) ?_ he;rw[i6,List.length_singleton];omega
noncomputable def od (s:ar) (sch:List Int) (steps:Nat):Option (List aa):=l6 s sch steps 501 []
theorem rV {s:ar} {sch:List Int} {steps:Nat} {es:List aa} (h:od s sch steps=some es):iI s es/\es.length<=steps:=BG _ _ _ (iI.nil s) (Nat.zero_le _) h
def p2 (d:Nat):Int:=2 ^ d
section
variable {P:Program} {α:Type} {e:α->List AV} {z:Nat} {g g':Rows} {v:AV} {L:List α} {ids:List Id}
end
theorem fzr1 {g:Rows} {u u':AV} (h0:V.fz g 6 u=some u'):eM g 6 [u]=some [u']:=by simp only[ah,aj,h0,Option.map_some]
theorem fzr2 {g:Rows} {u v u' v':AV} (h0:V.fz g 6 u=some u') (h1:V.fz g 6 v=some v'):eM g 6 [u,v]=some [u',v']:=by simp only[ah,aj,h0,h1,Option.map_some]
theorem QC {g:Rows} {u v w x u' v' w' x':AV} (h0:V.fz g 6 u=some u') (h1:V.fz g 6 v=some v') (h2:V.fz g 6 w=some w') (h3:V.fz g 6 x=some x'):eM g 6 [u,v,w,x]=some [u',v',w',x']:=by simp only[ah,aj,h0,h1,h2,h3,Option.map_some]
theorem DP {sch:List Int} {k:Nat} (h:k<sch.length):(sch.map bf)[k]? =some [.int .i64 (sch.getD k 0)]:=getD_map bf h
theorem pP (a b:Nat):(a:Int).tmod (b:Int)=((a % b:Nat):Int):=by rw[Int.tmod_eq_emod_of_nonneg ae];rfl
noncomputable def wI (s:ar) (sch:List Int) (steps:Nat) (b:Bool):AV:=match od s sch steps with
 |some es=>.gG [.sl (es.map ad),.agg [.sl ((dx s es es.length).map ad)],.bool b,.int .i64 0]
 |none=>.gG [.ck,.agg [.ck],.bool b,.int .i64 4]
theorem BY (s:ar) (hP:lW s) (sch:List Int) (hs:∀x∈sch,0<=x/\x<=1000) (nI:sch.length<=200) (steps:Nat) (ez:steps<=500):
  kh Tryz.prog 29 [.dZ (aK s),.dZ [.sl (s.cw.aq.map ad)],.sl (sch.map bf),.int .i64 (steps:Int)] fun r=>∃b,r=wI s sch steps b:=by
 refine kh.body fx rfl fun fM n0=>?_;clear fM;have qe:=hP.ud.1.oG;have eW:(sch.map bf).length=sch.length:=by simp
 (try((repeat(revert N;apply g7));refine wk @aK.eq_1 ?_;repeat(apply g6;intro N hN)));refine .inr (ax _ _ _ _ _ (fun r σ1 GL=>?_) (TM.val (fun n=>N8 s.cw.aq ae n) (by simp only[ah,aj,aJ,Option.map_some])));obtain⟨⟨o,rfl,q1,q2,q3⟩,hK⟩:=GL;obtain⟨g1,x1⟩:=σ1;(try dsimp only at q1 q2 q3 hK);have AD:=hK.1;(try dsimp only at AD);have k4:=hK.2 ⟨29000001,n0⟩ aI;simp only[go_sem,↓reduceIte,Nat.reduceEqDiff,Nat.reduceAdd,Nat.reduceSub,Nat.reduceLeDiff,reduceCtorEq]at k4;apply hN;clear hN N;(try((repeat(revert N;apply g7));refine wk (tw @k4 @aK.eq_1) ?_;repeat(apply g6;intro N hN)));have U4:=Ce s []
 obtain⟨X,hX⟩:∃X:Id,X=⟨29001002,x1⟩:=⟨_,rfl⟩
 obtain⟨Y,hY⟩:∃Y:Id,Y=⟨29000001,n0⟩:=⟨_,rfl⟩
 have hXY:X≠Y:=by rw[hX,hY];intro e;injection e with e1 e2;revert e1;decide
 have vo0:=cR (i:=o) (n:=x1) q3;refine cj (fun m env st=>∃(es:List aa) (f:Nat),m=f/\l6 s sch steps f es=od s sch steps/\iI s es/\es.length<=steps/\501<=f+(dx s es es.length).length/\(∃o w:Id,env 13=.own w 0 es.length/\st.get w=some ⟨true,3,es.map ad⟩/\st.get X=some ⟨true,1,[[.own o 0 (dx s es es.length).length]]⟩/\st.get o=some ⟨true,3,(dx s es es.length).map ad⟩/\o≠w/\o≠X/\o≠Y/\o.bH<st.next/\w.bH<st.next/\(w.site=29002000∨w.site=29015006))/\st.get Y=some ⟨true,1,[[.ck]]⟩/\x1<st.next) 501 ⟨[],501,rfl,rfl,iI.nil s,by simp,ae,⟨o,⟨29002000,x1+1⟩,sl @g8,sl @g8,by rw[hX];simp only[go_sem,↓reduceIte,Nat.reduceEqDiff,Nat.reduceAdd,Nat.reduceSub,Nat.reduceLeDiff,reduceCtorEq]<;>rfl,sl (tw @vo0 @q1),fun e=>by rw[e]at q3;(try dsimp only at q3);omega,fun e=>by rw[e,hX]at q3;(try dsimp only at q3);omega,fun e=>by rw[e,hY]at q2;(try dsimp only at q2);omega,aI,aI,.inl rfl⟩,by rw[hY];simp only[go_sem,↓reduceIte,Nat.reduceEqDiff,Nat.reduceAdd,Nat.reduceSub,Nat.reduceLeDiff,reduceCtorEq,k4],aI⟩ ?_;rintro m m4 i9 ⟨es,f,rfl,hgro,hgood,SX,Yq,⟨o,w,rM,gw,gX,go,n1,n2,n3,vo,vw,sw⟩,gY,bn⟩ eB;have b0:=eB 0 g9;have b2:=eB 2 g9;have b3:=eB 3 g9;have b9:=eB 9 g9;have sK:=eB 12 g9;rw[<-hX]at sK;rw[<-hY]at b9;simp only[go_sem,↓reduceIte,Nat.reduceEqDiff,Nat.reduceAdd,Nat.reduceSub,Nat.reduceLeDiff,reduceCtorEq,aK]at b0 b2 b3 b9 sK;clear eB;have hA:=nk hP (es:=es) es.length i4 hgood;have hfw:=hA.1.oG
 obtain⟨f,rfl⟩:∃f,m=f+1:=⟨m-1,ae⟩
 rw[l6]at hgro;have fb:=Dt s hP _ hA;rw[show ur (eu s (dx s es es.length)) s.ay.aq.length (jF (dx s es es.length))=jP s (dx s es es.length)from rfl]at fb
 obtain⟨L,hL⟩:∃L,jP s (dx s es es.length)=L:=⟨_,rfl⟩
 rw[hL]at hgro fb;have jL:(L.map ad).length=L.length:=by simp
 have hptr:=JD gX go;have xv:X.bH<i9.next:=by rw[hX];exact bn
 have vX:=cR xv;have vY:=cR (i:=Y) (n:=i9.next) (by rw[hY];(try dsimp only);omega);have vO:=cR vo;have vW:=cR vw
 have e1:(o=w)=False/\(w=o)=False:=⟨eq_false n1,eq_false fun e=>n1 e.symm⟩
 have e2:(o=X)=False/\(X=o)=False:=⟨eq_false n2,eq_false fun e=>n2 e.symm⟩
 have e3:(o=Y)=False/\(Y=o)=False:=⟨eq_false n3,eq_false fun e=>n3 e.symm⟩
 have e4:(X=Y)=False/\(Y=X)=False:=⟨eq_false hXY,eq_false fun e=>hXY e.symm⟩
 have e5:(X=w)=False/\(w=X)=False:=by
  have:X≠w:=fun e=>by rw[<-e,hX]at sw;(try dsimp only at sw);revert sw;decide
  exact⟨eq_false this,eq_false fun e=>this e.symm⟩
 have e6:(Y=w)=False/\(w=Y)=False:=by
  have:Y≠w:=fun e=>by rw[<-e,hY]at sw;(try dsimp only at sw);revert sw;decide
  exact⟨eq_false this,eq_false fun e=>this e.symm⟩
 have fzW:∀g:Rows,g w=some ⟨true,3,es.map ad⟩->iG g 5 (.own w 0 es.length)=some (.sl (es.map ad)):=fun g h=>eQ (e:=ad) h rfl fun x=>by simp[ad,bR,cW,ec]
 have fzO:∀g:Rows,g o=some ⟨true,3,(dx s es es.length).map ad⟩->iG g 4 (.own o 0 (dx s es es.length).length)=some (.sl ((dx s es es.length).map ad)):=fun g h=>eQ (e:=ad) h rfl fun x=>by simp[ad,bR,cW,ec]
 have hmw:(es.map ad).length=es.length:=by simp
 (try((repeat(revert N;apply g7));refine wk (tw3 @b0 @sK @vX) ?_;repeat(apply g6;intro N hN)));refine .inl ⟨_,au.x fb (fzr2 (by simp only[aK,aJ]) hptr),?_⟩;apply hN;clear hN N;have hmx:(dx s es es.length).length<=500:=hfw;have hgW:=fzW (bJ i9.get Y ⟨true,1,[[.own o 0 (dx s es es.length).length]]⟩) (sd (tw @e6 @gw));have hgO:=fzO (bJ i9.get Y ⟨true,1,[[.own o 0 (dx s es es.length).length]]⟩) (sd (tw @e3 @go))
 by_cases PT:L.length=0
 ·rw[if_pos PT]at hgro;have hd:decide ((L.length:Int)=0)=true:=decide_eq_true ae;have rW:decide (L.length=0)=true:=decide_eq_true PT;(try((repeat(revert N;apply g7));refine wk (tw9 @b0 @b2 @b3 @b9 @sK @rM @gX @gY (tw6 @jL @hd @rW @vX @vY @e4)) ?_;repeat(apply g6;intro N hN)));exact⟨[.own w 0 es.length,.agg [.own o 0 (dx s es es.length).length],.bool true,.int .i64 0],sd @b9,_,by simp only[gH,fY,bR,cW,mo,hgW,hgO,fK,ec,Option.map_some]<;>rfl,true,by rw[wI,<-hgro]⟩
 have W6:decide ((L.length:Int)=0)=false:=decide_eq_false ae;have Yi:decide (L.length=0)=false:=decide_eq_false PT;rw[if_neg PT]at hgro
 by_cases uQ:(steps:Int)<=(es.length:Int)
 ·rw[if_pos ae]at hgro;(try((repeat(revert N;apply g7));refine wk (tw9 @b0 @b2 @b3 @b9 @sK @rM @gX @gY (tw7 @jL @W6 @Yi @uQ @vX @vY @e4)) ?_;repeat(apply g6;intro N hN)));exact⟨[.own w 0 es.length,.agg [.own o 0 (dx s es es.length).length],.bool false,.int .i64 0],sd @b9,_,by simp only[gH,fY,bR,cW,mo,hgW,hgO,fK,ec,Option.map_some]<;>rfl,false,by rw[wI,<-hgro]⟩
 rw[if_neg ae]at hgro
 obtain⟨j,hj⟩:∃j,ue sch es.length L.length=j:=⟨_,rfl⟩
 have iL:j<L.length:=by rw[<-hj];exact nU ae
 rw[hj]at hgro;(try((repeat(revert N;apply g7));refine wk (tw9 @b0 @b2 @b3 @b9 @sK @rM @gX @gY (tw5 @jL @W6 @Yi @uQ @eW)) ?_;repeat(apply g6;intro N hN)));refine mb (fun e st=>∃n,st=⟨i9.get,n⟩/\i9.next<=n/\e 0=.dZ (aK s)/\e 2=.sl (sch.map bf)/\e 3=.int .i64 (steps:Int)/\e 9=.ptr Y 0 0/\e 12=.ptr X 0 0/\e 13=.own w 0 es.length/\e 14=.sl (L.map ad)/\e 15=.int .i64 (j:Int)) ?_ ?_
 ·rintro e st ⟨n,rfl,hn,c0,c2,c3,c9,qI,He,c14,c15⟩;apply hN;clear hN N;have jV:=fZ iL;have ox:(j:Int)<(L.length:Int):=ae;have A3:bc L j∈jP s (dx s es es.length):=by rw[hL];exact e7 iL
  have qb:=fun σ h1 h2=>MJ (X:=X) (o:=o) (l:=dx s es es.length) (σ:=σ) ae (bc L j) h1 h2
  obtain⟨x,hx⟩:∃x,bc L j=x:=⟨_,rfl⟩
  rw[hx]at jV hgro A3 qb;rw[ad]at jV qb;(try((repeat(revert N;apply g7));refine wk (tw9 @c0 @c2 @c3 @c9 @qI @He @c14 @c15 (tw3 @jV @jL @ox)) ?_;repeat(apply g6;intro N hN)));refine .inr (ax _ _ _ _ _ (fun r σ2 KN=>?_) (qb _ (sd @gX) (sd @go)));obtain⟨qb,hK⟩:=KN;obtain⟨g2,x2⟩:=σ2;(try dsimp only at qb hK);have Mh:=hK.1;(try dsimp only at Mh);have kX:=(hK.2 X aI).trans gX;have kY:=(hK.2 Y (by rw[hY];(try dsimp only);omega)).trans gY;have kW:=(hK.2 w aI).trans gw;(try dsimp only at kX kY kW);have wX:=cR (i:=X) (n:=x2) ae;have wY:=cR (i:=Y) (n:=x2) (by rw[hY];(try dsimp only);omega);have wW:=cR (i:=w) (n:=x2) ae;apply hN;clear hN N
  rcases qb with⟨h5,rfl⟩|⟨h5,o2,rfl,p1,p2,p3⟩
  ·rw[if_pos h5]at hgro;(try((repeat(revert N;apply g7));refine wk (tw9 @c0 @c2 @c3 @c9 @qI @He @kY @wX (tw @wY @wW)) ?_;repeat(apply g6;intro N hN)));exact⟨[.ck,.agg [.ck],.bool false,.int .i64 4],sd @c9,_,by simp only[gH,fY,bR,cW,mo,mN,fK,ec,Option.map_some]<;>rfl,false,by rw[wI,<-hgro]⟩
  ·rw[if_neg ae]at hgro;(try dsimp only at p1 p2 p3);have wo:=cR (i:=o2) (n:=x2) p3;have oX:=ew (a:=X) (b:=o2) ae;have oY:=ew (a:=Y) (b:=o2) (by rw[hY];(try dsimp only);omega);have oW:=ew (a:=w) (b:=o2) ae;have mU:=OI s es x;have nI:=oL x (dx s es es.length);have Xc:(es++[x]).length=es.length+1:=by simp
   have rX:=hgood.add A3 h5;have hes1:es.length<=16777215:=ae;have Fk:(es++[x]).map ad=es.map ad++[ad x]:=by simp
   rw[ad]at Fk;(try((repeat(revert N;apply g7));refine wk (tw9 @c0 @c2 @c3 @c9 @qI @He @kX @kY (tw9 @kW @wX @wY @wW @wo @oX @oY @oW (tw9 @e4 @e5 @e6 @jV @jL @ox @c14 @c15 (tw @hmw @hes1)))) ?_;repeat(apply g6;intro N hN)));refine⟨f,ae,es++[x],f,rfl,hgro,rX,by rw[Xc];omega,by rw[Xc,mU,nI];omega,⟨o2,⟨29015006,x2+1+1+1⟩,by rw[Xc];simp only[go_sem,↓reduceIte,Nat.reduceEqDiff,Nat.reduceAdd,Nat.reduceSub,Nat.reduceLeDiff,reduceCtorEq]<;>rfl,by rw[Fk];simp only[go_sem,↓reduceIte,Nat.reduceEqDiff,Nat.reduceAdd,Nat.reduceSub,Nat.reduceLeDiff,reduceCtorEq]<;>rfl,by rw[Xc,mU];simp only[go_sem,↓reduceIte,Nat.reduceEqDiff,Nat.reduceAdd,Nat.reduceSub,Nat.reduceLeDiff,reduceCtorEq,wX,e5]<;>rfl,by rw[Xc,mU];simp only[go_sem,↓reduceIte,Nat.reduceEqDiff,Nat.reduceAdd,Nat.reduceSub,Nat.reduceLeDiff,reduceCtorEq,wo,oX,oW,p1],fun e=>by rw[e]at p3;(try dsimp only at p3);omega,fun e=>by rw[e]at p2;omega,fun e=>by rw[e,hY]at p2;(try dsimp only at p2);omega,aI,aI,.inr rfl⟩,sd (tw4 @wY @e4 @e6 @kY),aI⟩
 ·intro N hN
  by_cases HN:sch.length=0
  ·have S4:j=0:=by rw[<-hj,ue,if_pos HN]
   have hsn:¬(0:Int)<(sch.length:Int):=ae;subst S4;(try((repeat(revert N;apply g7));refine wk (tw8 @b0 @b2 @b3 @b9 @sK @rM @eW @hsn) ?_;repeat(apply g6;intro N hN)));exact⟨_,rfl,aI,sd (tw @b0 @aK.eq_1),sd @b2,sd @b3,sd @b9,sd @sK,sd @rM,sd @g8,sl @g8⟩
  ·have hsn:(0:Int)<(sch.length:Int):=ae;have U8:((sch.length:Int)=0)=False:=eq_false ae;have UD:((L.length:Int)=0)=False:=eq_false ae;have sY:=pP es.length sch.length;have SS:es.length % sch.length<sch.length:=Nat.mod_lt _ ae;have hdi:((es.length % sch.length:Nat):Int)<(sch.length:Int):=ae;have NB:=DP SS;have UZ:=(hs (sch.getD (es.length % sch.length) 0) (by rw[List.getD_eq_getElem?_getD,i5 SS];exact List.getElem_mem SS)).1
   have W9:(sch.getD (es.length % sch.length) 0).tmod (L.length:Int)=(j:Int):=by
    rw[<-hj,ue,if_neg HN];have h9:=pP (sch.getD (es.length % sch.length) 0).toNat L.length
    rwa [Int.toNat_of_nonneg UZ]at h9
   generalize sch.getD (es.length % sch.length) 0=z at *;generalize es.length % sch.length=d at *;(try((repeat(revert N;apply g7));refine wk (tw9 @b0 @b2 @b3 @b9 @sK @rM @eW @hsn (tw7 @U8 @UD @jL @sY @hdi @NB @W9)) ?_;repeat(apply g6;intro N hN)));exact⟨_,rfl,aI,sd (tw @b0 @aK.eq_1),sd @b2,sd @b3,sd @b9,sd @sK,sd @rM,sd @g8,sd @W9⟩
theorem Lv {s:ar} {es:List aa} {i:Nat} (hA:fS s.ay (dx s es i)) (hf:eu s (dx s es i) (bc es i).aH (bc es i).bK=true):ei (dx s es i) (bc es i).aH<0:=
 (CG hA _).1 (by simp[eu]at hf;exact hf.1.2)
end V

namespace V
open Go.RowKit
abbrev iN (s:ar) (K:List aa):ar:=⟨s.ay,⟨K⟩,s.aQ⟩
theorem ko {s:ar} (hP:G2 s) {es:List aa}:∀i,i<=es.length->(∀j,j<i->j5 s es j=true)->fS s.ay (dx s es i)
 |0,_,_=>hP.ud
 |i+1,hi,h=>by
  have ih:=ko hP (es:=es) i ae fun j hj=>h j ae;have hg:=h i ae;rw[j5,Bool.and_eq_true,RE,Bool.and_eq_true]at hg;rw[jg s es ae];exact IS ih (of_decide_eq_true hg.2) hg.1.1 hg.1.2 hP.set.qj
theorem ua {s:ar} (hP:G2 s) {es:List aa}:∀i,i<=es.length->(∀j,j<i->j5 s es j=true)->xl s (es.take i,dx s es i)
 |0,_,_=>⟨fun q=>by simp[dx],by simp[dx]⟩
 |i+1,hi,h=>by
  have ih:=ua hP (es:=es) i ae fun j hj=>h j ae;have hg:=h i ae;rw[j5,Bool.and_eq_true,RE,Bool.and_eq_true]at hg;have hA:=ko hP (es:=es) i ae fun j hj=>h j ae;have:=ih.put (x:=bc es i) (Lv hA hg.1.2);rw[jg s es ae,Av ae];exact this
theorem vz (s:ar) (K l:List aa):jP (iN s K) l=jP s l:=rfl
def pS (w:World) (g t:Nat) (s:ByteArray):Prop:=∃(a:Addr) (c:Array Value) (ty ty0:TypeId),w.heap[g]? =some (.cells #[.iface t (.pointer (some a))] ty0 (0,0))/\w.heap[a.block]? =some (.cells c ty (0,0))/\w.cell? a=some (.string s)
def y8 (g t:Nat) (s:ByteArray):Row:=⟨false,1,[[.err g t s]]⟩
def AM (x y t:Nat) (s u:ByteArray):Rows:=fun id=>if id=sL x then some (y8 x t s)else if id=sL y then some (y8 y t u)else none
def Kx (x y:Nat):Names:=fun id=>if id=sL x then some ⟨x,1,1,none⟩else if id=sL y then some ⟨y,1,1,none⟩else none
variable {P:Program} {w:World} {ι:Names}
theorem pS.fw {g t:Nat} {s:ByteArray} (h:pS w g t s):∃v,w.cell? ⟨g,0,none⟩=some v/\lH P w (fun b=>b<w.heap.size) (.err g t s) v:=by
 obtain⟨a,c,ty,ty0,h1,h2,h3⟩:=h;have hc:w.cell? ⟨g,0,none⟩=some (.iface t (.pointer (some a))):=by simp[World.cell?,h1]
 exact⟨_,hc,.err g t s a c ty (Array.getElem?_eq_some_iff.1 h1).1 hc (Array.getElem?_eq_some_iff.1 h2).1 h2 h3⟩
theorem pS.obj {g t:Nat} {s:ByteArray} (h:pS w g t s):jl P w (fun b=>b<w.heap.size) ι ⟨g,1,1,none⟩ (y8 g t s):=by
 obtain⟨v,hv,hi⟩:=h.fw (P:=P);obtain⟨a,c,ty,ty0,h1,_⟩:=h;refine mi.obj ⟨rfl,⟨_,_,h1,rfl⟩,Nat.le_refl _,?_,?_,?_⟩ rfl
 ·intro cs eD;rw[List.mem_singleton.1 eD];rfl
 ·intro cs eD a ha;rw[List.mem_singleton.1 eD]at ha;rw[List.mem_singleton.1 ha];rfl
 ·intro i j cs a hi hj
  cases i with
  |zero=>
   simp[y8]at hi;subst hi
   cases j with
   |zero=>
    simp at hj
    subst hj;exact⟨v,by simpa using hv,.fw _ _ hi⟩
   |succ j=>simp at hj
  |succ i=>simp[y8]at hi
theorem Un {x y:Nat} (h:x≠y):sL y≠sL x:=fun e=>by
 have:=congrArg Id.site e;simp only[sL]at this;omega
theorem Ul {x y t:Nat} {s u:ByteArray} (ju:x≠y) (h1:pS w x t s) (h2:pS w y t u):iE P w.heap.size (fun b=>b<w.heap.size) (Kx x y) (AM x y t s u) w:=by
 refine⟨Nat.le_refl _,fun _ h=>h,fun id r h=>?_,fun id lP r r' B B' h h' hw=>?_⟩
 ·unfold AM at h;unfold Kx
  split at h
  ·rename_i e;injection h with h
   subst h;rw[if_pos e];exact⟨_,rfl,h1.obj,fun h=>(by cases h),fun h=>(by cases h)⟩
  ·rename_i e;rw[if_neg e]
   split at h
   ·rename_i e2;injection h with h
    subst h;rw[if_pos e2];exact⟨_,rfl,h2.obj,fun h=>(by cases h),fun h=>(by cases h)⟩
   ·cases h
 ·exfalso;unfold AM at h
  split at h
  ·injection h with h;subst h;cases hw
  ·split at h
   ·injection h with h;subst h;cases hw
   ·cases h
theorem QB (x y:Nat):Used (Kx x y) 1 (fun _=>False):=fun id h=>.inl (by
 unfold Kx at h
 split at h
 ·rename_i e;rw[e];exact Nat.zero_lt_one
 ·split at h
  ·rename_i e;rw[e];exact Nat.zero_lt_one
  ·exact absurd rfl h)
theorem Rj (hm:P.follows .mixedOrders=true) {f:Nat} {args:List AV} {vs:Array Value} {x y t:Nat} {s u:ByteArray} (ju:x≠y) (h:Call P f args ⟨AM x y t s u,1⟩ fun r _=>r=.bool true)
  (h1:pS w x t s) (h2:pS w y t u) (hA:gI P w (fun b=>b<w.heap.size) (fun _=>none) args vs):
  Calls P f vs w fun e w'=>e=.returned (.bool true)/\Below w.heap.size w w':=by
 have XX:gI P w (fun b=>b<w.heap.size) (Kx x y) args vs:=⟨hA.1,fun j a hj=>by
  obtain⟨v,k1,k2⟩:=hA.2 j a hj
  exact⟨v,k1,k2.frame (fun _ _=>rfl) (fun _ h=>h) fun id B hB=>(by cases hB)⟩⟩
 refine(iO hm h w.heap.size (fun b=>b<w.heap.size) (Kx x y) w vs (Ul ju h1 h2) (QB x y) XX).mono ?_;rintro e w' ⟨r,g',n',D',ι',v,rfl,rfl,ez,hsim,_,_,jv⟩;exact⟨by rw[gx jv],ez.below⟩
theorem Uj (x y t:Nat) (s u:ByteArray):AM x y t s u (sL x)=some ⟨false,1,[[.err x t s]]⟩:=by unfold AM;rw[if_pos rfl];rfl
theorem Uk {x y:Nat} (h:x≠y) (t:Nat) (s u:ByteArray):AM x y t s u (sL y)=some ⟨false,1,[[.err y t u]]⟩:=by unfold AM;rw[if_neg (Un h),if_pos rfl];rfl
end V

namespace V
open Go.RowKit Go.ChangeShapes Go.WideShapes Go.ChangeAt
theorem Lf {P:Program} {n0 n1 nm:String} {Tx Ty:List UInt8} {r:List (String×DataW Unit)} {W:World} {g0 g1:Nat} {ti tp te ts:TypeId} {ms:Array (String×TypeId)} {f:Field}
  (h:laidMet P ((n0,.iface nm (.ptr (.agg [.lit (.string Tx)])))::(n1,.iface nm (.ptr (.agg [.lit (.string Ty)])))::r) W)
  (SZ:P.globalNamed n0=some g0) (YR:(P.globals[g0]?).map (·.type)=some ti) (AR:P.globalNamed n1=some g1) (ht1:(P.globals[g1]?).map (·.type)=some ti)
  (hi:P.underlying ti=some (.interface ms)) (eP:∀u,P.typeName? 3 u=some nm->u=tp)
  (hp:P.underlying tp=some (.pointer te)) (he:P.underlying te=some (.struct #[f])) (Yp:f.type=ts) (NA:f.offset=0) (hs:P.underlying ts=some .string) (hc:P.cellsOf te=1) (eD:P.cellsOf ts=1):
  ∃a0 a1:Addr,W.var? P n0=some #[.iface tp (.pointer (some a0))]/\W.var? P n1=some #[.iface tp (.pointer (some a1))]/\pS W g0 tp ⟨Tx.toArray⟩/\pS W g1 tp ⟨Ty.toArray⟩:=by
 obtain⟨ps,⟨g0',t0',ZR,f0,p0,q0,Yr,ht0',wi,Yg,⟨PQ,t1',cs1,f1,p1,q1,Ys,ht1',tG,sY,_,e1⟩,e0⟩,uk,km⟩:=h;obtain rfl:=Option.some.inj (SZ.symm.trans Yr);obtain rfl:=Option.some.inj (AR.symm.trans Ys);obtain rfl:=Option.some.inj (YR.symm.trans ht0');obtain rfl:=Option.some.inj (ht1.symm.trans ht1');subst e1;subst e0;obtain⟨l0⟩:=ZR;obtain⟨l1⟩:=cs1
 have ok0:∀u v,l0=[.iface u v]->Value.okWide P W .any 0 u v:=fun u v e=>by
  subst e;exact(km g0 0 (by simp[MemPlace.row])).2 u v (by simpa using World.var?_cell Yr wi 0)
 have ok1:∀u v,l1=[.iface u v]->Value.okWide P W .any 0 u v:=fun u v e=>by
  subst e;exact(km g1 0 (by simp[MemPlace.row])).2 u v (by simpa using World.var?_cell Ys tG 0)
 obtain⟨a0,s0,rfl,mv,HN,Ml,rfl⟩:=errorString_of_trod hi eP hp he Yp NA hs hc eD Yg ok0;obtain⟨a1,s1,rfl,uh,Dj,wq,rfl⟩:=errorString_of_trod hi eP hp he Yp NA hs hc eD sY ok1;have k0:=km g0 0 (by simp[MemPlace.row]);have k1:=km g1 0 (by simp[MemPlace.row]);obtain⟨c0,t0,HF⟩:=(km a0.block a0.off (by simp[MemPlace.row])).1;obtain⟨c1,t1,UK⟩:=(km a1.block a1.off (by simp[MemPlace.row])).1
 have XV:∀{n:String} {g:Nat} {v:Value},P.globalNamed n=some g->W.var? P n=some #[v]->(∃c t,W.heap[g]? =some (.cells c t (0,0)))->∃t,W.heap[g]? =some (.cells #[v] t (0,0)):=fun {n g v} hg hv ⟨c,t,hb⟩=>by
  unfold World.var? at hv;rw[hg]at hv;simp only[Option.bind_some,hb,Option.some.injEq]at hv;exact⟨t,by rw[hb,hv]⟩
 obtain⟨y0,z0⟩:=XV SZ wi k0.1;obtain⟨y1,z1⟩:=XV AR tG k1.1
 have str:∀{s:ByteArray} {l:List UInt8},s.data.toList=l->s=⟨l.toArray⟩:=fun {s l} e=>by
  subst e;cases s;simp
 rw[str HN]at mv;rw[str Dj]at uh;exact⟨a0,a1,wi,tG,⟨a0,c0,t0,y0,z0,HF,mv⟩,⟨a1,c1,t1,y1,z1,UK,uh⟩⟩
theorem var?_below {P:Program} {n:String} {W W':World} {g:Nat} {x:Array Value} (hg:P.globalNamed n=some g) (hv:W.var? P n=some x) (hb:Below W.heap.size W W'):W'.var? P n=some x:=by
 rw[<-hv];unfold World.var? at hv ⊢;rw[hg]at hv ⊢;simp only[Option.bind_some]at hv ⊢
 have eG:g<W.heap.size:=by
  rcases Nat.lt_or_ge g W.heap.size with h'|h'
  ·exact h'
  ·rw[Array.getElem?_eq_none h']at hv;cases hv
 rw[hb.block g eG]
def gT:Nat:=0
def gN:Nat:=1
def tE:Nat:=293
def sT:ByteArray:=⟨#[110,111,32,116,105,108,101,32,99,97,110,32,97,116,116,97,99,104]⟩
def sN:ByteArray:=⟨#[116,111,111,32,109,97,110,121,32,116,105,108,101,115]⟩
theorem sTN:sT≠sN:=by decide
theorem Nl:Tryz.prog.globalNamed "loop.example/g01081/impl.errTerminal" =some gT:=by kernel_rfl
theorem Nk:Tryz.prog.globalNamed "loop.example/g01081/impl.errNoSpace" =some gN:=by kernel_rfl
theorem SJ:(Tryz.prog.globals[gT]?).map (·.type)=some 135:=by kernel_rfl
theorem SI:(Tryz.prog.globals[gN]?).map (·.type)=some 135:=by kernel_rfl
theorem VJ:Tryz.prog.cellsOf 319=1:=by kernel_rfl
theorem VM:Tryz.prog.cellsOf 9=1:=by kernel_rfl
theorem JO: "*" ++ "errors.errorString" = "*errors.errorString" :=by decide
theorem VK (u:TypeId) (h:Tryz.prog.typeName? 3 u=some "*errors.errorString"):u=293:=
 typeName_ptr_named (nm:= "errors.errorString") (by rw[JO];kernel_rfl) g9 (by decide) u (by rw[JO];exact h)
theorem Lg {W:World} {r:List (String×DataW Unit)} (h:laidMet Tryz.prog (("loop.example/g01081/impl.errTerminal",Rows.laid_loop_example_g01081_impl_errTerminal)::("loop.example/g01081/impl.errNoSpace",Rows.laid_loop_example_g01081_impl_errNoSpace)::r) W):
  ∃a0 a1:Addr,W.var? Tryz.prog "loop.example/g01081/impl.errTerminal" =some #[.iface tE (.pointer (some a0))]/\W.var? Tryz.prog "loop.example/g01081/impl.errNoSpace" =some #[.iface tE (.pointer (some a1))]/\pS W gT tE sT/\pS W gN tE sN:=
 Lf h Nl SJ Nk SI Tryz.underlying135 VK Tryz.underlying293 Tryz.underlying319 rfl rfl Tryz.underlying9 VJ VM
end V

namespace V
open Go.RowKit
attribute [local irreducible] dY wpOps fm Call
theorem Zs (sch:List Int) (hs:∀x∈sch,0<=x/\x<=1000) (nI:sch.length<=200) (n d:Nat) (hn:0<n):au Tryz.prog 134 [.int .i64 (n:Int),.int .i64 (d:Int),.dZ [.sl (sch.map bf)]] (.int .i64 (ue sch d n:Int)):=by
 refine au.body fx rfl fun fM n0=>?_;clear fM;have eW:(sch.map bf).length=sch.length:=by simp
 by_cases HN:sch.length=0
 ·have hz:decide ((sch.length:Int)=0)=true:=decide_eq_true ae;(try((repeat(revert N;apply g7));refine wk (tw @eW @hz) ?_;repeat(apply g6;intro N hN)));exact ed (b:=0) (.inl rfl) (sd @g8) (by rw[ue,if_pos HN];rfl)
 ·have hz:decide ((sch.length:Int)=0)=false:=decide_eq_false ae;have U8:((sch.length:Int)=0)=False:=eq_false ae;have UD:((n:Int)=0)=False:=eq_false ae;have sY:=pP d sch.length;have SS:d % sch.length<sch.length:=Nat.mod_lt _ ae;have hdi:((d % sch.length:Nat):Int)<(sch.length:Int):=ae;have NB:=DP SS;have UZ:=(hs (sch.getD (d % sch.length) 0) (by rw[List.getD_eq_getElem?_getD,i5 SS];exact List.getElem_mem SS)).1
  have W9:(sch.getD (d % sch.length) 0).tmod (n:Int)=(ue sch d n:Int):=by
   rw[ue,if_neg HN];have h9:=pP (sch.getD (d % sch.length) 0).toNat n
   rwa [Int.toNat_of_nonneg UZ]at h9
  generalize sch.getD (d % sch.length) 0=z at *;generalize d % sch.length=dd at *;(try((repeat(revert N;apply g7));refine wk (tw8 @eW @hz @U8 @UD @sY @hdi @NB @W9) ?_;repeat(apply g6;intro N hN)));exact ed (.inl rfl) (sd @W9) rfl
def jA (g:Rows):Prop:=(∃b,g (sL 0)=some ⟨b,1,[[.err 0 tE sT]]⟩)/\∃b,g (sL 1)=some ⟨b,1,[[.err 1 tE sN]]⟩
theorem jA.frame {g g':Rows} (h:jA g) {n:Nat} (hn:1<=n) (hf:∀x:Id,x.bH<n->x.site=999000000∨x.site=999000001->g' x=g x):jA g':=by
 obtain⟨⟨b,h1⟩,c,h2⟩:=h;exact⟨⟨b,(hf (sL 0) hn (.inl rfl)).trans h1⟩,c,(hf (sL 1) hn (.inr rfl)).trans h2⟩
theorem kb (k:Nat):(sL k).bH=0:=rfl
def Xv (σ:aw) (c T O:Id) (s:ar) (K:List aa) (sch:List Int) (es:List aa) (r:AV) (σ':aw):Prop:=
 σ.next<=σ'.next/\(∀x:Id,x.bH<σ.next->x≠T->x≠O->σ'.get x=σ.get x)/\
 ((jP (iN s K) (dx (iN s K) es es.length)=[]/\r=.gG [.agg [.int .i64 0,.int .i64 0,.int .i64 0],.err 0 tE sT]/\sI σ'.get σ'.next c T O s (K++es))∨(jP (iN s K) (dx (iN s K) es es.length)≠[]/\500<=(dx (iN s K) es es.length).length/\r=.gG [.agg [.int .i64 0,.int .i64 0,.int .i64 0],.err 1 tE sN])∨(jP (iN s K) (dx (iN s K) es es.length)≠[]/\(dx (iN s K) es es.length).length<500/\r=.gG [.agg (ad (bc (jP (iN s K) (dx (iN s K) es es.length)) (ue sch es.length (jP (iN s K) (dx (iN s K) es es.length)).length))),.j4]/\sI σ'.get σ'.next c T O s (K++(es++[bc (jP (iN s K) (dx (iN s K) es es.length)) (ue sch es.length (jP (iN s K) (dx (iN s K) es es.length)).length)]))))
theorem Ou {σ:aw} {c T O B:Id} {s:ar} {K:List aa} (hP:G2 (iN s K)) {es:List aa} (hG:iI (iN s K) es) (h:sI σ.get σ.next c T O s (K++es)) (hE:jA σ.get) (AD:1<=σ.next)
  {sch:List Int} (hs:∀x∈sch,0<=x/\x<=1000) (nI:sch.length<=200) {bw:Bool} (hB:σ.get B=some ⟨bw,1,[[.sl (sch.map bf)]]⟩) (QI:B.bH<σ.next):
  Call Tryz.prog 95 [.ptr c 0 0,.fn 134 [.ptr B 0 0],.int .i64 (es.length:Int)] σ (Xv σ c T O s K sch es):=by
 refine tg (cfM [(3,2),(5,2)]) rfl fun fM=>?_;clear fM;have hT:1<=s.aQ:=(dV hP.DY).1;have fV:gz s.ay:=hP.set;have hA:=ko hP (es:=es) es.length i4 hG;have hA:fS s.ay (dx (iN s K) es es.length):=hA;have UG:=ua hP (es:=es) es.length i4 hG;rw[List.take_length]at UG
 have wL:iQ s (K++es)=iQ s (dx (iN s K) es es.length):=by
  funext q
  unfold iQ;exact rU (fun t=>(UG.fit q t:eu s (K++es) q t=eu s (dx (iN s K) es es.length) q t)) _
 have mA:(dx (iN s K) es es.length).length=K.length+es.length:=nn (iN s K) es es.length i4;have sM:=hA.1.oG;have v1:=cR (i:=sL 0) (n:=σ.next) (by rw[kb];omega);have v2:=cR (i:=sL 1) (n:=σ.next) (by rw[kb];omega);have v3:=cR h.o.cv;have v4:=cR h.o.tv;have v5:=cR h.o.ov;have v6:=cR QI;have eP:=h.o.row;have AE:=h.o.tl;obtain⟨⟨b0,hE0⟩,b1,X0⟩:=hE;(try((repeat(revert N;apply g7));refine wk (tw @eP @v3) ?_;repeat(apply g6;intro N hN)))
 refine .inr (ax _ _ _ _ _ (fun r σ1 hq=>?_) (Vj (c:=c) (T:=T) (O:=O) (l:=dx (iN s K) es es.length) ⟨sd (tw @eP @v3),by have:=h.o.cv;(try dsimp only);omega,by have:=h.o.ov;(try dsimp only);omega,by
  obtain⟨en,a1,a2⟩:=h.op;rw[wL]at a2
  exact⟨en,sd (tw @a1 @v5),a2.frame aI fun x hx _=>by
   have h1:=cR hx
   simp only[go_sem,↓reduceIte,Nat.reduceEqDiff,Nat.reduceAdd,Nat.reduceSub,Nat.reduceLeDiff,reduceCtorEq,h1]⟩⟩ hT fV hA))
 obtain⟨g1,x1⟩:=σ1;obtain⟨hn,hf,hL⟩:=hq;(try dsimp only at hn hf hL)
 have AO:sI g1 x1 c T O s (K++es):=h.frame ae fun x hx=>by
  have h1:=cR hx;have h2:=hf x aI;simp only[go_sem,↓reduceIte,Nat.reduceEqDiff,Nat.reduceAdd,Nat.reduceSub,Nat.reduceLeDiff,reduceCtorEq,h1]at h2;exact h2
 have k0:=hf (sL 0) (by rw[kb];(try dsimp only);omega);have k1:=hf (sL 1) (by rw[kb];(try dsimp only);omega);have kB:=hf B aI;have kr:=hf ⟨95000000,σ.next⟩ aI;simp only[go_sem,↓reduceIte,Nat.reduceEqDiff,Nat.reduceAdd,Nat.reduceSub,Nat.reduceLeDiff,reduceCtorEq,v1,hE0]at k0;simp only[go_sem,↓reduceIte,Nat.reduceEqDiff,Nat.reduceAdd,Nat.reduceSub,Nat.reduceLeDiff,reduceCtorEq,v2,X0]at k1;simp only[go_sem,↓reduceIte,Nat.reduceEqDiff,Nat.reduceAdd,Nat.reduceSub,Nat.reduceLeDiff,reduceCtorEq,v6,hB]at kB;simp only[go_sem,↓reduceIte,Nat.reduceEqDiff,Nat.reduceAdd,Nat.reduceSub,Nat.reduceLeDiff,reduceCtorEq]at kr;have NQ:=AO.o.row;have Vd:=AO.o.tl;have w0:=cR (i:=sL 0) (n:=x1) (by rw[kb];omega);have w1:=cR (i:=sL 1) (n:=x1) (by rw[kb];omega);have w2:=cR (i:=(⟨95000000,σ.next⟩:Id)) (n:=x1) aI;have w3:=cR AO.o.cv;have w4:=cR AO.o.tv;have w6:=cR (i:=B) (n:=x1) ae;have u0:(sL 0=(⟨95000000,σ.next⟩:Id))=False:=eq_false fun e=>by have:=congrArg Id.bH e;rw[kb]at this;(try dsimp only at this);omega
 have u1:(sL 1=(⟨95000000,σ.next⟩:Id))=False:=eq_false fun e=>by have:=congrArg Id.bH e;rw[kb]at this;(try dsimp only at this);omega
 have base:∀x:Id,x.bH<σ.next->g1 x=σ.get x:=fun x hx=>by
  have h1:=cR hx;have h2:=hf x aI;simp only[go_sem,↓reduceIte,Nat.reduceEqDiff,Nat.reduceAdd,Nat.reduceSub,Nat.reduceLeDiff,reduceCtorEq,h1]at h2;exact h2
 apply hN;clear hN N;have NI:((K++es).map ad).length=(dx (iN s K) es es.length).length:=by rw[List.length_map,i6,mA]
 rw[show ur (eu s (dx (iN s K) es es.length)) s.ay.aq.length (jF (dx (iN s K) es es.length))=jP s (dx (iN s K) es es.length)from rfl]at hL;have P4:=OA fV hA;have p0:(sL 0).site=999000000:=rfl;have p1:(sL 1).site=999000001:=rfl
 rcases hL with⟨hO,rfl⟩|⟨u,rfl,gu,z1,z2,z3,z4⟩
 ·have Ml:decide (((0:Nat):Int)=0)=true:=rfl;have wq:decide ((0:Int)=0)=true:=rfl;(try((repeat(revert N;apply g7));refine wk (tw7 @k0 @kr @w0 @u0 @p0 @Ml @wq) ?_;repeat(apply g6;intro N hN)));refine fJ ?_ ?_
  ·(try((repeat(revert N;apply g7));refine wk (tw5 @k0 @kr @w0 @u0 @p0) ?_;repeat(apply g6;intro N hN)))
   exact eH (.inl rfl) (vs:=[.agg [.int .i64 0,.int .i64 0,.int .i64 0],.err 0 tE sT]) (sd @g8) ⟨aI,fun x hx _ _=>by
    have q1:=cR hx
    simp only[go_sem,↓reduceIte,Nat.reduceEqDiff,Nat.reduceAdd,Nat.reduceSub,Nat.reduceLeDiff,reduceCtorEq,q1,base x hx],.inl ⟨hO,rfl,h.frame aI fun x hx=>by
     have q1:=cR hx
     simp only[go_sem,↓reduceIte,Nat.reduceEqDiff,Nat.reduceAdd,Nat.reduceSub,Nat.reduceLeDiff,reduceCtorEq,q1,base x hx]⟩⟩
  ·(try((repeat(revert N;apply g7));refine wk (tw5 @k0 @kr @w0 @u0 @p0) ?_;repeat(apply g6;intro N hN)))
   exact eH (.inl rfl) (vs:=[.agg [.int .i64 0,.int .i64 0,.int .i64 0],.err 0 tE sT]) (sd @g8) ⟨aI,fun x hx _ _=>by
    have q1:=cR hx
    simp only[go_sem,↓reduceIte,Nat.reduceEqDiff,Nat.reduceAdd,Nat.reduceSub,Nat.reduceLeDiff,reduceCtorEq,q1,base x hx],.inl ⟨hO,rfl,h.frame aI fun x hx=>by
     have q1:=cR hx
     simp only[go_sem,↓reduceIte,Nat.reduceEqDiff,Nat.reduceAdd,Nat.reduceSub,Nat.reduceLeDiff,reduceCtorEq,q1,base x hx]⟩⟩
 ·generalize hO:jP s (dx (iN s K) es es.length)=L at *;have PT:decide ((L.length:Int)=0)=false:=decide_eq_false ae;have ju:L≠[]:=fun e=>by rw[e]at z3;simp at z3
  by_cases uQ:500<=(dx (iN s K) es es.length).length
  ·have W7:(500:Int)<=((dx (iN s K) es es.length).length:Int):=ae;(try((repeat(revert N;apply g7));refine wk (tw9 @k1 @kr @w1 @w2 @u1 @p1 @PT @NQ (tw5 @w3 @Vd @w4 @NI @W7)) ?_;repeat(apply g6;intro N hN)));refine fJ ?_ ?_
   ·(try((repeat(revert N;apply g7));refine wk (tw6 @k1 @kr @w1 @w2 @u1 @p1) ?_;repeat(apply g6;intro N hN)))
    exact eH (.inl rfl) (vs:=[.agg [.int .i64 0,.int .i64 0,.int .i64 0],.err 1 tE sN]) (sd @g8) ⟨aI,fun x hx _ _=>by
     have q1:=cR hx
     simp only[go_sem,↓reduceIte,Nat.reduceEqDiff,Nat.reduceAdd,Nat.reduceSub,Nat.reduceLeDiff,reduceCtorEq,q1,base x hx],.inr (.inl ⟨by rw[vz,hO];exact ju,uQ,rfl⟩)⟩
   ·(try((repeat(revert N;apply g7));refine wk (tw6 @k1 @kr @w1 @w2 @u1 @p1) ?_;repeat(apply g6;intro N hN)))
    exact eH (.inl rfl) (vs:=[.agg [.int .i64 0,.int .i64 0,.int .i64 0],.err 1 tE sN]) (sd @g8) ⟨aI,fun x hx _ _=>by
     have q1:=cR hx
     simp only[go_sem,↓reduceIte,Nat.reduceEqDiff,Nat.reduceAdd,Nat.reduceSub,Nat.reduceLeDiff,reduceCtorEq,q1,base x hx],.inr (.inl ⟨by rw[vz,hO];exact ju,uQ,rfl⟩)⟩
  ·have W7:decide ((500:Int)<=((dx (iN s K) es es.length).length:Int))=false:=decide_eq_false ae
   obtain⟨j,hj⟩:∃j,ue sch es.length L.length=j:=⟨_,rfl⟩
   have iL:j<L.length:=by rw[<-hj];exact nU z3
   have ox:(j:Int)<(L.length:Int):=ae;have Va:=Zs sch hs nI L.length es.length z3;rw[hj]at Va;have jV:=fZ iL;have A3:bc L j∈jP s (dx (iN s K) es es.length):=by rw[hO];exact e7 iL
   obtain⟨x,hx⟩:∃x,bc L j=x:=⟨_,rfl⟩
   rw[hx]at jV A3;obtain⟨hxt,hxf⟩:=zW A3
   have hxp:s9 x.aH=true:=by
    unfold eu at hxf;simp only[Bool.and_eq_true]at hxf;exact hxf.1.1
   have GO:ei (K++es) x.aH<0:=UG.no (Na hA (fun _ h=>h) hxf);rw[ad]at jV;have jL:(L.map ad).length=L.length:=by simp
   (have zF:=tw9 @k1 @kr @kB @w1 @w2 @w6 @u1 @p1 (tw9 @PT @NQ @w3 @Vd @w4 @NI @W7 @gu (tw3 @jL @ox @jV));(repeat(first|((repeat(revert N;apply g7));refine wk zF ?_;repeat(apply g6;intro N hN))|((try apply i3);refine⟨_,au.x (Va) (sd zF),?_⟩;apply hN;clear hN N)));try clear zF)
   have hF:∀q,0<=ej (K++es) q->eE s.ay (ej (K++es) q)=true:=fun q h=>by
    have e:ej (K++es) q=ej (dx (iN s K) es es.length) q:=UG.at_ q;rw[e]at h ⊢;exact gz.EF hA q h
   have hpu:=fun(σ:aw) (h:sI σ.get σ.next c T O s (K++es))=>Zl h fV hF x.aH hxp x.bK hxt GO;rw[ab]at hpu
   refine .inr (ax _ _ _ _ _ (fun r σ2 hq=>?_) (hpu _ (AO.frame aI fun y hy=>by
    have q:=cR hy
    simp only[go_sem,↓reduceIte,Nat.reduceEqDiff,Nat.reduceAdd,Nat.reduceSub,Nat.reduceLeDiff,reduceCtorEq,q])))
   obtain⟨g2,x2⟩:=σ2;obtain⟨rfl,XY,n3,f3⟩:=hq;(try dsimp only at XY n3 f3);have Eg:=h.o.tv;have HE:=h.o.ov;have kr2:=f3 ⟨95000000,σ.next⟩ aI (fun e=>by rw[<-e]at Eg;(try dsimp only at Eg);omega) (fun e=>by rw[<-e]at HE;(try dsimp only at HE);omega);have kx2:=f3 ⟨95006008,x1+1+1+1⟩ aI (fun e=>by rw[<-e]at Eg;(try dsimp only at Eg);omega) (fun e=>by rw[<-e]at HE;(try dsimp only at HE);omega);simp only[go_sem,↓reduceIte,Nat.reduceEqDiff,Nat.reduceAdd,Nat.reduceSub,Nat.reduceLeDiff,reduceCtorEq,w2,kr]at kr2;simp only[go_sem,↓reduceIte,Nat.reduceEqDiff,Nat.reduceAdd,Nat.reduceSub,Nat.reduceLeDiff,reduceCtorEq]at kx2;apply hN;clear hN N;(try((repeat(revert N;apply g7));refine wk (tw @kr2 @kx2) ?_;repeat(apply g6;intro N hN)));refine eH (.inl rfl) (vs:=[.agg [.int .i64 x.aH.eV,.int .i64 x.aH.eR,.int .i64 x.bK],.j4]) (sd @g8) ⟨aI,fun y hy A4 hyO=>?_,.inr (.inr ⟨by rw[vz,hO];exact ju,ae,by rw[vz,hO,hj,hx];rfl,?_⟩)⟩
   ·have q1:=cR hy;have q2:=f3 y aI A4 hyO;have q3:=cR (i:=y) (n:=x1) ae;simp only[go_sem,↓reduceIte,Nat.reduceEqDiff,Nat.reduceAdd,Nat.reduceSub,Nat.reduceLeDiff,reduceCtorEq,q3]at q2;simp only[go_sem,↓reduceIte,Nat.reduceEqDiff,Nat.reduceAdd,Nat.reduceSub,Nat.reduceLeDiff,reduceCtorEq,q1];exact q2.trans (base y hy)
   ·rw[vz,hO,hj,hx,<-List.append_assoc];have e6:∀y:Id,y.bH<σ.next->(y=(⟨95000000,σ.next⟩:Id))=False:=fun y hy=>eq_false fun e=>by rw[e]at hy;(try dsimp only at hy);omega
    have u6c:=e6 c h.o.cv;have u6T:=e6 T Eg;have u6O:=e6 O HE;obtain⟨en,a1,a2⟩:=XY.op;refine⟨XY.o.three aI (sd @u6c) (sd @u6T) (sd @u6O),en,sd (tw @u6O @a1),a2.frame aI fun y hy ⟨k,r,hk⟩=>?_⟩
    have hne6:(y=(⟨95000000,σ.next⟩:Id))=False:=eq_false fun e=>by
     rw[e,kr2]at hk
     simp at hk
    simp only[go_sem,↓reduceIte,Nat.reduceEqDiff,Nat.reduceAdd,Nat.reduceSub,Nat.reduceLeDiff,reduceCtorEq,hne6]
end V

namespace V
open Go.RowKit Go.Extern.Stop Go.Stop Go.Extern
theorem FG (v:Value) (w:World):(Extern.ReflectliteType.typeOf #[.iface 293 v]).run Tryz.prog w=.ok (.iface 206 (.agg #[.pointer (some ⟨2,293,none⟩)])) w:=by kernel_rfl
def CR:Array Value->Sem Value:=Extern.ReflectliteType.method fun t=>do Extern.Rtype.noPackHeld "Comparable" t;pure (.bool (<-typeInfo t).comparable)
theorem uX (w:World):(CR #[.agg #[.pointer (some ⟨2,293,none⟩)]]).run Tryz.prog w=.ok (.bool true) w:=by kernel_rfl
theorem mZ (v:Value) (w:World):(Go.method 431 206 v "Comparable").run Tryz.prog w=.ok (249,v) w:=by kernel_rfl
theorem N0:(Tryz.prog.info? 293).map (·.comparable)=some true:=by kernel_rfl
theorem N1:(Tryz.prog.info? 319).map (·.size)=some 1:=by kernel_rfl
theorem Ze (v:Value) (xT:TypeId) (w:World):(Instr.typeAssert (.iface 293 v) xT 208 true).run Tryz.prog w=.ok (.tuple #[.nilIface,.bool false]) w:=run_typeAssert_lacksB Tryz.underlying208 g9 g9 v xT w
theorem Lq (v:Value) (xT:TypeId) (w:World):(Instr.typeAssert (.iface 293 v) xT 211 true).run Tryz.prog w=.ok (.tuple #[.nilIface,.bool false]) w:=run_typeAssert_lacksB Tryz.underlying211 g9 g9 v xT w
theorem H3 (v:Value) (xT:TypeId) (w:World):(Instr.typeAssert (.iface 293 v) xT 213 true).run Tryz.prog w=.ok (.tuple #[.nilIface,.bool false]) w:=run_typeAssert_lacksB Tryz.underlying213 g9 g9 v xT w
theorem Rf (a:Addr) (w:World):
  Calls Tryz.prog 96 #[.iface 293 (.pointer (some a)),.iface 293 (.pointer (some a))] w fun e w'=>e=.returned (.bool true)/\w'=w:=by
 obtain⟨i,hi,UN⟩:=i7.1 N0;obtain⟨j,hj,hjs⟩:=i7.1 N1;have h8:=@run_callFunc_extern Tryz.prog 137 _ Extern.ReflectliteType.typeOf Tryz.func137 g9 g9 g9 g9;have h32:=@run_callFunc_extern Tryz.prog 249 _ CR Tryz.func249 g9 g9 g9 g9;have tT:=FG;have cT:=uX;have mR:=mZ;have heq:=run_eql_iface_ptr_same (P:=Tryz.prog) w a Tryz.underlying135 Tryz.underlying293 hi UN hj
 go_enter Tryz.func96,Tryz.ntmps96
 go_wp2
 refine wp_loop_rounds 1 ?_;rw[rounds_succ]
 go_wp2
 go_ret
 exact⟨rfl,rfl⟩
theorem Vi (b:Addr) (w:World):
  Calls Tryz.prog 96 #[.nilIface,.iface 293 (.pointer (some b))] w fun e w'=>e=.returned (.bool false)/\w'=w:=by
 have hn:=run_eql_iface_nil_left (P:=Tryz.prog) w 293 (.pointer (some b)) Tryz.underlying135
 go_enter Tryz.func96,Tryz.ntmps96
 go_wp2
 go_ret
 exact⟨rfl,rfl⟩
theorem N3 (a b:Addr) (ca cb:Array Value) (ta tb:TypeId) (w:World) (ju:a≠b) (ha:w.heap[a.block]? =some (.cells ca ta (0,0))) (hb:w.heap[b.block]? =some (.cells cb tb (0,0))):
  Calls Tryz.prog 96 #[.iface 293 (.pointer (some a)),.iface 293 (.pointer (some b))] w fun e w'=>e=.returned (.bool false)/\w'=w:=by
 obtain⟨i,hi,UN⟩:=i7.1 N0;obtain⟨j,hj,hjs⟩:=i7.1 N1;have h8:=@run_callFunc_extern Tryz.prog 137 _ Extern.ReflectliteType.typeOf Tryz.func137 g9 g9 g9 g9;have h32:=@run_callFunc_extern Tryz.prog 249 _ CR Tryz.func249 g9 g9 g9 g9;have tT:=FG;have cT:=uX;have mR:=mZ;have nE:=Ze;have uE:=Lq;have vE:=H3;have heq:=run_eql_iface_ptr_other (P:=Tryz.prog) w Tryz.underlying135 Tryz.underlying293 hi UN hj (by rw[hjs];decide) ju ha hb
 go_enter Tryz.func96,Tryz.ntmps96
 go_wp2
 refine wp_loop_rounds 1 ?_;rw[rounds_succ]
 go_wp2
 go_ret
 exact⟨rfl,rfl⟩
variable {σ:aw}
theorem Aw {w:World} {D:Nat->Prop} {ι:Names} {x y:AV} {vs:Array Value} (h:gI Tryz.prog w D ι [x,y] vs):∃u v,vs= #[u,v]/\dX Tryz.prog w D ι x u/\dX Tryz.prog w D ι y v:=by
 obtain⟨h1,h2⟩:=h;obtain⟨u,e1,r1⟩:=h2 0 x rfl;obtain⟨v,e2,r2⟩:=h2 1 y rfl;refine⟨u,v,?_,r1,r2⟩;apply Array.ext
 ·simpa using h1
 ·intro i hi hj;have:i=0∨i=1:=by simp at hj;omega
  rcases this with rfl|rfl
  ·rw[Array.getElem?_eq_some_iff]at e1;obtain⟨_,e1⟩:=e1;simpa using e1
  ·rw[Array.getElem?_eq_some_iff]at e2;obtain⟨_,e2⟩:=e2;simpa using e2
theorem yg (g:Nat) (s:ByteArray):Call Tryz.prog 96 [.err g tE s,.err g tE s] σ fun r σ'=>r=.bool true/\σ'=σ:=by
 refine fW fun hs D ι w vs S U A=>?_;obtain⟨u,v,rfl,r1,r2⟩:=Aw A;obtain⟨a,c,ty,rfl,d1,e1,_⟩:=sm r1;obtain⟨b,c',ty',rfl,_,e2,_⟩:=sm r2;rw[e1]at e2;simp only[Option.some.injEq,Value.iface.injEq,Value.pointer.injEq,true_and]at e2;subst e2;refine(Rf a w).mono ?_;rintro e w' ⟨rfl,rfl⟩;exact⟨.bool true,σ.get,σ.next,D,ι,.bool true,rfl,⟨rfl,rfl⟩,.refl _ _ _ _,S,U,Nat.le_refl _,.fw _ _ (.bool _)⟩
theorem Cz (g:Nat) (s:ByteArray):Call Tryz.prog 96 [.j4,.err g tE s] σ fun r σ'=>r=.bool false/\σ'=σ:=by
 refine fW fun hs D ι w vs S U A=>?_;obtain⟨u,v,rfl,r1,r2⟩:=Aw A;rw[Ad r1];obtain⟨b,c',ty',rfl,_,e2,_⟩:=sm r2;refine(Vi b w).mono ?_;rintro e w' ⟨rfl,rfl⟩;exact⟨.bool false,σ.get,σ.next,D,ι,.bool false,rfl,⟨rfl,rfl⟩,.refl _ _ _ _,S,U,Nat.le_refl _,.fw _ _ (.bool _)⟩
theorem Ew (x y:Nat) (s u:ByteArray) (ju:s≠u):Call Tryz.prog 96 [.err x tE s,.err y tE u] σ fun r σ'=>r=.bool false/\σ'=σ:=by
 refine fW fun hs D ι w vs S U A=>?_;obtain⟨u1,v,rfl,r1,r2⟩:=Aw A;obtain⟨a,c,ty,rfl,_,_,_,k1,k2⟩:=sm r1;obtain⟨b,c',ty',rfl,_,_,_,q1,q2⟩:=sm r2
 have AP:a≠b:=fun e=>by
  subst e;rw[k2]at q2;simp only[Option.some.injEq,Value.string.injEq]at q2;exact ju q2
 refine(N3 a b c c' ty ty' w AP k1 q1).mono ?_;rintro e w' ⟨rfl,rfl⟩;exact⟨.bool false,σ.get,σ.next,D,ι,.bool false,rfl,⟨rfl,rfl⟩,.refl _ _ _ _,S,U,Nat.le_refl _,.fw _ _ (.bool _)⟩
end V

namespace V
open Go.RowKit
attribute [local irreducible] dY wpOps fm Call
theorem Gl (sch:List Int) (σ:aw):Call Tryz.prog 94 [.sl (sch.map bf)] σ (fun r σ'=>∃B:Id,r=.fn 134 [.ptr B 0 0]/\σ'.get B=some ⟨true,1,[[.sl (sch.map bf)]]⟩/\σ.next<=B.bH/\B.bH<σ'.next/\∀x:Id,x.bH<σ.next->σ'.get x=σ.get x):=by
 refine fG fx rfl fun fM=>?_;clear fM;(try((repeat(revert N;apply g7));refine wk @g8 ?_;repeat(apply g6;intro N hN)))
 exact eH (.inl rfl) (vs:=[.fn 134 [.ptr ⟨94000000,σ.next⟩ 0 0]]) (sd @g8) ⟨_,rfl,sd @g8,aI,aI,fun x hx=>by
  have h1:=cR hx
  simp only[go_sem,↓reduceIte,Nat.reduceEqDiff,Nat.reduceAdd,Nat.reduceSub,Nat.reduceLeDiff,reduceCtorEq,h1]⟩
def Ss (σ:aw) (c T O:Id) (s:ar) (K:List aa) (sch:List Int) (steps:Nat) (r:AV) (σ':aw):Prop:=
 σ.next<=σ'.next/\(∀x:Id,x.bH<σ.next->x≠T->x≠O->σ'.get x=σ.get x)/\
 ((od (iN s K) sch steps=none/\r=.gG [.ck,.bool false])∨∃(es:List aa) (v:AV),od (iN s K) sch steps=some es/\iI (iN s K) es/\sI σ'.get σ'.next c T O s (K++es)/\r=.gG [v,.bool true]/\IG 46008003 σ.next es v σ'.get σ'.next)
theorem uO {s:ar} {sch:List Int} {steps f:Nat} {es:List aa} (h:(jP s (dx s es es.length)).length=0∨steps<=es.length):l6 s sch steps f es=some es:=by
 cases f with
 |zero=>rfl
 |succ f=>
  rw[l6]
  by_cases h0:(jP s (dx s es es.length)).length=0
  ·rw[if_pos h0]
  ·rw[if_neg h0,if_pos ae]
theorem Uq {σ:aw} {c T O:Id} {s:ar} {K:List aa} (hP:G2 (iN s K)) (h:sI σ.get σ.next c T O s K) (hE:jA σ.get) (Eg:1<=T.bH) (HE:1<=O.bH)
  {sch:List Int} (hs:∀x∈sch,0<=x/\x<=1000) (nI:sch.length<=200) (steps:Nat) (ez:steps<=501):
  Call Tryz.prog 46 [.ptr c 0 0,.sl (sch.map bf),.int .i64 (steps:Int)] σ (Ss σ c T O s K sch steps):=by
 refine fG fx rfl fun fM=>?_;clear fM;have hT0:=h.o.tv;have hO0:=h.o.ov;(try((repeat(revert N;apply g7));refine wk @g8 ?_;repeat(apply g6;intro N hN)));refine .inr (ax _ _ _ _ _ (fun r σ1 hq=>?_) (Gl sch _));obtain⟨g1,x1⟩:=σ1;obtain⟨B,rfl,hB,L8,QI,hf⟩:=hq;(try dsimp only at hB L8 QI hf);apply hN;clear hN N;(try((repeat(revert N;apply g7));refine wk @g8 ?_;repeat(apply g6;intro N hN)));have base:∀x:Id,x.bH<σ.next->g1 x=σ.get x:=fun x hx=>hf x aI;have X0:jA g1:=hE.frame (n:=1) i4 fun x hx _=>base x ae;have AO:sI g1 x1 c T O s K:=h.frame (by(try dsimp only at L8);omega) base;have qe:1<=K.length:=hP.some
 have fin:∀(es:List aa) (v:AV) (g:Rows) (n:Nat),od (iN s K) sch steps=some es->iI (iN s K) es->sI g n c T O s (K++es)->IG 46008003 x1 es v g n->(∀x:Id,x.bH<x1->x≠T->x≠O->g x=g1 x)->x1<=n->Ss σ c T O s K sch steps (.gG [v,.bool true]) ⟨g,n⟩:=fun es v g n h1 h2 h3 h4 h5 h6=>⟨by(try dsimp only at L8 ⊢);omega,fun x hx hT hO=>(h5 x ae hT hO).trans (base x hx),.inr ⟨es,v,h1,h2,h3,rfl,by
  rcases h4 with h4|⟨u,k1,k2,k3,k4⟩
  ·exact .inl h4
  ·exact .inr ⟨u,k1,k2,ae,k4⟩⟩⟩
 refine cj (fun m env st=>∃(es:List aa) (f:Nat),m=f/\l6 (iN s K) sch steps f es=od (iN s K) sch steps/\iI (iN s K) es/\es.length<=steps/\f+es.length=501/\sI st.get st.next c T O s (K++es)/\IG 46008003 x1 es (env 9) st.get st.next/\(∀x:Id,x.bH<x1->x≠T->x≠O->st.get x=g1 x)/\x1<=st.next) 501 ⟨[],501,rfl,rfl,iI.nil (iN s K),Nat.zero_le _,rfl,by rw[List.append_nil];exact AO.frame aI fun x hx=>sd @g8,.inl ⟨rfl,sd @g8⟩,fun x hx _ _=>sd @g8,aI⟩ ?_;rintro m m4 i9 ⟨es,f,rfl,hgro,hgood,SX,Yq,hC,hu,gQ,hn⟩ eB;have b0:=eB 0 g9;have b1:=eB 1 g9;have b2:=eB 2 g9;have b8:=eB 8 g9;simp only[go_sem,↓reduceIte,Nat.reduceEqDiff,Nat.reduceAdd,Nat.reduceSub,Nat.reduceLeDiff,reduceCtorEq]at b0 b1 b2 b8;clear eB;have hA:=ko hP (es:=es) es.length i4 hgood;have sM:=hA.1.oG;have mA:(dx (iN s K) es es.length).length=K.length+es.length:=nn (iN s K) es es.length i4
 obtain⟨f,rfl⟩:∃f,m=f+1:=⟨m-1,ae⟩
 have Z4:jA i9.get:=X0.frame (n:=1) i4 fun x hx _=>gQ x ae (fun e=>by rw[e]at hx;omega) (fun e=>by rw[e]at hx;omega);have hBb:=(gQ B QI (fun e=>by rw[e]at L8;omega) (fun e=>by rw[e]at L8;omega)).trans hB
 rcases hu with⟨rfl,e9⟩|⟨u,e9,gu,u1,u2,u3,u4⟩
 ·by_cases hd:((0:Nat):Int)<(steps:Int)
  ·(try((repeat(revert N;apply g7));refine wk (tw6 @b0 @b1 @b2 @b8 @e9 @hd) ?_;repeat(apply g6;intro N hN)));refine .inr (ax _ _ _ _ _ (fun r σ2 hq=>?_) (Ou (σ:=⟨i9.get,i9.next+1+1⟩) (c:=c) (T:=T) (O:=O) (B:=B) (es:=[]) hP hgood (hC.frame aI fun x hx=>rfl) Z4 aI hs nI hBb aI));obtain⟨g2,x2⟩:=σ2;obtain⟨n2,f2,hq⟩:=hq;(try dsimp only at n2 f2 hq);apply hN;clear hN N;have hE2:jA g2:=Z4.frame (n:=1) i4 fun x hx _=>f2 x ae (fun e=>by rw[e]at hx;omega) (fun e=>by rw[e]at hx;omega);obtain⟨⟨b3,k0⟩,b4,k1⟩:=hE2;have w0:=cR (i:=sL 0) (n:=x2) (by rw[kb];omega);have w1:=cR (i:=sL 1) (n:=x2) (by rw[kb];omega);have p0:(sL 0).site=999000000:=rfl;have p1:(sL 1).site=999000001:=rfl
   rcases hq with⟨hO,rfl,x7⟩|⟨hO,uQ,rfl⟩|⟨hO,mj,rfl,x7⟩
   ·(try((repeat(revert N;apply g7));refine wk (tw9 @b0 @b1 @b2 @b8 @e9 @k0 @k1 @w0 (tw3 @w1 @p0 @p1)) ?_;repeat(apply g6;intro N hN)));refine .inr (ax _ _ _ _ _ (fun r σ3 hq=>?_) (yg 0 sT));obtain⟨rfl,rfl⟩:=hq;apply hN;clear hN N;(try((repeat(revert N;apply g7));refine wk (tw9 @b0 @b1 @b2 @b8 @e9 @k0 @k1 @w0 (tw3 @w1 @p0 @p1)) ?_;repeat(apply g6;intro N hN)))
    exact eH (.inl rfl) (vs:=[.ck,.bool true]) (sd @e9) (fin [] _ _ _ (by rw[<-hgro];exact uO (.inl (by rw[hO];rfl))) hgood (x7.frame aI fun x hx=>by
     have z1:=cR hx
     simp only[go_sem,↓reduceIte,Nat.reduceEqDiff,Nat.reduceAdd,Nat.reduceSub,Nat.reduceLeDiff,reduceCtorEq,z1]) (.inl ⟨rfl,rfl⟩) (fun x hx hT hO=>by
     have z1:=cR (i:=x) (n:=x2) ae;have z2:=f2 x aI hT hO;have z3:=gQ x hx hT hO;simp only[go_sem,↓reduceIte,Nat.reduceEqDiff,Nat.reduceAdd,Nat.reduceSub,Nat.reduceLeDiff,reduceCtorEq,z1]
     exact z2.trans z3) aI)
   ·(try((repeat(revert N;apply g7));refine wk (tw9 @b0 @b1 @b2 @b8 @e9 @k0 @k1 @w0 (tw3 @w1 @p0 @p1)) ?_;repeat(apply g6;intro N hN)));refine .inr (ax _ _ _ _ _ (fun r σ3 hq=>?_) (Ew 1 0 sN sT fun e=>sTN e.symm));obtain⟨rfl,rfl⟩:=hq;apply hN;clear hN N;(try((repeat(revert N;apply g7));refine wk (tw9 @b0 @b1 @b2 @b8 @e9 @k0 @k1 @w0 (tw3 @w1 @p0 @p1)) ?_;repeat(apply g6;intro N hN)));refine .inr (ax _ _ _ _ _ (fun r σ3 hq=>?_) (yg 1 sN));obtain⟨rfl,rfl⟩:=hq;apply hN;clear hN N;(try((repeat(revert N;apply g7));refine wk (tw9 @b0 @b1 @b2 @b8 @e9 @k0 @k1 @w0 (tw3 @w1 @p0 @p1)) ?_;repeat(apply g6;intro N hN)))
    exact eH (.inl rfl) (vs:=[.ck,.bool false]) (sd @g8) ⟨by(try dsimp only at L8 ⊢);omega,fun x hx hT hO=>by
     have z1:=cR (i:=x) (n:=x2) ae;have z2:=f2 x aI hT hO;have z3:=gQ x ae hT hO;simp only[go_sem,↓reduceIte,Nat.reduceEqDiff,Nat.reduceAdd,Nat.reduceSub,Nat.reduceLeDiff,reduceCtorEq,z1]
     exact z2.trans (z3.trans (base x hx)),.inl ⟨by rw[<-hgro,l6,if_neg (fun e=>hO (List.length_eq_zero_iff.1 e)),if_neg (by(try simp only[List.length_nil]at hd ⊢);omega),if_pos uQ],rfl⟩⟩
   ·obtain⟨x,hx⟩:∃x,bc (jP (iN s K) (dx (iN s K) [] ([]:List aa).length)) (ue sch ([]:List aa).length (jP (iN s K) (dx (iN s K) [] ([]:List aa).length)).length)=x:=⟨_,rfl⟩
    rw[hx]at x7 ⊢;have A3:x∈jP (iN s K) (dx (iN s K) [] ([]:List aa).length):=by rw[<-hx];exact e7 (nU (List.length_pos_iff.2 hO))
    have rX:=hgood.add A3 mj;have NC:l6 (iN s K) sch steps f (([]:List aa)++[x])=od (iN s K) sch steps:=by rw[<-hgro,l6,if_neg (fun e=>hO (List.length_eq_zero_iff.1 e)),if_neg (by(try simp only[List.length_nil]at hd ⊢);omega),if_neg ae,hx]
    have Jg:([]:List aa).length<=16777215:=by(try simp only[List.length_nil]);omega
    rw[ad];(try((repeat(revert N;apply g7));refine wk (tw9 @b0 @b1 @b2 @b8 @e9 @k0 @k1 @w0 (tw3 @w1 @p0 @p1)) ?_;repeat(apply g6;intro N hN)));refine .inr (ax _ _ _ _ _ (fun r σ3 hq=>?_) (Cz 0 sT));obtain⟨rfl,rfl⟩:=hq;apply hN;clear hN N;(try((repeat(revert N;apply g7));refine wk (tw9 @b0 @b1 @b2 @b8 @e9 @k0 @k1 @w0 (tw3 @w1 @p0 @p1)) ?_;repeat(apply g6;intro N hN)));refine .inr (ax _ _ _ _ _ (fun r σ3 hq=>?_) (Cz 1 sN));obtain⟨rfl,rfl⟩:=hq;apply hN;clear hN N;(try((repeat(revert N;apply g7));refine wk (tw9 @b0 @b1 @b2 @b8 @e9 @k0 @k1 @w0 (tw3 @w1 @p0 @p1)) ?_;repeat(apply g6;intro N hN)));have Fk:(([]:List aa)++[x]).map ad=([]:List aa).map ad++[ad x]:=by simp
    have Jh:(([]:List aa)++[x]).length=([]:List aa).length+1:=by simp
    rw[ad]at Fk;have QP:=h.o.cv;refine⟨f,ae,([]:List aa)++[x],f,rfl,NC,rX,by rw[Jh];(try simp only[List.length_nil]at hd ⊢);omega,by rw[Jh];(try simp only[List.length_nil]at Yq ⊢);omega,?_,.inr ⟨⟨46008003,x2+1+1+1+1+1⟩,by rw[Jh];simp only[go_sem,↓reduceIte,Nat.reduceEqDiff,Nat.reduceAdd,Nat.reduceSub,Nat.reduceLeDiff,reduceCtorEq]<;>rfl,by rw[Fk];simp only[go_sem,↓reduceIte,Nat.reduceEqDiff,Nat.reduceAdd,Nat.reduceSub,Nat.reduceLeDiff,reduceCtorEq]<;>rfl,aI,aI,by rw[Jh];omega,rfl⟩,fun y hy hT hO=>?_,aI⟩
    ·have zc:=cR x7.o.cv;have zT:=cR x7.o.tv;have zO:=cR x7.o.ov;obtain⟨en,a1,a2⟩:=x7.op;refine⟨x7.o.three aI (sd @zc) (sd @zT) (sd @zO),en,sd (tw @zO @a1),a2.frame aI fun y hy ⟨k,r,hk⟩=>?_⟩;have zy:=cR hy;simp only[go_sem,↓reduceIte,Nat.reduceEqDiff,Nat.reduceAdd,Nat.reduceSub,Nat.reduceLeDiff,reduceCtorEq,zy]
    ·have zy:=cR (i:=y) (n:=x2) ae;simp only[go_sem,↓reduceIte,Nat.reduceEqDiff,Nat.reduceAdd,Nat.reduceSub,Nat.reduceLeDiff,reduceCtorEq,zy];exact(f2 y aI hT hO).trans (gQ y hy hT hO)
  ·(try((repeat(revert N;apply g7));refine wk (tw6 @b0 @b1 @b2 @b8 @e9 @hd) ?_;repeat(apply g6;intro N hN)))
   exact eH (.inl rfl) (vs:=[.ck,.bool true]) (sd @e9) (fin [] _ _ _ (by rw[<-hgro];exact uO (.inr (by(try simp only[List.length_nil]at hd ⊢);omega))) hgood (hC.frame aI fun x hx=>sd @g8) (.inl ⟨rfl,rfl⟩) (fun x hx hT hO=>by
    have z3:=gQ x hx hT hO
    simp only[go_sem,↓reduceIte,Nat.reduceEqDiff,Nat.reduceAdd,Nat.reduceSub,Nat.reduceLeDiff,reduceCtorEq,z3]) aI)
 ·by_cases hd:(es.length:Int)<(steps:Int)
  ·(try((repeat(revert N;apply g7));refine wk (tw7 @b0 @b1 @b2 @b8 @e9 @gu @hd) ?_;repeat(apply g6;intro N hN)));refine .inr (ax _ _ _ _ _ (fun r σ2 hq=>?_) (Ou (σ:=⟨i9.get,i9.next+1+1⟩) (c:=c) (T:=T) (O:=O) (B:=B) (es:=es) hP hgood (hC.frame aI fun x hx=>rfl) Z4 aI hs nI hBb aI));obtain⟨g2,x2⟩:=σ2;obtain⟨n2,f2,hq⟩:=hq;(try dsimp only at n2 f2 hq);apply hN;clear hN N;have hE2:jA g2:=Z4.frame (n:=1) i4 fun x hx _=>f2 x ae (fun e=>by rw[e]at hx;omega) (fun e=>by rw[e]at hx;omega);obtain⟨⟨b3,k0⟩,b4,k1⟩:=hE2;have w0:=cR (i:=sL 0) (n:=x2) (by rw[kb];omega);have w1:=cR (i:=sL 1) (n:=x2) (by rw[kb];omega);have p0:(sL 0).site=999000000:=rfl;have p1:(sL 1).site=999000001:=rfl;have ku:=(f2 u aI (fun e=>by rw[e]at u1;omega) (fun e=>by rw[e]at u1;omega)).trans gu;have wu:=cR (i:=u) (n:=x2) ae
   rcases hq with⟨hO,rfl,x7⟩|⟨hO,uQ,rfl⟩|⟨hO,mj,rfl,x7⟩
   ·(try((repeat(revert N;apply g7));refine wk (tw9 @b0 @b1 @b2 @b8 @e9 @gu @k0 @k1 (tw6 @w0 @w1 @p0 @p1 @ku @wu)) ?_;repeat(apply g6;intro N hN)));refine .inr (ax _ _ _ _ _ (fun r σ3 hq=>?_) (yg 0 sT));obtain⟨rfl,rfl⟩:=hq;apply hN;clear hN N;(try((repeat(revert N;apply g7));refine wk (tw9 @b0 @b1 @b2 @b8 @e9 @gu @k0 @k1 (tw6 @w0 @w1 @p0 @p1 @ku @wu)) ?_;repeat(apply g6;intro N hN)))
    exact eH (.inl rfl) (vs:=[.own u 0 es.length,.bool true]) (sd @e9) (fin es _ _ _ (by rw[<-hgro];exact uO (.inl (by rw[hO];rfl))) hgood (x7.frame aI fun x hx=>by
     have z1:=cR hx
     simp only[go_sem,↓reduceIte,Nat.reduceEqDiff,Nat.reduceAdd,Nat.reduceSub,Nat.reduceLeDiff,reduceCtorEq,z1]) (.inr ⟨u,rfl,sd (tw @wu @ku),u1,aI,u3,u4⟩) (fun x hx hT hO=>by
     have z1:=cR (i:=x) (n:=x2) ae;have z2:=f2 x aI hT hO;have z3:=gQ x hx hT hO;simp only[go_sem,↓reduceIte,Nat.reduceEqDiff,Nat.reduceAdd,Nat.reduceSub,Nat.reduceLeDiff,reduceCtorEq,z1]
     exact z2.trans z3) aI)
   ·(try((repeat(revert N;apply g7));refine wk (tw9 @b0 @b1 @b2 @b8 @e9 @gu @k0 @k1 (tw6 @w0 @w1 @p0 @p1 @ku @wu)) ?_;repeat(apply g6;intro N hN)));refine .inr (ax _ _ _ _ _ (fun r σ3 hq=>?_) (Ew 1 0 sN sT fun e=>sTN e.symm));obtain⟨rfl,rfl⟩:=hq;apply hN;clear hN N;(try((repeat(revert N;apply g7));refine wk (tw9 @b0 @b1 @b2 @b8 @e9 @gu @k0 @k1 (tw6 @w0 @w1 @p0 @p1 @ku @wu)) ?_;repeat(apply g6;intro N hN)));refine .inr (ax _ _ _ _ _ (fun r σ3 hq=>?_) (yg 1 sN));obtain⟨rfl,rfl⟩:=hq;apply hN;clear hN N;(try((repeat(revert N;apply g7));refine wk (tw9 @b0 @b1 @b2 @b8 @e9 @gu @k0 @k1 (tw6 @w0 @w1 @p0 @p1 @ku @wu)) ?_;repeat(apply g6;intro N hN)))
    exact eH (.inl rfl) (vs:=[.ck,.bool false]) (sd @g8) ⟨by(try dsimp only at L8 ⊢);omega,fun x hx hT hO=>by
     have z1:=cR (i:=x) (n:=x2) ae;have z2:=f2 x aI hT hO;have z3:=gQ x ae hT hO;simp only[go_sem,↓reduceIte,Nat.reduceEqDiff,Nat.reduceAdd,Nat.reduceSub,Nat.reduceLeDiff,reduceCtorEq,z1]
     exact z2.trans (z3.trans (base x hx)),.inl ⟨by rw[<-hgro,l6,if_neg (fun e=>hO (List.length_eq_zero_iff.1 e)),if_neg (by(try simp only[List.length_nil]at hd ⊢);omega),if_pos uQ],rfl⟩⟩
   ·obtain⟨x,hx⟩:∃x,bc (jP (iN s K) (dx (iN s K) es es.length)) (ue sch es.length (jP (iN s K) (dx (iN s K) es es.length)).length)=x:=⟨_,rfl⟩
    rw[hx]at x7 ⊢;have A3:x∈jP (iN s K) (dx (iN s K) es es.length):=by rw[<-hx];exact e7 (nU (List.length_pos_iff.2 hO))
    have rX:=hgood.add A3 mj;have NC:l6 (iN s K) sch steps f (es++[x])=od (iN s K) sch steps:=by rw[<-hgro,l6,if_neg (fun e=>hO (List.length_eq_zero_iff.1 e)),if_neg (by(try simp only[List.length_nil]at hd ⊢);omega),if_neg ae,hx]
    have Jg:es.length<=16777215:=by(try simp only[List.length_nil]);omega
    rw[ad];(try((repeat(revert N;apply g7));refine wk (tw9 @b0 @b1 @b2 @b8 @e9 @k0 @k1 @w0 (tw6 @w1 @p0 @p1 @ku @wu @Jg)) ?_;repeat(apply g6;intro N hN)));refine .inr (ax _ _ _ _ _ (fun r σ3 hq=>?_) (Cz 0 sT));obtain⟨rfl,rfl⟩:=hq;apply hN;clear hN N;(try((repeat(revert N;apply g7));refine wk (tw9 @b0 @b1 @b2 @b8 @e9 @k0 @k1 @w0 (tw6 @w1 @p0 @p1 @ku @wu @Jg)) ?_;repeat(apply g6;intro N hN)));refine .inr (ax _ _ _ _ _ (fun r σ3 hq=>?_) (Cz 1 sN));obtain⟨rfl,rfl⟩:=hq;apply hN;clear hN N;(try((repeat(revert N;apply g7));refine wk (tw9 @b0 @b1 @b2 @b8 @e9 @k0 @k1 @w0 (tw6 @w1 @p0 @p1 @ku @wu @Jg)) ?_;repeat(apply g6;intro N hN)));have Fk:(es++[x]).map ad=es.map ad++[ad x]:=by simp
    have Jh:(es++[x]).length=es.length+1:=by simp
    rw[ad]at Fk;have QP:=h.o.cv;have ncu:(c=u)=False:=eq_false fun e=>by rw[<-e]at u1;omega
    have nTu:(T=u)=False:=eq_false fun e=>by rw[<-e]at u1;omega
    have nOu:(O=u)=False:=eq_false fun e=>by rw[<-e]at u1;omega
    refine⟨f,ae,es++[x],f,rfl,NC,rX,by rw[Jh];(try simp only[List.length_nil]at hd ⊢);omega,by rw[Jh];(try simp only[List.length_nil]at Yq ⊢);omega,?_,.inr ⟨⟨46008003,x2+1+1+1+1+1⟩,by rw[Jh];simp only[go_sem,↓reduceIte,Nat.reduceEqDiff,Nat.reduceAdd,Nat.reduceSub,Nat.reduceLeDiff,reduceCtorEq]<;>rfl,by rw[Fk];simp only[go_sem,↓reduceIte,Nat.reduceEqDiff,Nat.reduceAdd,Nat.reduceSub,Nat.reduceLeDiff,reduceCtorEq]<;>rfl,aI,aI,by rw[Jh];omega,rfl⟩,fun y hy hT hO=>?_,aI⟩
    ·have zc:=cR x7.o.cv;have zT:=cR x7.o.tv;have zO:=cR x7.o.ov;obtain⟨en,a1,a2⟩:=x7.op;refine⟨x7.o.three aI (sd (tw @zc @ncu)) (sd (tw @zT @nTu)) (sd (tw @zO @nOu)),en,sd (tw3 @zO @a1 @nOu),a2.frame aI fun y hy ⟨k,r,hk⟩=>?_⟩;have zy:=cR hy
     have nyu:(y=u)=False:=eq_false fun e=>by
      rw[e,ku]at hk
      simp at hk
     simp only[go_sem,↓reduceIte,Nat.reduceEqDiff,Nat.reduceAdd,Nat.reduceSub,Nat.reduceLeDiff,reduceCtorEq,zy,nyu]
    ·have zy:=cR (i:=y) (n:=x2) ae;have nyu:(y=u)=False:=eq_false fun e=>by rw[<-e]at u1;omega
     simp only[go_sem,↓reduceIte,Nat.reduceEqDiff,Nat.reduceAdd,Nat.reduceSub,Nat.reduceLeDiff,reduceCtorEq,zy,nyu];exact(f2 y aI hT hO).trans (gQ y hy hT hO)
  ·(try((repeat(revert N;apply g7));refine wk (tw7 @b0 @b1 @b2 @b8 @e9 @gu @hd) ?_;repeat(apply g6;intro N hN)))
   exact eH (.inl rfl) (vs:=[.own u 0 es.length,.bool true]) (sd @e9) (fin es _ _ _ (by rw[<-hgro];exact uO (.inr (by(try simp only[List.length_nil]at hd ⊢);omega))) hgood (hC.frame aI fun x hx=>sd @g8) (.inr ⟨u,rfl,sd @gu,u1,aI,u3,u4⟩) (fun x hx hT hO=>by
    have z3:=gQ x hx hT hO
    simp only[go_sem,↓reduceIte,Nat.reduceEqDiff,Nat.reduceAdd,Nat.reduceSub,Nat.reduceLeDiff,reduceCtorEq,z3]) aI)
theorem kh.cut {P:Program} (hm:P.follows .mixedOrders=true) {f:Nat} {args args':List AV} {R:AV->Prop} (hc:th args args') (h:kh P f args' R):kh P f args R:=fun n=>(h n).cut hm hc
section
variable {P:Program} {L:List aa}
end
def Bb (sch:List Int):Bool:=decide (sch.length<=200)&& !(sch.any fun n=> !jj n 0 1000)
theorem rq {sch:List Int}:Bb sch=true↔sch.length<=200/\∀x∈sch,0<=x/\x<=1000:=by
 unfold Bb;simp only[Bool.and_eq_true,decide_eq_true_eq,Bool.not_eq_true',List.any_eq_false,Bool.not_eq_false',jj,Bool.not_eq_true]
 constructor
 ·rintro⟨h1,h2⟩;exact⟨h1,fun x hx=>by have:=h2 x hx;simpa using this⟩
 ·rintro⟨h1,h2⟩;exact⟨h1,fun x hx=>by simpa using h2 x hx⟩
theorem OX (n:Int):au Tryz.prog 87 [.int .i64 n] (.bool (!jj n 0 1000)):=by
 refine au.body fx rfl fun hl n0=>?_;clear hl;have h:=lU n 0 1000;(repeat(first|((repeat(revert N;apply g7));refine wk @g8 ?_;repeat(apply g6;intro N hN))|((try apply i3);refine⟨_,au.x (h) (sd @g8),?_⟩;apply hN;clear hN N)));exact cZ (b:= !jj n 0 1000) (.inl rfl) (sd @g8) rfl
theorem LF (ws:List Int) (hl:ws.length<=1048576):au Tryz.prog 86 [.sl (ws.map bf),.fn 87 []] (.bool (ws.any fun n=> !jj n 0 1000)):=
 kM I0 (show AJ Tryz.prog 86=some (zk 86 130) by kernel_rfl)
  (show AJ Tryz.prog 130=some (pw 130 1 false) by kernel_rfl) ws hl _ _ _ rfl (fun g=>by rw[aj]) (fun x _=>OX x) fun g=>by rw[aj]
theorem xU (sch:List Int) (hl:sch.length<=1048576):au Tryz.prog 43 [.sl (sch.map bf)] (.bool (Bb sch)):=by
 refine au.body fx rfl fun fM n0=>?_;clear fM;have eW:(sch.map bf).length=sch.length:=by simp
 have h:=LF sch hl;unfold Bb
 by_cases h2:sch.length<=200
 ·have h3:decide ((sch.length:Int)<=200)=true:=decide_eq_true ae;(repeat(first|((repeat(revert N;apply g7));refine wk (tw @eW @h3) ?_;repeat(apply g6;intro N hN))|((try apply i3);refine⟨_,au.x (h) (sd (tw @eW @h3)),?_⟩;apply hN;clear hN N)));exact cZ (b:= !(sch.any fun n=> !jj n 0 1000)) (.inl rfl) (sd @g8) (by rw[decide_eq_true h2];rfl)
 ·have h3:decide ((sch.length:Int)<=200)=false:=decide_eq_false ae;(repeat(first|((repeat(revert N;apply g7));refine wk (tw @eW @h3) ?_;repeat(apply g6;intro N hN))|((try apply i3);refine⟨_,au.x (h) (sd (tw @eW @h3)),?_⟩;apply hN;clear hN N)));exact cZ (b:=false) (.inl rfl) (sd @g8) (by rw[decide_eq_false h2];rfl)
def TL (σ:aw) (s:ar) (sch:List Int) (steps:Nat) (r:AV) (σ':aw):Prop:=
 σ.next<=σ'.next/\(∀x:Id,x.bH<σ.next->σ'.get x=σ.get x)/\
 ((od s sch steps=none/\r=.gG [.ck,.agg [.ck],.int .i64 4])∨∃(es:List aa) (v:AV) (o:Id),od s sch steps=some es/\iI s es/\r=.gG [v,.agg [.own o 0 (dx s es es.length).length],.int .i64 0]/\IG 46008003 σ.next es v σ'.get σ'.next/\σ'.get o=some ⟨true,3,(dx s es es.length).map ad⟩/\σ.next<=o.bH/\o.bH<σ'.next/\∀u m,v=.own u 0 m->u≠o)
end V
end Go.Proofs.YtoodopepphhpoaaGreatDoor
