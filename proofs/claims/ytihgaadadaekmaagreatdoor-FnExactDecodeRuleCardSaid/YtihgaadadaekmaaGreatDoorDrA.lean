/- A small language in which the program's functions are read by value: its values, its operations, its code, and how the program's code is brought into it. -/
import Derived.WalkKit
import Derived.WalkSpells
import Derived.WalkLawsBesides
import Derived.Lib.Hide
import Derived.Great.BuildSlice
import Derived.Conc.LoneCalls
import Derived.MapKept
import Derived.WideKeyRuns
set_option linter.unusedVariables false
set_option linter.unusedSimpArgs false
set_option maxRecDepth 100000
set_option maxHeartbeats 16000000
namespace Go.Proofs.YtihgaadadaekmaaGreatDoor.V
open Go.RowKit
structure Id where
  site:Nat
  bV:Nat
  deriving DecidableEq,Repr
inductive TS where
  |tI|tB|tS
  deriving Repr,DecidableEq
structure MK where
  ka:Bool
  ts:List TS
  deriving Repr,DecidableEq
inductive AV where
  |int (k:IntKind) (n:Int)
  |bool (b:Bool)
  |str (s:ByteArray)
  |bC|gj|iG
  |sl (rows:List (List AV))
  |own (id:Id) (off len:Nat)
  |ptr (id:Id) (i off:Nat)
  |cK (cs:List AV)
  |agg (cs:List AV)
  |ib (vs:List AV)
  |fn (f:Nat) (cr:List AV)
  |map (id:Id) (m:MK)
  |iP
  |tX (f:Nat) (first:List AV)
  |qk (id:Id)
  deriving Inhabited
def AV.undef:AV:=.ib []
def AV.cell:AV->Bool
  | .agg _| .ib _=>false
  |_=>true
def AV.cells:AV->List AV
  | .agg cs=>cs
  |v=>[v]
inductive K where
  |int (k:IntKind) (n:Int)
  |bool (b:Bool)
  |str (l:List UInt8)
  |bC|gj|iG|iP
  deriving Repr,DecidableEq
def K.val:K->Value
  | .int k n=>.int k n
  | .bool b=>.bool b
  | .str l=>.string ⟨l.toArray⟩
  | .bC=>.slice none 0 0
  | .gj=>.pointer none
  | .iG=>.nilFunc
  | .iP=>.map none
def K.av:K->AV
  | .int k n=>.int k n
  | .bool b=>.bool b
  | .str l=>.str ⟨l.toArray⟩
  | .bC=>.bC
  | .gj=>.gj
  | .iG=>.iG
  | .iP=>.iP
def DH:Value->Option K
  | .int k n=>some (.int k n)
  | .bool b=>some (.bool b)
  | .string s=>some (.str s.data.toList)
  | .slice none 0 0=>some .bC
  | .pointer none=>some .gj
  | .nilFunc=>some .iG
  | .map none=>some .iP
  |_=>none
inductive O where
  |t (n:Nat)
  |k (c:K)
  |ka (cs:List K)
  |f (n:Nat)
  deriving Repr,DecidableEq
inductive MQ where
  |new (m:MK)
  |look (m:MK) (ok:Bool) (zero:K)
  |len (m:MK)
  deriving Repr,DecidableEq
inductive MW where
  |set (m:MK)
  |del (m:MK)
  deriving Repr,DecidableEq
inductive fD where
  |cG (x:O)
  |pick (c a b:O)
  |new (zero:List K)
  |box (x:O)
  |build (zero:List K) (parts:List (Nat×Nat×O))
  |lD (sz len:Nat) (parts:List O)
  |load (agg:Bool) (n:Nat) (a:O)
  |store (n:Nat) (a x:O)
  |x9 (x:O)
  |bin (op:BinOp) (k:IntKind) (x y:O)
  |sh (left:Bool) (x y:O)
  |H0 (op:BinOp) (x y:O)
  |KF (neg:Bool) (t:TS) (x y:O)
  |OR (neg:Bool) (ts:List TS) (x y:O)
  |Ng (neg IM:Bool) (x:O)
  |OS (neg:Bool) (x:O)
  |not (x:O)
  |neg (x:O)
  |conv (k:IntKind) (x:O)
  |BX (x:O)
  |slice (sz:Nat) (x:O) (lo hi:Option O)
  |xf (x:O) (lo hi:Option O)
  |fm (off:Nat) (x:O)
  |field (agg:Bool) (off n:Nat) (x:O)
  |dp (sz:Nat) (x i:O)
  |IG (len sz:Nat) (x i:O)
  |II (x i:O)
  |fF (agg:Bool) (len n:Nat) (x i:O)
  |extract (i:Nat) (x:O)
  |len (x:O)
  |IT (x:O)
  |append (sz:Nat) (x y:O)
  |copy (sz:Nat) (x y:O)
  |clear (zero:List K) (x:O)
  |I1 (f:Nat) (cr:List O)
  |I2 (f:Nat) (first:List O)
  |jg (zero:List K) (len cap:O)
  |call (f:Nat) (args:List O)
  |qT (x:O) (args:List O)
  |mq (q:MQ) (xs:List O)
  |mw (q:MW) (xs:List O)
  |Gx (x:O)
  |Gl (x:O)
  |snd (x y:O)
  |LM (x:O)
  |bad
  deriving Repr,DecidableEq
structure aV where
  dst:Option Nat
  op:fD
  guard:Option (Nat×Bool)
  site:Nat
  hid:List Nat
  deriving Repr,DecidableEq
def q (d:Nat) (op:fD) (s:Nat):aV:=⟨some d,op,none,s,[]⟩
inductive VC where
  |skip
  |eb (draw:Bool) (ops:List aV)
  |seq (a b:VC)
  |cond (c:O) (x y:VC)
  |block (id:Nat) (c:VC)
  |loop (c:VC)
  |exit (id:Nat)
  |ret
  |one (o:aV) (c:VC)
  |both (a b:VC)
  |loc (t s:Nat) (y:O) (c:VC)
  |Kz (ops:List aV)
  deriving Repr,DecidableEq
inductive nU where
  |tmp (t:Nat)
  |cell (agg:Bool) (n:Nat) (t:Nat)
  deriving Repr,DecidableEq
structure xt where
  ntmps:Nat
  vD:Nat
  body:VC
  res:List nU
  deriving Repr,DecidableEq
def e8 (P:Program) (f:Nat):Bool:=
  match P.funcs[f]? with
  |some fn=>fn.body.isSome&& !(fn.name== "runtime.NumGoroutine")
  |none=>false
def cO (P:Program):Operand->Option O
  | .tmp t=>some (.t t)
  | .const (.agg cs)=>(cs.toList.mapM DH).map O.ka
  | .const v=>(DH v).map O.k
  | .global _=>none
  | .func f=>if e8 P f then some (.f f)else none
def iR (P:Program) (t:TypeId):Option (List K):=
  match P.info? t with
  |some i=>match i.zero with
    |some v=>if v.cells.size=i.size then v.cells.toList.mapM DH else none
    |none=>none
  |none=>none
def dx (P:Program) (t:TypeId):Option Nat:=(P.info? t).map (·.size)
def ml (P:Program) (t:TypeId):Option Bool:=
  match P.underlying t with
  |some (.struct _)|some (.array _ _)=>some true
  |some _=>some false
  |none=>none
inductive Px where
  |sc (t:TS)|ag (ts:List TS)
  deriving Repr,DecidableEq
def eK (P:Program) (t:TypeId):Option TS:=
  match P.underlying t with
  |some .bool=>some .tB
  |some (.int _)=>some .tI
  |some .string=>some .tS
  |_=>none
def Ai (P:Program) (inner:List Field->Option (List TS)):Nat->List Field->Option (List TS)
  |_,[]=>some []
  |off,f::r=>
    if f.offset=off/\f.name≠ "_" then
      match eK P f.type with
      |some t=>if ml P f.type=some false then(Ai P inner (off+1) r).map (t::·)else none
      |none=>match P.underlying f.type with
        |some (.struct fs)=>if !P.stoodInHeld f.type then match inner fs.toList with
          |some ts=>if dx P f.type=some ts.length/\ts≠[]then(Ai P inner (off+ts.length) r).map (ts++·)else none
          |none=>none else none
        |_=>none
    else none
def dM (P:Program):Nat->Nat->List Field->Option (List TS)
  |0,_,[]=>some []
  |0,_,_::_=>none
  |d+1,off,fs=>Ai P (dM P d 0) off fs
def PI (P:Program) (t:TypeId):Option Px:=
  match eK P t with
  |some s=>some (.sc s)
  |none=>match P.underlying t with
    |some (.struct fs)=>if !P.stoodInHeld t&& !P.eqGuardType P.depth t then(dM P 4 0 fs.toList).map Px.ag else none
    |_=>none
def qf (P:Program) (fs:Array Field):List (Nat×O)->Option (List (Nat×Nat×O))
  |[]=>some []
  |(i,x)::r=>match fs[i]? with
    |some f=>match dx P f.type with
      |some n=>(qf P fs r).map ((f.offset,n,x)::·)
      |none=>none
    |none=>none
def qi (P:Program) (ps:Array (Nat×Operand)):Option (List (Nat×O)):=ps.toList.mapM fun(i,x)=>(cO P x).map (i,·)
def pf (P:Program):Option Operand->Option (Option O)
  |none=>some none
  |some x=>(cO P x).map some
def qg (P:Program) (neg:Bool) (t:TypeId) (x y:Operand):Option fD:=
  match y with
  | .const (.slice none 0 0)=>match P.underlying t with
    |some (.slice _)=>(cO P x).map (fD.Ng neg false)
    |_=>none
  | .const .nilFunc=>match P.underlying t with
    |some (.func ..)=>(cO P x).map (fD.Ng neg true)
    |_=>none
  | .const (.pointer none)=>match P.underlying t with
    |some (.pointer _)=>(cO P x).map (fD.OS neg)
    |_=>none
  |_=>match PI P t with
    |some (.sc s)=>do pure (.KF neg s (<-cO P x) (<-cO P y))
    |some (.ag ts)=>do pure (.OR neg ts (<-cO P x) (<-cO P y))
    |_=>none
def sy (P:Program) (op:BinOp) (t:TypeId) (x y:Operand):Option fD:=
  match op with
  | .eql=>qg P false t x y
  | .neq=>qg P true t x y
  | .shl=>do pure (.sh true (<-cO P x) (<-cO P y))
  | .shr=>do pure (.sh false (<-cO P x) (<-cO P y))
  |op=>match P.underlying t with
    |some (.int k)=>do pure (.bin op k (<-cO P x) (<-cO P y))
    |some .string=>do pure (.H0 op (<-cO P x) (<-cO P y))
    |_=>none
def qh (P:Program) (t:TypeId):Option (MK×K):=
  match P.underlying t with
  |some (.map k e)=>match ml P e,(P.info? e).bind (·.zero),eK P k,P.underlying k with
    |some false,some zv,some s,_=>(DH zv).map fun z=>(⟨false,[s]⟩,z)
    |some false,some zv,none,some (.struct fs)=>match dM P 4 0 fs.toList,DH zv with
      |some ts,some z=>if !P.stoodInHeld k/\fs.toList.all (fun f=>(eK P f.type).isSome)then some (⟨true,ts⟩,z)else none
      |_,_=>none
    |_,_,_,_=>none
  |_=>none
def l8 (P:Program) (c:Call):Option fD:=
  match c.callee with
  | .builtin .len=>match c.args.toList,c.argTypes.toList with
    |[x],[t]=>match P.underlying t with
      |some (.slice _)=>(cO P x).map fD.len
      |some .string=>(cO P x).map fD.IT
      |some (.map _ _)=>match qh P t,cO P x with
        |some (m,_),some x=>some (.mq (.len m) [x])
        |_,_=>none
      |some (.chan _ _)=>(cO P x).map fD.Gl
      |_=>none
    |_,_=>none
  | .builtin .append=>match c.args.toList,c.argTypes.toList with
    |[x,y],[t,u]=>match P.underlying t with
      |some (.slice e)=>match dx P e,iR P e,P.info? e with
        |some (sz+1),some _,some i=>if i.bytes<=32768/\t=u then do pure (.append (sz+1) (<-cO P x) (<-cO P y))else none
        |_,_,_=>none
      |_=>none
    |_,_=>none
  | .builtin .clear=>match c.args.toList,c.argTypes.toList with
    |[x],[t]=>match P.underlying t with
      |some (.slice e)=>match dx P e,iR P e with
        |some (_+1),some z=>(cO P x).map (fD.clear z)
        |_,_=>none
      |_=>none
    |_,_=>none
  | .value (.func f)=>if e8 P f then(c.args.toList.mapM (cO P)).map (fD.call f)else none
  | .value (.tmp t)=>(c.args.toList.mapM (cO P)).map (fD.qT (.t t))
  | .builtin .delete=>match c.args.toList,c.argTypes.toList with
    |[x,k],[t,_]=>match qh P t,cO P x,cO P k with
      |some (m,_),some x,some k=>some (.mw (.del m) [x,k])
      |_,_,_=>none
    |_,_=>none
  | .builtin .copy=>match c.args.toList,c.argTypes.toList with
    |[x,y],[t,_]=>match P.underlying t with
      |some (.slice e)=>match dx P e with
        |some (sz+1)=>do pure (.copy (sz+1) (<-cO P x) (<-cO P y))
        |_=>none
      |_=>none
    |_,_=>none
  |_=>none
def oW (P:Program) (o:Op):Option fD:=
  match o with
  | .move x| .assign x=>(cO P x).map fD.cG
  | .pick c a b=>do pure (.pick (<-cO P c) (<-cO P a) (<-cO P b))
  | .alloc e=>(iR P e).map fD.new
  | .box _ x=>(cO P x).map fD.box
  | .load t a=>do pure (.load (<-ml P t) (<-dx P t) (<-cO P a))
  | .store t a x=>do pure (.store (<-dx P t) (<-cO P a) (<-cO P x))
  | .nilCheck x=>(cO P x).map fD.x9
  | .binOp op t x y _=>sy P op t x y
  | .unOp .not _ x=>(cO P x).map fD.not
  | .unOp .neg _ x=>(cO P x).map fD.neg
  | .convert s d x=>match P.underlying s,P.underlying d with
    |some (.int _),some (.int k)=>(cO P x).map (fD.conv k)
    |some .string,some .string=>(cO P x).map fD.BX
    |_,_=>none
  | .slice t x lo hi none=>match P.underlying t with
    |some (.slice e)=>do
      pure (.slice (<-dx P e) (<-cO P x) (<-pf P lo) (<-pf P hi))
    |some .string=>do pure (.xf (<-cO P x) (<-pf P lo) (<-pf P hi))
    |_=>none
  | .fieldAddr s x i=>match P.underlying s with
    |some (.struct fs)=>match fs[i]? with
      |some f=>match dx P f.type with
        |some (_+1)=>(cO P x).map (fD.fm f.offset)
        |_=>none
      |none=>none
    |_=>none
  | .field s x i=>match P.underlying s with
    |some (.struct fs)=>match fs[i]? with
      |some f=>do pure (.field (<-ml P f.type) f.offset (<-dx P f.type) (<-cO P x))
      |none=>none
    |_=>none
  | .indexAddr t x i=>match P.underlying t with
    |some (.slice e)=>match dx P e with
      |some (m+1)=>do pure (.dp (m+1) (<-cO P x) (<-cO P i))
      |_=>none
    |some (.array len e)=>match dx P e with
      |some (m+1)=>do pure (.IG len (m+1) (<-cO P x) (<-cO P i))
      |_=>none
    |_=>none
  | .index t x i=>match P.underlying t with
    |some .string=>do pure (.II (<-cO P x) (<-cO P i))
    |some (.array len e)=>do pure (.fF (<-ml P e) len (<-dx P e) (<-cO P x) (<-cO P i))
    |_=>none
  | .extract x i=>(cO P x).map (fD.extract i)
  | .build t ps=>match P.underlying t with
    |some (.struct fs)=>
      match iR P t,qi P ps with
      |some z,some l=>
        if fs.all (fun f=>(P.info? f.type).isSome)then(qf P fs l).map (fD.build z)else none
      |_,_=>none
    |some (.array _ e)=>
      match iR P t,qi P ps,dx P e with
      |some z,some l,some n=>some (.build z (l.map fun(i,x)=>(i*n,n,x)))
      |_,_,_=>none
    |_=>none
  | .buildSlice t len ps=>match P.underlying t with
    |some (.slice e)=>match dx P e,iR P e,qi P ps with
      |some (sz+1),some _,some l=>
        if len*(sz+1)<=4096/\l.map (·.1)=List.range len then some (.lD (sz+1) len (l.map (·.2)))else none
      |_,_,_=>none
    |_=>none
  | .makeFunc (.func f) first cr=>
    if first= #[]/\e8 P f then(cr.toList.mapM (cO P)).map (fD.I1 f)else if cr= #[]/\e8 P f then(first.toList.mapM (cO P)).map (fD.I2 f)else none
  | .makeSlice t l c=>match P.underlying t with
    |some (.slice e)=>match dx P e,iR P e,P.info? e with
      |some (_+1),some z,some i=>if i.bytes<=32768 then do pure (.jg z (<-cO P l) (<-cO P c))else none
      |_,_,_=>none
    |_=>none
  | .call c=>l8 P c
  | .makeChan t n=>match P.underlying t with
    |some (.chan _ e)=>match P.info? e with
      |some i=>if i.bytes<=32768 then(cO P n).map fD.Gx else none
      |none=>none
    |_=>none
  | .send x y=>do pure (.snd (<-cO P x) (<-cO P y))
  | .recv t x false=>match P.underlying t with
    |some (.chan _ e)=>match (P.info? e).bind (·.zero)with
      |some _=>(cO P x).map fD.LM
      |none=>none
    |_=>none
  | .makeMap t none=>match qh P t with
    |some (m,_)=>some (.mq (.new m) [])
    |none=>none
  | .lookup t x k ok=>match qh P t,cO P x,cO P k with
    |some (m,z),some x,some k=>some (.mq (.look m ok z) [x,k])
    |_,_,_=>none
  | .mapUpdate t x k v| .insert t x k v=>match qh P t,cO P x,cO P k,cO P v with
    |some (m,_),some x,some k,some v=>some (.mw (.set m) [x,k,v])
    |_,_,_,_=>none
  | .makeInterface _ _=>some .bad
  | .panic _=>some .bad
  |_=>none
inductive Pw where
  |pure|look|make|write
  deriving DecidableEq,Repr
def fD.cls:fD->Pw
  | .new _| .box _| .lD .. | .jg .. | .mq (.new _) _| .Gx _=>.make
  | .load .. | .dp .. | .slice .. | .call .. | .qT .. | .mq .. | .Gl _=>.look
  | .store .. | .append .. | .copy .. | .clear .. | .mw .. | .snd .. | .LM _=>.write
  |_=>.pure
def clash:Pw->Pw->Bool
  | .pure,_|_,.pure=>false
  | .write,_|_,.write=>true
  |_,_=>false
def iN (ops:Array Oper):Array Nat:=Region.before ops
def oN:fD->Bool:=fun o=>o.cls==.make||o.cls==.write
def fD.kN:fD->Bool
  | .call .. | .qT .. =>true
  |_=>false
def zY (ops:Array Oper) (o:Oper):Option (Option (Nat×Bool)):=
  match o.guard with
  |none=>some none
  |some (i,b)=>match (ops[i]?).bind (·.dst)with
    |some t=>some (some (t,b))
    |none=>none
def k5 (P:Program) (ops:Array Oper) (nt site0:Nat) (draw mk:Bool) (bs:Array Nat) (hidden:List (Nat×Bool)) (j:Nat) (o:Oper):Option aV:=do
  let v <-oW P o.op
  let g <-zY ops o
  if (o.dst.all fun d=>decide (d<nt))then
    pure {dst:=o.dst,op:=v,guard:=g,site:=site0+j,hid:=if draw then(hidden.filter fun(i,m)=>m&& !(bs.getD j 0).testBit i&&(i !=j||mk&&v.kN)).map fun(i,_)=>site0+i else[]}
  else none
def allM {α:Type} (f:Nat->Oper->Option α):List Oper->Nat->Option (List α)
  |[],_=>some []
  |o::r,j=>do pure ((<-f j o)::(<-allM f r (j+1)))
def fR:O->List Nat
  | .t n=>[n]
  |_=>[]
def th:Option O->List Nat
  |some x=>fR x
  |none=>[]
def fD.fH:fD->List Nat
  | .clear _ x| .cG x| .box x| .load _ _ x| .x9 x| .Ng _ _ x| .OS _ x| .not x| .neg x| .conv _ x| .BX x| .fm _ x| .field _ _ _ x| .extract _ x| .len x| .IT x| .Gx x| .Gl x| .LM x=>fR x
  | .pick c a b=>fR c++fR a++fR b
  | .new _| .bad=>[]
  | .build _ ps=>ps.flatMap fun(_,_,x)=>fR x
  | .lD _ _ ps=>ps.flatMap fR
  | .store _ a x| .snd a x=>fR a++fR x
  | .bin _ _ x y| .sh _ x y| .H0 _ x y| .KF _ _ x y| .OR _ _ x y| .dp _ x y| .IG _ _ x y| .II x y| .fF _ _ _ x y| .append _ x y| .copy _ x y| .jg _ x y=>fR x++fR y
  | .slice _ x lo hi| .xf x lo hi=>fR x++th lo++th hi
  | .I1 _ l| .I2 _ l| .call _ l| .mq _ l| .mw _ l=>l.flatMap fR
  | .qT x l=>fR x++l.flatMap fR
def aV.fH (v:aV):List Nat:=v.op.fH++(match v.guard with|some (t,_)=>[t]|none=>[])
def qK (x y:aV):Bool:=
  (match x.dst with
   |some d=> !y.fH.contains d&&y.dst !=some d
   |none=>true)&&
  (match y.dst with
   |some d=> !x.fH.contains d
   |none=>true)
def aV.makes (v:aV):Bool:=oN v.op||v.op.kN&&v.hid.contains v.site
def Ca (x y:aV):Bool:=
  qK x y&& !clash x.op.cls y.op.cls&&(!x.makes||y.hid.contains x.site)&&(!y.makes||x.hid.contains y.site)&&x.site !=y.site
def B3 (ops:Array Oper):Bool:=ops.toList.zipIdx.all fun(o,j)=>o.after.all fun e=> !Region.binds .any e||decide (e.on<j)
def mZ (ops:Array Oper) (vl:List aV) (bs:Array Nat):Bool:=
  B3 ops&&vl.zipIdx.all fun(y,j)=>vl.zipIdx.all fun(x,i)=> !(decide (i<j))||(bs.getD j 0).testBit i||Ca x y
def pg (P:Program) (nt site0:Nat) (ops:Array Oper) (draw mk:Bool):Option (List aV):=
  let bs:=if draw then iN ops else #[]
  let hidden:=if draw then ops.toList.zipIdx.map fun(o,i)=>(i,((oW P o.op).map fun v=>oN v||mk&&v.kN).getD false)else[]
  match allM (k5 P ops nt site0 draw mk bs hidden) ops.toList 0 with
  |some vl=>if !draw||mZ ops vl bs then some vl else none
  |none=>none
def j0 (v:aV):Bool:= !v.op.kN&&v.op.cls !=.write
def uX (x y:aV):Bool:=qK x y&&x.op.cls==.pure||Ca x y&&j0 x&&j0 y
def oE (ops:Array Oper) (vl:List aV) (bs:Array Nat) (listed:Array Bool) (i:Nat):Bool:=
  match vl[i]? with
  |some x=>(List.range ops.size).all fun j=>listed.getD j false||j==i||(bs.getD j 0).testBit i||(match vl[j]? with|some y=>uX x y|none=>false)
  |none=>false
def J9 (vl:List aV) (x:aV):Option (Nat×Nat×O):=
  match x.op,x.guard with
  | .append _ (.t t) y,none=>match vl.find? fun v=>v.dst==some t&&v.op.cls==.make with
    |some v=>some (t,v.site,y)
    |none=>none
  |_,_=>none
def B9 (s:Nat) (x y:aV):Bool:=qK x y&&j0 y&&y.hid.contains s&&y.hid.contains x.site&&y.site !=s&&y.site !=x.site
def m4 (ops:Array Oper) (vl:List aV) (bs:Array Nat) (listed:Array Bool) (i s:Nat):Bool:=
  match vl[i]? with
  |some x=>(List.range ops.size).all fun j=>listed.getD j false||j==i||(bs.getD j 0).testBit i||(match vl[j]? with|some y=>B9 s x y|none=>false)
  |none=>false
def Ly (ops:Array Oper) (vl:List aV) (bs:Array Nat) (listed:Array Bool) (i:Nat):Option (Nat×Nat×Nat×O×aV):=
  match vl[i]? with
  |some x=>match J9 vl x with
    |some (t,s,y)=>if m4 ops vl bs listed i s then some (i,t,s,y,x)else none
    |none=>none
  |none=>none
def xX:List VC->Option VC
  |[]=>none
  |[c]=>some c
  |c::r=>(xX r).map (VC.both c)
def tM (ops:Array Oper) (vl:List aV) (bs:Array Nat):Nat->Array Bool->Option VC
  |0,listed=>
    match Region.ready .any ops listed with
    |[]=>some (.eb false [])
    |_::_=>none
  |n+1,listed=>
    match Region.ready .any ops listed with
    |[]=>some (.eb false [])
    |r::rs=>let rdy:=r::rs
      match rdy.find? (oE ops vl bs listed)with
      |some i=>match vl[i]? with
        |some vo=>(tM ops vl bs n (listed.setIfInBounds i true)).map (VC.one vo)
        |none=>none
      |none=>match rdy.findSome? (Ly ops vl bs listed)with
        |some (i,t,s,y,vo)=>(tM ops vl bs n (listed.setIfInBounds i true)).map fun c=>VC.loc t s y (.one vo c)
        |none=>match rdy.mapM fun i=>(vl[i]?).bind fun vo=>(tM ops vl bs n (listed.setIfInBounds i true)).map (VC.one vo)with
          |some l=>xX l
          |none=>none
def J7:Op->Bool
  | .send .. | .recv .. =>true
  |_=>false
def M8 (P:Program) (nt site0:Nat) (ops:Array Oper) (draw:Bool) (mode:Nat):Option VC:=
  if draw&&mode==2 then
    match allM (k5 P ops nt site0 true false (iN ops) (ops.toList.zipIdx.map fun(o,i)=>(i,((oW P o.op).map oN).getD false))) ops.toList 0 with
    |some vl=>tM ops vl (iN ops) ops.size (Array.replicate ops.size false)
    |none=>none
  else if !draw&&ops.any (fun o=>J7 o.op)then(pg P nt site0 ops false false).map VC.Kz
  else(pg P nt site0 ops draw (mode==1)).map (VC.eb draw)
def td (md:List (Nat×Nat)) (id:Nat):Nat:=
  match md with
  |[]=>0
  |(i,m)::r=>if i=id then m else td r id
def gZ (P:Program) (md:List (Nat×Nat)) (nt sI:Nat):Code->Option VC
  | .skip=>some .skip
  | .region id ops draw=>M8 P nt ((sI*1000+id)*1000) ops draw (td md id)
  | .seq a b=>do pure (.seq (<-gZ P md nt sI a) (<-gZ P md nt sI b))
  | .cond c x y=>do pure (.cond (<-cO P c) (<-gZ P md nt sI x) (<-gZ P md nt sI y))
  | .block id c=>(gZ P md nt sI c).map (VC.block id)
  | .loop c=>(gZ P md nt sI c).map VC.loop
  | .exit id=>some (.exit id)
  | .ret=>some .ret
  | .label _=>some .skip
  | .scope c=>gZ P md nt sI c
  |_=>none
def CW (P:Program) (r:ResultVar):Option nU:=
  match r with
  | .tmp t=>some (.tmp t)
  | .cell a t=>do pure (.cell (<-ml P t) (<-dx P t) a)
def ud (P:Program) (f:Nat) (md:List (Nat×Nat)):Option xt:=
  match P.funcs[f]? with
  |some fn=>match fn.body with
    |some c=>do
      let b <-gZ P md fn.ntmps f c
      let r <-fn.results.toList.mapM (CW P)
      if fn.params.size+fn.nfree<=fn.ntmps then pure {ntmps:=fn.ntmps,vD:=fn.params.size+fn.nfree,body:=b,res:=r}else none
    |none=>none
  |none=>none
def lE (P:Program) (f:Nat):Option xt:=ud P f []
theorem ab {P:Prop} (h:P:=by omega):P:=h
theorem bt {P:Prop} (h:P:=by(try dsimp only);omega):P:=h
structure Row where
 w:Bool
 sz:Nat
 rows:List (List AV)
abbrev Rows:=Id->Option Row
structure aw where
 get:Rows
 next:Nat
abbrev Env:=Nat->AV
def upd (env:Env):Option Nat->AV->Env
 |some d,v=>fun t=>if t=d then v else env t
 |none,_=>env
inductive Ex where
 |normal
 |exit (id:Nat)
 |ret
 deriving DecidableEq
def cv (env:Env):O->AV
 | .t n=>env n
 | .k c=>c.av
 | .ka cs=>.agg (cs.map K.av)
 | .f n=>.fn n []
def bK (g:Rows) (id:Id) (r:Row):Rows:=fun i=>if i=id then some r else g i
def bY (g:Rows) (id:Id):Rows:=fun i=>if i=id then none else g i
def fV:List Nat->Nat->Rows->Rows
 |[],_,g=>g
 |h::t,n,g=>fun id=>if (h::t).contains id.site=true/\id.bV=n then none else g id
def ro (g:Rows):Rows:=fun id=>(g id).map fun r=>{r with w:=false}
def part (agg:Bool) (n:Nat) (cs:List AV):Option AV:=
 if agg then(if n<=cs.length then some (.agg (cs.take n))else none)else cs.head?
def rowAt (g:Rows) (id:Id) (i:Nat):Option (List AV):=(g id).bind (·.rows[i]?)
def ld (g:Rows) (agg:Bool) (n:Nat):AV->Option AV
 | .ptr id i off=>(rowAt g id i).bind fun cs=>part agg n (cs.drop off)
 | .cK cs=>part agg n cs
 |_=>none
def dH:BinOp->IntKind->Int->Int->Option AV
 | .add,k,a,b=>some (.int k (k.wrap (a+b)))
 | .sub,k,a,b=>some (.int k (k.wrap (a-b)))
 | .mul,k,a,b=>some (.int k (k.wrap (a*b)))
 | .quo,k,a,b=>if b=0 then none else some (.int k (k.wrap (a.tdiv b)))
 | .rem,k,a,b=>if b=0 then none else some (.int k (a.tmod b))
 | .lss,_,a,b=>some (.bool (decide (a<b)))
 | .leq,_,a,b=>some (.bool (decide (a<=b)))
 | .gtr,_,a,b=>some (.bool (decide (b<a)))
 | .geq,_,a,b=>some (.bool (decide (b<=a)))
 | .and,k,a,b=>some (.int k (k.wrap (BitVec.ofInt k.bits a&&& BitVec.ofInt k.bits b).toNat))
 | .or,k,a,b=>some (.int k (k.wrap (BitVec.ofInt k.bits a|||BitVec.ofInt k.bits b).toNat))
 | .xor,k,a,b=>some (.int k (k.wrap (BitVec.ofInt k.bits a ^^^ BitVec.ofInt k.bits b).toNat))
 |_,_,_,_=>none
def eh (op:BinOp):AV->AV->Option AV
 | .int k a,.int k' b=>if k=k' then dH op k a b else none
 |_,_=>none
def ij (left:Bool):AV->AV->Option AV
 | .int k a,.int _ b=>if b<0 then none else some (.int k (if left then k.wrap (a*2 ^ min b.toNat k.bits)else a.fdiv (2 ^ min b.toNat k.bits)))
 |_,_=>none
def eA:BinOp->ByteArray->ByteArray->Option AV
 | .add,a,b=>if a.size+b.size<=9223372036854775807 then some (.str (a++b))else none
 | .lss,a,b=>some (.bool (Op.bytesLess a.toList b.toList))
 | .leq,a,b=>some (.bool (Op.bytesLess a.toList b.toList||(a.toList==b.toList)))
 | .gtr,a,b=>some (.bool !(Op.bytesLess a.toList b.toList||(a.toList==b.toList)))
 | .geq,a,b=>some (.bool !(Op.bytesLess a.toList b.toList))
 |_,_,_=>none
def da (op:BinOp):AV->AV->Option AV
 | .str a,.str b=>eA op a b
 |_,_=>none
def fZ:TS->AV->AV->Option Bool
 | .tI,.int k a,.int k' b=>if k=k' then some (decide (a=b))else none
 | .tB,.bool a,.bool b=>some (a==b)
 | .tS,.str a,.str b=>some (decide (a=b))
 |_,_,_=>none
def eX:List TS->List AV->List AV->Option Bool
 |[],[],[]=>some true
 |t::ts,a::r,b::s=>match fZ t a b,eX ts r s with
  |some x,some y=>some (x&&y)
  |_,_=>none
 |_,_,_=>none
def dr (neg b:Bool):Bool:=if neg then !b else b
def cY:AV->Option Bool
 | .bC=>some true
 | .own _ _ _=>some false
 | .sl (_::_)=>some false
 |_=>none
def cX:AV->Option Bool
 | .iG=>some true
 | .fn _ _=>some false
 |_=>none
def Hj:AV->Option Bool
 | .gj=>some true
 | .ptr .. | .cK _=>some false
 |_=>none
def eo (IM:Bool) (x:AV):Option Bool:=if IM then cX x else cY x
def dR (len:Nat):Option AV->Option Nat
 |none=>some len
 |some (.int _ n)=>if 0<=n/\n<=len then some n.toNat else none
 |_=>none
def dS (h:Nat):Option AV->Option Nat
 |none=>some 0
 |some (.int _ n)=>if 0<=n/\n<=h then some n.toNat else none
 |_=>none
def bR (g:Rows) (sz:Nat) (x:AV) (lo hi:Option AV):Option AV:=
 match x with
 | .bC=>(dR 0 hi).bind fun h=>(dS h lo).map fun _=>.bC
 | .sl rows=>(dR rows.length hi).bind fun h=>(dS h lo).bind fun l=>if ∀cs∈rows,cs.length=sz then some (.sl ((rows.drop l).take (h-l)))else none
 | .own id off len=>(g id).bind fun r=>(dR len hi).bind fun h=>(dS h lo).bind fun l=>if r.sz=sz then some (.own id (off+l) (h-l))else none
 |_=>none
def bf (x:AV) (lo hi:Option AV):Option AV:=
 match x with
 | .str s=>(dR s.size hi).bind fun h=>(dS h lo).map fun l=>.str (s.extract l h)
 |_=>none
def BM (off:Nat):AV->Option AV
 | .ptr id i o=>some (.ptr id i (o+off))
 | .cK cs=>some (.cK (cs.drop off))
 |_=>none
def bQ (g:Rows) (sz:Nat):AV->AV->Option AV
 | .sl rows,.int _ n=>if 0<=n then(rows[n.toNat]?).bind fun cs=>if cs.length=sz then some (.cK cs)else none else none
 | .own id off len,.int _ n=>if 0<=n/\n<len then(g id).bind fun r=>if r.sz=sz then some (.ptr id (off+n.toNat) 0)else none else none
 |_,_=>none
def cQ (len sz:Nat):AV->AV->Option AV
 | .ptr id r off,.int _ n=>if 0<=n/\n<len then some (.ptr id r (off+n.toNat*sz))else none
 | .cK cs,.int _ n=>if 0<=n/\n<len then some (.cK (cs.drop (n.toNat*sz)))else none
 |_,_=>none
def cT:AV->AV->Option AV
 | .str s,.int _ n=>if 0<=n then(s[n.toNat]?).map fun b=>.int .u8 b.toNat else none
 |_,_=>none
def cR (agg:Bool) (len n:Nat):AV->AV->Option AV
 | .agg cs,.int _ i=>if 0<=i/\i<len then part agg n (cs.drop (i.toNat*n))else none
 |_,_=>none
def ej:AV->Option Nat
 | .bC=>some 0
 | .sl rows=>some rows.length
 | .own _ _ n=>some n
 |_=>none
def ep:AV->Option AV
 | .bool b=>some (.bool !b)
 |_=>none
def ek:AV->Option AV
 | .int k n=>some (.int k (k.wrap (0-n)))
 |_=>none
def cP (k:IntKind):AV->Option AV
 | .int _ n=>some (.int k (k.wrap n))
 |_=>none
def bU:AV->Option AV
 | .str s=>some (.str s)
 |_=>none
def cZ:AV->AV->AV->Option AV
 | .bool c,a,b=>some (if c then a else b)
 |_,_,_=>none
def ei:AV->Option AV
 | .ptr id i o=>some (.ptr id i o)
 | .cK cs=>some (.cK cs)
 |_=>none
def bP (agg:Bool) (off n:Nat):AV->Option AV
 | .agg cs=>if off+n<=cs.length then part agg n (cs.drop off)else none
 |_=>none
def aM (i:Nat):AV->Option AV
 | .ib vs=>vs[i]?
 |_=>none
def cV:AV->Option AV
 | .str s=>some (.int .i64 s.size)
 |_=>none
def rowOf (sz:Nat) (v:AV):Option (List AV):=if v.cells.length=sz/\v.cells.all AV.cell then some v.cells else none
def cL (v:AV):Option (List AV):=if v.cells.all AV.cell then some v.cells else none
def rowsOf (sz:Nat):List AV->Option (List (List AV))
 |[]=>some []
 |v::r=>(rowOf sz v).bind fun c=>(rowsOf sz r).map fun cs=>c::cs
def cz:List AV->List (Nat×Nat×AV)->Option (List AV)
 |cs,[]=>some cs
 |cs,(off,n,v)::r=>if v.cells.length=n/\off+n<=cs.length/\v.cells.all AV.cell then cz (cs.take off++v.cells++cs.drop (off+n)) r else none
def dJ:Nat:=16777216
def ig (zero:List K):AV->AV->Option (Nat×Row)
 | .int _ l,.int _ c=>if 0<=l/\l<=c/\c<=dJ then some (l.toNat,⟨true,zero.length,List.replicate l.toNat (zero.map K.av)⟩)else none
 |_,_=>none
def n9:Nat:=1000000000
def MK.ks (m:MK):Nat:=m.ts.length
def MK.Bp (m:MK):Nat:=n9+m.ks
def AV.isAgg:AV->Bool
 | .agg _=>true
 |_=>false
def gG (m:MK) (key:List AV):List (List AV)->Nat->Option (Option Nat)
 |[],_=>some none
 |r::l,i=>match eX m.ts key (r.take m.ks)with
  |some true=>some (some i)
  |some false=>gG m key l (i+1)
  |none=>none
def dX (g:Rows) (m:MK):AV->Option (Id×Row)
 | .map id m'=>if m'=m then(g id).map fun r=>(id,r)else none
 |_=>none
def gx (m:MK) (k:AV) (rows:List (List AV)):Option (Option Nat):=if k.isAgg=m.ka/\k.cells.length=m.ks/\k.cells.all AV.cell then gG m k.cells rows 0 else none
def ef (m:MK) (z:K) (rows:List (List AV)):Option Nat->Option AV
 |some i=>(rows[i]?).bind fun cs=>cs[m.ks]?
 |none=>some z.av
def bB (q:MQ) (vs:List AV) (g:Rows) (id:Id):Option (AV×Option Row):=
 match q,vs with
 | .new m,[]=>some (.map id m,some ⟨true,m.Bp,[]⟩)
 | .look m ok z,[x,k]=>(dX g m x).bind fun p=>(gx m k p.2.rows).bind fun fi=>(ef m z p.2.rows fi).map fun v=>(if ok then .ib [v,.bool fi.isSome]else v,none)
 | .len m,[x]=>(dX g m x).map fun p=>(.int .i64 p.2.rows.length,none)
 |_,_=>none
def ph:Nat:=2000000000
def cW:AV->Option Nat
 | .int _ n=>if 0<=n/\n<=1048576 then some n.toNat else none
 |_=>none
def cU (g:Rows):AV->Option AV
 | .qk id=>(g id).map fun r=>.int .i64 r.rows.length
 |_=>none
def eu (g:Rows):AV->AV->Option Rows
 | .qk id,v=>(g id).bind fun r=>if r.w/\ph+r.rows.length<r.sz/\v.cell then some (bK g id {r with rows:=r.rows++[[v]]})else none
 |_,_=>none
def er (g:Rows):AV->Option (AV×Rows)
 | .qk id=>(g id).bind fun r=>match r.rows with
  |[v]::rest=>if r.w then some (v,bK g id {r with rows:=rest})else none
  |_=>none
 |_=>none
def dO (rows:List (List AV)) (e:List AV):Option Nat->List (List AV)
 |some i=>rows.set i e
 |none=>rows++[e]
def ea (rows:List (List AV)):Option Nat->List (List AV)
 |some i=>rows.eraseIdx i
 |none=>rows
def bH (q:MW) (vs:List AV) (g:Rows):Option Rows:=
 match q,vs with
 | .set m,[x,k,v]=>(dX g m x).bind fun p=>(gx m k p.2.rows).bind fun fi=>if p.2.w/\v.cell/\v.isAgg=false then some (bK g p.1 {p.2 with rows:=dO p.2.rows (k.cells++[v]) fi})else none
 | .del m,[x,k]=>(dX g m x).bind fun p=>(gx m k p.2.rows).bind fun fi=>if p.2.w then some (bK g p.1 {p.2 with rows:=ea p.2.rows fi})else none
 |_,_=>none
def eE (o:fD) (ρ:O->AV) (g:Rows) (id:Id):Option (AV×Option Row):=
 match o with
 | .cG x=>some (ρ x,none)
 | .pick c a b=>(cZ (ρ c) (ρ a) (ρ b)).map (·,none)
 | .new zero=>some (.ptr id 0 0,some ⟨true,zero.length,[zero.map K.av]⟩)
 | .box x=>(cL (ρ x)).map fun cs=>(.ptr id 0 0,some ⟨true,cs.length,[cs]⟩)
 | .build zero parts=>(cz (zero.map K.av) (parts.map fun(o,n,x)=>(o,n,ρ x))).map fun cs=>(.agg cs,none)
 | .lD sz len parts=>(rowsOf sz (parts.map ρ)).map fun rs=>(.own id 0 len,some ⟨true,sz,rs⟩)
 | .load agg n a=>(ld g agg n (ρ a)).map (·,none)
 | .x9 x=>(ei (ρ x)).map (·,none)
 | .bin op _ x y=>(eh op (ρ x) (ρ y)).map (·,none)
 | .sh left x y=>(ij left (ρ x) (ρ y)).map (·,none)
 | .H0 op x y=>(da op (ρ x) (ρ y)).map (·,none)
 | .KF neg t x y=>(fZ t (ρ x) (ρ y)).map fun b=>(.bool (dr neg b),none)
 | .OR neg ts x y=>match ρ x,ρ y with
  | .agg xs,.agg ys=>(eX ts xs ys).map fun b=>(.bool (dr neg b),none)
  |_,_=>none
 | .Ng neg IM x=>(eo IM (ρ x)).map fun b=>(.bool (dr neg b),none)
 | .OS neg x=>(Hj (ρ x)).map fun b=>(.bool (dr neg b),none)
 | .not x=>(ep (ρ x)).map (·,none)
 | .neg x=>(ek (ρ x)).map (·,none)
 | .conv k x=>(cP k (ρ x)).map (·,none)
 | .BX x=>(bU (ρ x)).map (·,none)
 | .slice sz x lo hi=>(bR g sz (ρ x) (lo.map ρ) (hi.map ρ)).map (·,none)
 | .xf x lo hi=>(bf (ρ x) (lo.map ρ) (hi.map ρ)).map (·,none)
 | .fm off x=>(BM off (ρ x)).map (·,none)
 | .field agg off n x=>(bP agg off n (ρ x)).map (·,none)
 | .dp sz x i=>(bQ g sz (ρ x) (ρ i)).map (·,none)
 | .IG len sz x i=>(cQ len sz (ρ x) (ρ i)).map (·,none)
 | .II x i=>(cT (ρ x) (ρ i)).map (·,none)
 | .fF agg len n x i=>(cR agg len n (ρ x) (ρ i)).map (·,none)
 | .extract i x=>(aM i (ρ x)).map (·,none)
 | .len x=>(ej (ρ x)).map fun(n:Nat)=>(AV.int .i64 (n:Int),none)
 | .IT x=>(cV (ρ x)).map (·,none)
 | .I1 f cr=>some (.fn f (cr.map ρ),none)
 | .I2 f first=>some (.tX f (first.map ρ),none)
 | .jg zero l c=>(ig zero (ρ l) (ρ c)).map fun(n,r)=>(.own id 0 n,some r)
 | .mq q xs=>bB q (xs.map ρ) g id
 | .Gx x=>(cW (ρ x)).map fun n=>(.qk id,some ⟨true,ph+n,[]⟩)
 | .Gl x=>(cU g (ρ x)).map (·,none)
 |_=>none
def br (g:Rows):AV->Option (List (List AV))
 | .bC=>some []
 | .sl rows=>some rows
 | .own id off len=>(g id).bind fun r=>if off+len<=r.rows.length then some ((r.rows.drop off).take len)else none
 |_=>none
def cI (cs:List AV) (off:Nat) (xs:List AV):List AV:=cs.take off++xs++cs.drop (off+xs.length)
def bS (g:Rows) (n:Nat) (v:AV):AV->Option Rows
 | .ptr id i off=>(g id).bind fun r=>(r.rows[i]?).bind fun cs=>
  if r.w/\v.cells.length=n/\v.cells.all AV.cell/\off+n<=cs.length then some (bK g id {r with rows:=r.rows.set i (cI cs off v.cells)})else none
 |_=>none
def aZ (g:Rows) (id:Id) (sz:Nat) (x:AV) (ys:List (List AV)):Option (AV×Rows):=
 match x with
 | .bC=>match ys with
  |[]=>some (.bC,g)
  |y::r=>if (y::r).length<=dJ/\(y::r).all (fun c=>c.length==sz&&c.all AV.cell)then some (.own id 0 (y::r).length,bK g id ⟨true,sz,y::r⟩)else none
 | .own i 0 len=>(g i).bind fun r=>
  if r.w/\r.sz=sz/\len=r.rows.length/\len+ys.length<=dJ/\ys.all (fun c=>c.length==sz&&c.all AV.cell)then some (.own id 0 (len+ys.length),bK (bY g i) id ⟨true,sz,r.rows++ys⟩)else none
 |_=>none
def CD (g:Rows) (sz:Nat) (x:AV) (ys:List (List AV)):Option (AV×Rows):=
 match x with
 | .own i off len=>(g i).bind fun r=>
  if r.w/\r.sz=sz/\off+len<=r.rows.length/\ys.all (fun c=>c.length==sz&&c.all AV.cell)then
   some (.int .i64 (min ys.length len:Nat),bK g i {r with rows:=r.rows.take off++ys.take (min ys.length len)++r.rows.drop (off+min ys.length len)})else none
 |_=>none
def bL (g:Rows) (zero:List K) (x:AV):Option Rows:=
 match x with
 | .bC=>some g
 | .own i off len=>(g i).bind fun r=>
  if r.w/\r.sz=zero.length/\off+len<=r.rows.length then
   some (bK g i {r with rows:=r.rows.take off++List.replicate len (zero.map K.av)++r.rows.drop (off+len)})else none
 |_=>none
def fW (o:fD) (ρ:O->AV) (g:Rows) (id:Id):Option (AV×Rows):=
 match o with
 | .store n a x=>(bS g n (ρ x) (ρ a)).map fun g'=>(.undef,g')
 | .append sz x y=>(br g (ρ y)).bind fun ys=>aZ g id sz (ρ x) ys
 | .copy sz x y=>(br g (ρ y)).bind fun ys=>CD g sz (ρ x) ys
 | .clear zero x=>(bL g zero (ρ x)).map fun g'=>(.undef,g')
 | .mw q xs=>(bH q (xs.map ρ) g).map fun g'=>(.undef,g')
 |_=>none
def sC:AV->List AV->Option (Nat×List AV)
 | .fn f cr,l=>some (f,l++cr)
 | .tX f first,l=>some (f,first++l)
 |_,_=>none
abbrev e6:=Nat->List AV->aw->(AV->aw->Prop)->Prop
mutual
def fz (g:Rows):Nat->AV->Option AV
 |0,_=>none
 |n+1,a=>match a with
  | .own id off len=>match g id with
   |some r=>if r.w then(if off+len<=r.rows.length then(dq g n ((r.rows.drop off).take len)).map AV.sl else none)else none
   |none=>none
  | .ptr id i off=>match g id with
   |some r=>if r.w then(match r.rows[i]? with
    |some cs=>(bW g n (cs.drop off)).map AV.cK
    |none=>none)else none
   |none=>none
  | .agg cs=>(bW g n cs).map AV.agg
  | .ib vs=>(bW g n vs).map AV.ib
  | .fn f cr=>if cr.all AV.cell then(bW g n cr).map (AV.fn f)else none
  | .map _ _| .tX _ _| .qk _=>none
  |v=>some v
 termination_by n _=>(n,0)
def bW (g:Rows):Nat->List AV->Option (List AV)
 |n,[]=>some []
 |n,a::r=>match fz g n a with
  |some b=>(bW g n r).map (b::·)
  |none=>none
 termination_by n l=>(n,l.length+1)
def dq (g:Rows):Nat->List (List AV)->Option (List (List AV))
 |n,[]=>some []
 |n,c::r=>match bW g n c with
  |some b=>(dq g n r).map (b::·)
  |none=>none
 termination_by n l=>(n,(l.map (fun c=>c.length+2)).sum+1)
 decreasing_by all_goals simp_wf;try omega
end
mutual
def fa (g:Rows):Nat->AV->Option AV
 |0,_=>none
 |n+1,a=>match a with
  | .own id off len=>match g id with
   |some r=>if r.w then(if off+len<=r.rows.length then(fq g n ((r.rows.drop off).take len)).map AV.sl else none)else none
   |none=>none
  | .ptr id i off=>match g id with
   |some r=>if r.w then(match r.rows[i]? with
    |some cs=>(dv g n (cs.drop off)).map AV.cK
    |none=>none)else none
   |none=>none
  | .agg cs=>(dv g n cs).map AV.agg
  | .ib vs=>(dv g n vs).map AV.ib
  | .int k m=>some (.int k m)
  | .bool b=>some (.bool b)
  | .str s=>some (.str s)
  | .bC=>some .bC
  | .gj=>some .gj
  | .iG=>some .iG
  | .iP=>some .iP
  |_=>none
 termination_by n _=>(n,0)
def dv (g:Rows):Nat->List AV->Option (List AV)
 |n,[]=>some []
 |n,a::r=>match fa g n a with
  |some b=>(dv g n r).map (b::·)
  |none=>none
 termination_by n l=>(n,l.length+1)
def fq (g:Rows):Nat->List (List AV)->Option (List (List AV))
 |n,[]=>some []
 |n,c::r=>match dv g n c with
  |some b=>(fq g n r).map (b::·)
  |none=>none
 termination_by n l=>(n,(l.map (fun c=>c.length+2)).sum+1)
 decreasing_by all_goals simp_wf;try omega
end
def dz (g:Rows):Rows:=fun id=>(g id).map fun r=>{r with w:=true}
def PC (X:e6) (f:Nat) (args:List AV) (σ:aw) (K:AV->Prop):Prop:=
 X f args ⟨ro σ.get,σ.next⟩ fun r σ'=>∃r',fz σ'.get 6 r=some r'/\K r'
def PCv (X:e6) (f:Nat) (args:List AV) (σ:aw) (K:AV->Prop):Prop:=
 ∃eI,bW (dz σ.get) 6 args=some eI/\X f eI ⟨fun _=>none,σ.next⟩ fun r σ'=>∃r',fa σ'.get 6 r=some r'/\K r'
def gN (X:e6) (f:Nat) (args:List AV) (σ:aw) (K:AV->Prop):Prop:=PC X f args σ K∨PCv X f args σ K
def aI (g:Option (Nat×Bool)) (env:Env):Bool:=
 match g with
 |none=>true
 |some (t,b)=>match env t with
  | .bool c=>c==b
  |_=>false
def AV.plain:AV->Bool
 | .int .. | .bool _| .str _| .bC| .gj| .iG| .iP=>true
 |_=>false
def CM (X:e6) (f:Nat) (args:List AV) (σ:aw) (sz:Nat) (rows:List (List AV)):Prop:=
 (∀c∈rows,∀a∈c,a.plain=true)/\∃eI,bW (dz σ.get) 6 args=some eI/\X f eI ⟨fun _=>none,σ.next⟩ fun r σ'=>∃id,r=.own id 0 rows.length/\σ'.get id=some ⟨true,sz,rows⟩
def cF (X:e6) (draw:Bool) (hid:List Nat) (site:Nat) (f:Nat) (args:List AV) (σ:aw) (next:AV->aw->Prop):Prop:=
 (∃r,gN X f args ⟨fV hid σ.next σ.get,σ.next+1⟩ (fun r'=>r'=r)/\next r σ)∨
 (draw=false/\X f args ⟨σ.get,σ.next+1⟩ next)∨
 (hid.contains site=true/\∃sz rows,CM X f args ⟨fV hid σ.next σ.get,σ.next+1⟩ sz rows/\next (.own ⟨site,σ.next⟩ 0 rows.length) ⟨bK σ.get ⟨site,σ.next⟩ ⟨true,sz,rows⟩,σ.next⟩)
def fI (X:e6) (draw:Bool) (o:aV) (env:Env) (σ:aw) (next:AV->aw->Prop):Prop:=
 match o.op with
 | .call f args=>cF X draw o.hid o.site f (args.map (cv env)) σ next
 | .qT x args=>match cv env x with
  | .fn f cr=>cF X draw o.hid o.site f (args.map (cv env)++cr) σ next
  | .tX f first=>cF X draw o.hid o.site f (first++args.map (cv env)) σ next
  |_=>False
 | .store .. | .append .. | .copy .. | .clear .. | .mw .. =>match fW o.op (cv env) σ.get ⟨o.site,σ.next⟩with
  |some (v,g)=>next v ⟨g,σ.next⟩
  |none=>False
 |_=>match eE o.op (cv env) (fV o.hid σ.next σ.get) ⟨o.site,σ.next⟩with
  |some (v,some r)=>next v ⟨bK σ.get ⟨o.site,σ.next⟩ r,σ.next⟩
  |some (v,none)=>next v σ
  |none=>False
def wpOps (X:e6) (draw:Bool):List aV->(Env->aw->Prop)->Env->aw->Prop
 |[],K,env,σ=>K env ⟨σ.get,σ.next+1⟩
 |o::r,K,env,σ=>
  if aI o.guard env then fI X draw o env σ fun v σ'=>wpOps X draw r K (upd env o.dst v) σ'
  else wpOps X draw r K (upd env o.dst .undef) σ
def cu:List aV->(Env->aw->Prop)->Env->aw->Prop
 |[],K,env,σ=>K env ⟨σ.get,σ.next+1⟩
 |o::r,K,env,σ=>o.guard=none/\match o.op with
  | .snd x y=>match eu σ.get (cv env x) (cv env y)with
   |some g=>cu r K (upd env o.dst .undef) ⟨g,σ.next⟩
   |none=>False
  | .LM x=>match er σ.get (cv env x)with
   |some (v,g)=>cu r K (upd env o.dst v) ⟨g,σ.next⟩
   |none=>False
  |op=>match eE op (cv env) σ.get ⟨o.site,σ.next⟩with
   |some (v,none)=>cu r K (upd env o.dst v) σ
   |_=>False
def dD (next:Env->aw->Prop) (Q:Ex->Env->aw->Prop):Ex->Env->aw->Prop
 | .normal=>next
 |e=>Q e
def bp (id:Nat) (Q:Ex->Env->aw->Prop):Ex->Env->aw->Prop
 | .exit jU=>if jU=id then Q .normal else Q (.exit jU)
 |e=>Q e
def Cq (W:(Ex->Env->aw->Prop)->Env->aw->Prop) (Q:Ex->Env->aw->Prop):Nat->Env->aw->Prop
 |0=>fun _ _=>False
 |n+1=>W (dD (Cq W Q n) Q)
def IU (t s:Nat) (y:O) (env:Env) (n:Nat):Prop:=(∃len,env t=.own ⟨s,n⟩ 0 len)/\∀id o l,cv env y=.own id o l->id.bV≠n
def dP (X:e6):VC->(Ex->Env->aw->Prop)->Env->aw->Prop
 | .skip,Q=>Q .normal
 | .eb draw ops,Q=>wpOps X draw ops (Q .normal)
 | .seq a b,Q=>dP X a (dD (dP X b Q) Q)
 | .cond c x y,Q=>fun env σ=>match cv env c with
  | .bool b=>if b then dP X x Q env σ else dP X y Q env σ
  |_=>False
 | .block id c,Q=>dP X c (bp id Q)
 | .loop c,Q=>fun env σ=>∃n,Cq (dP X c) Q n env σ
 | .exit id,Q=>Q (.exit id)
 | .ret,Q=>Q .ret
 | .one o c,Q=>fun env σ=>if aI o.guard env then fI X false o env σ fun v σ'=>dP X c Q (upd env o.dst v) σ' else dP X c Q (upd env o.dst .undef) σ
 | .both a b,Q=>fun env σ=>dP X a Q env σ/\dP X b Q env σ
 | .loc t s y c,Q=>fun env σ=>IU t s y env σ.next/\dP X c Q env σ
 | .Kz ops,Q=>cu ops (Q .normal)
def gI (env:Env) (g:Rows):nU->Option AV
 | .tmp t=>some (env t)
 | .cell agg n t=>ld g agg n (env t)
def eQ (env:Env) (g:Rows):List nU->Option (List AV)
 |[]=>some []
 |r::l=>(gI env g r).bind fun v=>(eQ env g l).map (v::·)
def dU:List AV->AV
 |[v]=>v
 |l=>.ib l
def cq (args:List AV):Env:=fun t=>args.getD t .undef
def kQ (res:List nU) (K:AV->aw->Prop):Ex->Env->aw->Prop
 | .exit _,_,_=>False
 |_,env,σ=>∃vs,eQ env σ.get res=some vs/\K (dU vs) σ
inductive jl (P:Program) (w:World) (D:Nat->Prop):AV->Value->Prop
 |int (k n):jl P w D (.int k n) (.int k n)
 |bool (b):jl P w D (.bool b) (.bool b)
 |str (s):jl P w D (.str s) (.string s)
 |bC:jl P w D .bC (.slice none 0 0)
 |gj:jl P w D .gj (.pointer none)
 |iG:jl P w D .iG .nilFunc
 |zI (a c):c<=maxLen->jl P w D (.sl []) (.slice a 0 c)
 |sl (rows b o n c sz) (vs:Nat->Nat->Value):rows.length=n->n<=c->c<=maxLen->D b->(∀cs∈rows,cs.length=sz)->(∀cs∈rows,∀a∈cs,a.cell=true)->
   (∀i j,i<n->j<sz->w.cell? ⟨b,o+(i*sz+j),none⟩=some (vs i j))->
   (∀i j cs a,rows[i]? =some cs->cs[j]? =some a->jl P w D a (vs i j))->jl P w D (.sl rows) (.slice (some ⟨b,o,none⟩) n c)
 |cK (cs b o) (vs:Nat->Value):D b->(∀a∈cs,a.cell=true)->(∀j,j<cs.length->w.cell? ⟨b,o+j,none⟩=some (vs j))->
   (∀j a,cs[j]? =some a->jl P w D a (vs j))->jl P w D (.cK cs) (.pointer (some ⟨b,o,none⟩))
 |agg (cs) (vs:Array Value) (f:Nat->Value):vs.size=cs.length->(∀a∈cs,a.cell=true)->(∀j,j<cs.length->vs[j]? =some (f j))->(∀j a,cs[j]? =some a->jl P w D a (f j))->jl P w D (.agg cs) (.agg vs)
 |fn (f cr) (vs:Array Value) (g:Nat->Value):e8 P f=true->vs.size=cr.length->(∀j,j<cr.length->vs[j]? =some (g j))->(∀j a,cr[j]? =some a->jl P w D a (g j))->jl P w D (.fn f cr) (.func (.func f) #[] vs)
 |iP:jl P w D .iP (.map none)
inductive BK where
 |map (m:MK)
 |chan (cap:Nat)
structure qN where
 b:Nat
 sz:Nat
 C:Nat
 k:Option BK
abbrev Names:=Id->Option qN
inductive cw (P:Program) (w:World) (D:Nat->Prop) (ι:Names):AV->Value->Prop
 |ev (a v):jl P w D a v->cw P w D ι a v
 |own (id off len o cap B):ι id=some B->B.k=none->len<=cap->(cap=0∨o=off*B.sz)->(off+cap)*B.sz<=B.C->cap<=maxLen->cw P w D ι (.own id off len) (.slice (some ⟨B.b,o,none⟩) len cap)
 |ptr (id i off B):ι id=some B->B.k=none->cw P w D ι (.ptr id i off) (.pointer (some ⟨B.b,i*B.sz+off,none⟩))
 |agg (cs) (vs:Array Value) (f:Nat->Value):vs.size=cs.length->(∀a∈cs,a.cell=true)->(∀j,j<cs.length->vs[j]? =some (f j))->(∀j a,cs[j]? =some a->cw P w D ι a (f j))->cw P w D ι (.agg cs) (.agg vs)
 |ib (cs) (vs:Array Value) (f:Nat->Value):vs.size=cs.length->(∀j,j<cs.length->vs[j]? =some (f j))->(∀j a,cs[j]? =some a->cw P w D ι a (f j))->cw P w D ι (.ib cs) (.tuple vs)
 |fn (f cr) (vs:Array Value) (g:Nat->Value):e8 P f=true->vs.size=cr.length->(∀j,j<cr.length->vs[j]? =some (g j))->(∀j a,cr[j]? =some a->cw P w D ι a (g j))->cw P w D ι (.fn f cr) (.func (.func f) #[] vs)
 |qk (id c B):ι id=some B->B.k=some (.chan c)->cw P w D ι (.qk id) (.chan (some B.b))
 |map (id m B):ι id=some B->B.k=some (.map m)->cw P w D ι (.map id m) (.map (some B.b))
 |tX (f cr) (vs:Array Value) (g:Nat->Value):e8 P f=true->vs.size=cr.length->(∀j,j<cr.length->vs[j]? =some (g j))->(∀j a,cr[j]? =some a->cw P w D ι a (g j))->cw P w D ι (.tX f cr) (.func (.func f) vs #[])
variable {P:Program} {w w':World} {D D':Nat->Prop} {ι ι':Names}
theorem jl.frame (hD:∀b,D b->w'.heap[b]? =w.heap[b]?) (hs:∀b,D b->D' b) {a:AV} {v:Value} (h:jl P w D a v):jl P w' D' a v:=by
 induction h with
 |int k n=>exact .int k n
 |bool b=>exact .bool b
 |str s=>exact .str s
 |bC=>exact .bC
 |gj=>exact .gj
 |iG=>exact .iG
 |iP=>exact .iP
 |zI a c h=>exact .zI a c h
 |sl rows b o n c sz vs h1 h2 h3 h4 h5 h5' h6 _ ih=>exact .sl rows b o n c sz vs h1 h2 h3 (hs b h4) h5 h5' (fun i j hi hj=>(World.cell?_of_block (hD b h4)).trans (h6 i j hi hj)) ih
 |cK cs b o vs h1 Nq h2 _ ih=>exact .cK cs b o vs (hs b h1) Nq (fun j hj=>(World.cell?_of_block (hD b h1)).trans (h2 j hj)) ih
 |agg cs vs f h1 h2 h3 _ ih=>exact .agg cs vs f h1 h2 h3 ih
 |fn f cr vs g h1 h2 h3 _ ih=>exact .fn f cr vs g h1 h2 h3 ih
theorem cw.frame (hD:∀b,D b->w'.heap[b]? =w.heap[b]?) (hs:∀b,D b->D' b) (hι:∀id B,ι id=some B->ι' id=some B) {a:AV} {v:Value} (h:cw P w D ι a v):cw P w' D' ι' a v:=by
 induction h with
 |ev a v h=>exact .ev a v (h.frame hD hs)
 |map id m B h1 h2=>exact .map id m B (hι _ _ h1) h2
 |qk id c B h1 h2=>exact .qk id c B (hι _ _ h1) h2
 |own id off len o cap B h1 h2 h3 h4 h5 h6=>exact .own id off len o cap B (hι _ _ h1) h2 h3 h4 h5 h6
 |ptr id i off B h1 h2=>exact .ptr id i off B (hι _ _ h1) h2
 |agg cs vs f h1 h2 h3 _ ih=>exact .agg cs vs f h1 h2 h3 ih
 |ib cs vs f h1 h2 _ ih=>exact .ib cs vs f h1 h2 ih
 |fn f cr vs g h1 h2 h3 _ ih=>exact .fn f cr vs g h1 h2 h3 ih
 |tX f cr vs g h1 h2 h3 _ ih=>exact .tX f cr vs g h1 h2 h3 ih
theorem cw.undef:cw P w D ι .undef Go.undef:=.ib [] #[] (fun _=>Go.undef) rfl (fun j hj=>by simp at hj) (fun j a h=>by simp at h)
theorem tr (c:K):cw P w D ι c.av c.val:=by
 cases c with
 |int k n=>exact .ev _ _ (.int k n)
 |bool b=>exact .ev _ _ (.bool b)
 |str l=>exact .ev _ _ (.str _)
 |bC=>exact .ev _ _ .bC
 |gj=>exact .ev _ _ .gj
 |iG=>exact .ev _ _ .iG
 |iP=>exact .ev _ _ .iP
theorem K.ly (c:K):c.av.cell=true:=by cases c<;>rfl
theorem wN {v:Value} {c:K} (h:DH v=some c):v=c.val:=by
 unfold DH at h
 split at h<;>simp at h<;>subst h<;>rfl
theorem cw.x8 {a:AV} {v:Value} (h:cw P w D ι a v) (hc:a.cell=true):v.cells= #[v]/\(∀vs,v≠.agg vs)/\(∀vs,v≠.tuple vs):=by
 cases h with
 |ev a v h=>cases h<;>simp_all [AV.cell,Value.cells]
 |own=>simp[Value.cells]
 |map=>simp[Value.cells]
 |qk=>simp[Value.cells]
 |ptr=>simp[Value.cells]
 |agg=>simp[AV.cell]at hc
 |ib=>simp[AV.cell]at hc
 |fn=>simp[Value.cells]
 |tX=>simp[Value.cells]
theorem cw.cells {a:AV} {v:Value} (h:cw P w D ι a v) (ha:a.cells.all AV.cell=true):v.cells.size=a.cells.length/\∃f:Nat->Value,(∀j,j<a.cells.length->v.cells[j]? =some (f j))/\∀j x,a.cells[j]? =some x->cw P w D ι x (f j):=by
 have one:∀(a:AV) (v:Value),a.cell=true->a.cells=[a]->cw P w D ι a v->v.cells.size=a.cells.length/\∃f:Nat->Value,(∀j,j<a.cells.length->v.cells[j]? =some (f j))/\∀j x,a.cells[j]? =some x->cw P w D ι x (f j):=by
  intro a v hc dh h
  obtain⟨h1,_,_⟩:=h.x8 hc
  rw[h1,dh]
  refine⟨rfl,fun _=>v,fun j hj=>?_,fun j x hx=>?_⟩
  ·have:j=0:=by simp at hj;omega
   subst this;rfl
  ·cases j with
   |zero=>simp at hx;subst hx;exact h
   |succ j=>simp at hx
 cases h with
 |ev a v h=>
  cases h with
  |agg cs vs f h1 h2 h3 h4=>exact⟨h1,f,h3,fun j x hx=>.ev _ _ (h4 j x hx)⟩
  |_=>exact one _ _ rfl rfl (.ev _ _ (by constructor<;>assumption))
 |own id off len o cap B h1 h2 h3 h4 h5 h6=>exact one _ _ rfl rfl (.own id off len o cap B h1 h2 h3 h4 h5 h6)
 |ptr id i off B h1 h2=>exact one _ _ rfl rfl (.ptr id i off B h1 h2)
 |map id m B h1 h2=>exact one _ _ rfl rfl (.map id m B h1 h2)
 |qk id c B h1 h2=>exact one _ _ rfl rfl (.qk id c B h1 h2)
 |agg cs vs f h1 h2 h3 h4=>exact⟨h1,f,h3,h4⟩
 |ib cs vs f h1 h2 h3=>simp[AV.cells,AV.cell]at ha
 |fn f cr vs g h1 h2 h3 h4=>exact one _ _ rfl rfl (.fn f cr vs g h1 h2 h3 h4)
 |tX f cr vs g h1 h2 h3 h4=>exact one _ _ rfl rfl (.tX f cr vs g h1 h2 h3 h4)
structure kz (P:Program) (w:World) (D:Nat->Prop) (ι:Names) (B:qN) (r:Row):Prop where
 sz:B.sz=r.sz
 CU:∃cells T,w.heap[B.b]? =some (.cells cells T (0,0))/\cells.size=B.C
 fits:r.rows.length*r.sz<=B.C
 len:∀cs∈r.rows,cs.length=r.sz
 flat:∀cs∈r.rows,∀a∈cs,a.cell=true
 at_:∀i j cs a,r.rows[i]? =some cs->cs[j]? =some a->∃v,w.cell? ⟨B.b,i*r.sz+j,none⟩=some v/\cw P w D ι a v
def Km (es:Array MapEntry) (clock:Nat):Prop:=(∀x∈es.toList,x.born<clock)/\(es.toList.map (·.born)).Nodup
def JC (P:Program) (w:World) (D:Nat->Prop) (ι:Names) (B:qN) (m:MK) (r:Row):Prop:=
 ∃(es:Array MapEntry) (clock:Nat),w.heap[B.b]? =some (.map es clock)/\es.size=r.rows.length/\((∀cs∈r.rows,cs.length=m.ks+1)/\Km es clock)/\
  ∀(i:Nat) (cs:List AV),r.rows[i]? =some cs->∃(e:MapEntry) (kv vv:AV),es[i]? =some e/\part m.ka m.ks cs=some kv/\cs[m.ks]? =some vv/\cw P w D ι kv e.key/\cw P w D ι vv e.val
def E4 (P:Program) (w:World) (D:Nat->Prop) (ι:Names) (B:qN) (c:Nat) (r:Row):Prop:=
 ∃(buf:Array Value) (s q:Nat),w.heap[B.b]? =some (.chan c buf false s q false)/\buf.size=r.rows.length/\
  ∀(i:Nat) (cs:List AV),r.rows[i]? =some cs->∃(a:AV) (u:Value),cs=[a]/\buf[i]? =some u/\cw P w D ι a u
structure gM (P:Program) (w:World) (D:Nat->Prop) (ι:Names) (B:qN) (r:Row):Prop where
 sz:B.sz=r.sz
 flat:∀cs∈r.rows,∀a∈cs,a.cell=true
 row:B.k=none->kz P w D ι B r
 map:∀m,B.k=some (.map m)->r.sz=m.Bp/\JC P w D ι B m r
 chan:∀c,B.k=some (.chan c)->r.sz=ph+c/\E4 P w D ι B c r
theorem kz.obj {B:qN} {r:Row} (R:kz P w D ι B r) (h:B.k=none):gM P w D ι B r:=⟨R.sz,R.flat,fun _=>R,fun m hm=>(by rw[h]at hm;cases hm),fun m hm=>by rw[h]at hm;cases hm⟩
theorem gM.flag {B:qN} {r:Row} (R:gM P w D ι B r) (b:Bool):gM P w D ι B {r with w:=b}:=⟨R.sz,R.flat,fun h=>⟨R.sz,(R.row h).CU,(R.row h).fits,(R.row h).len,R.flat,(R.row h).at_⟩,R.map,R.chan⟩
theorem gM.I4 {B:qN} {r:Row} (R:gM P w D ι B r) {c:Array Value} {T:TypeId} {z:Nat×Nat} (h:w.heap[B.b]? =some (.cells c T z)):B.k=none:=by
 cases hk:B.k with
 |none=>rfl
 |some m=>
  cases m with
  |map m=>obtain⟨_,es,c,h3,_⟩:=R.map m hk;rw[h]at h3;cases h3
  |chan c=>obtain⟨_,buf,s,q,h3,_⟩:=R.chan c hk;rw[h]at h3;cases h3
theorem gM.lt {B:qN} {r:Row} (R:gM P w D ι B r):B.b<w.heap.size:=by
 cases h:B.k with
 |none=>
  obtain⟨c,T,h3,_⟩:=(R.row h).CU
  exact(Array.getElem?_eq_some_iff.1 h3).1
 |some m=>
  cases m with
  |map m=>obtain⟨_,es,c,h3,_⟩:=R.map m h;exact(Array.getElem?_eq_some_iff.1 h3).1
  |chan c=>obtain⟨_,buf,s,q,h3,_⟩:=R.chan c h;exact(Array.getElem?_eq_some_iff.1 h3).1
structure fJ (P:Program) (hs:Nat) (D:Nat->Prop) (ι:Names) (g:Rows) (w:World):Prop where
 lo:hs<=w.heap.size
 dead:∀b,D b->b<w.heap.size
 row:∀id r,g id=some r->∃B,ι id=some B/\gM P w D ι B r/\(r.w=true->hs<=B.b)/\(r.w=true->¬D B.b)
 inj:∀id jU r r' B B',g id=some r->g jU=some r'->r.w=true->ι id=some B->ι jU=some B'->B.b=B'.b->id=jU
def Used (ι:Names) (n:Nat) (U:Nat->Prop):Prop:=∀id,ι id≠none->id.bV<n∨(id.bV=n/\U id.site)
structure Step (hs:Nat) (D:Nat->Prop) (ι:Names) (w:World) (D':Nat->Prop) (ι':Names) (w':World):Prop where
 below:Below hs w w'
 s5:∀b,D b->w'.heap[b]? =w.heap[b]?
 dead:∀b,D b->D' b
 names:∀id B,ι id=some B->ι' id=some B
 new:∀b,D' b->D b∨hs<=b
theorem Step.refl (hs:Nat) (D:Nat->Prop) (ι:Names) (w:World):Step hs D ι w D ι w:=⟨Below.refl _ _,fun _ _=>rfl,fun _ h=>h,fun _ _ h=>h,fun _ h=>.inl h⟩
theorem Step.trans {hs:Nat} {D D' D'':Nat->Prop} {ι ι' OP:Names} {w w' HM:World} (h:Step hs D ι w D' ι' w') (k:Step hs D' ι' w' D'' OP HM):Step hs D ι w D'' OP HM:=
 ⟨h.below.trans k.below,fun b hb=>(k.s5 b (h.dead b hb)).trans (h.s5 b hb),fun b hb=>k.dead b (h.dead b hb),fun id B hB=>k.names id B (h.names id B hB),fun b hb=>by
  rcases k.new b hb with hb|hb
  ·exact h.new b hb
  ·exact .inr hb⟩
theorem Step.rep {hs:Nat} {D D':Nat->Prop} {ι ι':Names} {w w':World} (h:Step hs D ι w D' ι' w') {a:AV} {v:Value} (hr:cw P w D ι a v):cw P w' D' ι' a v:=hr.frame h.s5 h.dead h.names
theorem db {k n} {v:Value} (h:cw P w D ι (.int k n) v):v=.int k n:=by
 cases h with
 |ev _ _ h=>cases h;rfl
theorem eG {b} {v:Value} (h:cw P w D ι (.bool b) v):v=.bool b:=by
 cases h with
 |ev _ _ h=>cases h;rfl
theorem eT {s} {v:Value} (h:cw P w D ι (.str s) v):v=.string s:=by
 cases h with
 |ev _ _ h=>cases h;rfl
theorem ju {v:Value} (h:cw P w D ι .bC v):v=.slice none 0 0:=by
 cases h with
 |ev _ _ h=>cases h;rfl
theorem tt {v:Value} (h:cw P w D ι .iG v):v=.nilFunc:=by
 cases h with
 |ev _ _ h=>cases h;rfl
theorem gS {cs} {v:Value} (h:cw P w D ι (.agg cs) v):∃(vs:Array Value) (f:Nat->Value),v=.agg vs/\vs.size=cs.length/\(∀a∈cs,a.cell=true)/\(∀j,j<cs.length->vs[j]? =some (f j))/\∀j a,cs[j]? =some a->cw P w D ι a (f j):=by
 cases h with
 |ev _ _ h=>
  cases h with
  |agg cs vs f h1 h2 h3 h4=>exact⟨vs,f,rfl,h1,h2,h3,fun j a h=>.ev _ _ (h4 j a h)⟩
 |agg cs vs f h1 h2 h3 h4=>exact⟨vs,f,rfl,h1,h2,h3,h4⟩
theorem sg {cs} {v:Value} (h:cw P w D ι (.ib cs) v):∃(vs:Array Value) (f:Nat->Value),v=.tuple vs/\vs.size=cs.length/\(∀j,j<cs.length->vs[j]? =some (f j))/\∀j a,cs[j]? =some a->cw P w D ι a (f j):=by
 cases h with
 |ev _ _ h=>cases h
 |ib cs vs f h1 h2 h3=>exact⟨vs,f,rfl,h1,h2,h3⟩
theorem Bl {f cr} {v:Value} (h:cw P w D ι (.fn f cr) v):∃(vs:Array Value) (g:Nat->Value),v=.func (.func f) #[] vs/\e8 P f=true/\vs.size=cr.length/\(∀j,j<cr.length->vs[j]? =some (g j))/\∀j a,cr[j]? =some a->cw P w D ι a (g j):=by
 cases h with
 |ev _ _ h=>
  cases h with
  |fn f cr vs g h1 h2 h3 h4=>exact⟨vs,g,rfl,h1,h2,h3,fun j a h=>.ev _ _ (h4 j a h)⟩
 |fn f cr vs g h1 h2 h3 h4=>exact⟨vs,g,rfl,h1,h2,h3,h4⟩
theorem GP {v:Value} (h:cw P w D ι .gj v):v=.pointer none:=by
 cases h with
 |ev _ _ h=>cases h;rfl
theorem zj {v:Value} (h:cw P w D ι .iP v):v=.map none:=by
 cases h with
 |ev _ _ h=>cases h;rfl
theorem Jj {f cr} {v:Value} (h:cw P w D ι (.tX f cr) v):∃(vs:Array Value) (g:Nat->Value),v=.func (.func f) vs #[]/\e8 P f=true/\vs.size=cr.length/\(∀j,j<cr.length->vs[j]? =some (g j))/\∀j a,cr[j]? =some a->cw P w D ι a (g j):=by
 cases h with
 |ev _ _ h=>cases h
 |tX f cr vs g h1 h2 h3 h4=>exact⟨vs,g,rfl,h1,h2,h3,h4⟩
theorem iH {id off len} {v:Value} (h:cw P w D ι (.own id off len) v):∃o cap B,v=.slice (some ⟨B.b,o,none⟩) len cap/\ι id=some B/\len<=cap/\(cap=0∨o=off*B.sz)/\(off+cap)*B.sz<=B.C/\cap<=maxLen/\B.k=none:=by
 cases h with
 |ev _ _ h=>cases h
 |own id off len o cap B h1 h2 h3 h4 h5 h6=>exact⟨o,cap,B,rfl,h1,h3,h4,h5,h6,h2⟩
theorem iI {id i off} {v:Value} (h:cw P w D ι (.ptr id i off) v):∃B,v=.pointer (some ⟨B.b,i*B.sz+off,none⟩)/\ι id=some B/\B.k=none:=by
 cases h with
 |ev _ _ h=>cases h
 |ptr id i off B h1 h2=>exact⟨B,rfl,h1,h2⟩
theorem Jg {id} {v:Value} (h:cw P w D ι (.qk id) v):∃B c,v=.chan (some B.b)/\ι id=some B/\B.k=some (.chan c):=by
 cases h with
 |ev _ _ h=>cases h
 |qk id c B h1 h2=>exact⟨B,c,rfl,h1,h2⟩
theorem Ji {id m} {v:Value} (h:cw P w D ι (.map id m) v):∃B,v=.map (some B.b)/\ι id=some B/\B.k=some (.map m):=by
 cases h with
 |ev _ _ h=>cases h
 |map id m B h1 h2=>exact⟨B,rfl,h1,h2⟩
theorem j4 {cs} {v:Value} (h:cw P w D ι (.cK cs) v):∃b o,∃vs:Nat->Value,v=.pointer (some ⟨b,o,none⟩)/\D b/\(∀a∈cs,a.cell=true)/\(∀j,j<cs.length->w.cell? ⟨b,o+j,none⟩=some (vs j))/\∀j a,cs[j]? =some a->jl P w D a (vs j):=by
 cases h with
 |ev _ _ h=>
  cases h with
  |cK cs b o vs h1 h2 h3 h4=>exact⟨b,o,vs,rfl,h1,h2,h3,h4⟩
theorem tu {rows} {v:Value} (h:cw P w D ι (.sl rows) v):∃A c,v=.slice A rows.length c/\rows.length<=c/\c<=maxLen/\
  (rows=[]∨∃b o sz,∃vs:Nat->Nat->Value,A=some ⟨b,o,none⟩/\D b/\(∀cs∈rows,cs.length=sz)/\(∀cs∈rows,∀a∈cs,a.cell=true)/\
   (∀i j,i<rows.length->j<sz->w.cell? ⟨b,o+(i*sz+j),none⟩=some (vs i j))/\∀i j cs a,rows[i]? =some cs->cs[j]? =some a->jl P w D a (vs i j)):=by
 cases h with
 |ev _ _ h=>
  cases h with
  |zI a c h=>exact⟨a,c,rfl,Nat.zero_le _,h,.inl rfl⟩
  |sl rows b o n c sz vs h1 h2 h3 h4 h5 h5' h6 h7=>subst h1;exact⟨_,c,rfl,h2,h3,.inr ⟨b,o,sz,vs,rfl,h4,h5,h5',h6,h7⟩⟩
inductive dY:AV->Prop
 |int (k n):dY (.int k n)
 |bool (b):dY (.bool b)
 |str (s):dY (.str s)
 |bC:dY .bC
 |gj:dY .gj
 |iG:dY .iG
 |sl (rows):rows.length<=maxLen->(∀cs∈rows,∀a∈cs,dY a)->dY (.sl rows)
 |own (id off len):dY (.own id off len)
 |ptr (id i off):dY (.ptr id i off)
 |cK (cs):(∀a∈cs,dY a)->dY (.cK cs)
 |agg (cs):(∀a∈cs,dY a)->dY (.agg cs)
 |ib (cs):(∀a∈cs,dY a)->dY (.ib cs)
 |fn (f cr):(∀a∈cr,dY a)->dY (.fn f cr)
 |map (id m):dY (.map id m)
 |qk (id):dY (.qk id)
 |iP:dY .iP
 |tX (f cr):(∀a∈cr,dY a)->dY (.tX f cr)
theorem dY.len {rows:List (List AV)} (h:dY (.sl rows)):rows.length<=9223372036854775807:=by
 cases h with
 |sl _ h _=>unfold maxLen at h;omega
theorem dY.HR {cs:List AV} (h:dY (.agg cs)) {a:AV} (ha:a∈cs):dY a:=by
 cases h with
 |agg _ h=>exact h a ha
theorem dY.vn {cs:List AV} (h:dY (.cK cs)) {a:AV} (ha:a∈cs):dY a:=by
 cases h with
 |cK _ h=>exact h a ha
theorem np {l:List AV} {p:AV->Prop} (h:∀(j:Nat) (a:AV),l[j]? =some a->p a):∀a∈l,p a:=fun a ha=>by
 obtain⟨j,hj,rfl⟩:=List.getElem_of_mem ha
 exact h j _ (List.getElem?_eq_getElem hj)
theorem jl.Gk {a:AV} {v:Value} (h:jl P w D a v):dY a:=by
 induction h with
 |int k n=>exact .int k n
 |bool b=>exact .bool b
 |str s=>exact .str s
 |bC=>exact .bC
 |gj=>exact .gj
 |iG=>exact .iG
 |iP=>exact .iP
 |zI a c h=>exact .sl [] (Nat.zero_le _) (fun cs h=>by cases h)
 |sl rows b o n c sz vs h1 h2 h3 h4 h5 h5' h6 _ ih=>
  exact .sl rows ab fun cs dh a ha=>by
   obtain⟨i,hi,rfl⟩:=List.getElem_of_mem dh
   obtain⟨j,hj,rfl⟩:=List.getElem_of_mem ha
   exact ih i j _ _ (List.getElem?_eq_getElem hi) (List.getElem?_eq_getElem hj)
 |cK cs b o vs h1 Nq h2 _ ih=>exact .cK cs (np ih)
 |agg cs vs f h1 h2 h3 _ ih=>exact .agg cs (np ih)
 |fn f cr vs g h1 h2 h3 _ ih=>exact .fn f cr (np ih)
theorem cw.Gk {a:AV} {v:Value} (h:cw P w D ι a v):dY a:=by
 induction h with
 |ev a v h=>exact h.Gk
 |own id off len o cap B=>exact .own _ _ _
 |ptr id i off B=>exact .ptr _ _ _
 |map id m B=>exact .map _ _
 |qk id c B=>exact .qk _
 |agg cs vs f h1 h2 h3 _ ih=>exact .agg cs (np ih)
 |ib cs vs f h1 h2 _ ih=>exact .ib cs (np ih)
 |fn f cr vs g h1 h2 h3 _ ih=>exact .fn f cr (np ih)
 |tX f cr vs g h1 h2 h3 _ ih=>exact .tX f cr (np ih)
end Go.Proofs.YtihgaadadaekmaaGreatDoor.V

namespace Go.Proofs.YtihgaadadaekmaaGreatDoor.V
open Go.RowKit
variable {P:Program} {w w':World} {D D':Nat->Prop} {ι ι':Names}
def bu (P:Program) (w:World) (D:Nat->Prop) (ι:Names) (env:Env) (a:Act):Prop:=∀t,cw P w D ι (env t) (a.tmps.getD t undef)
theorem pE {vs:List Value} {cs:List K} (h:vs.mapM DH=some cs):cs.length=vs.length/\∀(j:Nat) (c:K),cs[j]? =some c->vs[j]? =some c.val:=by
 induction vs generalizing cs with
 |nil=>simp at h;subst h;simp
 |cons v r ih=>
  simp only[List.mapM_cons,Option.bind_eq_bind,Option.bind_eq_some_iff]at h
  obtain⟨c,hc,og,dh,h⟩:=h
  simp at h;subst h
  obtain⟨h1,h2⟩:=ih dh
  refine⟨by simp[h1],fun j d hd=>?_⟩
  cases j with
  |zero=>simp at hd ⊢;subst hd;exact wN hc
  |succ j=>simp at hd ⊢;exact h2 j d hd
theorem QZ {vs:List Value} {cs:List K} (h:vs.mapM DH=some cs):cw P w D ι (.agg (cs.map K.av)) (.agg vs.toArray):=by
 obtain⟨h1,h2⟩:=pE h
 refine .agg _ _ (fun j=>vs.getD j undef) (by simp[h1]) (fun a ha=>?_) (fun j hj=>?_) (fun j a ha=>?_)
 ·obtain⟨c,_,rfl⟩:=List.mem_map.1 ha;exact c.ly
 ·simp at hj;simp[List.getElem?_eq_getElem (show j<vs.length by omega)]
 ·simp only[List.getElem?_map,Option.map_eq_some_iff]at ha
  obtain⟨c,hc,rfl⟩:=ha
  rw[List.getD_eq_getElem?_getD,h2 j c hc];exact tr c
theorem cE {env:Env} {a:Act} {x:Operand} {y:O} (E:bu P w D ι env a) (h:cO P x=some y):cw P w D ι (cv env y) (a.eval x):=by
 unfold cO at h
 split at h
 ·simp at h;subst h;exact E _
 ·simp only[Option.map_eq_some_iff]at h
  obtain⟨cs,dh,rfl⟩:=h
  have:=QZ (P:=P) (w:=w) (D:=D) (ι:=ι) dh
  simpa[Act.eval,cv]using this
 ·simp only[Option.map_eq_some_iff]at h
  obtain⟨c,hc,rfl⟩:=h
  simp only[Act.eval,cv]
  rw[wN hc];exact tr c
 ·simp at h
 ·split at h
  ·rename_i hc
   simp at h;subst h
   simp only[Act.eval,cv]
   exact .fn _ _ _ (fun _=>undef) hc rfl (fun j hj=>by simp at hj) (fun j a h=>by simp at h)
  ·simp at h
def mM (P:Program) (a:Act) (o:Oper) (w:World) (D:Nat->Prop) (ι:Names) (v:AV):Prop:=∃u,(execOp a.eval o).run P w=.ok (.value u) w/\cw P w D ι v u
section
variable {g:Rows} {hs:Nat} {env:Env} {a:Act} {o:Oper} {id:Id} {v:AV}
theorem Ki {x:Operand} {y:O} (E:bu P w D ι env a) (ho:o.op=.move x∨o.op=.assign x) (hx:cO P x=some y):mM P a o w D ι (cv env y):=by
 refine⟨a.eval x,?_,cE E hx⟩
 rcases ho with h|h<;>simp[execOp,h,go_sem]
theorem Ml {c x y:Operand} {c' x' y':O} (E:bu P w D ι env a) (ho:o.op=.pick c x y) (hc:cO P c=some c') (hx:cO P x=some x') (hy:cO P y=some y') (hv:cZ (cv env c') (cv env x') (cv env y')=some v):mM P a o w D ι v:=by
 unfold cZ at hv
 split at hv
 ·rename_i b hb
  simp at hv;subst hv
  have h1:=eG (hb▸cE E hc)
  refine⟨if b then a.eval x else a.eval y,by simp only[execOp,ho,h1,asBool];rfl,?_⟩
  cases b
  ·exact cE E hy
  ·exact cE E hx
 ·simp at hv
theorem OF {op:BinOp} {x y:Operand} {x' y':O} {t yt:TypeId} (E:bu P w D ι env a) (ho:o.op=.binOp op t x y yt) (he:op≠.eql) (hn:op≠.neq) (hx:cO P x=some x') (hy:cO P y=some y') (hv:eh op (cv env x') (cv env y')=some v):mM P a o w D ι v:=by
 unfold eh at hv
 split at hv
 ·rename_i k n k' m hb qp
  split at hv
  ·rename_i hk
   subst hk
   have h1:=db (hb▸cE E hx)
   have h2:=db (qp▸cE E hy)
   have key:∀u,(binOp op t (.int k n) (.int k m)).run P w=.ok u w->(execOp a.eval o).run P w=.ok (.value u) w:=fun u hu=>by
    have e0:eqGuard op t x y (.int k n) (.int k m)=pure ():=by unfold eqGuard;cases op<;>rfl
    simp only[execOp,ho,h1,h2,e0]
    simp[go_sem,hu]
   cases op<;>simp only[dH]at hv<;>(try(simp at hv;done))<;>(try split at hv)<;>(try(simp at hv;done))<;>simp only[Option.some.injEq]at hv<;>subst hv<;>
    (refine⟨_,key _ (by simp only[binOp,ne_eq,not_true_eq_false,if_false,Op.intArith,Op.intDiv,Op.intBits,Op.intCmp, *];rfl),?_⟩)<;>
    first
     |exact .ev _ _ (.int _ _)
     |exact .ev _ _ (.bool _)
  ·simp at hv
 ·simp at hv
theorem L6 {op:BinOp} {x y:Operand} {x' y':O} {t yt:TypeId} (E:bu P w D ι env a) (ho:o.op=.binOp op t x y yt) (he:op≠.eql) (hn:op≠.neq) (hx:cO P x=some x') (hy:cO P y=some y') (hv:da op (cv env x') (cv env y')=some v):mM P a o w D ι v:=by
 unfold da at hv
 split at hv
 ·rename_i n m hb qp
  have h1:=eT (hb▸cE E hx)
  have h2:=eT (qp▸cE E hy)
  cases op<;>simp only[eA]at hv<;>(try(simp at hv;done))
  case add=>
   split at hv
   ·rename_i hl
    simp only[Option.some.injEq]at hv;subst hv
    exact⟨_,by simp only[execOp,ho,h1,h2];simp[eqGuard,binOp,go_sem];exact hl,.ev _ _ (.str _)⟩
   ·simp at hv
  all_goals
   simp only[Option.some.injEq]at hv;subst hv
   exact⟨_,by simp only[execOp,ho,h1,h2];simp[eqGuard,binOp,Op.stringOp,go_sem],.ev _ _ (.bool _)⟩
 ·simp at hv
theorem CB (n m:ByteArray):(n.toList==m.toList)=decide (n=m):=by
 rw[ByteArray.toList_eq,ByteArray.toList_eq]
 by_cases h:n=m
 ·subst h;simp
 ·have:n.data.toList≠m.data.toList:=fun he=>h (ByteArray.ext (Array.ext' he))
  rw[decide_eq_false h];exact beq_eq_false_iff_ne.2 this
theorem nM {t:TypeId} (h:eK P t=some .tB):P.underlying t=some .bool:=by unfold eK at h;split at h<;>simp_all
theorem nN {t:TypeId} (h:eK P t=some .tI):∃k,P.underlying t=some (.int k):=by unfold eK at h;split at h<;>simp_all
theorem nO {t:TypeId} (h:eK P t=some .tS):P.underlying t=some .string:=by unfold eK at h;split at h<;>simp_all
theorem pO {d:Nat} {t:TypeId} {s:TS} {x y:AV} {u u':Value} {b:Bool} (hx:cw P w D ι x u) (hy:cw P w D ι y u') (hv:fZ s x y=some b) (ht:eK P t=some s):(Op.equalIn (d+1) t u u').run P w=.ok b w:=by
 unfold fZ at hv
 split at hv
 ·rename_i k n k' m
  split at hv
  ·rename_i hk
   subst hk
   simp at hv;subst hv
   obtain⟨q,hq⟩:=nN ht
   rw[db hx,db hy,run_equalIn_int _ _ _ _ _ _ _ hq];rfl
  ·simp at hv
 ·simp at hv;subst hv
  rw[eG hx,eG hy,run_equalIn_bool' _ _ _ _ _ (nM ht)]
 ·simp at hv;subst hv
  rw[eT hx,eT hy,run_equalIn_string _ _ _ _ _ (nO ht),CB]
 ·simp at hv
def eM (P:Program) (w:World) (D:Nat->Prop) (ι:Names) (xs:List AV) (vs:Array Value):Prop:=vs.size=xs.length/\∀(j:Nat) (a:AV),xs[j]? =some a->∃u,vs[j]? =some u/\cw P w D ι a u
theorem eM.part {xs:List AV} {vs:Array Value} (h:eM P w D ι xs vs) (off n:Nat) (hn:off+n<=xs.length):eM P w D ι ((xs.drop off).take n) (vs.extract off (off+n)):=by
 refine⟨by simp[h.1];omega,fun j a ha=>?_⟩
 rw[List.getElem?_take]at ha
 split at ha
 ·rename_i hj
  rw[List.getElem?_drop]at ha
  obtain⟨u,h1,h2⟩:=h.2 _ _ ha
  refine⟨u,?_,h2⟩
  rw[Array.getElem?_extract]
  rw[if_pos (by rw[h.1];omega),h1]
 ·simp at ha
theorem pj:∀{ts:List TS} {xs ys:List AV} {b:Bool},eX ts xs ys=some b->xs.length=ts.length/\ys.length=ts.length
 |[],[],[],_,_=>⟨rfl,rfl⟩
 |t::ts,x::xs,y::ys,b,h=>by
  unfold eX at h
  split at h
  ·rename_i c d h1 h2
   have:=pj h2
   simp[this.1,this.2]
  ·simp at h
 |[],[],_::_,_,h=>by simp[eX]at h
 |[],_::_,_,_,h=>by simp[eX]at h
 |_::_,[],_,_,h=>by simp[eX]at h
 |_::_,_::_,[],_,h=>by simp[eX]at h
theorem B6:∀{ts us:List TS} {xs ys:List AV} {b:Bool},eX (ts++us) xs ys=some b->∃c d,eX ts (xs.take ts.length) (ys.take ts.length)=some c/\eX us (xs.drop ts.length) (ys.drop ts.length)=some d/\b=(c&&d)
 |[],us,xs,ys,b,h=>⟨true,b,by simp[eX],by simpa using h,by simp⟩
 |t::ts,us,x::xs,y::ys,b,h=>by
  simp only[List.cons_append]at h
  unfold eX at h
  split at h
  ·rename_i c d h1 h2
   obtain⟨c',d',h3,h4,rfl⟩:=B6 h2
   simp at h;subst h
   exact⟨c&&c',d',by simp[eX,h1,h3],by simpa using h4,by simp[Bool.and_assoc]⟩
  ·simp at h
 |t::ts,us,[],ys,b,h=>by simp[eX]at h
 |t::ts,us,x::xs,[],b,h=>by simp[eX]at h
theorem lh {t:TypeId} {vs:Array Value} {off:Nat} {u:Value} (ha:ml P t=some false) (hu:vs[off]? =some u):(Go.part t vs off).run P w=.ok u w:=by
 unfold ml at ha
 have hi:(isAgg t).run P w=.ok false w:=by
  split at ha<;>simp at ha
  rename_i d h1 h2 hd
  simp only[isAgg,Sem.run_bind,run_underlying hd,Result.andThen_ok]
  cases d<;>simp_all
 simp[Go.part,hi,hu]
theorem qF {t:TypeId} {b:Bool} (ha:ml P t=some b):(isAgg t).run P w=.ok b w:=by
 unfold ml at ha
 split at ha<;>simp at ha<;>subst ha<;>rename_i hd<;>simp only[isAgg,Sem.run_bind,run_underlying hd,Result.andThen_ok]<;>(try simp)
theorem run_sizeOf {t:TypeId} {n:Nat} (h:dx P t=some n):(sizeOf t).run P w=.ok n w:=by
 unfold dx at h
 simp only[Option.map_eq_some_iff]at h
 obtain⟨i,hi,rfl⟩:=h
 simp[sizeOf,typeInfo,hi]
theorem nL {t:TypeId} {vs:Array Value} {off n:Nat} (ha:ml P t=some true) (hn:dx P t=some n):(Go.part t vs off).run P w=.ok (.agg (vs.extract off (off+n))) w:=by
 simp[Go.part,qF ha,run_sizeOf hn]
theorem FF (d off:Nat):dM P (d+1) off []=some []:=rfl
theorem uV (d off:Nat) (f:Field) (r:List Field):dM P (d+1) off (f::r)=(if f.offset=off/\f.name≠ "_" then
   match eK P f.type with
   |some t=>if ml P f.type=some false then(dM P (d+1) (off+1) r).map (t::·)else none
   |none=>match P.underlying f.type with
    |some (.struct fs)=>if !P.stoodInHeld f.type then match dM P d 0 fs.toList with
     |some ts=>if dx P f.type=some ts.length/\ts≠[]then(dM P (d+1) (off+ts.length) r).map (ts++·)else none
     |none=>none else none
    |_=>none
  else none):=rfl
theorem pN:∀(d:Nat) (fs:List Field) (off:Nat) (ts:List TS),dM P d off fs=some ts->∀(N:Nat) (_:d<=N) (xs ys:List AV) (vs us:Array Value) (b:Bool),eM P w D ι xs vs->eM P w D ι ys us->
  eX ts ((xs.drop off).take ts.length) ((ys.drop off).take ts.length)=some b->(Op.eqFields (N+1) vs us fs).run P w=.ok b w:=by
 intro d
 induction d with
 |zero=>
  intro fs off ts hf N _ xs ys vs us b _ _ he
  cases fs with
  |nil=>simp[dM]at hf;subst hf;simp[eX]at he;subst he;simp[Op.eqFields]
  |cons f r=>simp[dM]at hf
 |succ d ihd=>
  intro fs
  induction fs with
  |nil=>
   intro off ts hf N _ xs ys vs us b _ _ he
   rw[FF]at hf;simp at hf;subst hf;simp[eX]at he;subst he;simp[Op.eqFields]
  |cons f r ih=>
   intro off ts hf N hN xs ys vs us b hx hy he
   rw[uV]at hf
   split at hf
   ·rename_i hcond
    obtain⟨ho,gF⟩:=hcond
    split at hf
    ·rename_i s hs
     split at hf
     ·rename_i r7
      simp only[Option.map_eq_some_iff]at hf
      obtain⟨Kg,hr,rfl⟩:=hf
      obtain⟨l1,l2⟩:=pj he
      simp only[List.length_cons,List.length_take,List.length_drop]at l1 l2
      have EU:off<xs.length:=ab
      have hyo:off<ys.length:=ab
      rw[List.drop_eq_getElem_cons EU,List.drop_eq_getElem_cons hyo,List.length_cons,List.take_succ_cons,List.take_succ_cons]at he
      unfold eX at he
      split at he
      ·rename_i c d' h1 h2
       simp at he;subst he
       obtain⟨u,hu,ru⟩:=hx.2 off _ (List.getElem?_eq_getElem EU)
       obtain⟨u',Cj,ru'⟩:=hy.2 off _ (List.getElem?_eq_getElem hyo)
       have:=ih (off+1) Kg hr N hN xs ys vs us d' hx hy h2
       simp only[Op.eqFields,if_pos gF,Sem.run_bind,ho,lh r7 hu,lh r7 Cj,Result.andThen_ok,pO ru ru' h1 hs,Sem.run_ite]
       cases c<;>simp[this]
      ·simp at he
     ·simp at hf
    ·split at hf
     ·rename_i fs' pr
      split at hf
      ·rename_i dQ
       split at hf
       ·rename_i ts1 hts1
        split at hf
        ·rename_i eS
         simp only[Option.map_eq_some_iff]at hf
         obtain⟨Kg,hr,rfl⟩:=hf
         obtain⟨c,d',h1,h2,rfl⟩:=B6 he
         obtain⟨l1,l2⟩:=pj he
         simp only[List.length_append,List.length_take,List.length_drop]at l1 l2
         have r7:ml P f.type=some true:=by simp[ml,pr]
         have kM:0<ts1.length:=List.length_pos_iff.2 eS.2
         have vg:off+ts1.length<=xs.length:=ab
         have hy1:off+ts1.length<=ys.length:=ab
         rw[List.drop_take,List.drop_drop,List.drop_take,List.drop_drop]at h2
         rw[List.take_take,List.take_take]at h1
         simp only[List.length_append]at h1 h2
         rw[Nat.min_eq_left ab]at h1
         have e2:ts1.length+Kg.length-ts1.length=Kg.length:=ab
         rw[e2]at h2
         have:=ih (off+ts1.length) Kg hr N hN xs ys vs us d' hx hy h2
         have fy:=ihd fs'.toList 0 ts1 hts1 (N-1) ab _ _ _ _ c (hx.part off ts1.length vg) (hy.part off ts1.length hy1) (by simpa[List.take_take]using h1)
         have hN':N-1+1=N:=ab
         rw[hN']at fy
         have JO:P.fieldsOf f.type=fs':=by simp[Program.fieldsOf,pr]
         simp only[Op.eqFields,if_pos gF,Sem.run_bind,ho,nL r7 eS.1,Result.andThen_ok,Sem.run_ite]
         rw[run_equalIn_struct w N f.type _ _ (by rw[JO];exact pr) (by simpa using dQ),JO,fy]
         cases c<;>simp[this]
        ·simp at hf
       ·simp at hf
      ·simp at hf
     ·simp at hf
   ·simp at hf
theorem OJ {x y:Operand} {x' y':O} {t yt:TypeId} {neg:Bool} {s:TS} {b:Bool} (E:bu P w D ι env a) (ho:o.op=.binOp (if neg then .neq else .eql) t x y yt) (hs:eK P t=some s) (hx:cO P x=some x') (hy:cO P y=some y')
  (hv:fZ s (cv env x') (cv env y')=some b):mM P a o w D ι (.bool (dr neg b)):=by
 have rx:=cE E hx
 have ry:=cE E hy
 refine⟨.bool (dr neg b),?_,.ev _ _ (.bool _)⟩
 have e0:(eqGuard (if neg then .neq else .eql) t x y (a.eval x) (a.eval y)).run P w=.ok () w:=by
  unfold fZ at hv
  split at hv
  ·rename_i k n k' m h1 h2
   rw[h1]at rx;rw[h2]at ry
   rw[db rx,db ry];unfold eqGuard;cases neg<;>simp
  ·rename_i n m h1 h2
   rw[h1]at rx;rw[h2]at ry
   rw[eG rx,eG ry];unfold eqGuard;cases neg<;>simp
  ·rename_i n m h1 h2
   rw[h1]at rx;rw[h2]at ry
   rw[eT rx,eT ry];unfold eqGuard;cases neg<;>simp
  ·simp at hv
 have e1:(binOp (if neg then .neq else .eql) t (a.eval x) (a.eval y)).run P w=.ok (.bool (dr neg b)) w:=by
  have q:=pO (d:=9999) rx ry hv hs
  unfold fZ at hv
  split at hv
  ·rename_i k n k' m h1 h2
   split at hv
   ·rename_i hk
    subst hk
    simp at hv;subst hv
    rw[h1]at rx;rw[h2]at ry
    rw[db rx,db ry]
    cases neg<;>simp only[binOp,ne_eq,not_true_eq_false,if_false,Op.intCmp,dr,if_true,Bool.false_eq_true]<;>simp[bne]<;>rfl
   ·simp at hv
  ·rename_i n m h1 h2
   rw[h1]at rx;rw[h2]at ry
   rw[eG rx,eG ry]at q ⊢
   cases neg<;>simp only[binOp,dr,if_true,Bool.false_eq_true,if_false,Sem.run_bind]<;>simp[Op.equal,Op.maxDepth,q]
  ·rename_i n m h1 h2
   simp at hv;subst hv
   rw[h1]at rx;rw[h2]at ry
   rw[eT rx,eT ry]
   cases neg<;>simp[binOp,Op.stringOp,dr,CB]
  ·simp at hv
 simp only[execOp,ho,Sem.run_bind,e0,e1,Result.andThen_ok,Sem.run_pure]
theorem OH {x y:Operand} {x' y':O} {t yt:TypeId} {neg:Bool} {ts:List TS} {fs:Array Field} {xs ys:List AV} {b:Bool} (E:bu P w D ι env a) (ho:o.op=.binOp (if neg then .neq else .eql) t x y yt) (pr:P.underlying t=some (.struct fs)) (dQ:P.stoodInHeld t=false) (Ip:P.eqGuardType P.depth t=false)
  (uv:dM P 4 0 fs.toList=some ts) (hx:cO P x=some x') (hy:cO P y=some y') (h1:cv env x'=.agg xs) (h2:cv env y'=.agg ys)
  (hv:eX ts xs ys=some b):mM P a o w D ι (.bool (dr neg b)):=by
 obtain⟨vs,f,rx,n1,_,f1,r1⟩:=gS (h1▸cE E hx)
 obtain⟨us,f',ry,n2,_,f2,r2⟩:=gS (h2▸cE E hy)
 refine⟨.bool (dr neg b),?_,.ev _ _ (.bool _)⟩
 obtain⟨l1,l2⟩:=pj hv
 have L:∀(xs:List AV) (vs:Array Value) (f:Nat->Value),vs.size=xs.length->(∀j,j<xs.length->vs[j]? =some (f j))->(∀j a,xs[j]? =some a->cw P w D ι a (f j))->eM P w D ι xs vs:=fun xs vs f h1 h2 h3=>
  ⟨h1,fun j a ha=>⟨f j,h2 j (List.getElem?_eq_some_iff.1 ha).1,h3 j a ha⟩⟩
 have q:=pN (w:=w) 4 fs.toList 0 ts uv 9998 ab xs ys vs us b (L _ _ _ n1 f1 r1) (L _ _ _ n2 f2 r2) (by simpa[List.take_of_length_le,l1,l2]using hv)
 have JO:P.fieldsOf t=fs:=by simp[Program.fieldsOf,pr]
 have q2:(Op.equal t (.agg vs) (.agg us)).run P w=.ok b w:=by
  unfold Op.equal
  rw[show Op.maxDepth=9999+1 from rfl,run_equalIn_struct w 9999 t _ _ (by rw[JO];exact pr) dQ,JO,q]
 simp only[execOp,ho,Sem.run_bind,rx,ry,run_eqGuard_agg w _ _ _ _ _ _ Ip,Result.andThen_ok]
 cases neg<;>simp[binOp,q2,dr]
theorem L9 {x:Operand} {x':O} {t yt e:TypeId} {neg:Bool} {b:Bool} (E:bu P w D ι env a) (ho:o.op=.binOp (if neg then .neq else .eql) t x (.const (.slice none 0 0)) yt) (ht:P.underlying t=some (.slice e)) (hx:cO P x=some x')
  (hv:cY (cv env x')=some b):mM P a o w D ι (.bool (dr neg b)):=by
 have hr:=cE E hx
 have rx:∃A n c,a.eval x=.slice A n c/\b=A.isNone:=by
  unfold cY at hv
  split at hv<;>simp at hv<;>subst hv<;>rename_i hh
  ·rw[hh]at hr;exact⟨_,_,_,ju hr,rfl⟩
  ·rw[hh]at hr;obtain⟨o,cap,B,h,_⟩:=iH hr
   exact⟨_,_,_,h,rfl⟩
  ·rw[hh]at hr
   obtain⟨A,c,h',_,_,h⟩:=tu hr
   rcases h with h|⟨b,o,sz,vs,rfl,_⟩
   ·simp at h
   ·exact⟨_,_,_,h',rfl⟩
 refine⟨.bool (dr neg b),?_,.ev _ _ (.bool _)⟩
 obtain⟨A,n,c,h,rfl⟩:=rx
 have hq:(Op.equal t (.slice A n c) (.slice none 0 0)).run P w=.ok A.isNone w:=by
  unfold Op.equal
  rw[show Op.maxDepth=9999+1 from rfl,Op.equalIn]
  simp only[Sem.run_bind,run_underlying ht,Result.andThen_ok]
  cases A<;>rfl
 have hc:a.eval (.const (.slice none 0 0))=.slice none 0 0:=rfl
 simp only[execOp,ho,h,hc]
 cases neg<;>simp only[Bool.false_eq_true,if_false,if_true,Bool.not_true,Bool.not_false,eqGuard,binOp,dr,Sem.run_bind,hq,Result.andThen_ok,Sem.run_pure]
theorem OI {x:Operand} {x':O} {t yt e:TypeId} {neg:Bool} {b:Bool} (E:bu P w D ι env a) (ho:o.op=.binOp (if neg then .neq else .eql) t x (.const (.pointer none)) yt) (ht:P.underlying t=some (.pointer e)) (hx:cO P x=some x')
  (hv:Hj (cv env x')=some b):mM P a o w D ι (.bool (dr neg b)):=by
 have hr:=cE E hx
 have rx:∃A,a.eval x=.pointer A/\b=A.isNone:=by
  unfold Hj at hv
  split at hv<;>simp at hv<;>subst hv<;>rename_i hh
  ·rw[hh]at hr;exact⟨_,GP hr,rfl⟩
  ·rw[hh]at hr;obtain⟨B,h,_⟩:=iI hr
   exact⟨_,h,rfl⟩
  ·rw[hh]at hr;obtain⟨_,_,_,h,_⟩:=j4 hr
   exact⟨_,h,rfl⟩
 refine⟨.bool (dr neg b),?_,.ev _ _ (.bool _)⟩
 obtain⟨A,h,rfl⟩:=rx
 have hq:(Op.equal t (.pointer A) (.pointer none)).run P w=.ok A.isNone w:=by
  unfold Op.equal
  rw[show Op.maxDepth=9999+1 from rfl,Op.equalIn]
  simp only[Sem.run_bind,run_underlying ht,Result.andThen_ok]
  cases A<;>rfl
 have hc:a.eval (.const (.pointer none))=.pointer none:=rfl
 simp only[execOp,ho,h,hc]
 cases neg<;>simp only[Bool.false_eq_true,if_false,if_true,Bool.not_true,Bool.not_false,eqGuard,binOp,dr,Sem.run_bind,hq,Result.andThen_ok,Sem.run_pure]
theorem L8 {x:Operand} {x':O} {t yt:TypeId} {p r:Array TypeId} {va:Bool} {neg:Bool} {b:Bool} (E:bu P w D ι env a) (ho:o.op=.binOp (if neg then .neq else .eql) t x (.const .nilFunc) yt) (ht:P.underlying t=some (.func p r va)) (hx:cO P x=some x')
  (hv:cX (cv env x')=some b):mM P a o w D ι (.bool (dr neg b)):=by
 have hr:=cE E hx
 have rx:a.eval x=.nilFunc/\b=true∨∃f c,a.eval x=.func f #[] c/\b=false:=by
  unfold cX at hv
  split at hv<;>simp at hv<;>subst hv<;>rename_i hh
  ·rw[hh]at hr;exact .inl ⟨tt hr,rfl⟩
  ·rw[hh]at hr;obtain⟨vs,g,h,_⟩:=Bl hr
   exact .inr ⟨_,_,h,rfl⟩
 refine⟨.bool (dr neg b),?_,.ev _ _ (.bool _)⟩
 have hc:a.eval (.const .nilFunc)=.nilFunc:=rfl
 rcases rx with⟨h,rfl⟩|⟨f,c,h,rfl⟩
 ·have hq:(Op.equal t .nilFunc .nilFunc).run P w=.ok true w:=by
   unfold Op.equal
   rw[show Op.maxDepth=9999+1 from rfl,Op.equalIn]
   simp only[Sem.run_bind,run_underlying ht,Result.andThen_ok]
   rfl
  simp only[execOp,ho,h,hc]
  cases neg<;>simp only[Bool.false_eq_true,if_false,if_true,Bool.not_true,Bool.not_false,eqGuard,binOp,dr,Sem.run_bind,hq,Result.andThen_ok,Sem.run_pure]
 ·have hq:(Op.equal t (.func f #[] c) .nilFunc).run P w=.ok false w:=by
   unfold Op.equal
   rw[show Op.maxDepth=9999+1 from rfl,Op.equalIn]
   simp only[Sem.run_bind,run_underlying ht,Result.andThen_ok]
   rfl
  simp only[execOp,ho,h,hc]
  cases neg<;>simp only[Bool.false_eq_true,if_false,if_true,Bool.not_true,Bool.not_false,eqGuard,binOp,dr,Sem.run_bind,hq,Result.andThen_ok,Sem.run_pure]
theorem OM {x:Operand} {x':O} {t:TypeId} (E:bu P w D ι env a) (ho:o.op=.unOp .not t x) (hx:cO P x=some x') (hv:ep (cv env x')=some v):mM P a o w D ι v:=by
 have hr:=cE E hx
 unfold ep at hv
 split at hv
 ·rename_i b hb
  simp at hv;subst hv
  rw[hb]at hr
  exact⟨_,by simp only[execOp,ho,eG hr];rfl,.ev _ _ (.bool _)⟩
 ·simp at hv
theorem OL {x:Operand} {x':O} {t:TypeId} (E:bu P w D ι env a) (ho:o.op=.unOp .neg t x) (hx:cO P x=some x') (hv:ek (cv env x')=some v):mM P a o w D ι v:=by
 have hr:=cE E hx
 unfold ek at hv
 split at hv
 ·rename_i k n hb
  simp at hv;subst hv
  rw[hb]at hr
  refine⟨_,by simp only[execOp,ho,db hr];rfl,?_⟩
  rw[Int.zero_sub];exact .ev _ _ (.int _ _)
 ·simp at hv
theorem L7 {x:Operand} {x':O} {s d:TypeId} {k q:IntKind} (E:bu P w D ι env a) (ho:o.op=.convert s d x) (hs:P.underlying s=some (.int q)) (hd:P.underlying d=some (.int k)) (hx:cO P x=some x') (hv:cP k (cv env x')=some v):mM P a o w D ι v:=by
 have hr:=cE E hx
 unfold cP at hv
 split at hv
 ·rename_i k' n hb
  simp at hv;subst hv
  rw[hb]at hr
  refine⟨.int k (k.wrap n),?_,.ev _ _ (.int _ _)⟩
  simp only[execOp,ho,db hr,convert,Sem.run_bind,run_underlying hs,run_underlying hd,Result.andThen_ok,Conv.intToInt,Sem.run_pure]
 ·simp at hv
theorem Jv {x:Operand} {x':O} {s:TypeId} {i:Nat} {fs:Array Field} {f:Field} {m:Nat} (E:bu P w D ι env a) (ho:o.op=.fieldAddr s x i) (hs:P.underlying s=some (.struct fs)) (hf:fs[i]? =some f) (hm:dx P f.type=some (m+1)) (hx:cO P x=some x')
  (hv:BM f.offset (cv env x')=some v):mM P a o w D ι v:=by
 have hr:=cE E hx
 have go:∀b oo,a.eval x=.pointer (some ⟨b,oo,none⟩)->(execOp a.eval o).run P w=.ok (.value (.pointer (some ⟨b,oo+f.offset,none⟩))) w:=fun b oo h=>by
  simp only[execOp,ho,h,Instr.fieldAt,Sem.run_bind,run_underlying hs,Result.andThen_ok,hf,Instr.sureAddr,Sem.run_pure,fieldPlace,run_sizeOf hm,Nat.add_eq_zero_iff,Nat.one_ne_zero,and_false,if_false,Addr.add]
  split
  ·rename_i h0;simp[h0]
  ·rfl
 unfold BM at hv
 split at hv
 ·rename_i jU i' oo hb
  simp at hv;subst hv
  rw[hb]at hr
  obtain⟨B,h,hB,hk⟩:=iI hr
  refine⟨_,go _ _ h,?_⟩
  rw[Nat.add_assoc]
  exact .ptr _ _ _ _ hB hk
 ·rename_i cs hb
  simp at hv;subst hv
  rw[hb]at hr
  obtain⟨b,oo,vs,h,h1,h2,h3,h4⟩:=j4 hr
  refine⟨_,go _ _ h,.ev _ _ (.cK _ _ _ (fun j=>vs (f.offset+j)) h1 (fun a ha=>h2 a (List.mem_of_mem_drop ha)) (fun j hj=>?_) (fun j a ha=>h4 _ _ (by simpa using ha)))⟩
  rw[Nat.add_assoc]
  exact h3 _ (by simp at hj;omega)
 ·simp at hv
theorem Jw {x:Operand} {x':O} {s:TypeId} {i n:Nat} {ag:Bool} {fs:Array Field} {f:Field} (E:bu P w D ι env a) (ho:o.op=.field s x i) (hs:P.underlying s=some (.struct fs)) (hf:fs[i]? =some f) (r7:ml P f.type=some ag) (hm:dx P f.type=some n) (hx:cO P x=some x')
  (hv:bP ag f.offset n (cv env x')=some v):mM P a o w D ι v:=by
 have hr:=cE E hx
 unfold bP at hv
 split at hv
 ·rename_i cs hb
  split at hv
  ·rename_i hl
   rw[hb]at hr
   obtain⟨vs,g,h,n1,fl,f1,r1⟩:=gS hr
   unfold part at hv
   cases ag with
   |true=>
    simp only[if_true]at hv
    split at hv
    ·simp at hv;subst hv
     refine⟨.agg (vs.extract f.offset (f.offset+n)),?_,.agg _ _ (fun j=>g (f.offset+j)) (by simp[n1];omega) (fun a ha=>fl a (List.mem_of_mem_drop (List.mem_of_mem_take ha))) (fun j hj=>?_) (fun j a ha=>?_)⟩
     ·simp only[execOp,ho,h,Instr.field,Sem.run_bind,run_underlying hs,Result.andThen_ok,hf,asAgg,Sem.run_pure,nL r7 hm]
     ·simp at hj
      rw[Array.getElem?_extract,if_pos ab];exact f1 _ ab
     ·rw[List.getElem?_take]at ha
      split at ha
      ·exact r1 _ _ (by simpa using ha)
      ·simp at ha
    ·simp at hv
   |false=>
    simp only[Bool.false_eq_true,if_false]at hv
    have mA:cs[f.offset]? =some v:=by simpa[List.head?_drop]using hv
    have dF:=(List.getElem?_eq_some_iff.1 mA).1
    exact⟨g f.offset,by simp only[execOp,ho,h,Instr.field,Sem.run_bind,run_underlying hs,Result.andThen_ok,hf,asAgg,Sem.run_pure,lh r7 (f1 _ dF)],r1 _ _ mA⟩
  ·simp at hv
 ·simp at hv
theorem ON {left:Bool} {x y:Operand} {x' y':O} {t yt:TypeId} (E:bu P w D ι env a) (ho:o.op=.binOp (if left then .shl else .shr) t x y yt) (hx:cO P x=some x') (hy:cO P y=some y') (hv:ij left (cv env x') (cv env y')=some v):mM P a o w D ι v:=by
 unfold ij at hv
 split at hv
 ·rename_i k n k' m hb qp
  split at hv
  ·simp at hv
  ·rename_i hm
   simp at hv;subst hv
   have h1:=db (hb▸cE E hx)
   have h2:=db (qp▸cE E hy)
   refine⟨_,?_,.ev _ _ (.int _ _)⟩
   simp only[execOp,ho,h1,h2]
   cases left<;>simp only[Bool.false_eq_true,if_false,if_true,eqGuard,Bool.not_true,Bool.not_false,binOp,Op.shift,hm,Sem.run_bind,Sem.run_pure,Result.andThen_ok]<;>rfl
 ·simp at hv
end
end Go.Proofs.YtihgaadadaekmaaGreatDoor.V

namespace Go.Proofs.YtihgaadadaekmaaGreatDoor.V
open Go.RowKit
variable {P:Program} {w w':World} {D D':Nat->Prop} {ι ι':Names}
theorem jw (b o j:Nat):(⟨b,o,none⟩:Addr).add j=⟨b,o+j,none⟩:=by unfold Addr.add;split<;>simp_all
section
variable {g:Rows} {hs:Nat} {env:Env} {a:Act} {o:Oper} {id:Id} {v:AV}
theorem jL {t:TypeId} {ag:Bool} {n b oo:Nat} {cs:List AV} {v:AV} {f:Nat->Value} (r7:ml P t=some ag) (hn:dx P t=some n) (hp:part ag n cs=some v) (fl:∀a∈cs,a.cell=true)
  (hc:∀j,j<cs.length->w.cell? ⟨b,oo+j,none⟩=some (f j)) (hr:∀j a,cs[j]? =some a->cw P w D ι a (f j)):∃u,(loadVar t ⟨b,oo,none⟩).run P w=.ok u w/\cw P w D ι v u:=by
 unfold part at hp
 cases ag with
 |true=>
  simp only[if_true]at hp
  split at hp
  ·rename_i hl
   simp at hp;subst hp
   refine⟨.agg ((List.range n).map f).toArray,?_,.agg _ _ f (by simp;omega) (fun a ha=>fl a (List.mem_of_mem_take ha)) (fun j hj=>?_) (fun j a ha=>?_)⟩
   ·simp only[loadVar,Sem.run_bind,qF r7,Result.andThen_ok,if_true,run_sizeOf hn,Sem.run_pure]
    rw[run_loadCells w _ n f (fun j hj=>by rw[jw];exact hc j ab)]
    rfl
   ·simp at hj
    have:j<n:=ab
    simp[this]
   ·rw[List.getElem?_take]at ha
    split at ha
    ·exact hr _ _ ha
    ·simp at ha
  ·simp at hp
 |false=>
  simp only[Bool.false_eq_true,if_false]at hp
  cases cs with
  |nil=>simp at hp
  |cons c r=>
   simp at hp;subst hp
   refine⟨f 0,?_,hr 0 _ rfl⟩
   simp only[loadVar,Sem.run_bind,qF r7,Result.andThen_ok,Bool.false_eq_true,if_false]
   have:=hc 0 (by simp)
   simp at this
   rw[run_load,this]
theorem GW {S:fJ P hs D ι g w} {i:Nat} {cs:List AV} (h:rowAt g id i=some cs) (hk:∀B,ι id=some B->B.k=none):∃B r,g id=some r/\ι id=some B/\kz P w D ι B r/\r.rows[i]? =some cs/\(∀a∈cs,a.cell=true)/\∃f:Nat->Value,∀j,j<cs.length->w.cell? ⟨B.b,i*B.sz+j,none⟩=some (f j)/\∀a,cs[j]? =some a->cw P w D ι a (f j):=by
 unfold rowAt at h
 simp only[Option.bind_eq_some_iff]at h
 obtain⟨r,hr,hi⟩:=h
 obtain⟨B,hB,R,_,_⟩:=S.row id r hr
 replace R:=R.row (hk B hB)
 refine⟨B,r,hr,hB,R,hi,R.flat cs (List.mem_of_getElem? hi),fun j=>(w.cell? ⟨B.b,i*B.sz+j,none⟩).getD undef,fun j hj=>?_⟩
 obtain⟨u,hu,uu⟩:=R.at_ i j cs _ hi (List.getElem?_eq_getElem hj)
 rw[R.sz,hu]
 refine⟨by simp only[hu,Option.getD_some],fun a ha=>?_⟩
 rw[List.getElem?_eq_getElem hj]at ha
 injection ha with ha
 subst ha
 simpa only[hu,Option.getD_some]using uu
theorem Mf {x:Operand} {x':O} {t:TypeId} {ag:Bool} {n:Nat} (S:fJ P hs D ι g w) (E:bu P w D ι env a) (ho:o.op=.load t x) (r7:ml P t=some ag) (hn:dx P t=some n) (hx:cO P x=some x') (hv:ld g ag n (cv env x')=some v):mM P a o w D ι v:=by
 have hr:=cE E hx
 have go:∀b oo u,a.eval x=.pointer (some ⟨b,oo,none⟩)->(loadVar t ⟨b,oo,none⟩).run P w=.ok u w->(execOp a.eval o).run P w=.ok (.value u) w:=fun b oo u h h2=>by
  simp only[execOp,ho,h,Instr.loadAt,Instr.sureAddr,Sem.run_bind,Sem.run_pure,Result.andThen_ok,h2]
 unfold ld at hv
 split at hv
 ·rename_i jU i' oo hb
  rw[hb]at hr
  obtain⟨B,h,hB,hk⟩:=iI hr
  simp only[Option.bind_eq_some_iff]at hv
  obtain⟨cs,dh,hp⟩:=hv
  obtain⟨B',r,EK,dn,R,hi,fl,f,hf⟩:=GW (S:=S) dh (fun B2 h2=>by rw[hB]at h2;injection h2 with h2;subst h2;exact hk)
  rw[hB]at dn;injection dn with dn;subst dn
  obtain⟨u,h1,h2⟩:=jL (w:=w) (b:=B.b) (oo:=i'*B.sz+oo) (f:=fun j=>f (oo+j)) r7 hn hp (fun a ha=>fl a (List.mem_of_mem_drop ha)) (fun j hj=>by
   rw[Nat.add_assoc];exact(hf _ (by simp at hj;omega)).1) (fun j a ha=>by
   simp at ha;exact(hf _ ((List.getElem?_eq_some_iff.1 ha).1)).2 _ ha)
  exact⟨u,go _ _ _ h h1,h2⟩
 ·rename_i cs hb
  rw[hb]at hr
  obtain⟨b,oo,vs,h,h1,h2,h3,h4⟩:=j4 hr
  obtain⟨u,k1,k2⟩:=jL (w:=w) (b:=b) (oo:=oo) (f:=vs) r7 hn hv h2 h3 (fun j a ha=>.ev _ _ (h4 j a ha))
  exact⟨u,go _ _ _ h k1,k2⟩
 ·simp at hv
theorem OG {x:Operand} {x':O} (E:bu P w D ι env a) (ho:o.op=.nilCheck x) (hx:cO P x=some x') (hv:ei (cv env x')=some v):mM P a o w D ι v:=by
 have hr:=cE E hx
 unfold ei at hv
 split at hv
 ·rename_i jU i' oo hb
  simp at hv;subst hv
  rw[hb]at hr
  obtain⟨B,h,hB,hk⟩:=iI hr
  exact⟨_,by simp only[execOp,ho,h];rfl,.ptr _ _ _ _ hB hk⟩
 ·rename_i cs hb
  simp at hv;subst hv
  rw[hb]at hr
  obtain⟨b,oo,vs,h,_⟩:=j4 hr
  exact⟨_,by simp only[execOp,ho,h];rfl,h▸hr⟩
 ·simp at hv
theorem Jy {x i:Operand} {x' i':O} {t e:TypeId} {m:Nat} (S:fJ P hs D ι g w) (E:bu P w D ι env a) (ho:o.op=.indexAddr t x i) (ht:P.underlying t=some (.slice e)) (hm:dx P e=some (m+1)) (hx:cO P x=some x') (hi:cO P i=some i')
  (hv:bQ g (m+1) (cv env x') (cv env i')=some v):mM P a o w D ι v:=by
 have hr:=cE E hx
 have AL:=cE E hi
 have go:∀b oo n c k (q:Int),a.eval x=.slice (some ⟨b,oo,none⟩) n c->a.eval i=.int k q->0<=q->q<n->(execOp a.eval o).run P w=.ok (.value (.pointer (some ⟨b,oo+q.toNat*(m+1),none⟩))) w:=fun b oo n c k q h h2 h3 h4=>by
  simp only[execOp,ho,h,h2,Instr.indexAt,asIntOf,Sem.run_bind,Sem.run_pure,run_underlying ht,Result.andThen_ok,h3,h4,and_self,if_true,run_sizeOf hm,jw]
 unfold bQ at hv
 split at hv
 ·rename_i rows k q hb qp
  split at hv
  ·rename_i hq
   simp only[Option.bind_eq_some_iff]at hv
   obtain⟨cs,dh,hv⟩:=hv
   split at hv
   ·rename_i hlen
    simp at hv;subst hv
    rw[hb]at hr;rw[qp]at AL
    have dF:=(List.getElem?_eq_some_iff.1 dh).1
    obtain⟨A,c,h,h1,h2,h3⟩:=tu hr
    rcases h3 with h3|⟨b,oo,sz,vs,rfl,hD,hl,fl,hc,hi⟩
    ·subst h3;simp at dh
    have eS:sz=m+1:=by rw[<-hlen,hl cs (List.mem_of_getElem? dh)]
    refine⟨_,go b oo _ _ k q h (db AL) hq ab,.ev _ _ (.cK cs b _ (vs q.toNat) hD (fl cs (List.mem_of_getElem? dh)) (fun j hj=>?_) (fun j a ha=>hi _ _ _ _ dh ha))⟩
    have:=hc q.toNat j dF (by rw[<-hl cs (List.mem_of_getElem? dh)];exact hj)
    rw[eS]at this
    rw[Nat.add_assoc];exact this
   ·simp at hv
  ·simp at hv
 ·rename_i jU off len k q hb qp
  split at hv
  ·rename_i hq
   simp only[Option.bind_eq_some_iff]at hv
   obtain⟨r,EK,hv⟩:=hv
   split at hv
   ·rename_i u9
    simp at hv;subst hv
    rw[hb]at hr;rw[qp]at AL
    obtain⟨oo,cap,B,h,hB,h1,h2,h3,h4,hk⟩:=iH hr
    obtain⟨B',dn,R,_,_⟩:=S.row _ _ EK
    rw[hB]at dn;injection dn with dn;subst dn
    replace R:=R.row hk
    have eS:B.sz=m+1:=R.sz.trans u9
    refine⟨_,go _ _ _ _ k q h (db AL) hq.1 hq.2,?_⟩
    have xx:oo=off*B.sz:=by rcases h2 with h2|h2<;>omega
    have:oo+q.toNat*(m+1)=(off+q.toNat)*B.sz+0:=by rw[xx,<-eS,Nat.add_mul];rfl
    rw[this]
    exact .ptr _ _ _ _ hB hk
   ·simp at hv
  ·simp at hv
 ·simp at hv
theorem Ma {x i:Operand} {x' i':O} {t e:TypeId} {m len:Nat} (E:bu P w D ι env a) (ho:o.op=.indexAddr t x i) (ht:P.underlying t=some (.array len e)) (hm:dx P e=some (m+1)) (hx:cO P x=some x') (hi:cO P i=some i')
  (hv:cQ len (m+1) (cv env x') (cv env i')=some v):mM P a o w D ι v:=by
 have hr:=cE E hx
 have AL:=cE E hi
 have go:∀b oo k (q:Int),a.eval x=.pointer (some ⟨b,oo,none⟩)->a.eval i=.int k q->0<=q->q<len->(execOp a.eval o).run P w=.ok (.value (.pointer (some ⟨b,oo+q.toNat*(m+1),none⟩))) w:=fun b oo k q h h2 h3 h4=>by
  simp only[execOp,ho,h,h2,Instr.indexAt,asIntOf,Sem.run_bind,Sem.run_pure,run_underlying ht,Instr.sureAddr,Result.andThen_ok,h3,h4,and_self,if_true,run_sizeOf hm,jw]
 unfold cQ at hv
 split at hv
 ·rename_i jU r oo k q hb qp
  split at hv
  ·rename_i hq
   simp at hv;subst hv
   rw[hb]at hr;rw[qp]at AL
   obtain⟨B,h,hB,hk⟩:=iI hr
   refine⟨_,go _ _ k q h (db AL) hq.1 hq.2,?_⟩
   rw[Nat.add_assoc]
   exact .ptr _ _ _ _ hB hk
  ·simp at hv
 ·rename_i cs k q hb qp
  split at hv
  ·rename_i hq
   simp at hv;subst hv
   rw[hb]at hr;rw[qp]at AL
   obtain⟨b,oo,vs,h,h1,h2,h3,h4⟩:=j4 hr
   refine⟨_,go _ _ k q h (db AL) hq.1 hq.2,.ev _ _ (.cK _ _ _ (fun j=>vs (q.toNat*(m+1)+j)) h1 (fun a ha=>h2 a (List.mem_of_mem_drop ha)) (fun j hj=>?_) (fun j a ha=>h4 _ _ (by simpa using ha)))⟩
   rw[Nat.add_assoc]
   exact h3 _ (by simp at hj;omega)
  ·simp at hv
 ·simp at hv
theorem Mc {x i:Operand} {x' i':O} {t:TypeId} (E:bu P w D ι env a) (ho:o.op=.index t x i) (ht:P.underlying t=some .string) (hx:cO P x=some x') (hi:cO P i=some i')
  (hv:cT (cv env x') (cv env i')=some v):mM P a o w D ι v:=by
 have hr:=cE E hx
 have AL:=cE E hi
 unfold cT at hv
 split at hv
 ·rename_i s k q hb qp
  split at hv
  ·rename_i hq
   simp only[Option.map_eq_some_iff]at hv
   obtain⟨c,hc,rfl⟩:=hv
   rw[hb]at hr;rw[qp]at AL
   refine⟨_,?_,.ev _ _ (.int _ _)⟩
   simp only[execOp,ho,eT hr,db AL,Instr.index,asIntOf,Sem.run_bind,Sem.run_pure,run_underlying ht,Result.andThen_ok,hq,if_true,hc]
  ·simp at hv
 ·simp at hv
theorem Mb {x i:Operand} {x' i':O} {t e:TypeId} {ag:Bool} {len n:Nat} (E:bu P w D ι env a) (ho:o.op=.index t x i) (ht:P.underlying t=some (.array len e)) (r7:ml P e=some ag) (hn:dx P e=some n) (hx:cO P x=some x') (hi:cO P i=some i')
  (hv:cR ag len n (cv env x') (cv env i')=some v):mM P a o w D ι v:=by
 have hr:=cE E hx
 have AL:=cE E hi
 unfold cR at hv
 split at hv
 ·rename_i cs k q hb qp
  split at hv
  ·rename_i hq
   rw[hb]at hr;rw[qp]at AL
   obtain⟨vs,f,h,n1,fl,f1,r1⟩:=gS hr
   have go:∀u,(Go.part e vs (q.toNat*n)).run P w=.ok u w->(execOp a.eval o).run P w=.ok (.value u) w:=fun u hu=>by
    simp only[execOp,ho,h,db AL,Instr.index,asIntOf,Sem.run_bind,Sem.run_pure,run_underlying ht,Result.andThen_ok,hq,and_self,if_true,run_sizeOf hn,hu]
   unfold part at hv
   cases ag with
   |true=>
    simp only[if_true]at hv
    split at hv
    ·rename_i hl
     simp at hv;subst hv
     simp only[List.length_drop]at hl
     by_cases HG:n=0
     ·subst HG
      refine⟨_,go _ (nL r7 hn),.agg _ _ (fun _=>undef) (by simp) (fun a ha=>by simp at ha) (fun j hj=>by simp at hj) (fun j a ha=>by simp at ha)⟩
     refine⟨_,go _ (nL r7 hn),.agg _ _ (fun j=>f (q.toNat*n+j)) (by simp[n1];omega) (fun a ha=>fl a (List.mem_of_mem_drop (List.mem_of_mem_take ha))) (fun j hj=>?_) (fun j a ha=>?_)⟩
     ·simp at hj
      rw[Array.getElem?_extract,if_pos ab];exact f1 _ ab
     ·rw[List.getElem?_take]at ha
      split at ha
      ·exact r1 _ _ (by simpa using ha)
      ·simp at ha
    ·simp at hv
   |false=>
    simp only[Bool.false_eq_true,if_false]at hv
    have mA:cs[q.toNat*n]? =some v:=by simpa[List.head?_drop]using hv
    have dF:=(List.getElem?_eq_some_iff.1 mA).1
    exact⟨_,go _ (lh r7 (f1 _ dF)),r1 _ _ mA⟩
  ·simp at hv
 ·simp at hv
theorem EF {x:Operand} {x':O} {i:Nat} (E:bu P w D ι env a) (ho:o.op=.extract x i) (hx:cO P x=some x') (hv:aM i (cv env x')=some v):mM P a o w D ι v:=by
 have hr:=cE E hx
 unfold aM at hv
 split at hv
 ·rename_i vs hb
  rw[hb]at hr
  obtain⟨us,f,h,h1,h2,h3⟩:=sg hr
  have dF:=(List.getElem?_eq_some_iff.1 hv).1
  exact⟨_,by simp only[execOp,ho,h,Instr.extract,h2 _ dF];rfl,h3 _ _ hv⟩
 ·simp at hv
theorem OK {x:Operand} {x':O} {t:TypeId} {e:TypeId} {n:Nat} (E:bu P w D ι env a) (ho:o.op=.call {callee:=.builtin .len,args:= #[x],argTypes:= #[t]}) (ht:P.underlying t=some (.slice e)) (hx:cO P x=some x') (hv:ej (cv env x')=some n):mM P a o w D ι (.int .i64 n):=by
 have hr:=cE E hx
 have go:∀A c,a.eval x=.slice A n c->(execOp a.eval o).run P w=.ok (.value (.int .i64 n)) w:=fun A c h=>by
  simp only[execOp,ho,resolve,Sem.run_bind,Sem.run_pure,Result.andThen_ok,invoke,builtin,Array.map,h]
  simp[Builtin.len_,run_underlying ht,goInt,h]
 refine⟨.int .i64 n,?_,.ev _ _ (.int _ _)⟩
 unfold ej at hv
 split at hv<;>simp at hv<;>subst hv<;>rename_i hb<;>rw[hb]at hr
 ·exact go _ _ (ju hr)
 ·obtain⟨A,c,h,_⟩:=tu hr;exact go _ _ h
 ·obtain⟨oo,cap,B,h,_⟩:=iH hr;exact go _ _ h
theorem Me {x:Operand} {x':O} {t:TypeId} (E:bu P w D ι env a) (ho:o.op=.call {callee:=.builtin .len,args:= #[x],argTypes:= #[t]}) (ht:P.underlying t=some .string) (hx:cO P x=some x') (hv:cV (cv env x')=some v):mM P a o w D ι v:=by
 have hr:=cE E hx
 unfold cV at hv
 split at hv
 ·rename_i s hb
  simp at hv;subst hv
  rw[hb]at hr
  have h:=eT hr
  refine⟨_,?_,.ev _ _ (.int _ _)⟩
  simp only[execOp,ho,resolve,Sem.run_bind,Sem.run_pure,Result.andThen_ok,invoke,builtin,Array.map,h]
  simp[Builtin.len_,run_underlying ht,goInt,h]
 ·simp at hv
theorem lP {isS:Bool} {len cap h l:Nat} {lo hi:Option Operand} {J8 o3:Option O} (E:bu P w D ι env a) (jz:pf P lo=some J8) (zF:pf P hi=some o3) (hh:dR len (o3.map (cv env))=some h) (hl:dS h (J8.map (cv env))=some l) (hc:len<=cap):
  (Instr.sliceBounds isS len cap (lo.map a.eval) (hi.map a.eval) none).run P w=.ok (l,h,cap) w/\l<=h/\h<=len:=by
 have bound:∀(x:Operand) (y:O) (k:IntKind) (n:Int) (m:Nat) (c:BoundsCode),cO P x=some y->cv env y=.int k n->0<=n->n<=m->(Instr.sliceBound (a.eval x) m c).run P w=.ok n.toNat w:=fun x y k n m c hx hy h0 h1=>by
  have hr:=cE E hx
  rw[hy]at hr
  simp only[Instr.sliceBound,db hr,asIntOf,Sem.run_bind,Sem.run_pure,Result.andThen_ok,h0,h1,and_self,if_true]
 have H:h<=len/\((hi=none/\h=len)∨∃x,hi=some x/\∀c,(Instr.sliceBound (a.eval x) cap c).run P w=.ok h w):=by
  cases hi with
  |none=>
   simp[pf]at zF;subst zF
   simp[dR]at hh;subst hh
   exact⟨Nat.le_refl _,.inl ⟨rfl,rfl⟩⟩
  |some x=>
   simp only[pf,Option.map_eq_some_iff]at zF
   obtain⟨y,hy,rfl⟩:=zF
   simp only[Option.map_some,dR]at hh
   split at hh
   ·rename_i e;cases e
   ·rename_i k n e
    injection e with e
    split at hh
    ·rename_i hn
     simp at hh;subst hh
     exact⟨ab,.inr ⟨x,rfl,fun c=>bound x y k n _ _ hy e hn.1 ab⟩⟩
    ·simp at hh
   ·simp at hh
 have L:l<=h/\((lo=none/\l=0)∨∃x,lo=some x/\∀c,(Instr.sliceBound (a.eval x) h c).run P w=.ok l w):=by
  cases lo with
  |none=>
   simp[pf]at jz;subst jz
   simp[dS]at hl;subst hl
   exact⟨Nat.zero_le _,.inl ⟨rfl,rfl⟩⟩
  |some x=>
   simp only[pf,Option.map_eq_some_iff]at jz
   obtain⟨y,hy,rfl⟩:=jz
   simp only[Option.map_some,dS]at hl
   split at hl
   ·rename_i e;cases e
   ·rename_i k n e
    injection e with e
    split at hl
    ·rename_i hn
     simp at hl;subst hl
     exact⟨ab,.inr ⟨x,rfl,fun c=>bound x y k n h _ hy e hn.1 hn.2⟩⟩
    ·simp at hl
   ·simp at hl
 refine⟨?_,L.1,H.1⟩
 unfold Instr.sliceBounds
 rcases H.2 with⟨rfl,rfl⟩|⟨x,rfl,hx⟩<;>rcases L.2 with⟨rfl,rfl⟩|⟨y,rfl,hy⟩<;>
  simp only[Option.map_none,Option.map_some,Sem.run_bind,Sem.run_pure,Result.andThen_ok, *]
theorem Jz {x:Operand} {x':O} {lo hi:Option Operand} {J8 o3:Option O} {t e:TypeId} {m:Nat} (S:fJ P hs D ι g w) (E:bu P w D ι env a) (ho:o.op=.slice t x lo hi none) (ht:P.underlying t=some (.slice e)) (hm:dx P e=some m) (hx:cO P x=some x') (jz:pf P lo=some J8) (zF:pf P hi=some o3)
  (hv:bR g m (cv env x') (J8.map (cv env)) (o3.map (cv env))=some v):mM P a o w D ι v:=by
 have hr:=cE E hx
 have go:∀A len cap l h,a.eval x=.slice A len cap->(Instr.sliceBounds true len cap (lo.map a.eval) (hi.map a.eval) none).run P w=.ok (l,h,cap) w->(execOp a.eval o).run P w=.ok (.value (.slice (if cap=l then A else A.map (·.add (l*m))) (h-l) (cap-l))) w:=fun A len cap l h h1 h2=>by
  simp only[execOp,ho,h1,Instr.sliceAt,Instr.slice,Sem.run_bind,Sem.run_pure,run_underlying ht,Result.andThen_ok,Option.map_none,h2,run_sizeOf hm]
 unfold bR at hv
 split at hv
 ·rename_i hb
  rw[hb]at hr
  simp only[Option.bind_eq_some_iff,Option.map_eq_some_iff]at hv
  obtain⟨h,hh,l,hl,rfl⟩:=hv
  obtain⟨q,q1,q2⟩:=lP (w:=w) (isS:=true) (cap:=0) E jz zF hh hl (Nat.le_refl _)
  have h0:h=0:=ab
  have l0:l=0:=ab
  subst h0;subst l0
  refine⟨_,go _ _ _ _ _ (ju hr) q,?_⟩
  simp;exact .ev _ _ .bC
 ·rename_i rows hb
  rw[hb]at hr
  simp only[Option.bind_eq_some_iff,Option.map_eq_some_iff]at hv
  obtain⟨h,hh,l,hl,hv⟩:=hv
  split at hv
  ·rename_i di
   simp at hv;subst hv
   obtain⟨A,c,he,c1,c2,h3⟩:=tu hr
   obtain⟨q,q1,q2⟩:=lP (w:=w) (isS:=true) (cap:=c) E jz zF hh hl c1
   refine⟨_,go _ _ _ _ _ he q,.ev _ _ ?_⟩
   have hlen:((rows.drop l).take (h-l)).length=h-l:=by simp;omega
   by_cases hz:h-l=0
   ·have:(rows.drop l).take (h-l)=[]:=by rw[hz];simp
    rw[this,hz]
    exact .zI _ _ ab
   ·rcases h3 with h3|⟨b,oo,sz,vs,rfl,hD,HF,fl,hc,hi⟩
    ·subst h3;simp at q2;omega
    rw[if_neg ab]
    simp only[Option.map_some,jw]
    have yJ:sz=m:=by
     have dF:l<rows.length:=ab
     have:=di rows[l] (List.getElem_mem dF)
     rw[<-this,HF _ (List.getElem_mem dF)]
    subst yJ
    refine .sl _ b _ _ _ sz (fun i j=>vs (l+i) j) hlen ab ab hD (fun cs dh=>HF cs (List.mem_of_mem_drop (List.mem_of_mem_take dh))) (fun cs dh=>fl cs (List.mem_of_mem_drop (List.mem_of_mem_take dh))) (fun i j hi hj=>?_) (fun i j cs a dh ha=>?_)
    ·rw[<-hc (l+i) j ab hj,Nat.add_mul]
     congr 2;omega
    ·rw[List.getElem?_take]at dh
     split at dh
     ·exact hi _ _ _ _ (by simpa using dh) ha
     ·simp at dh
  ·simp at hv
 ·rename_i jU off len hb
  rw[hb]at hr
  simp only[Option.bind_eq_some_iff,Option.map_eq_some_iff]at hv
  obtain⟨r,EK,h,hh,l,hl,hv⟩:=hv
  split at hv
  ·rename_i u9
   simp at hv;subst hv
   obtain⟨oo,cap,B,he,hB,h1,h2,h3,h4,hk⟩:=iH hr
   obtain⟨B',dn,R,_,_⟩:=S.row _ _ EK
   rw[hB]at dn;injection dn with dn;subst dn
   replace R:=R.row hk
   have eS:B.sz=m:=R.sz.trans u9
   obtain⟨q,q1,q2⟩:=lP (w:=w) (isS:=true) (cap:=cap) E jz zF hh hl h1
   refine⟨_,go _ _ _ _ _ he q,?_⟩
   have e1:(off+l+(cap-l))*B.sz<=B.C:=by rw[show off+l+(cap-l)=off+cap by omega];exact h3
   by_cases mm:cap=l
   ·rw[if_pos mm]
    exact .own _ _ _ _ _ B hB hk ab (.inl ab) e1 ab
   ·rw[if_neg mm]
    simp only[Option.map_some,jw]
    have xx:oo=off*B.sz:=by rcases h2 with h2|h2<;>omega
    exact .own _ _ _ _ _ B hB hk ab (.inr (by rw[xx,eS,Nat.add_mul])) e1 ab
  ·simp at hv
 ·simp at hv
theorem Hr {x:Operand} {x':O} {lo hi:Option Operand} {J8 o3:Option O} {t:TypeId} (E:bu P w D ι env a) (ho:o.op=.slice t x lo hi none) (ht:P.underlying t=some .string) (hx:cO P x=some x') (jz:pf P lo=some J8) (zF:pf P hi=some o3)
  (hv:bf (cv env x') (J8.map (cv env)) (o3.map (cv env))=some v):mM P a o w D ι v:=by
 have hr:=cE E hx
 unfold bf at hv
 split at hv
 ·rename_i s hb
  rw[hb]at hr
  simp only[Option.bind_eq_some_iff,Option.map_eq_some_iff]at hv
  obtain⟨h,hh,l,hl,rfl⟩:=hv
  obtain⟨q,_,_⟩:=lP (w:=w) (isS:=false) E jz zF hh hl (Nat.le_refl _)
  refine⟨_,?_,.ev _ _ (.str _)⟩
  simp only[execOp,ho,eT hr,Instr.sliceAt,Instr.slice,Sem.run_bind,Sem.run_pure,run_underlying ht,Result.andThen_ok,Option.map_none,Option.isSome_none,Bool.false_eq_true,if_false,q]
 ·simp at hv
theorem Bj {xs:List Operand} {ys:List O} (E:bu P w D ι env a) (h:xs.mapM (cO P)=some ys):(xs.map a.eval).length=ys.length/\∀j y,ys[j]? =some y->cw P w D ι (cv env y) ((xs.map a.eval).getD j undef):=by
 induction xs generalizing ys with
 |nil=>simp at h;subst h;simp
 |cons x r ih=>
  simp only[List.mapM_cons,Option.bind_eq_bind,Option.bind_eq_some_iff]at h
  obtain⟨c,hc,og,dh,h⟩:=h
  simp at h;subst h
  obtain⟨h1,h2⟩:=ih dh
  refine⟨by simpa using h1,fun j d hd=>?_⟩
  cases j with
  |zero=>simp at hd ⊢;subst hd;exact cE E hc
  |succ j=>simp at hd ⊢;simpa using h2 j d hd
theorem Mh {f:Nat} {first cr:Array Operand} {x7:List O} (E:bu P w D ι env a) (ho:o.op=.makeFunc (.func f) first cr) (hf:first= #[]) (hc:e8 P f=true) (hx:cr.toList.mapM (cO P)=some x7):mM P a o w D ι (.fn f (x7.map (cv env))):=by
 subst hf
 obtain⟨h1,h2⟩:=Bj E hx
 refine⟨.func (.func f) #[] (cr.map a.eval),by simp only[execOp,ho,Instr.makeFunc,Sem.run_bind,Sem.run_pure,Result.andThen_ok];simp,.fn _ _ _ (fun j=>(cr.toList.map a.eval).getD j undef) hc (by simpa using h1) (fun j hj=>?_) (fun j x MM=>?_)⟩
 ·simp at hj h1
  have:j<cr.size:=ab
  simp[this]
 ·simp only[List.getElem?_map,Option.map_eq_some_iff]at MM
  obtain⟨y,hy,rfl⟩:=MM
  exact h2 j y hy
theorem Mi {f:Nat} {first cr:Array Operand} {x7:List O} (E:bu P w D ι env a) (ho:o.op=.makeFunc (.func f) first cr) (hf:cr= #[]) (hc:e8 P f=true) (hx:first.toList.mapM (cO P)=some x7):mM P a o w D ι (.tX f (x7.map (cv env))):=by
 subst hf
 obtain⟨h1,h2⟩:=Bj E hx
 refine⟨.func (.func f) (first.map a.eval) #[],by simp only[execOp,ho,Instr.makeFunc,Sem.run_bind,Sem.run_pure,Result.andThen_ok];simp,.tX _ _ _ (fun j=>(first.toList.map a.eval).getD j undef) hc (by simpa using h1) (fun j hj=>?_) (fun j x MM=>?_)⟩
 ·simp at hj h1
  have:j<first.size:=ab
  simp[this]
 ·simp only[List.getElem?_map,Option.map_eq_some_iff]at MM
  obtain⟨y,hy,rfl⟩:=MM
  exact h2 j y hy
end
end Go.Proofs.YtihgaadadaekmaaGreatDoor.V

namespace Go.Proofs.YtihgaadadaekmaaGreatDoor.V
open Go.RowKit
variable {P:Program} {w w':World} {D D':Nat->Prop} {ι ι':Names}
def Mk (P:Program) (a:Act) (o:Oper) (w:World) (D:Nat->Prop) (ι:Names) (id:Id) (v:AV) (r:Row):Prop:=
 ∃u cells T,(execOp a.eval o).run P w=.ok (.value u) (w.alloc (.cells cells T))/\r.w=true/\r.rows.length*r.sz<=cells.size/\(∀cs∈r.rows,cs.length=r.sz)/\(∀cs∈r.rows,∀a∈cs,a.cell=true)/\
  (∀i j cs a,r.rows[i]? =some cs->cs[j]? =some a->∃x,cells[i*r.sz+j]? =some x/\cw P w D ι a x)/\∀ι':Names,ι' id=some ⟨w.heap.size,r.sz,cells.size,none⟩->cw P w D ι' v u
section
variable {g:Rows} {hs:Nat} {env:Env} {a:Act} {o:Oper} {id:Id} {v:AV}
theorem kL {vs:List Value} {cs:List K} (h:vs.mapM DH=some cs):eM P w D ι (cs.map K.av) vs.toArray:=by
 obtain⟨h1,h2⟩:=pE h
 refine⟨by simp[h1],fun j a ha=>?_⟩
 simp only[List.getElem?_map,Option.map_eq_some_iff]at ha
 obtain⟨c,hc,rfl⟩:=ha
 exact⟨c.val,by simpa using h2 j c hc,tr c⟩
theorem je {t:TypeId} {z:List K} (h:iR P t=some z):∃i v,P.info? t=some i/\i.zero=some v/\v.cells.size=i.size/\v.cells.toList.mapM DH=some z/\z.length=i.size:=by
 unfold iR at h
 split at h
 ·rename_i i hi
  split at h
  ·rename_i v hv
   split at h
   ·rename_i hs
    exact⟨i,v,hi,hv,hs,h,by rw[(pE h).1];simpa using hs⟩
   ·simp at h
  ·simp at h
 ·simp at h
theorem Cw {cs:List AV} {cells:Array Value} (h:eM P w D ι cs cells):∀i j c a,[cs][i]? =some c->c[j]? =some a->∃x,cells[i*cs.length+j]? =some x/\cw P w D ι a x:=by
 intro i j c a hi hj
 cases i with
 |zero=>simp at hi;subst hi;simpa using h.2 j a hj
 |succ i=>simp at hi
theorem Om {t:TypeId} {z:List K} (ho:o.op=.alloc t) (hz:iR P t=some z):Mk P a o w D ι id (.ptr id 0 0) ⟨true,z.length,[z.map K.av]⟩:=by
 obtain⟨i,v,hi,hv,hs,hm,hl⟩:=je hz
 have hk:=kL (P:=P) (w:=w) (D:=D) (ι:=ι) hm
 refine⟨.pointer (some ⟨w.heap.size,0,none⟩),v.cells,t,?_,rfl,?_,?_,?_,?_,?_⟩
 ·simp only[execOp,ho,Instr.alloc,zeroValue,typeInfo,Sem.run_bind]
  simp[hi,hv,newVar,newRow]
 ·simp[hl,hs]
 ·intro cs dh;simp at dh;subst dh;simp
 ·intro cs dh x hx;simp at dh;subst dh
  obtain⟨c,_,rfl⟩:=List.mem_map.1 hx;exact c.ly
 ·have:=Cw hk;simpa using this
 ·intro ι' hι
  have:=cw.ptr (P:=P) (w:=w) (D:=D) (ι:=ι') id 0 0 _ hι rfl
  simpa using this
theorem oQ {x:AV} {u:Value} (h:cw P w D ι x u) (hc:x.cells.all AV.cell=true):eM P w D ι x.cells u.cells:=by
 obtain⟨h1,f,h2,h3⟩:=h.cells hc
 exact⟨h1,fun j a ha=>⟨f j,h2 j (List.getElem?_eq_some_iff.1 ha).1,h3 j a ha⟩⟩
theorem Ok {t:TypeId} {x:Operand} {x':O} {cs:List AV} (E:bu P w D ι env a) (ho:o.op=.box t x) (hx:cO P x=some x') (hb:cL (cv env x')=some cs):Mk P a o w D ι id (.ptr id 0 0) ⟨true,cs.length,[cs]⟩:=by
 have hr:=cE E hx
 unfold cL at hb
 split at hb
 ·rename_i di
  simp at hb;subst hb
  have hk:=oQ hr di
  refine⟨.pointer (some ⟨w.heap.size,0,none⟩),(a.eval x).cells,t,?_,rfl,?_,?_,?_,?_,?_⟩
  ·simp only[execOp,ho,Instr.box,Sem.run_bind]
   simp[newVar,newRow]
  ·simp[hk.1]
  ·intro cs dh;simp at dh;subst dh;rfl
  ·intro cs dh y hy;simp at dh;subst dh
   exact List.all_eq_true.1 di y hy
  ·exact Cw hk
  ·intro ι' hι
   have:=cw.ptr (P:=P) (w:=w) (D:=D) (ι:=ι') id 0 0 _ hι rfl
   simpa using this
 ·simp at hb
theorem foldl_set:∀(vs:List Value) (n off:Nat) (cells:Array Value),off+n+vs.length<=cells.size->((vs.zipIdx n).foldl (fun cs (x:Value×Nat)=>cs.setIfInBounds (off+x.2) x.1) cells).size=cells.size/\
  ∀k,((vs.zipIdx n).foldl (fun cs (x:Value×Nat)=>cs.setIfInBounds (off+x.2) x.1) cells)[k]? =if off+n<=k/\k<off+n+vs.length then vs[k-(off+n)]? else cells[k]?
 |[],n,off,cells,_=>⟨rfl,fun k=>by simp;intro h1 h2;omega⟩
 |v::r,n,off,cells,h=>by
  simp only[List.length_cons]at h
  obtain⟨h1,h2⟩:=foldl_set r (n+1) off (cells.setIfInBounds (off+n) v) (by simp;omega)
  simp only[List.zipIdx_cons,List.foldl_cons]
  refine⟨by rw[h1];simp,fun k=>?_⟩
  rw[h2 k]
  simp only[List.length_cons]
  by_cases hk:k=off+n
  ·subst hk
   rw[if_neg ab,if_pos ab]
   simp[show off+n<cells.size by omega]
  ·by_cases sS:off+n<=k/\k<off+n+(r.length+1)
   ·rw[if_pos ab,if_pos sS]
    have:k-(off+n)=(k-(off+(n+1)))+1:=ab
    rw[this,List.getElem?_cons_succ]
   ·rw[if_neg ab,if_neg sS,Array.getElem?_setIfInBounds_ne ab]
theorem sK (place:Nat->Option (Nat×Nat)):∀(ps:List (Nat×Value)) (qs:List (Nat×Nat×AV)) (cells:Array Value) (cs res:List AV),eM P w D ι cs cells->(∀a∈cs,a.cell=true)->ps.length=qs.length->
  (∀(k:Nat) i u o' n x,ps[k]? =some (i,u)->qs[k]? =some (o',n,x)->place i=some (o',n)/\cw P w D ι x u)->cz cs qs=some res->∃iv,Instr.fill place cells ps=some iv/\eM P w D ι res iv/\(∀a∈res,a.cell=true)/\res.length=cs.length:=by
 intro ps
 induction ps with
 |nil=>
  intro qs cells cs res hR hf hl _ hv
  cases qs with
  |nil=>simp[cz]at hv;subst hv;exact⟨cells,rfl,hR,hf,rfl⟩
  |cons q r=>simp at hl
 |cons p ps ih=>
  intro qs cells cs res hR hf hl hp hv
  cases qs with
  |nil=>simp at hl
  |cons q qs=>
   obtain⟨i,u⟩:=p
   obtain⟨oo,n,x⟩:=q
   obtain⟨mv,hr⟩:=hp 0 i u oo n x rfl rfl
   unfold cz at hv
   split at hv
   ·rename_i hc
    obtain⟨c1,c2,c3⟩:=hc
    have hk:=oQ hr c3
    have QS:u.cells.size=n:=by rw[hk.1,c1]
    have dh:cells.size=cs.length:=hR.1
    unfold Instr.fill
    simp only[mv]
    rw[if_neg (by rw[QS,dh];simp;omega)]
    obtain⟨s1,s2⟩:=foldl_set u.cells.toList 0 oo cells (by simp;omega)
    have e0:(u.cells.zipIdx.foldl (fun cs (x:Value×Nat)=>cs.setIfInBounds (oo+x.2) x.1) cells)=(u.cells.toList.zipIdx 0).foldl (fun cs (x:Value×Nat)=>cs.setIfInBounds (oo+x.2) x.1) cells:=by
     rw[<-Array.foldl_toList];simp
    have uj:=ih qs (u.cells.zipIdx.foldl (fun cs (x:Value×Nat)=>cs.setIfInBounds (oo+x.2) x.1) cells) (cs.take oo++x.cells++cs.drop (oo+n)) res ?_ ?_ (by simpa using hl) (fun k i u o' n x h1 h2=>hp (k+1) i u o' n x (by simpa using h1) (by simpa using h2)) hv
    ·obtain⟨iv,h1,h2,h3,h4⟩:=uj
     refine⟨iv,h1,h2,h3,?_⟩
     rw[h4];simp;omega
    ·rw[e0]
     refine⟨by rw[s1,dh];simp;omega,fun j a ha=>?_⟩
     rw[s2 j]
     simp only[Nat.add_zero,Array.length_toList]
     by_cases hj:oo<=j/\j<oo+u.cells.size
     ·rw[if_pos hj]
      rw[List.append_assoc,List.getElem?_append_right (by simp;omega),List.getElem?_append_left (by simp;omega)]at ha
      simp only[List.length_take]at ha
      rw[show min oo cs.length=oo by omega]at ha
      simpa using hk.2 _ _ ha
     ·rw[if_neg hj]
      by_cases hj2:j<oo
      ·rw[List.append_assoc,List.getElem?_append_left (by simp;omega),List.getElem?_take,if_pos hj2]at ha
       exact hR.2 _ _ ha
      ·rw[List.getElem?_append_right (by simp;omega)]at ha
       simp only[List.length_append,List.length_take,List.getElem?_drop]at ha
       rw[show oo+n+(j-(min oo cs.length+x.cells.length))=j by omega]at ha
       exact hR.2 _ _ ha
    ·intro b hb
     rcases List.mem_append.1 hb with hb|hb
     ·rcases List.mem_append.1 hb with hb|hb
      ·exact hf b (List.mem_of_mem_take hb)
      ·exact List.all_eq_true.1 c3 b hb
     ·exact hf b (List.mem_of_mem_drop hb)
   ·simp at hv
theorem uh {fs:List Field} (h:∀f∈fs,(P.info? f.type).isSome=true):∃places,fs.mapM (fun f=>(P.info? f.type).map fun i=>(f.offset,i.size))=some places/\∀(i:Nat) (f:Field) (n:Nat),fs[i]? =some f->dx P f.type=some n->places[i]? =some (f.offset,n):=by
 induction fs with
 |nil=>exact⟨[],rfl,fun i f n h=>by simp at h⟩
 |cons f r ih=>
  obtain⟨q,h1,h2⟩:=ih (fun x hx=>h x (List.mem_cons_of_mem _ hx))
  obtain⟨i,hi⟩:=Option.isSome_iff_exists.1 (h f (by simp))
  refine⟨(f.offset,i.size)::q,by simp[hi,h1],fun k x n hk hn=>?_⟩
  cases k with
  |zero=>simp at hk;subst hk;simp[dx,hi]at hn;subst hn;rfl
  |succ k=>simp at hk ⊢;exact h2 k x n hk hn
theorem oy {ps:List (Nat×Operand)} {l:List (Nat×O)} (E:bu P w D ι env a) (h:ps.mapM (fun(x:Nat×Operand)=>(cO P x.2).map (x.1,·))=some l):l.length=ps.length/\∀(k i:Nat) (y:O),l[k]? =some (i,y)->∃x,ps[k]? =some (i,x)/\cO P x=some y:=by
 induction ps generalizing l with
 |nil=>simp at h;subst h;simp
 |cons p r ih=>
  simp only[List.mapM_cons,Option.bind_eq_bind,Option.bind_eq_some_iff]at h
  obtain⟨c,hc,og,dh,h⟩:=h
  simp at h;subst h
  obtain⟨h1,h2⟩:=ih dh
  simp only[Option.map_eq_some_iff]at hc
  obtain⟨y,hy,rfl⟩:=hc
  refine⟨by simp[h1],fun k i z hk=>?_⟩
  cases k with
  |zero=>simp at hk;obtain⟨rfl,rfl⟩:=hk;exact⟨p.2,rfl,hy⟩
  |succ k=>simp at hk ⊢;exact h2 k i z hk
theorem zX {fs:Array Field} {l:List (Nat×O)} {q:List (Nat×Nat×O)} (h:qf P fs l=some q):q.length=l.length/\∀(k oo n:Nat) (y:O),q[k]? =some (oo,n,y)->∃(i:Nat) (f:Field),l[k]? =some (i,y)/\fs[i]? =some f/\f.offset=oo/\dx P f.type=some n:=by
 induction l generalizing q with
 |nil=>simp[qf]at h;subst h;simp
 |cons p r ih=>
  obtain⟨i,x⟩:=p
  unfold qf at h
  split at h
  ·rename_i f hf
   split at h
   ·rename_i n hn
    simp only[Option.map_eq_some_iff]at h
    obtain⟨q',IB,rfl⟩:=h
    obtain⟨h1,h2⟩:=ih IB
    refine⟨by simp[h1],fun k oo m y hk=>?_⟩
    cases k with
    |zero=>simp at hk;obtain⟨rfl,rfl,rfl⟩:=hk;exact⟨i,f,rfl,hf,rfl,hn⟩
    |succ k=>simp only[List.getElem?_cons_succ]at hk ⊢;exact h2 k oo m y hk
   ·simp at h
  ·simp at h
theorem eM.agg {xs:List AV} {vs:Array Value} (h:eM P w D ι xs vs) (hf:∀a∈xs,a.cell=true):cw P w D ι (.agg xs) (.agg vs):=
 .agg xs vs (fun j=>vs.getD j undef) h.1 hf (fun j hj=>by
  have:j<vs.size:=by rw[h.1];exact hj
  simp[this]) (fun j a ha=>by
  obtain⟨u,h1,h2⟩:=h.2 j a ha
  simpa[Array.getD_eq_getD_getElem?,h1]using h2)
theorem Ju {t:TypeId} {ps:Array (Nat×Operand)} {fs:Array Field} {z:List K} {l:List (Nat×O)} {q:List (Nat×Nat×O)} {cs:List AV} (E:bu P w D ι env a) (ho:o.op=.build t ps) (ht:P.underlying t=some (.struct fs)) (hz:iR P t=some z) (hl:qi P ps=some l)
  (pr:∀f∈fs.toList,(P.info? f.type).isSome=true) (hq:qf P fs l=some q) (hv:cz (z.map K.av) (q.map fun(o,n,x)=>(o,n,cv env x))=some cs):mM P a o w D ι (.agg cs):=by
 obtain⟨it,zv,hi,sZ,hs,hm,Cm⟩:=je hz
 obtain⟨places,mv,QM⟩:=uh pr
 have hk:=kL (P:=P) (w:=w) (D:=D) (ι:=ι) hm
 obtain⟨n1,r1⟩:=oy E hl
 obtain⟨n2,r2⟩:=zX hq
 obtain⟨iv,h1,h2,h3,_⟩:=sK (P:=P) (w:=w) (D:=D) (ι:=ι) (places.toArray[·]?) (ps.toList.map fun(i,x)=>(i,a.eval x)) (q.map fun(o,n,x)=>(o,n,cv env x)) zv.cells _ cs (by simpa using hk)
  (fun b hb=>by obtain⟨c,_,rfl⟩:=List.mem_map.1 hb;exact c.ly) (by simp[n2,n1]) (fun k i u o' n x rj sS=>by
   simp only[List.getElem?_map,Option.map_eq_some_iff]at rj sS
   obtain⟨⟨i',x'⟩,hp,e1⟩:=rj
   obtain⟨⟨o2,n',y⟩,IB,e2⟩:=sS
   simp only[Prod.mk.injEq]at e1 e2
   obtain⟨rfl,rfl⟩:=e1
   obtain⟨rfl,rfl,rfl⟩:=e2
   obtain⟨i2,f,FY,hf,rfl,hn⟩:=r2 _ _ _ _ IB
   obtain⟨x2,xH,hc⟩:=r1 _ _ _ FY
   rw[hp]at xH
   simp only[Option.some.injEq,Prod.mk.injEq]at xH
   obtain⟨rfl,rfl⟩:=xH
   exact⟨by simpa using QM _ _ _ (by simpa using hf) hn,cE E hc⟩) hv
 refine⟨.agg iv,?_,h2.agg h3⟩
 have hb:P.built t ((ps.map fun(i,x)=>(i,a.eval x)).toList)=some iv:=by
  unfold Program.built
  simp only[hi,ht,sZ,mv]
  simpa using h1
 simp only[execOp,ho,Sem.run_bind,run_build w t _ _ hb,Result.andThen_ok,Sem.run_pure]
theorem Hq {t e:TypeId} {len n:Nat} {ps:Array (Nat×Operand)} {z:List K} {l:List (Nat×O)} {cs:List AV} (E:bu P w D ι env a) (ho:o.op=.build t ps) (ht:P.underlying t=some (.array len e)) (hz:iR P t=some z) (hl:qi P ps=some l) (hn:dx P e=some n)
  (hv:cz (z.map K.av) ((l.map fun(x:Nat×O)=>(x.1*n,n,x.2)).map fun(o,n,x)=>(o,n,cv env x))=some cs):mM P a o w D ι (.agg cs):=by
 obtain⟨it,zv,hi,sZ,hs,hm,Cm⟩:=je hz
 have hk:=kL (P:=P) (w:=w) (D:=D) (ι:=ι) hm
 obtain⟨n1,r1⟩:=oy E hl
 obtain⟨ie,HC,eS⟩:∃ie,P.info? e=some ie/\ie.size=n:=by simpa[dx]using hn
 obtain⟨iv,h1,h2,h3,_⟩:=sK (P:=P) (w:=w) (D:=D) (ι:=ι) (fun i=>some (i*ie.size,ie.size)) (ps.toList.map fun(i,x)=>(i,a.eval x)) ((l.map fun(x:Nat×O)=>(x.1*n,n,x.2)).map fun(o,n,x)=>(o,n,cv env x)) zv.cells _ cs (by simpa using hk)
  (fun b hb=>by obtain⟨c,_,rfl⟩:=List.mem_map.1 hb;exact c.ly) (by simp[n1]) (fun k i u o' n' x rj sS=>by
   simp only[List.getElem?_map,Option.map_eq_some_iff]at rj sS
   obtain⟨⟨i',x'⟩,hp,e1⟩:=rj
   obtain⟨⟨o2,n2,y⟩,⟨⟨i2,y2⟩,FY,e3⟩,e2⟩:=sS
   simp only[Prod.mk.injEq]at e1 e2 e3
   obtain⟨rfl,rfl⟩:=e1
   obtain⟨rfl,rfl,rfl⟩:=e2
   obtain⟨rfl,rfl,rfl⟩:=e3
   obtain⟨x2,xH,hc⟩:=r1 _ _ _ FY
   rw[hp]at xH
   simp only[Option.some.injEq,Prod.mk.injEq]at xH
   obtain⟨rfl,rfl⟩:=xH
   exact⟨by rw[eS],cE E hc⟩) hv
 refine⟨.agg iv,?_,h2.agg h3⟩
 have hb:P.built t ((ps.map fun(i,x)=>(i,a.eval x)).toList)=some iv:=by
  unfold Program.built
  simp only[hi,ht,sZ,HC]
  simpa using h1
 simp only[execOp,ho,Sem.run_bind,run_build w t _ _ hb,Result.andThen_ok,Sem.run_pure]
theorem sJ:∀(vs:List AV) (sz i:Nat) (rs:List (List AV)) (cs:List AV),0<sz->cs.length=(i+vs.length)*sz->rowsOf sz vs=some rs->
  cz cs ((vs.zipIdx i).map fun(v,j)=>(j*sz,sz,v))=some (cs.take (i*sz)++rs.flatten)/\rs.length=vs.length/\(∀c∈rs,c.length=sz)/\∀c∈rs,∀x∈c,x.cell=true
 |[],sz,i,rs,cs,_,hl,h=>by
  simp[rowsOf]at h;subst h
  simp at hl
  simp[cz,List.take_of_length_le (show cs.length<=i*sz by omega)]
 |v::r,sz,i,rs,cs,eS,hl,h=>by
  simp only[rowsOf,Option.bind_eq_some_iff,Option.map_eq_some_iff]at h
  obtain⟨c,hc,rs',u9,rfl⟩:=h
  unfold rowOf at hc
  split at hc
  ·rename_i wH
   simp at hc;subst hc
   obtain⟨oi,Dm⟩:=wH
   simp only[List.length_cons]at hl
   have hmul:(i+(r.length+1))*sz=i*sz+sz+r.length*sz:=by rw[Nat.add_mul,Nat.add_mul];omega
   have ih:=sJ r sz (i+1) rs' (cs.take (i*sz)++v.cells++cs.drop (i*sz+sz)) eS (by
    simp[oi];rw[Nat.add_mul,Nat.add_mul];omega) u9
   refine⟨?_,by simp[ih.2.1],?_,?_⟩
   ·simp only[List.zipIdx_cons,List.map_cons,cz]
    rw[if_pos ⟨oi,ab,Dm⟩,ih.1]
    congr 1
    rw[List.flatten_cons,<-List.append_assoc]
    congr 1
    rw[Nat.add_mul,Nat.one_mul,List.take_append_of_le_length (by simp[oi];omega)]
    rw[List.take_of_length_le (by simp[oi];omega)]
   ·intro c' jQ;rcases List.mem_cons.1 jQ with rfl|jQ
    ·exact oi
    ·exact ih.2.2.1 c' jQ
   ·intro c' jQ;rcases List.mem_cons.1 jQ with rfl|jQ
    ·exact List.all_eq_true.1 Dm
    ·exact ih.2.2.2 c' jQ
  ·simp at hc
theorem flat_get {α:Type} {mY:List (List α)} {sz:Nat} (h:∀cs∈mY,cs.length=sz) {i j:Nat} {cs:List α} {a:α} (hi:mY[i]? =some cs) (hj:cs[j]? =some a):mY.flatten[i*sz+j]? =some a:=by
 induction mY generalizing i with
 |nil=>simp at hi
 |cons c r ih=>
  have hc:c.length=sz:=h c (by simp)
  cases i with
  |zero=>
   simp at hi;subst hi
   have dF:=(List.getElem?_eq_some_iff.1 hj).1
   rw[List.flatten_cons,List.getElem?_append_left ab];simpa using hj
  |succ i=>
   rw[List.flatten_cons,List.getElem?_append_right (by rw[hc,Nat.succ_mul];omega)]
   have:(i+1)*sz+j-c.length=i*sz+j:=by rw[hc,Nat.succ_mul];omega
   rw[this]
   exact ih (fun cs dh=>h cs (List.mem_cons_of_mem _ dh)) (by simpa using hi)
theorem FE {α:Type} {mY:List (List α)} {sz:Nat} (h:∀cs∈mY,cs.length=sz):mY.flatten.length=mY.length*sz:=by
 induction mY with
 |nil=>simp
 |cons c r ih=>
  rw[List.flatten_cons,List.length_append,h c (by simp),ih (fun cs dh=>h cs (List.mem_cons_of_mem _ dh)),List.length_cons,Nat.succ_mul];omega
theorem nD {zv:Value} {z:List K} {n:Nat} (hm:zv.cells.toList.mapM DH=some z) (kM:0<z.length):∀k,k<n->∃c,z[k % z.length]? =some c/\((Array.range n).map (zv.cells[· % zv.cells.size]!))[k]? =some c.val:=by
 intro k hk
 obtain⟨h1,h2⟩:=pE hm
 have eS:zv.cells.size=z.length:=by simpa using h1.symm
 have dF:k % z.length<z.length:=Nat.mod_lt _ kM
 refine⟨z[k % z.length],List.getElem?_eq_getElem dF,?_⟩
 have h3:=h2 _ _ (List.getElem?_eq_getElem dF)
 simp only[Array.getElem?_toList]at h3
 have yI:k % z.length<zv.cells.size:=by rw[eS];exact dF
 rw[Array.getElem?_map,Array.getElem?_range,if_pos hk]
 simp only[Option.map_some]
 rw[eS,getElem!_pos zv.cells (k % z.length) yI]
 rw[Array.getElem?_eq_getElem yI]at h3
 exact h3
theorem Gr {t e:TypeId} {len sz:Nat} {ps:Array (Nat×Operand)} {z:List K} {l:List (Nat×O)} {rs:List (List AV)} (E:bu P w D ι env a) (ho:o.op=.buildSlice t len ps) (ht:P.underlying t=some (.slice e)) (eS:dx P e=some (sz+1)) (hz:iR P e=some z)
  (hl:qi P ps=some l) (ID:len*(sz+1)<=4096) (N4:l.map (·.1)=List.range len) (hv:rowsOf (sz+1) (l.map fun x=>cv env x.2)=some rs):Mk P a o w D ι id (.own id 0 len) ⟨true,sz+1,rs⟩:=by
 obtain⟨it,zv,hi,sZ,hs,hm,Cm⟩:=je hz
 have iO:it.size=sz+1:=by simpa[dx,hi]using eS
 obtain⟨n1,r1⟩:=oy E hl
 have xE:l.length=len:=by have:=congrArg List.length N4;simpa using this
 by_cases h0:len=0
 ·subst h0
  have Pd:l=[]:=List.length_eq_zero_iff.1 xE
  subst Pd
  simp[rowsOf]at hv;subst hv
  have Pg:ps= #[]:=by
   apply Array.ext';apply List.eq_nil_of_length_eq_zero;rw[<-n1];rfl
  subst Pg
  refine⟨.slice (some ⟨w.heap.size,0,none⟩) 0 0, #[],e,?_,rfl,by simp,by simp,by simp,fun i j cs x hi=>by simp at hi,fun ι' hι=>?_⟩
  ·simp[execOp,ho,Instr.buildSlice,run_underlying ht,sizeOf,typeInfo,hi,Instr.fill,newRow,Array.range_zero']
  ·exact .own _ 0 0 0 0 _ hι rfl (Nat.le_refl _) (.inl rfl) (by simp) (by simp[maxLen])
 ·have vh:eM P w D ι ((List.range (len*(sz+1))).map fun k=>(z.getD (k % z.length) .bC).av) ((Array.range (len*(sz+1))).map (zv.cells[· % zv.cells.size]!)):=by
   refine⟨by simp,fun j x hx=>?_⟩
   simp only[List.getElem?_map,Option.map_eq_some_iff]at hx
   obtain⟨k,hk,rfl⟩:=hx
   have ki:=(List.getElem?_eq_some_iff.1 hk).1
   simp at ki
   rw[List.getElem?_range ki]at hk
   injection hk with hk
   subst hk
   obtain⟨c,hc,hcv⟩:=nD hm (by rw[Cm,iO];omega) j ki
   exact⟨c.val,hcv,by rw[List.getD_eq_getElem?_getD,hc];exact tr c⟩
  obtain⟨f1,f2,f3,f4⟩:=sJ (l.map fun x=>cv env x.2) (sz+1) 0 rs ((List.range (len*(sz+1))).map fun k=>(z.getD (k % z.length) .bC).av) ab (by simp[xE]) hv
  obtain⟨iv,h1,h2,h3,h4⟩:=sK (P:=P) (w:=w) (D:=D) (ι:=ι) (fun i=>some (i*it.size,it.size)) (ps.toList.map fun(i,x)=>(i,a.eval x)) _ _ _ _ vh
   (fun b hb=>by obtain⟨c,_,rfl⟩:=List.mem_map.1 hb;exact K.ly _) (by simp[n1]) (fun k i u o' n x rj sS=>by
   simp only[List.getElem?_map,Option.map_eq_some_iff]at rj sS
   obtain⟨⟨i',x'⟩,hp,e1⟩:=rj
   obtain⟨⟨v2,j2⟩,IB,e2⟩:=sS
   simp only[Prod.mk.injEq]at e1 e2
   obtain⟨rfl,rfl⟩:=e1
   obtain⟨rfl,rfl,rfl⟩:=e2
   rw[List.getElem?_zipIdx]at IB
   simp only[List.getElem?_map,Option.map_map,Option.map_eq_some_iff,Function.comp_apply,Prod.mk.injEq,Nat.zero_add]at IB
   obtain⟨⟨i2,y⟩,FY,rfl,rfl⟩:=IB
   obtain⟨x2,xH,hc⟩:=r1 _ _ _ FY
   rw[hp]at xH
   simp only[Option.some.injEq,Prod.mk.injEq]at xH
   obtain⟨rfl,rfl⟩:=xH
   have u5:(l.map (·.1))[k]? =some i':=by rw[List.getElem?_map,FY];rfl
   have ki:=(List.getElem?_eq_some_iff.1 u5).1
   rw[N4]at u5
   simp at ki
   rw[List.getElem?_range ab]at u5
   injection u5 with u5
   subst u5
   exact⟨by rw[iO],cE E hc⟩) f1
  simp only[Nat.zero_mul,List.take_zero,List.nil_append,List.length_map]at h2 h3 h4 f2
  have dh:iv.size=len*(sz+1):=by rw[h2.1,h4];simp
  refine⟨.slice (some ⟨w.heap.size,0,none⟩) len len,iv,e,?_,rfl,?_,f3,f4,fun i j cs x o3 hj=>h2.2 _ _ (flat_get f3 o3 hj),fun ι' hι=>?_⟩
  ·have gC:=run_buildSlice (P:=P) w t e len (ps.map fun(i,x)=>(i,a.eval x)) iv it zv ht hi sZ (by rw[iO];omega) (by rw[iO];exact Nat.mul_ne_zero h0 ab) (by rw[<-iO]at h1;simpa using h1)
   simp only[execOp,ho,Sem.run_bind,gC,Result.andThen_ok,Sem.run_pure]
  ·dsimp only;rw[f2,xE,dh];exact Nat.le_refl _
  ·refine .own _ 0 len 0 len _ hι rfl (Nat.le_refl _) (.inr (by simp)) ?_ (by simp only[maxLen];have:=Nat.le_mul_of_pos_right len (show 0<sz+1 by omega);omega)
   dsimp only;rw[dh];simp
theorem DT {t e:TypeId} {it:TypeInfo} {m:Nat} {z:List K} {l c:Operand} {l' c':O} {n:Nat} {r:Row} (E:bu P w D ι env a) (ho:o.op=.makeSlice t l c) (ht:P.underlying t=some (.slice e)) (eS:dx P e=some (m+1)) (hz:iR P e=some z) (Qw:P.info? e=some it) (hby:it.bytes<=32768)
  (hl:cO P l=some l') (hc:cO P c=some c') (hv:ig z (cv env l') (cv env c')=some (n,r)):Mk P a o w D ι id (.own id 0 n) r:=by
 obtain⟨it',zv,hi,sZ,hs,hm,Cm⟩:=je hz
 rw[Qw]at hi;injection hi with hi;subst hi
 have iO:it.size=m+1:=by simpa[dx,Qw]using eS
 unfold ig at hv
 split at hv
 ·rename_i k1 ln k2 cn e1 e2
  split at hv
  ·rename_i hb
   obtain⟨b1,b2,b3⟩:=hb
   simp at hv
   obtain⟨rfl,rfl⟩:=hv
   have r1:=db (e1▸cE E hl)
   have r2:=db (e2▸cE E hc)
   unfold dJ at b3
   have JK:(it.bytes:Int)*cn<=281474976710656:=by
    have h1:(it.bytes:Int)<=32768:=ab
    have h2:(it.bytes:Int)*cn<=32768*16777216:=Int.mul_le_mul h1 ab ab ab
    omega
   have gC:=run_make (P:=P) w t e it zv ht Qw sZ k1 k2 ln cn b1 b2 JK ab
   have jD:∀k,k<cn.toNat*it.size->∃x,z[k % z.length]? =some x/\(madeCells zv.cells (cn.toNat*it.size))[k]? =some x.val:=fun k hk=>nD hm (by rw[Cm,iO];omega) k hk
   refine⟨.slice (some ⟨w.heap.size,0,none⟩) ln.toNat cn.toNat,madeCells zv.cells (cn.toNat*it.size),e,by simp only[execOp,ho,r1,r2,Sem.run_bind,gC,Result.andThen_ok,Sem.run_pure],rfl,?_,?_,?_,?_,fun ι' hι=>?_⟩
   ·simp only[List.length_replicate,size_madeCells,Cm]
    exact Nat.mul_le_mul_right _ ab
   ·intro cs dh
    have:=List.eq_of_mem_replicate dh
    subst this;simp
   ·intro cs dh x hx
    have:=List.eq_of_mem_replicate dh
    subst this
    obtain⟨c,_,rfl⟩:=List.mem_map.1 hx;exact c.ly
   ·intro i j cs x o3 hj
    have oj:=(List.getElem?_eq_some_iff.1 o3).1
    have:=List.eq_of_mem_replicate (List.mem_of_getElem? o3)
    subst this
    simp only[List.length_replicate]at oj
    simp only[List.getElem?_map,Option.map_eq_some_iff]at hj
    obtain⟨q,hq,rfl⟩:=hj
    have gq:=(List.getElem?_eq_some_iff.1 hq).1
    dsimp only
    obtain⟨x,hx,xH⟩:=jD (i*z.length+j) (by
     rw[<-Cm]
     calc i*z.length+j<i*z.length+z.length:=ab
      _=(i+1)*z.length:=by rw[Nat.add_mul,Nat.one_mul]
      _<=cn.toNat*z.length:=Nat.mul_le_mul_right _ ab)
    rw[Nat.mul_comm i,Nat.mul_add_mod,Nat.mod_eq_of_lt gq,hq]at hx
    injection hx with hx;subst hx
    exact⟨_,by rw[Nat.mul_comm i]at xH ⊢;exact xH,tr q⟩
   ·refine .own _ 0 _ 0 _ _ hι rfl ab (.inr (by simp)) ?_ (by simp only[maxLen];omega)
    dsimp only;rw[size_madeCells,Cm];simp
  ·simp at hv
 ·simp at hv
end
end Go.Proofs.YtihgaadadaekmaaGreatDoor.V

namespace Go.Proofs.YtihgaadadaekmaaGreatDoor.V
open Go.RowKit
variable {P:Program} {w w':World} {D D':Nat->Prop} {ι ι':Names}
def BQ (P:Program) (k:TypeId) (m:MK):Prop:=
 (∃s,m=⟨false,[s]⟩/\eK P k=some s)∨
 (∃fs ts,m=⟨true,ts⟩/\P.underlying k=some (.struct fs)/\dM P 4 0 fs.toList=some ts/\P.stoodInHeld k=false/\∀f∈fs.toList,(eK P f.type).isSome=true)
theorem pe {t:TypeId} {m:MK} {z:K} (h:qh P t=some (m,z)):∃k e i zv,P.underlying t=some (.map k e)/\P.info? e=some i/\i.zero=some zv/\DH zv=some z/\BQ P k m:=by
 unfold qh at h
 split at h
 ·rename_i k e ht
  split at h
  ·rename_i zv s h1 h2 h3
   simp only[Option.map_eq_some_iff,Prod.mk.injEq]at h
   obtain⟨z',hz,rfl,rfl⟩:=h
   simp only[Option.bind_eq_some_iff]at h2
   obtain⟨i,hi,sZ⟩:=h2
   exact⟨k,e,i,zv,ht,hi,sZ,hz,.inl ⟨s,rfl,h3⟩⟩
  ·rename_i zv fs h1 h2 h3 h4
   split at h
   ·rename_i ts z' uv hz
    split at h
    ·rename_i hc
     simp only[Option.some.injEq,Prod.mk.injEq]at h
     obtain⟨rfl,rfl⟩:=h
     simp only[Option.bind_eq_some_iff]at h2
     obtain⟨i,hi,sZ⟩:=h2
     simp only[Bool.not_eq_true',List.all_eq_true]at hc
     exact⟨k,e,i,zv,ht,hi,sZ,hz,.inr ⟨fs,ts,rfl,h4,uv,hc.1,hc.2⟩⟩
    ·cases h
   ·cases h
  ·cases h
 ·cases h
theorem tx {t:TypeId} {s:TS} (ht:eK P t=some s) (em:Bool) (n:Nat) (v:Value):(Instr.checkKey em (n+1) t v).run P w=.ok () w:=by
 unfold Instr.checkKey
 cases s with
 |tB=>simp[run_underlying (nM ht)]
 |tS=>simp[run_underlying (nO ht)]
 |tI=>
  obtain⟨q,hq⟩:=nN ht
  simp[run_underlying hq]
theorem tz (em:Bool) (n:Nat) (vs:Array Value):∀(d:Nat) (fs:List Field) (off:Nat) (ts:List TS),dM P (d+1) off fs=some ts->(∀f∈fs,(eK P f.type).isSome=true)->off+ts.length<=vs.size->
  Sem.run P (forIn fs PUnit.unit fun f (_:PUnit)=>if f.name≠ "_" then do
    let x <-Go.part f.type vs f.offset
    Instr.checkKey em (n+1) f.type x
    pure (ForInStep.yield PUnit.unit)
   else pure (ForInStep.yield PUnit.unit)) w=Result.ok PUnit.unit w
 |d,[],off,ts,_,_,_=>by simp
 |d,f::r,off,ts,hf,hs,hl=>by
  rw[uV]at hf
  split at hf
  ·rename_i hcond
   obtain⟨ho,gF⟩:=hcond
   split at hf
   ·rename_i s MI
    split at hf
    ·rename_i r7
     simp only[Option.map_eq_some_iff]at hf
     obtain⟨Kg,hr,rfl⟩:=hf
     simp only[List.length_cons]at hl
     have ih:=tz em n vs d r (off+1) Kg hr (fun f hf=>hs f (List.mem_cons_of_mem _ hf)) ab
     have hu:vs[off]? =some vs[off]:=by simp
     simp only[List.forIn_cons,Sem.run_bind,if_pos gF,ho,lh r7 hu,Result.andThen_ok,tx MI,Sem.run_pure]
     exact ih
    ·cases hf
   ·rename_i hn
    have:=hs f (by simp)
    rw[hn]at this;cases this
  ·cases hf
theorem Br {k:TypeId} {m:MK} (hk:BQ P k m) (em:Bool) (key:AV) (u:Value) (r7:key.isAgg=m.ka) (hlen:key.cells.length=m.ks) (hr:cw P w D ι key u):(Instr.checkKey em 10000 k u).run P w=.ok () w:=by
 rcases hk with⟨s,rfl,hs⟩|⟨fs,ts,rfl,pr,uv,dQ,di⟩
 ·exact tx hs em 9999 u
 ·cases key<;>simp[AV.isAgg]at r7
  rename_i cs
  obtain⟨vs,f,rfl,h1,_⟩:=gS hr
  unfold Instr.checkKey
  simp only[Sem.run_bind,run_underlying pr,Result.andThen_ok]
  rw[<-Array.forIn_toList]
  have h:=tz (P:=P) (w:=w) em 9998 vs 3 fs.toList 0 ts uv di (by simp[AV.cells,MK.ks]at hlen;omega)
  rw[h]
  rfl
theorem Fh (a b:ByteArray):(a==b)=decide (a=b):=by
 by_cases h:a=b
 ·subst h;rw[decide_eq_true rfl]
  obtain⟨x⟩:=a
  show(x==x)=true
  simp
 ·rw[decide_eq_false h,Bool.eq_false_iff]
  intro hc
  obtain⟨x⟩:=a
  obtain⟨y⟩:=b
  exact h (by rw[show x=y by simpa using(show(x==y)=true from hc)])
theorem GY {t:TypeId} {s:TS} {x y:AV} {u v:Value} {b:Bool} {d:TypeDesc} (ht:eK P t=some s) (hd:P.underlying t=some d) (he:fZ s x y=some b) (hx:cw P w D ι x u) (hy:cw P w D ι y v):Instr.sameNow d u v=some b:=by
 unfold fZ at he
 split at he
 ·rename_i k n k' n'
  split at he
  ·rename_i hk
   subst hk
   simp at he;subst he
   obtain⟨q,hq⟩:=nN ht
   rw[hd]at hq;injection hq with hq;subst hq
   rw[db hx,db hy]
   simp[Instr.sameNow]
   rfl
  ·cases he
 ·simp at he;subst he
  have hq:=nM ht
  rw[hd]at hq;injection hq with hq;subst hq
  rw[eG hx,eG hy];rfl
 ·rename_i a c
  simp at he;subst he
  have hq:=nO ht
  rw[hd]at hq;injection hq with hq;subst hq
  rw[eT hx,eT hy]
  simp only[Instr.sameNow,Fh]
 ·cases he
def Found (es:List MapEntry) (i:Nat) (r:Option Nat) (res:Option (Nat×Value)):Prop:=(r=none/\res=none)∨∃j e,r=some (i+j)/\es[j]? =some e/\res=some (i+j,e.val)
theorem sM {e:MapEntry} {es:List MapEntry} {i:Nat} {r:Option Nat} {res:Option (Nat×Value)} (h:Found es (i+1) r res):Found (e::es) i r res:=by
 rcases h with h|⟨j,x,h1,h2,h3⟩
 ·exact .inl h
 ·exact .inr ⟨j+1,x,by rw[h1];congr 1;omega,by simpa using h2,by rw[h3];congr 2;omega⟩
theorem yn {t:TypeId} {s:TS} {d:TypeDesc} {x:AV} {u:Value} (ht:eK P t=some s) (hd:P.underlying t=some d) (hx:cw P w D ι x u):∀(rows:List (List AV)) (es:List MapEntry) (i:Nat) (r:Option Nat),es.length=rows.length->
  (∀(j:Nat) (cs:List AV),rows[j]? =some cs->∃(e:MapEntry) (kv:AV),es[j]? =some e/\cs.head? =some kv/\cw P w D ι kv e.key)->gG ⟨false,[s]⟩ [x] rows i=some r->∃res,Instr.findNow d u es i=some res/\Found es i r res
 |[],[],i,r,_,_,h=>by
  simp[gG]at h;subst h
  exact⟨none,rfl,.inl ⟨rfl,rfl⟩⟩
 |[],e::es,i,r,hl,_,h=>by simp at hl
 |cs::rows,[],i,r,hl,_,h=>by simp at hl
 |cs::rows,e::es,i,r,hl,hr,h=>by
  obtain⟨e',kv,Ik,hk,gi⟩:=hr 0 cs rfl
  simp at Ik;subst Ik
  have dh:cs.take (MK.ks ⟨false,[s]⟩)=[kv]:=by
   cases cs with
   |nil=>simp at hk
   |cons a l=>simp at hk;subst hk;simp[MK.ks]
  unfold gG at h
  rw[dh]at h
  cases hq:fZ s x kv with
  |none=>simp[eX,hq]at h
  |some b=>
   have hs:=GY ht hd hq hx gi
   cases b with
   |true=>
    simp[eX,hq]at h;subst h
    exact⟨some (i,e.val),by simp[Instr.findNow,hs],.inr ⟨0,e,rfl,rfl,rfl⟩⟩
   |false=>
    simp[eX,hq]at h
    obtain⟨res,h1,h2⟩:=yn ht hd hx rows es (i+1) r (by simpa using hl) (fun j cs hj=>hr (j+1) cs (by simpa using hj)) h
    exact⟨res,by simp[Instr.findNow,hs,h1],sM h2⟩
theorem om {t:TypeId} {fs:Array Field} {ts:List TS} {xs ys:List AV} {vs us:Array Value} {b:Bool} (pr:P.underlying t=some (.struct fs)) (dQ:P.stoodInHeld t=false) (uv:dM P 4 0 fs.toList=some ts) (hx:eM P w D ι xs vs) (hy:eM P w D ι ys us) (hv:eX ts xs ys=some b):(Op.equal t (.agg vs) (.agg us)).run P w=.ok b w:=by
 obtain⟨l1,l2⟩:=pj hv
 have q:=pN (w:=w) 4 fs.toList 0 ts uv 9998 ab xs ys vs us b hx hy (by simpa[List.take_of_length_le,l1,l2]using hv)
 have JO:P.fieldsOf t=fs:=by simp[Program.fieldsOf,pr]
 unfold Op.equal
 rw[show Op.maxDepth=9999+1 from rfl,run_equalIn_struct w 9999 t _ _ (by rw[JO];exact pr) dQ,JO,q]
theorem pK {cs:List AV} {v:Value} (h:cw P w D ι (.agg cs) v):∃vs,v=.agg vs/\eM P w D ι cs vs:=by
 obtain⟨vs,f,rfl,n1,_,f1,r1⟩:=gS h
 exact⟨vs,rfl,n1,fun j a ha=>⟨f j,f1 j (List.getElem?_eq_some_iff.1 ha).1,r1 j a ha⟩⟩
theorem ym {t:TypeId} {fs:Array Field} {ts:List TS} {xs:List AV} {vs:Array Value} (pr:P.underlying t=some (.struct fs)) (dQ:P.stoodInHeld t=false) (uv:dM P 4 0 fs.toList=some ts) (hx:eM P w D ι xs vs):∀(rows:List (List AV)) (es:List MapEntry) (i:Nat) (r:Option Nat),es.length=rows.length->
  (∀(j:Nat) (cs:List AV),rows[j]? =some cs->∃e:MapEntry,es[j]? =some e/\cw P w D ι (.agg (cs.take ts.length)) e.key)->gG ⟨true,ts⟩ xs rows i=some r->∃res,(Instr.findAsking t (.agg vs) es i).run P w=.ok res w/\Found es i r res
 |[],[],i,r,_,_,h=>by
  simp[gG]at h;subst h
  exact⟨none,by simp[Instr.findAsking],.inl ⟨rfl,rfl⟩⟩
 |[],e::es,i,r,hl,_,h=>by simp at hl
 |cs::rows,[],i,r,hl,_,h=>by simp at hl
 |cs::rows,e::es,i,r,hl,hr,h=>by
  obtain⟨e',Ik,gi⟩:=hr 0 cs rfl
  simp at Ik;subst Ik
  obtain⟨us,hk,hy⟩:=pK gi
  unfold gG at h
  simp only[MK.ks]at h
  split at h
  ·rename_i hq
   simp at h;subst h
   have q:=om pr dQ uv hx hy hq
   exact⟨some (i,e.val),by simp[Instr.findAsking,hk,q],.inr ⟨0,e,rfl,rfl,rfl⟩⟩
  ·rename_i hq
   have q:=om pr dQ uv hx hy hq
   obtain⟨res,h1,h2⟩:=ym pr dQ uv hx rows es (i+1) r (by simpa using hl) (fun j cs hj=>hr (j+1) cs (by simpa using hj)) h
   exact⟨res,by simp[Instr.findAsking,hk,q,h1],sM h2⟩
  ·cases h
theorem sH {a:AV} (h:a.isAgg=false):a.cells=[a]:=by cases a<;>simp_all [AV.isAgg,AV.cells]
theorem sL {k:TypeId} {m:MK} {B:qN} {r:Row} (hk:BQ P k m) {key:AV} {u:Value} (hr:cw P w D ι key u) {es:Array MapEntry} (eS:es.size=r.rows.length)
  (hM:∀(i:Nat) (cs:List AV),r.rows[i]? =some cs->∃(e:MapEntry) (kv vv:AV),es[i]? =some e/\part m.ka m.ks cs=some kv/\cs[m.ks]? =some vv/\cw P w D ι kv e.key/\cw P w D ι vv e.val) {fi:Option Nat} (h:gx m key r.rows=some fi):
  (∀em,(Instr.checkKey em 10000 k u).run P w=.ok () w)/\∃res,(Instr.findKey k u es.toList).run P w=.ok res w/\Found es.toList 0 fi res:=by
 unfold gx at h
 split at h
 ·rename_i hc
  obtain⟨c1,c2,c3⟩:=hc
  refine⟨fun em=>Br hk em key u c1 c2 hr,?_⟩
  rcases hk with⟨s,rfl,hs⟩|⟨fs,ts,rfl,pr,uv,dQ,di⟩
  ·rw[sH c1]at h
   have hd:∃d,P.underlying k=some d:=by
    cases s with
    |tB=>exact⟨_,nM hs⟩
    |tS=>exact⟨_,nO hs⟩
    |tI=>obtain⟨q,hq⟩:=nN hs;exact⟨_,hq⟩
   obtain⟨d,hd⟩:=hd
   obtain⟨res,h1,h2⟩:=yn hs hd hr r.rows es.toList 0 fi (by simpa using eS) (fun j cs hj=>by
    obtain⟨e,kv,vv,q1,q2,_,q4,_⟩:=hM j cs hj
    exact⟨e,kv,by simpa using q1,by simpa[part]using q2,q4⟩) h
   exact⟨res,by simp[Instr.findKey,run_underlying hd,h1],h2⟩
  ·cases key<;>simp[AV.isAgg]at c1
   rename_i cs
   obtain⟨vs,rfl,hL⟩:=pK hr
   obtain⟨res,h1,h2⟩:=ym pr dQ uv hL r.rows es.toList 0 fi (by simpa using eS) (fun j cs hj=>by
    obtain⟨e,kv,vv,q1,q2,_,q4,_⟩:=hM j cs hj
    unfold part at q2
    simp only[if_true]at q2
    split at q2
    ·simp only[Option.some.injEq]at q2;subst q2
     exact⟨e,by simpa using q1,q4⟩
    ·cases q2) h
   exact⟨res,(run_findKey_eq w (by simp[pr]) _ _).trans h1,h2⟩
 ·cases h
section
variable {g:Rows} {hs:Nat} {env:Env} {a:Act} {o:Oper} {id:Id} {v:AV}
theorem wU {m:MK} {x:AV} {u:Value} {p:Id×Row} (S:fJ P hs D ι g w) (hr:cw P w D ι x u) (h:dX g m x=some p):∃B,u=.map (some B.b)/\g p.1=some p.2/\ι p.1=some B/\B.k=some (.map m)/\JC P w D ι B m p.2:=by
 unfold dX at h
 split at h
 ·rename_i i m'
  split at h
  ·rename_i hm
   subst hm
   simp only[Option.map_eq_some_iff]at h
   obtain⟨r,hg,rfl⟩:=h
   obtain⟨B,rfl,hB,hk⟩:=Ji hr
   obtain⟨B',dn,R,_⟩:=S.row i r hg
   rw[hB]at dn;injection dn with dn;subst dn
   exact⟨B,rfl,hg,hB,hk,(R.map _ hk).2⟩
  ·cases h
 ·cases h
theorem Mg {t:TypeId} {x k:Operand} {ok:Bool} {m:MK} {z:K} {x' k':O} {mr:Option Row} (S:fJ P hs D ι g w) (E:bu P w D ι env a) (ho:o.op=.lookup t x k ok) (hc:qh P t=some (m,z)) (hx:cO P x=some x') (hk:cO P k=some k')
  (hv:bB (.look m ok z) [cv env x',cv env k'] g id=some (v,mr)):mr=none/\mM P a o w D ι v:=by
 obtain⟨kt,e,i,zv,ht,hi,sZ,Pc,hK⟩:=pe hc
 simp only[bB,Option.bind_eq_some_iff,Option.map_eq_some_iff,Prod.mk.injEq]at hv
 obtain⟨p,hp,fi,JN,y,hy,rfl,rfl⟩:=hv
 obtain⟨B,hu,hg,hB,r6,es,clock,hb,eS,hlen,hM⟩:=wU S (cE E hx) hp
 obtain⟨Hy,res,hf,hF⟩:=sL (B:=B) hK (cE E hk) eS hM JN
 have key:∃val,(match res with|some (_,v)=>(v,true)|none=>(zv,false))=(val,fi.isSome)/\cw P w D ι y val:=by
  rcases hF with⟨rfl,rfl⟩|⟨j,en,rfl,he,rfl⟩
  ·simp only[ef,Option.some.injEq]at hy;subst hy
   refine⟨zv,rfl,?_⟩
   rw[wN Pc];exact tr z
  ·simp only[ef,Option.bind_eq_some_iff,Nat.zero_add]at hy
   obtain⟨cs,dh,hy⟩:=hy
   obtain⟨e',kv,vv,q1,_,q3,_,q5⟩:=hM _ cs dh
   rw[hy]at q3;injection q3 with q3;subst q3
   have:e'=en:=by
    have h1:es.toList[j]? =some e':=by simpa using q1
    rw[he]at h1;injection h1 with h1;exact h1.symm
   subst this
   exact⟨_,rfl,q5⟩
 obtain⟨val,oL,kV⟩:=key
 have dE:(getObj B.b).run P w=.ok (.map es clock) w:=MapKept.run_getObj_map hb
 have hz:(zeroValue e).run P w=.ok zv w:=by simp[zeroValue,typeInfo,hi,sZ]
 refine⟨rfl,if ok then .tuple #[val,.bool fi.isSome]else val,?_,?_⟩
 ·simp only[execOp,ho,hu,Instr.lookup,Sem.run_bind,run_underlying ht,Result.andThen_ok,dE,Sem.run_pure,Hy,hf]
  rcases hF with⟨rfl,rfl⟩|⟨j,en,rfl,he,rfl⟩
  ·simp only[Prod.mk.injEq]at oL
   simp[hz,oL.1]
  ·simp only[Prod.mk.injEq]at oL
   simp[oL.1]
 ·cases ok with
  |false=>exact kV
  |true=>
   refine .ib _ _ (fun j=>if j=0 then val else .bool fi.isSome) rfl (fun j hj=>?_) (fun j b hj=>?_)
   ·have:j=0∨j=1:=by simp at hj;omega
    rcases this with rfl|rfl<;>rfl
   ·match j,hj with
    |0,hj=>simp at hj;subst hj;exact kV
    |1,hj=>simp at hj;subst hj;exact .ev _ _ (.bool _)
    |j+2,hj=>simp at hj
theorem Mj {t:TypeId} {x:Operand} {m:MK} {z:K} {x':O} {mr:Option Row} (S:fJ P hs D ι g w) (E:bu P w D ι env a) (ho:o.op=.call {callee:=.builtin .len,args:= #[x],argTypes:= #[t]}) (hc:qh P t=some (m,z)) (hx:cO P x=some x')
  (hv:bB (.len m) [cv env x'] g id=some (v,mr)):mr=none/\mM P a o w D ι v:=by
 obtain⟨kt,e,i,zv,ht,hi,sZ,Pc,hK⟩:=pe hc
 simp only[bB,Option.map_eq_some_iff,Prod.mk.injEq]at hv
 obtain⟨p,hp,rfl,rfl⟩:=hv
 obtain⟨B,hu,hg,hB,r6,es,clock,hb,eS,hlen,hM⟩:=wU S (cE E hx) hp
 have dE:(getObj B.b).run P w=.ok (.map es clock) w:=MapKept.run_getObj_map hb
 refine⟨rfl,.int .i64 (es.size:Int),?_,by rw[eS];exact .ev _ _ (.int _ _)⟩
 simp only[execOp,ho,resolve,Sem.run_bind,Sem.run_pure,Result.andThen_ok,invoke,builtin,Array.map,hu]
 simp[Builtin.len_,run_underlying ht,goInt,hu,dE]
def MkM (P:Program) (a:Act) (o:Oper) (w:World) (id:Id) (v:AV) (r:Row):Prop:=
 ∃m,(execOp a.eval o).run P w=.ok (.value (.map (some w.heap.size))) (w.alloc (.map #[] 0))/\v=.map id m/\r=⟨true,m.Bp,[]⟩
theorem Ol {t:TypeId} {m:MK} (ho:o.op=.makeMap t none):MkM P a o w id (.map id m) ⟨true,m.Bp,[]⟩:=by
 refine⟨m,?_,rfl,rfl⟩
 simp[execOp,ho,Instr.makeMap,go_sem]
def MkC (P:Program) (a:Act) (o:Oper) (w:World) (id:Id) (v:AV) (r:Row):Prop:=
 ∃n,(execOp a.eval o).run P w=.ok (.value (.chan (some w.heap.size))) (w.alloc (.chan n #[] false 0 0 false))/\v=.qk id/\r=⟨true,ph+n,[]⟩
theorem LC {t e:TypeId} {x:Operand} {x':O} {dir:ChanDir} {i:TypeInfo} {n:Nat} (E:bu P w D ι env a) (ho:o.op=.makeChan t x) (ht:P.underlying t=some (.chan dir e)) (hi:P.info? e=some i) (hb:i.bytes<=32768) (hx:cO P x=some x') (hn:cW (cv env x')=some n):MkC P a o w id (.qk id) ⟨true,ph+n,[]⟩:=by
 refine⟨n,?_,rfl,rfl⟩
 have hr:=cE E hx
 unfold cW at hn
 split at hn
 ·rename_i k m hm
  rw[hm]at hr
  split at hn
  ·rename_i hc
   simp only[Option.some.injEq]at hn
   subst hn
   have JW:((m.toNat:Nat):Int)=m:=ab
   have dF:(i.bytes:Int)*(m.toNat:Nat)<=281474976710544:=by
    have h1:i.bytes*m.toNat<=32768*1048576:=Nat.mul_le_mul hb ab
    have h2:((i.bytes*m.toNat:Nat):Int)<=281474976710544:=ab
    rwa [Int.natCast_mul]at h2
   have h:=Conc.run_makeChan (P:=P) (w:=w) ht hi k m.toNat ab dF
   rw[JW]at h
   simp only[execOp,ho,db hr,Sem.run_bind,h,Result.andThen_ok,Sem.run_pure]
  ·cases hn
 ·cases hn
theorem wb {x:AV} {u:Value} {i:Id} {r:Row} (S:fJ P hs D ι g w) (hr:cw P w D ι x u) (hx:x=.qk i) (hg:g i=some r):∃B c,u=.chan (some B.b)/\ι i=some B/\B.k=some (.chan c)/\r.sz=ph+c/\E4 P w D ι B c r:=by
 subst hx
 obtain⟨B,c,rfl,hB,hk⟩:=Jg hr
 obtain⟨B',dn,R,_⟩:=S.row i r hg
 rw[hB]at dn;injection dn with dn;subst dn
 exact⟨B,c,rfl,hB,hk,R.chan c hk⟩
theorem Md {t e:TypeId} {dir:ChanDir} {x:Operand} {x':O} (S:fJ P hs D ι g w) (E:bu P w D ι env a) (ho:o.op=.call {callee:=.builtin .len,args:= #[x],argTypes:= #[t]}) (ht:P.underlying t=some (.chan dir e)) (hx:cO P x=some x') (hv:cU g (cv env x')=some v):mM P a o w D ι v:=by
 have hr:=cE E hx
 unfold cU at hv
 split at hv
 ·rename_i i he
  simp only[Option.map_eq_some_iff]at hv
  obtain⟨r,hg,rfl⟩:=hv
  obtain⟨B,c,hu,hB,hk,eS,buf,s,q,hb,Hx,_⟩:=wb S hr he hg
  have dE:(getObj B.b).run P w=.ok (.chan c buf false s q false) w:=by simp[getObj,Sem.run,hb]
  refine⟨.int .i64 (buf.size:Int),?_,by rw[Hx];exact .ev _ _ (.int _ _)⟩
  simp only[execOp,ho,resolve,Sem.run_bind,Sem.run_pure,Result.andThen_ok,invoke,builtin,Array.map,hu]
  simp[Builtin.len_,run_underlying ht,goInt,hu,dE]
 ·cases hv
end
end Go.Proofs.YtihgaadadaekmaaGreatDoor.V

namespace Go.Proofs.YtihgaadadaekmaaGreatDoor.V
open Go.RowKit
variable {P:Program} {w w':World} {D D':Nat->Prop} {ι ι':Names}
def HQ (P:Program) (a:Act) (o:Oper) (w:World) (D:Nat->Prop) (ι:Names) (id:Id) (v:AV):Option Row->Prop
 |none=>mM P a o w D ι v
 |some r=>Mk P a o w D ι id v r∨MkM P a o w id v r∨MkC P a o w id v r
section
variable {g:Rows} {hs:Nat} {env:Env} {a:Act} {o:Oper} {id:Id} {v:AV}
theorem kp {x:Option AV} {mr:Option Row} (h:x.map (·,(none:Option Row))=some (v,mr)) (H:x=some v->mM P a o w D ι v):HQ P a o w D ι id v mr:=by
 cases x with
 |none=>simp at h
 |some y=>simp at h;obtain⟨rfl,rfl⟩:=h;exact H rfl
theorem Ow {neg:Bool} {t yt:TypeId} {x y:Operand} {vo:fD} {mr:Option Row} (ho:o.op=.binOp (if neg then .neq else .eql) t x y yt) (hc:qg P neg t x y=some vo) (hq:eE vo (cv env) g id=some (v,mr)) (E:bu P w D ι env a):HQ P a o w D ι id v mr:=by
 unfold qg at hc
 split at hc
 ·split at hc
  ·rename_i e ht
   simp only[Option.map_eq_some_iff]at hc
   obtain⟨x',hx,rfl⟩:=hc
   simp only[eE,eo,Bool.false_eq_true,if_false,Option.map_eq_some_iff,Prod.mk.injEq]at hq
   obtain⟨b,hb,rfl,rfl⟩:=hq
   exact L9 E ho ht hx hb
  ·simp at hc
 ·split at hc
  ·rename_i ht
   simp only[Option.map_eq_some_iff]at hc
   obtain⟨x',hx,rfl⟩:=hc
   simp only[eE,eo,if_true,Option.map_eq_some_iff,Prod.mk.injEq]at hq
   obtain⟨b,hb,rfl,rfl⟩:=hq
   exact L8 E ho ht hx hb
  ·simp at hc
 ·split at hc
  ·rename_i ht
   simp only[Option.map_eq_some_iff]at hc
   obtain⟨x',hx,rfl⟩:=hc
   simp only[eE,Option.map_eq_some_iff,Prod.mk.injEq]at hq
   obtain⟨b,hb,rfl,rfl⟩:=hq
   exact OI E ho ht hx hb
  ·simp at hc
 ·split at hc
  ·rename_i s hs
   simp only[Option.bind_eq_bind,Option.bind_eq_some_iff,Option.pure_def,Option.some.injEq]at hc
   obtain⟨x',hx,y',hy,rfl⟩:=hc
   simp only[eE,Option.map_eq_some_iff,Prod.mk.injEq]at hq
   obtain⟨b,hb,rfl,rfl⟩:=hq
   have yL:eK P t=some s:=by
    unfold PI at hs
    split at hs
    ·rename_i s' h;simp at hs;subst hs;exact h
    ·split at hs
     ·split at hs
      ·simp at hs
      ·simp at hs
     ·simp at hs
   exact OJ E ho yL hx hy hb
  ·rename_i ts hs
   simp only[Option.bind_eq_bind,Option.bind_eq_some_iff,Option.pure_def,Option.some.injEq]at hc
   obtain⟨x',hx,y',hy,rfl⟩:=hc
   simp only[eE]at hq
   split at hq
   ·rename_i xs ys h1 h2
    simp only[Option.map_eq_some_iff,Prod.mk.injEq]at hq
    obtain⟨b,hb,rfl,rfl⟩:=hq
    unfold PI at hs
    split at hs
    ·simp at hs
    ·split at hs
     ·rename_i fs pr
      split at hs
      ·rename_i hg
       simp only[Option.map_eq_some_iff,Px.ag.injEq]at hs
       obtain⟨Kg,uv,rfl⟩:=hs
       simp only[Bool.and_eq_true,Bool.not_eq_true']at hg
       exact OH E ho pr hg.1 hg.2 uv hx hy h1 h2 hb
      ·simp at hs
     ·simp at hs
   ·simp at hq
  ·simp at hc
theorem LL {c:Call} {vo:fD} {mr:Option Row} (ho:o.op=.call c) (hc:l8 P c=some vo) (hq:eE vo (cv env) g id=some (v,mr)) (S:fJ P hs D ι g w) (E:bu P w D ι env a):HQ P a o w D ι id v mr:=by
 unfold l8 at hc
 split at hc
 ·rename_i jH
  split at hc
  ·rename_i x t h1 h2
   have hce:c={callee:=.builtin .len,args:= #[x],argTypes:= #[t]}:=by
    obtain⟨a,b,c⟩:=c
    simp only at h1 h2 jH
    subst jH
    congr
    ·exact Array.ext' h1
    ·exact Array.ext' h2
   rw[hce]at ho
   split at hc
   ·rename_i e ht
    simp only[Option.map_eq_some_iff]at hc
    obtain⟨x',hx,rfl⟩:=hc
    simp only[eE,Option.map_eq_some_iff,Prod.mk.injEq]at hq
    obtain⟨n,hn,rfl,rfl⟩:=hq
    exact OK E ho ht hx hn
   ·rename_i ht
    simp only[Option.map_eq_some_iff]at hc
    obtain⟨x',hx,rfl⟩:=hc
    exact kp hq fun h=>Me E ho ht hx h
   ·split at hc
    ·rename_i m z x' hm hx
     simp only[Option.some.injEq]at hc
     subst hc
     obtain⟨rfl,h⟩:=Mj (id:=id) S E ho hm hx hq
     exact h
    ·cases hc
   ·rename_i ht
    simp only[Option.map_eq_some_iff]at hc
    obtain⟨x',hx,rfl⟩:=hc
    exact kp hq fun h=>Md S E ho ht hx h
   ·simp at hc
  ·simp at hc
 ·split at hc
  ·split at hc
   ·split at hc
    ·split at hc
     ·simp only[Option.bind_eq_bind,Option.bind_eq_some_iff,Option.pure_def,Option.some.injEq]at hc
      obtain⟨x',hx,y',hy,rfl⟩:=hc
      simp[eE]at hq
     ·simp at hc
    ·simp at hc
   ·simp at hc
  ·simp at hc
 ·split at hc
  ·split at hc
   ·split at hc
    ·simp only[Option.map_eq_some_iff]at hc
     obtain⟨x',hx,rfl⟩:=hc
     simp[eE]at hq
    ·simp at hc
   ·simp at hc
  ·simp at hc
 ·split at hc
  ·simp only[Option.map_eq_some_iff]at hc
   obtain⟨x',hx,rfl⟩:=hc
   simp[eE]at hq
  ·simp at hc
 ·simp only[Option.map_eq_some_iff]at hc
  obtain⟨x',hx,rfl⟩:=hc
  simp[eE]at hq
 ·split at hc
  ·split at hc
   ·simp only[Option.some.injEq]at hc
    subst hc
    simp[eE]at hq
   ·cases hc
  ·cases hc
 ·split at hc
  ·split at hc
   ·split at hc
    ·simp only[Option.bind_eq_bind,Option.bind_eq_some_iff,Option.pure_def,Option.some.injEq]at hc
     obtain⟨x',hx,y',hy,rfl⟩:=hc
     simp[eE]at hq
    ·simp at hc
   ·simp at hc
  ·simp at hc
 ·simp at hc
theorem vI {vo:fD} {mr:Option Row} (hc:oW P o.op=some vo) (hq:eE vo (cv env) g id=some (v,mr)) (S:fJ P hs D ι g w) (E:bu P w D ι env a):HQ P a o w D ι id v mr:=by
 unfold oW at hc
 split at hc
 ·rename_i ho
  simp only[Option.map_eq_some_iff]at hc
  obtain⟨x',hx,rfl⟩:=hc
  simp[eE]at hq;obtain⟨rfl,rfl⟩:=hq
  exact Ki E (.inl ho) hx
 ·rename_i ho
  simp only[Option.map_eq_some_iff]at hc
  obtain⟨x',hx,rfl⟩:=hc
  simp[eE]at hq;obtain⟨rfl,rfl⟩:=hq
  exact Ki E (.inr ho) hx
 ·rename_i ho
  simp only[Option.bind_eq_bind,Option.bind_eq_some_iff,Option.pure_def,Option.some.injEq]at hc
  obtain⟨c',h1,x',h2,y',h3,rfl⟩:=hc
  exact kp hq fun h=>Ml E ho h1 h2 h3 h
 ·rename_i ho
  simp only[Option.map_eq_some_iff]at hc
  obtain⟨z,hz,rfl⟩:=hc
  simp only[eE,Option.some.injEq,Prod.mk.injEq]at hq
  obtain⟨rfl,rfl⟩:=hq
  exact .inl (Om ho hz)
 ·rename_i ho
  simp only[Option.map_eq_some_iff]at hc
  obtain⟨x',hx,rfl⟩:=hc
  simp only[eE,Option.map_eq_some_iff,Prod.mk.injEq]at hq
  obtain⟨cs,dh,rfl,rfl⟩:=hq
  exact .inl (Ok E ho hx dh)
 ·rename_i ho
  simp only[Option.bind_eq_bind,Option.bind_eq_some_iff,Option.pure_def,Option.some.injEq]at hc
  obtain⟨ag,h1,n,h2,x',h3,rfl⟩:=hc
  exact kp hq fun h=>Mf S E ho h1 h2 h3 h
 ·rename_i ho
  simp only[Option.bind_eq_bind,Option.bind_eq_some_iff,Option.pure_def,Option.some.injEq]at hc
  obtain⟨n,h2,x',h3,y',h4,rfl⟩:=hc
  simp[eE]at hq
 ·rename_i ho
  simp only[Option.map_eq_some_iff]at hc
  obtain⟨x',hx,rfl⟩:=hc
  exact kp hq fun h=>OG E ho hx h
 ·rename_i op t x y yt ho
  unfold sy at hc
  split at hc
  ·exact Ow (neg:=false) ho hc hq E
  ·exact Ow (neg:=true) ho hc hq E
  ·simp only[Option.bind_eq_bind,Option.bind_eq_some_iff,Option.pure_def,Option.some.injEq]at hc
   obtain⟨x',h3,y',h4,rfl⟩:=hc
   exact kp hq fun h=>ON (left:=true) E ho h3 h4 h
  ·simp only[Option.bind_eq_bind,Option.bind_eq_some_iff,Option.pure_def,Option.some.injEq]at hc
   obtain⟨x',h3,y',h4,rfl⟩:=hc
   exact kp hq fun h=>ON (left:=false) E ho h3 h4 h
  ·rename_i n1 n2 n3 n4
   split at hc
   ·simp only[Option.bind_eq_bind,Option.bind_eq_some_iff,Option.pure_def,Option.some.injEq]at hc
    obtain⟨x',h3,y',h4,rfl⟩:=hc
    exact kp hq fun h=>OF E ho n1 n2 h3 h4 h
   ·simp only[Option.bind_eq_bind,Option.bind_eq_some_iff,Option.pure_def,Option.some.injEq]at hc
    obtain⟨x',h3,y',h4,rfl⟩:=hc
    exact kp hq fun h=>L6 E ho n1 n2 h3 h4 h
   ·simp at hc
 ·rename_i ho
  simp only[Option.map_eq_some_iff]at hc
  obtain⟨x',hx,rfl⟩:=hc
  exact kp hq fun h=>OM E ho hx h
 ·rename_i ho
  simp only[Option.map_eq_some_iff]at hc
  obtain⟨x',hx,rfl⟩:=hc
  exact kp hq fun h=>OL E ho hx h
 ·rename_i ho
  split at hc
  ·rename_i q k h1 h2
   simp only[Option.map_eq_some_iff]at hc
   obtain⟨x',hx,rfl⟩:=hc
   exact kp hq fun h=>L7 E ho h1 h2 hx h
  ·rename_i h1 h2
   simp only[Option.map_eq_some_iff]at hc
   obtain⟨x',hx,rfl⟩:=hc
   exact kp hq fun h=>by
    have hr:=cE E hx
    unfold bU at h
    split at h
    ·rename_i s hb
     simp at h;subst h
     rw[hb]at hr
     exact⟨.string s,by simp only[execOp,ho,eT hr,convert,Sem.run_bind,run_underlying h1,run_underlying h2,Result.andThen_ok,Sem.run_pure],.ev _ _ (.str _)⟩
    ·simp at h
  ·simp at hc
 ·rename_i ho
  split at hc
  ·rename_i e ht
   simp only[Option.bind_eq_bind,Option.bind_eq_some_iff,Option.pure_def,Option.some.injEq]at hc
   obtain⟨n,h1,x',h2,lo,h3,hi,h4,rfl⟩:=hc
   exact kp hq fun h=>Jz S E ho ht h1 h2 h3 h4 h
  ·rename_i ht
   simp only[Option.bind_eq_bind,Option.bind_eq_some_iff,Option.pure_def,Option.some.injEq]at hc
   obtain⟨x',h2,lo,h3,hi,h4,rfl⟩:=hc
   exact kp hq fun h=>Hr E ho ht h2 h3 h4 h
  ·simp at hc
 ·rename_i ho
  split at hc
  ·rename_i fs pr
   split at hc
   ·rename_i f hf
    split at hc
    ·rename_i m hm
     simp only[Option.map_eq_some_iff]at hc
     obtain⟨x',hx,rfl⟩:=hc
     exact kp hq fun h=>Jv E ho pr hf hm hx h
    ·simp at hc
   ·simp at hc
  ·simp at hc
 ·rename_i ho
  split at hc
  ·rename_i fs pr
   split at hc
   ·rename_i f hf
    simp only[Option.bind_eq_bind,Option.bind_eq_some_iff,Option.pure_def,Option.some.injEq]at hc
    obtain⟨ag,h1,n,h2,x',h3,rfl⟩:=hc
    exact kp hq fun h=>Jw E ho pr hf h1 h2 h3 h
   ·simp at hc
  ·simp at hc
 ·rename_i ho
  split at hc
  ·rename_i e ht
   split at hc
   ·rename_i m hm
    simp only[Option.bind_eq_bind,Option.bind_eq_some_iff,Option.pure_def,Option.some.injEq]at hc
    obtain⟨x',h1,i',h2,rfl⟩:=hc
    exact kp hq fun h=>Jy S E ho ht hm h1 h2 h
   ·simp at hc
  ·rename_i len e ht
   split at hc
   ·rename_i m hm
    simp only[Option.bind_eq_bind,Option.bind_eq_some_iff,Option.pure_def,Option.some.injEq]at hc
    obtain⟨x',h1,i',h2,rfl⟩:=hc
    exact kp hq fun h=>Ma E ho ht hm h1 h2 h
   ·simp at hc
  ·simp at hc
 ·rename_i ho
  split at hc
  ·rename_i ht
   simp only[Option.bind_eq_bind,Option.bind_eq_some_iff,Option.pure_def,Option.some.injEq]at hc
   obtain⟨x',h1,i',h2,rfl⟩:=hc
   exact kp hq fun h=>Mc E ho ht h1 h2 h
  ·rename_i len e ht
   simp only[Option.bind_eq_bind,Option.bind_eq_some_iff,Option.pure_def,Option.some.injEq]at hc
   obtain⟨ag,h0,n,h1,x',h2,i',h3,rfl⟩:=hc
   exact kp hq fun h=>Mb E ho ht h0 h1 h2 h3 h
  ·simp at hc
 ·rename_i ho
  simp only[Option.map_eq_some_iff]at hc
  obtain⟨x',hx,rfl⟩:=hc
  exact kp hq fun h=>EF E ho hx h
 ·rename_i ho
  split at hc
  ·rename_i fs pr
   split at hc
   ·rename_i z l hz hl
    split at hc
    ·rename_i di
     simp only[Option.map_eq_some_iff]at hc
     obtain⟨q,IB,rfl⟩:=hc
     simp only[eE,Option.map_eq_some_iff,Prod.mk.injEq]at hq
     obtain⟨cs,dh,rfl,rfl⟩:=hq
     exact Ju E ho pr hz hl (fun f hf=>by
      rw[Array.all_eq_true_iff_forall_mem]at di
      exact di f (Array.mem_toList_iff.1 hf)) IB dh
    ·simp at hc
   ·simp at hc
  ·rename_i len e ht
   split at hc
   ·rename_i z l n hz hl hn
    simp only[Option.some.injEq]at hc
    subst hc
    simp only[eE,Option.map_eq_some_iff,Prod.mk.injEq]at hq
    obtain⟨cs,dh,rfl,rfl⟩:=hq
    exact Hq E ho ht hz hl hn dh
   ·simp at hc
  ·simp at hc
 ·rename_i ho
  split at hc
  ·rename_i e ht
   split at hc
   ·rename_i sz z l h1 h2 h3
    split at hc
    ·rename_i hh
     simp only[Option.some.injEq]at hc
     subst hc
     simp only[eE,Option.map_eq_some_iff,Prod.mk.injEq]at hq
     obtain⟨rs,u9,rfl,rfl⟩:=hq
     exact .inl (Gr E ho ht h1 h2 h3 hh.1 hh.2 (by rw[List.map_map]at u9;exact u9))
    ·simp at hc
   ·simp at hc
  ·simp at hc
 ·rename_i ho
  split at hc
  ·rename_i hh
   simp only[Option.map_eq_some_iff]at hc
   obtain⟨l,hl,rfl⟩:=hc
   simp[eE]at hq;obtain⟨rfl,rfl⟩:=hq
   exact Mh E ho hh.1 hh.2 hl
  ·split at hc
   ·rename_i hh
    simp only[Option.map_eq_some_iff]at hc
    obtain⟨l,hl,rfl⟩:=hc
    simp[eE]at hq;obtain⟨rfl,rfl⟩:=hq
    exact Mi E ho hh.1 hh.2 hl
   ·simp at hc
 ·rename_i ho
  split at hc
  ·rename_i e ht
   split at hc
   ·rename_i m z i h1 h2 h3
    split at hc
    ·rename_i hb
     simp only[Option.bind_eq_bind,Option.bind_eq_some_iff,Option.pure_def,Option.some.injEq]at hc
     obtain⟨l',h4,c',h5,rfl⟩:=hc
     simp only[eE,Option.map_eq_some_iff,Prod.mk.injEq]at hq
     obtain⟨⟨n,r⟩,hr,rfl,rfl⟩:=hq
     exact .inl (DT E ho ht h1 h2 h3 hb h4 h5 hr)
    ·simp at hc
   ·simp at hc
  ·simp at hc
 ·rename_i ho
  exact LL ho hc hq S E
 ·rename_i ho
  split at hc
  ·rename_i dir e ht
   split at hc
   ·rename_i i hi
    split at hc
    ·rename_i hb
     simp only[Option.map_eq_some_iff]at hc
     obtain⟨x',hx,rfl⟩:=hc
     simp only[eE,Option.map_eq_some_iff,Prod.mk.injEq]at hq
     obtain⟨n,hn,rfl,rfl⟩:=hq
     exact .inr (.inr (LC E ho ht hi hb hx hn))
    ·cases hc
   ·cases hc
  ·cases hc
 ·simp only[Option.bind_eq_bind,Option.bind_eq_some_iff,Option.pure_def,Option.some.injEq]at hc
  obtain⟨x',_,y',_,rfl⟩:=hc
  simp[eE]at hq
 ·split at hc
  ·split at hc
   ·simp only[Option.map_eq_some_iff]at hc
    obtain⟨x',_,rfl⟩:=hc
    simp[eE]at hq
   ·cases hc
  ·cases hc
 ·rename_i ho
  split at hc
  ·rename_i m z hm
   simp only[Option.some.injEq]at hc
   subst hc
   simp only[eE,List.map_nil,bB,Option.some.injEq,Prod.mk.injEq]at hq
   obtain⟨rfl,rfl⟩:=hq
   exact .inr (.inl (Ol ho))
  ·cases hc
 ·rename_i ho
  split at hc
  ·rename_i m z x' k' hm hx hk
   simp only[Option.some.injEq]at hc
   subst hc
   obtain⟨rfl,h⟩:=Mg (id:=id) S E ho hm hx hk hq
   exact h
  ·cases hc
 ·split at hc
  ·simp only[Option.some.injEq]at hc
   subst hc
   simp[eE]at hq
  ·cases hc
 ·split at hc
  ·simp only[Option.some.injEq]at hc
   subst hc
   simp[eE]at hq
  ·cases hc
 ·simp only[Option.some.injEq]at hc
  subst hc
  simp[eE]at hq
 ·simp only[Option.some.injEq]at hc
  subst hc
  simp[eE]at hq
 ·simp at hc
end
end Go.Proofs.YtihgaadadaekmaaGreatDoor.V

namespace Go.Proofs.YtihgaadadaekmaaGreatDoor.V
open Go.RowKit
variable {P:Program} {w w':World} {D D':Nat->Prop} {ι ι':Names}
def kf (ι:Names) (id:Id) (B:qN):Names:=fun i=>if i=id then some B else ι i
theorem dL (ι:Names) (id:Id) (B:qN):kf ι id B id=some B:=if_pos rfl
theorem fx {ι:Names} {id:Id} {B:qN} (h:ι id=none):∀i B',ι i=some B'->kf ι id B i=some B':=fun i B' hi=>by
 have:i≠id:=by rintro rfl;rw[h]at hi;cases hi
 rw[kf,if_neg this];exact hi
theorem fw {ι:Names} {id i:Id} {B:qN} (h:i≠id):kf ι id B i=ι i:=if_neg h
section
variable {g:Rows} {hs:Nat} {env:Env} {a:Act} {o:Oper} {id:Id} {v:AV}
theorem kz.frame {B:qN} {r:Row} (h:kz P w D ι B r) (hb:w'.heap[B.b]? =w.heap[B.b]?) (hr:∀a v,cw P w D ι a v->cw P w' D' ι' a v):kz P w' D' ι' B r:=
 ⟨h.sz,by obtain⟨c,T,h1,h2⟩:=h.CU;exact⟨c,T,hb.trans h1,h2⟩,h.fits,h.len,h.flat,fun i j cs a hi hj=>by
  obtain⟨v,h1,h2⟩:=h.at_ i j cs a hi hj
  exact⟨v,(World.cell?_of_block (a:=⟨B.b,i*r.sz+j,none⟩) hb).trans h1,hr _ _ h2⟩⟩
theorem gM.frame {B:qN} {r:Row} (h:gM P w D ι B r) (hb:w'.heap[B.b]? =w.heap[B.b]?) (hr:∀a v,cw P w D ι a v->cw P w' D' ι' a v):gM P w' D' ι' B r:=
 ⟨h.sz,h.flat,fun hk=>(h.row hk).frame hb hr,fun m hm=>by
  obtain⟨h1,es,c,h2,h3,h5,h4⟩:=h.map m hm
  refine⟨h1,es,c,hb.trans h2,h3,h5,fun i cs hi=>?_⟩
  obtain⟨e,kv,vv,q1,q2,q3,q4,q5⟩:=h4 i cs hi
  exact⟨e,kv,vv,q1,q2,q3,hr _ _ q4,hr _ _ q5⟩,fun c hc=>by
  obtain⟨h1,buf,s,q,h2,h3,h4⟩:=h.chan c hc
  refine⟨h1,buf,s,q,hb.trans h2,h3,fun i cs hi=>?_⟩
  obtain⟨a,u,q1,q2,q3⟩:=h4 i cs hi
  exact⟨a,u,q1,q2,hr _ _ q3⟩⟩
theorem fJ.kill (S:fJ P hs D ι g w) (i:Id):fJ P hs D ι (bY g i) w:=by
 refine⟨S.lo,S.dead,fun id r h=>?_,fun id jU r r' B B' h h' hw hB dn hb=>?_⟩
 ·unfold bY at h;split at h
  ·cases h
  ·exact S.row id r h
 ·unfold bY at h h'
  split at h
  ·cases h
  ·split at h'
   ·cases h'
   ·exact S.inj id jU r r' B B' h h' hw hB dn hb
theorem fJ.sub {g':Rows} (S:fJ P hs D ι g w) (h:∀id r,g' id=some r->g id=some r):fJ P hs D ι g' w:=
 ⟨S.lo,S.dead,fun id r hr=>S.row id r (h id r hr),fun id jU r r' B B' h1 h2=>S.inj id jU r r' B B' (h _ _ h1) (h _ _ h2)⟩
theorem xl {hid:List Nat} {n:Nat} {g:Rows}:∀id r,fV hid n g id=some r->g id=some r:=fun id r h=>by
 cases hid with
 |nil=>exact h
 |cons a l=>
  have e:fV (a::l) n g id=if (a::l).contains id.site=true/\id.bV=n then none else g id:=rfl
  rw[e]at h
  by_cases hc:(a::l).contains id.site=true/\id.bV=n
  ·rw[if_pos hc]at h;cases h
  ·rw[if_neg hc]at h;exact h
theorem fJ.stay (S:fJ P hs D ι g w) (hb:∀b,b<w.heap.size->w'.heap[b]? =w.heap[b]?) (hz:w.heap.size<=w'.heap.size) (hD:∀b,D b->D' b) (hD':∀b,D' b->b<w'.heap.size) (jS:∀b,D' b->D b∨w.heap.size<=b) (hι:∀id B,ι id=some B->ι' id=some B):fJ P hs D' ι' g w':=by
 have hr:∀a v,cw P w D ι a v->cw P w' D' ι' a v:=fun a v h=>h.frame (fun b hd=>hb b (S.dead b hd)) hD hι
 have lt:∀{id r B},g id=some r->ι id=some B->B.b<w.heap.size:=fun {id r B} h hB=>by
  obtain⟨B',dn,R,_⟩:=S.row id r h
  rw[hB]at dn;injection dn with dn;subst dn
  exact R.lt
 refine⟨Nat.le_trans S.lo hz,hD',fun id r h=>?_,fun id jU r r' B B' h h' hw hB dn he=>?_⟩
 ·obtain⟨B,hB,R,h1,h2⟩:=S.row id r h
  exact⟨B,hι _ _ hB,R.frame (hb _ (lt h hB)) hr,h1,fun hw hd=>by
   rcases jS _ hd with hd|hd
   ·exact h2 hw hd
   ·have:=lt h hB;omega⟩
 ·obtain⟨C,hC,_⟩:=S.row id r h
  obtain⟨C',Ar,_⟩:=S.row jU r' h'
  have e1:=hι _ _ hC
  have e2:=hι _ _ Ar
  rw[hB]at e1;injection e1 with e1;subst e1
  rw[dn]at e2;injection e2 with e2;subst e2
  exact S.inj id jU r r' _ _ h h' hw hC Ar he
theorem Step.stay (S:fJ P hs D ι g w) (hb:∀b,b<w.heap.size->w'.heap[b]? =w.heap[b]?) (hz:w.heap.size<=w'.heap.size) (e1:w'.os=w.os) (e2:w'.tape=w.tape) (e3:w'.output=w.output) (hD:∀b,D b->D' b) (jS:∀b,D' b->D b∨w.heap.size<=b) (hι:∀id B,ι id=some B->ι' id=some B):Step hs D ι w D' ι' w':=
 ⟨⟨e1,e2,e3,hz,fun k hk=>hb k (Nat.lt_of_lt_of_le hk S.lo)⟩,fun b hd=>hb b (S.dead b hd),hD,hι,fun b h=>(jS b h).imp_right (Nat.le_trans S.lo)⟩
theorem fJ.alloc (S:fJ P hs D ι g w) {cells:Array Value} {T:TypeId} {r:Row} (hh:w'.heap=w.heap.push (.cells cells T (0,0))) (hn:ι id=none) (hw:r.w=true) (h1:r.rows.length*r.sz<=cells.size) (h2:∀cs∈r.rows,cs.length=r.sz) (h3:∀cs∈r.rows,∀a∈cs,a.cell=true)
  (h4:∀i j cs a,r.rows[i]? =some cs->cs[j]? =some a->∃x,cells[i*r.sz+j]? =some x/\cw P w D ι a x):fJ P hs D (kf ι id ⟨w.heap.size,r.sz,cells.size,none⟩) (bK g id r) w':=by
 have hb:∀b,b<w.heap.size->w'.heap[b]? =w.heap[b]? :=fun b dF=>by rw[hh,Array.getElem?_push,if_neg ab]
 have hz:w.heap.size<=w'.heap.size:=by rw[hh];simp
 have S':=S.stay (D':=D) (ι':=kf ι id ⟨w.heap.size,r.sz,cells.size,none⟩) hb hz (fun _ h=>h) (fun b hd=>Nat.lt_of_lt_of_le (S.dead b hd) hz) (fun _ h=>.inl h) (fx hn)
 have hr:∀a v,cw P w D ι a v->cw P w' D (kf ι id ⟨w.heap.size,r.sz,cells.size,none⟩) a v:=fun a v h=>h.frame (fun b hd=>hb b (S.dead b hd)) (fun _ h=>h) (fx hn)
 have jS:w'.heap[w.heap.size]? =some (.cells cells T (0,0)):=by rw[hh];simp
 have gone:g id=none:=by
  cases hg:g id with
  |none=>rfl
  |some q=>
   obtain⟨B,hB,_⟩:=S.row id q hg
   rw[hn]at hB;cases hB
 have lt:∀{i q B},g i=some q->ι i=some B->B.b<w.heap.size:=fun {i q B} h hB=>by
  obtain⟨B',dn,R,_⟩:=S.row i q h
  rw[hB]at dn;injection dn with dn;subst dn
  exact R.lt
 refine⟨S'.lo,S'.dead,fun i q h=>?_,fun i i' q q' B B' h h' N3 hB dn he=>?_⟩
 ·unfold bK at h
  split at h
  ·rename_i e
   subst e
   injection h with h;subst h
   refine⟨_,dL _ _ _,kz.obj ⟨rfl,⟨cells,T,jS,rfl⟩,h1,h2,h3,fun k j cs a hk hj=>?_⟩ rfl,fun _=>S.lo,fun _ hd=>?_⟩
   ·obtain⟨x,hx,hrx⟩:=h4 k j cs a hk hj
    exact⟨x,by simp[World.cell?,jS,hx],hr _ _ hrx⟩
   ·have:=S.dead _ hd;simp at this
  ·exact S'.row i q h
 ·unfold bK at h h'
  split at h
  ·rename_i e
   split at h'
   ·rename_i e';exact e.trans e'.symm
   ·exfalso
    rename_i e'
    subst e
    rw[dL]at hB;injection hB with hB;subst hB
    rw[fw e']at dn
    have:=lt h' dn
    simp at he;omega
  ·rename_i e
   split at h'
   ·exfalso
    rename_i e'
    subst e'
    rw[dL]at dn;injection dn with dn;subst dn
    rw[fw e]at hB
    have:=lt h hB
    simp at he;omega
   ·exact S'.inj i i' q q' B B' h h' N3 hB dn he
theorem fJ.put (S:fJ P hs D ι g w) {r r':Row} {B:qN} {cur cur':Array Value} {T:TypeId} (hid:g id=some r) (hw:r.w=true) (hB:ι id=some B) (lI:w.heap[B.b]? =some (.cells cur T (0,0))) (eS:cur'.size=cur.size)
  (h0:r'.w=true) (h1:r'.sz=r.sz) (h2:r'.rows.length*r'.sz<=B.C) (h3:∀cs∈r'.rows,cs.length=r'.sz) (h4:∀cs∈r'.rows,∀a∈cs,a.cell=true)
  (h5:∀i j cs a,r'.rows[i]? =some cs->cs[j]? =some a->∃v,cur'[i*r.sz+j]? =some v/\cw P w D ι a v):fJ P hs D ι (bK g id r') (w.setRow B.b cur')/\Step hs D ι w D ι (w.setRow B.b cur'):=by
 obtain⟨B0,yE,RO,jz,km⟩:=S.row id r hid
 rw[hB]at yE;injection yE with yE;subst yE
 have tV:=RO.I4 lI
 have R:=RO.row tV
 have hd:∀b,D b->(w.setRow B.b cur').heap[b]? =w.heap[b]? :=fun b hb=>setRow_other w B.b b cur' (by rintro rfl;exact km hw hb)
 have hr:∀a v,cw P w D ι a v->cw P (w.setRow B.b cur') D ι a v:=fun a v h=>h.frame hd (fun _ h=>h) (fun _ _ h=>h)
 have hC:cur.size=B.C:=by
  obtain⟨c,T',h1,h2⟩:=R.CU
  rw[lI]at h1;injection h1 with h1;injection h1 with h1 Nq;subst h1;exact h2
 refine⟨⟨by simpa using S.lo,fun b hb=>by simpa using S.dead b hb,fun i q h=>?_,fun i i' q q' C C' h h' N3 hC Ar he=>?_⟩,⟨⟨by simp,by simp,by simp,by simp,fun k hk=>setRow_other w B.b k cur' (by have:=jz hw;omega)⟩,hd,fun _ h=>h,fun _ _ h=>h,fun _ h=>.inl h⟩⟩
 ·unfold bK at h
  split at h
  ·rename_i e
   subst e
   injection h with h;subst h
   refine⟨B,hB,kz.obj ⟨by rw[h1];exact R.sz,⟨cur',T,setRow_heap w B.b cur cur' T _ lI,by rw[eS];exact hC⟩,h2,h3,h4,fun k j cs a hk hj=>?_⟩ tV,fun _=>jz hw,fun _=>km hw⟩
   obtain⟨v,hv,kV⟩:=h5 k j cs a hk hj
   exact⟨v,by rw[cell_setRow_same w B.b _ cur cur' T _ lI,h1];exact hv,hr _ _ kV⟩
  ·rename_i e
   obtain⟨C,hC,RC,k1,k2⟩:=S.row i q h
   refine⟨C,hC,RC.frame (setRow_other w B.b C.b cur' (fun JK=>e ?_)) hr,k1,k2⟩
   exact(S.inj id i r q B C hid h hw hB hC JK.symm).symm
 ·unfold bK at h h'
  have get:∀j p,(if j=id then some r' else g j)=some p->∃p0,g j=some p0/\(p.w=true->p0.w=true):=fun j p hp=>by
   split at hp
   ·rename_i e;subst e;injection hp with hp;subst hp;exact⟨r,hid,fun _=>hw⟩
   ·exact⟨p,hp,fun h=>h⟩
  obtain⟨p,hp,MF⟩:=get _ _ h
  obtain⟨p',Lg,_⟩:=get _ _ h'
  exact S.inj i i' p p' C C' hp Lg (MF N3) hC Ar he
theorem fJ.rename (S:fJ P hs D ι g w) {i:Id} {r:Row} {B:qN} (hi:g i=some r) (hw:r.w=true) (hB:ι i=some B) (hn:ι id=none):fJ P hs D (kf ι id B) (bK (bY g i) id r) w:=by
 have S':=S.stay (w':=w) (D':=D) (ι':=kf ι id B) (fun _ _=>rfl) (Nat.le_refl _) (fun _ h=>h) S.dead (fun _ h=>.inl h) (fx hn)
 have gF:i≠id:=by rintro rfl;rw[hn]at hB;cases hB
 obtain⟨B1,xz,R,k1,k2⟩:=S'.row i r hi
 rw[fw gF,hB]at xz;injection xz with xz;subst xz
 have get:∀j p,bK (bY g i) id r j=some p->(j=id/\p=r)∨(j≠id/\j≠i/\g j=some p):=fun j p hp=>by
  unfold bK bY at hp
  split at hp
  ·rename_i e;injection hp with hp;exact .inl ⟨e,hp.symm⟩
  ·rename_i e
   split at hp
   ·cases hp
   ·rename_i e';exact .inr ⟨e,e',hp⟩
 refine⟨S.lo,S.dead,fun j p h=>?_,fun j j' p p' C C' h h' MF hC Ar he=>?_⟩
 ·rcases get j p h with⟨rfl,rfl⟩|⟨_,_,hp⟩
  ·exact⟨B,dL _ _ _,R,k1,k2⟩
  ·exact S'.row j p hp
 ·rcases get j p h with⟨rfl,rfl⟩|⟨q1,q2,hp⟩
  ·rcases get j' p' h' with⟨rfl,rfl⟩|⟨q1',q2',Lg⟩
   ·rfl
   ·exfalso
    rw[dL]at hC;injection hC with hC;subst hC
    rw[fw q1']at Ar
    exact q2' (S.inj i j' p p' B C' hi Lg hw hB Ar he).symm
  ·rcases get j' p' h' with⟨rfl,rfl⟩|⟨q1',q2',Lg⟩
   ·exfalso
    rw[dL]at Ar;injection Ar with Ar;subst Ar
    rw[fw q1]at hC
    exact q2 (S.inj j i p p' C B hp hi MF hC hB he)
   ·rw[fw q1]at hC
    rw[fw q1']at Ar
    exact S.inj j j' p p' C C' hp Lg MF hC Ar he
def zK (P:Program) (hs:Nat) (a:Act) (o:Oper) (w:World) (D:Nat->Prop) (ι:Names) (id:Id) (v:AV) (g':Rows):Prop:=
 ∃u w' ι',((execOp a.eval o).run P w=.ok (.value u) w'∨(execOp a.eval o).run P w=.ok .skip w'/\u=undef)/\Step hs D ι w D ι' w'/\fJ P hs D ι' g' w'/\cw P w' D ι' v u/\∀i,i≠id->ι' i=ι i
theorem zh {xs:List AV} {vs:Array Value} (h:eM P w D ι xs vs) (hf:∀a∈xs,a.cell=true):∀v∈vs.toList,v.oneCell'=true:=by
 intro v hv
 obtain⟨j,hj,rfl⟩:=List.getElem_of_mem hv
 have JT:j<xs.length:=by rw[<-h.1];simpa using hj
 obtain⟨u,hu,hr⟩:=h.2 j _ (List.getElem?_eq_getElem JT)
 have hc:=hr.x8 (hf _ (List.getElem_mem JT))
 have:vs.toList[j]=u:=by
  have:vs.toList[j]? =some u:=by simpa using hu
  rw[List.getElem?_eq_getElem hj]at this;injection this
 rw[this]
 cases u<;>simp_all [Value.oneCell']
theorem iY {i j n m:Nat} (h:i<n) (hj:j<m):i*m+j<n*m:=by
 have:(i+1)*m<=n*m:=Nat.mul_le_mul_right _ h
 rw[Nat.add_mul,Nat.one_mul]at this;omega
theorem kz.cur {B:qN} {r:Row} (R:kz P w D ι B r):∃cur T,w.heap[B.b]? =some (.cells cur T (0,0))/\cur.size=B.C/\∀i j cs a,r.rows[i]? =some cs->cs[j]? =some a->∃v,cur[i*r.sz+j]? =some v/\cw P w D ι a v:=by
 obtain⟨cur,T,h1,h2⟩:=R.CU
 refine⟨cur,T,h1,h2,fun i j cs a hi hj=>?_⟩
 obtain⟨v,hv,hr⟩:=R.at_ i j cs a hi hj
 exact⟨v,by simpa[World.cell?,h1]using hv,hr⟩
theorem H8 {t:TypeId} {n:Nat} {x y:Operand} {x' y':O} {g':Rows} (S:fJ P hs D ι g w) (E:bu P w D ι env a) (ho:o.op=.store t x y) (hn:dx P t=some n) (hx:cO P x=some x') (hy:cO P y=some y')
  (hv:bS g n (cv env y') (cv env x')=some g'):zK P hs a o w D ι id .undef g':=by
 have rx:=cE E hx
 have ry:=cE E hy
 unfold bS at hv
 split at hv
 ·rename_i i k off hp
  rw[hp]at rx
  simp only[Option.bind_eq_some_iff]at hv
  obtain⟨r,hg,cs,dh,hv⟩:=hv
  split at hv
  ·rename_i hc
   obtain⟨c1,c2,c3,c4⟩:=hc
   simp at hv;subst hv
   obtain⟨B,he,hB,hk⟩:=iI rx
   obtain⟨B',dn,R,jz,km⟩:=S.row i r hg
   rw[hB]at dn;injection dn with dn;subst dn
   replace R:=R.row hk
   obtain⟨cur,T,lI,hC,sQ⟩:=R.cur
   have hL:=oQ ry c3
   have h1:=zh hL (List.all_eq_true.1 c3)
   have N9:(a.eval y).cells.size=n:=by rw[hL.1,c2]
   have ki:=(List.getElem?_eq_some_iff.1 dh).1
   have hlen:=R.len cs (List.mem_of_getElem? dh)
   have hbound:k*r.sz+r.sz<=r.rows.length*r.sz:=by
    have:(k+1)*r.sz<=r.rows.length*r.sz:=Nat.mul_le_mul_right _ ki
    rwa [Nat.add_mul,Nat.one_mul]at this
   have hf:=R.fits
   have dQ:=run_storeCells_at P B.b (k*B.sz+off) T (a.eval y).cells.toList 0 cur w lI (by rw[R.sz];simp only[Array.length_toList];omega) h1
   simp only[Nat.add_zero,Array.length_toList]at dQ
   have sW:=S.put (r':={r with rows:=r.rows.set k (cI cs off (cv env y').cells)}) hg c1 hB lI (cur':=(cur.toList.take (k*B.sz+off)++(a.eval y).cells.toList++cur.toList.drop (k*B.sz+off+(a.eval y).cells.size)).toArray)
    (by rw[R.sz];simp;omega) c1 rfl (by simpa using R.fits) (fun c Qh=>by
     rcases List.mem_or_eq_of_mem_set Qh with h|rfl
     ·exact R.len c h
     ·simp[cI];omega) (fun c Qh b hb=>by
     rcases List.mem_or_eq_of_mem_set Qh with h|rfl
     ·exact R.flat c h b hb
     ·unfold cI at hb
      rcases List.mem_append.1 hb with hb|hb
      ·rcases List.mem_append.1 hb with hb|hb
       ·exact R.flat cs (List.mem_of_getElem? dh) b (List.mem_of_mem_take hb)
       ·exact List.all_eq_true.1 c3 b hb
      ·exact R.flat cs (List.mem_of_getElem? dh) b (List.mem_of_mem_drop hb)) (fun i2 j c b u4 hj=>by
     rw[R.sz]
     simp only[List.getElem?_toArray]
     by_cases u5:i2=k
     ·subst u5
      rw[List.getElem?_set_self ki]at u4
      injection u4 with u4;subst u4
      unfold cI at hj
      by_cases hjo:j<off
      ·rw[List.append_assoc,List.getElem?_append_left (by simp;omega),List.getElem?_take,if_pos hjo]at hj
       rw[List.append_assoc,List.getElem?_append_left (by simp;omega),List.getElem?_take,if_pos ab]
       simpa using sQ _ _ _ _ dh hj
      ·by_cases gh:j<off+n
       ·rw[List.append_assoc,List.getElem?_append_right (by simp;omega),List.getElem?_append_left (by simp;omega)]at hj
        rw[List.append_assoc,List.getElem?_append_right (by simp;omega),List.getElem?_append_left (by simp;omega)]
        simp only[List.length_take]at hj ⊢
        rw[show j-min off cs.length=j-off by omega]at hj
        rw[show i2*r.sz+j-min (i2*r.sz+off) cur.toList.length=j-off by simp;omega]
        simpa using hL.2 _ _ hj
       ·rw[List.getElem?_append_right (by simp;omega)]at hj
        rw[List.getElem?_append_right (by simp;omega)]
        simp only[List.length_append,List.length_take,List.getElem?_drop,Array.length_toList]at hj ⊢
        rw[show off+(cv env y').cells.length+(j-(min off cs.length+(cv env y').cells.length))=j by omega]at hj
        rw[show i2*r.sz+off+(a.eval y).cells.size+(i2*r.sz+j-(min (i2*r.sz+off) cur.size+(a.eval y).cells.size))=i2*r.sz+j by omega]
        simpa using sQ _ _ _ _ dh hj
     ·rw[List.getElem?_set_ne (fun e=>u5 e.symm)]at u4
      have hi2l:=(List.getElem?_eq_some_iff.1 u4).1
      have gq:j<r.sz:=by rw[<-R.len c (List.mem_of_getElem? u4)];exact(List.getElem?_eq_some_iff.1 hj).1
      have:=sQ _ _ _ _ u4 hj
      rcases Nat.lt_or_gt_of_ne u5 with dF|Ip
      ·have h2:i2*r.sz+j<k*r.sz:=iY dF gq
       rw[List.append_assoc,List.getElem?_append_left (by simp;omega),List.getElem?_take,if_pos ab]
       simpa using this
      ·have h2:k*r.sz+r.sz<=i2*r.sz:=by
        have:(k+1)*r.sz<=i2*r.sz:=Nat.mul_le_mul_right _ Ip
        rwa [Nat.add_mul,Nat.one_mul]at this
       rw[List.getElem?_append_right (by simp;omega)]
       simp only[List.length_append,List.length_take,List.getElem?_drop,Array.length_toList]
       rw[show k*r.sz+off+(a.eval y).cells.size+(i2*r.sz+j-(min (k*r.sz+off) cur.size+(a.eval y).cells.size))=i2*r.sz+j by omega]
       simpa using this)
   refine⟨undef,_,ι,.inr ⟨?_,rfl⟩,sW.2,sW.1,cw.undef,fun _ _=>rfl⟩
   simp only[execOp,ho,he,Instr.storeAt,Instr.sureAddr,storeVar,Sem.run_bind,Sem.run_pure,Result.andThen_ok,run_sizeOf hn,N9,ne_eq,not_true_eq_false,if_false,dQ]
  ·simp at hv
 ·simp at hv
end
end Go.Proofs.YtihgaadadaekmaaGreatDoor.V

namespace Go.Proofs.YtihgaadadaekmaaGreatDoor.V
open Go.RowKit
variable {P:Program} {w w':World} {D D':Nat->Prop} {ι ι':Names}
section
variable {g:Rows} {hs:Nat} {env:Env} {a:Act} {o:Oper} {id:Id} {v:AV}
theorem pM (S:fJ P hs D ι g w) {y:AV} {u:Value} {ys:List (List AV)} {sz:Nat} (hr:cw P w D ι y u) (hy:br g y=some ys) (hl:∀c∈ys,c.length=sz) (hf:∀c∈ys,∀b∈c,b.cell=true):
  ∃A c,u=.slice A ys.length c/\(ys=[]∨∃b o,∃news:List Value,A=some ⟨b,o,none⟩/\news.length=ys.length*sz/\(∀j v,news[j]? =some v->w.cell? ⟨b,o+j,none⟩=some v)/\eM P w D ι ys.flatten news.toArray/\∀v∈news,v.oneCell'=true):=by
 have fin:∀b o,ys≠[]->(∀i j cs x,ys[i]? =some cs->cs[j]? =some x->∃v,w.cell? ⟨b,o+(i*sz+j),none⟩=some v/\cw P w D ι x v)->
   ∃news:List Value,news.length=ys.length*sz/\(∀j v,news[j]? =some v->w.cell? ⟨b,o+j,none⟩=some v)/\eM P w D ι ys.flatten news.toArray/\∀v∈news,v.oneCell'=true:=by
  intro b o _ h
  have hlen:=FE hl
  have at_:∀k,k<ys.length*sz->∃x,ys.flatten[k]? =some x/\∃v,w.cell? ⟨b,o+k,none⟩=some v/\cw P w D ι x v:=by
   intro k hk
   have kM:0<sz:=by
    rcases Nat.eq_zero_or_pos sz with h0|h0
    ·subst h0;simp at hk
    ·exact h0
   have hi:k / sz<ys.length:=Nat.div_lt_of_lt_mul (by rw[Nat.mul_comm];exact hk)
   have hj:k % sz<sz:=Nat.mod_lt _ kM
   have dh:=List.getElem?_eq_getElem hi
   have gq:k % sz<ys[k / sz].length:=by rw[hl _ (List.getElem_mem hi)];exact hj
   have hx:=List.getElem?_eq_getElem gq
   have e:k / sz*sz+k % sz=k:=by rw[Nat.mul_comm];exact Nat.div_add_mod _ _
   refine⟨_,by rw[<-flat_get hl dh hx,e],?_⟩
   obtain⟨v,hv,kV⟩:=h _ _ _ _ dh hx
   rw[e]at hv
   exact⟨v,hv,kV⟩
  let news:=(List.range (ys.length*sz)).map fun k=>(w.cell? ⟨b,o+k,none⟩).getD undef
  have hn:∀k,k<ys.length*sz->∀v,w.cell? ⟨b,o+k,none⟩=some v->news[k]? =some v:=fun k hk v hv=>by
   simp only[news,List.getElem?_map,List.getElem?_range hk,Option.map_some,hv,Option.getD_some]
  have hR:eM P w D ι ys.flatten news.toArray:=⟨by simp[news,hlen],fun j x hx=>by
   have gq:=(List.getElem?_eq_some_iff.1 hx).1
   rw[hlen]at gq
   obtain⟨x',oM,v,hv,kV⟩:=at_ j gq
   rw[hx]at oM;injection oM with oM;subst oM
   exact⟨v,by simpa using hn j gq v hv,kV⟩⟩
  refine⟨news,by simp[news],fun j v hj=>?_,hR,?_⟩
  ·have gq:j<ys.length*sz:=by have:=(List.getElem?_eq_some_iff.1 hj).1;simpa[news]using this
   obtain⟨x,_,v',mA,_⟩:=at_ j gq
   rw[hn j gq v' mA]at hj
   injection hj with hj
   rw[<-hj];exact mA
  ·have:=zh hR (fun x hx=>by
    obtain⟨c,hc,QX⟩:=List.mem_flatten.1 hx
    exact hf c hc x QX)
   simpa using this
 unfold br at hy
 split at hy
 ·simp at hy;subst hy
  exact⟨none,0,ju hr,.inl rfl⟩
 ·rename_i rows
  simp at hy;subst hy
  obtain⟨A,c,he,_,_,h3⟩:=tu hr
  refine⟨A,c,he,?_⟩
  rcases h3 with h3|⟨b,oo,sz',vs,rfl,hD,HF,_,hc,hi⟩
  ·exact .inl h3
  ·by_cases h0:rows=[]
   ·exact .inl h0
   ·have yL:sz'=sz:=by
     cases rows with
     |nil=>exact(h0 rfl).elim
     |cons c r=>rw[<-HF c (by simp),hl c (by simp)]
    subst yL
    obtain⟨news,q1,q2,q3,q4⟩:=fin b oo h0 (fun i j cs x dh hx=>⟨_,hc i j (List.getElem?_eq_some_iff.1 dh).1 (by rw[<-HF cs (List.mem_of_getElem? dh)];exact(List.getElem?_eq_some_iff.1 hx).1),.ev _ _ (hi i j cs x dh hx)⟩)
    exact .inr ⟨b,oo,news,rfl,q1,q2,q3,q4⟩
 ·rename_i i off len
  simp only[Option.bind_eq_some_iff]at hy
  obtain⟨r,hg,hy⟩:=hy
  split at hy
  ·rename_i hle
   simp at hy;subst hy
   obtain⟨oo,cap,B,he,hB,h1,h2,h3,h4,hk⟩:=iH hr
   obtain⟨B',dn,R,_,_⟩:=S.row i r hg
   rw[hB]at dn;injection dn with dn;subst dn
   replace R:=R.row hk
   have hlen:((r.rows.drop off).take len).length=len:=by simp;omega
   refine⟨some ⟨B.b,oo,none⟩,cap,by rw[hlen];exact he,?_⟩
   by_cases h0:(r.rows.drop off).take len=[]
   ·exact .inl h0
   ·have yL:r.sz=sz:=by
     cases hq:(r.rows.drop off).take len with
     |nil=>exact(h0 hq).elim
     |cons c q=>
      have hm:c∈(r.rows.drop off).take len:=by rw[hq];simp
      rw[<-hl c hm,R.len c (List.mem_of_mem_drop (List.mem_of_mem_take hm))]
    have hlp:0<len:=by rw[<-hlen];exact List.length_pos_iff.2 h0
    have xx:oo=off*B.sz:=by rcases h2 with h2|h2<;>omega
    obtain⟨news,q1,q2,q3,q4⟩:=fin B.b oo h0 (fun i2 j cs x dh hx=>by
     rw[List.getElem?_take]at dh
     split at dh
     ·rw[List.getElem?_drop]at dh
      obtain⟨v,hv,kV⟩:=R.at_ _ _ _ _ dh hx
      refine⟨v,?_,kV⟩
      rw[xx,R.sz,<-yL]
      rw[Nat.add_mul]at hv
      rw[<-Nat.add_assoc]
      exact hv
     ·simp at dh)
    exact .inr ⟨B.b,oo,news,rfl,q1,q2,q3,q4⟩
  ·simp at hy
 ·simp at hy
theorem nw {t ty e:TypeId} {i:TypeInfo} (ht:P.underlying t=some (.slice e)) (hi:P.info? e=some i) (A:Option Addr) (n c:Nat) (hn:n<=c) (B:Option Addr) (d:Nat):
  (Builtin.append_ #[t,t] ty #[.slice A n c,.slice B 0 d]).run P w=.ok (.slice A n c) w:=by
 have hf:(Builtin.firstCells i.size 0 (.slice B 0 d)).run P w=.ok #[] w:=by
  cases B<;>simp[Builtin.firstCells,loadCells,loadCellsFrom]
 cases A with
 |none=>simp[Builtin.append_,run_underlying ht,sizeOf,typeInfo,hi,Builtin.lenOf,hn,hf]
 |some A=>simp[Builtin.append_,run_underlying ht,sizeOf,typeInfo,hi,Builtin.lenOf,hn,hf,storeCells]
theorem uB {t ty e T:TypeId} {i:TypeInfo} (ht:P.underlying t=some (.slice e)) (hi:P.info? e=some i) (b pP Bt:Nat) (cur:Array Value) (hg:w.heap[b]? =some (.cells cur T (0,0)))
  (x:Addr) (m c:Nat) (news:List Value) (hl:news.length=m*i.size) (NY:∀j u,news[j]? =some u->w.cell? (x.add j)=some u) (h1:∀u∈news,u.oneCell'=true)
  (fb:pP+m<=Bt) (Az:pP*i.size+news.length<=cur.size):
  (Builtin.append_ #[t,t] ty #[.slice (some ⟨b,0,none⟩) pP Bt,.slice (some x) m c]).run P w=
   .ok (.slice (some ⟨b,0,none⟩) (pP+m) Bt) (w.setRow b (cur.toList.take (pP*i.size)++news++cur.toList.drop (pP*i.size+news.length)).toArray):=by
 have hf:=run_firstCells_some (P:=P) w i.size m x m c news hl NY
 have dQ:=run_storeCells_at P b (pP*i.size) T news 0 cur w hg (by simpa using Az) h1
 simp only[Nat.add_zero]at dQ
 simp[Builtin.append_,run_underlying ht,sizeOf,typeInfo,hi,Builtin.lenOf,fb,hf,jw,dQ]
theorem yD (w:World) (D6 zf:Nat) (e:TypeId) (h:D6<=dJ):D6<=grownCap w D6 zf e/\grownCap w D6 zf e<=maxLen:=by
 unfold dJ at h
 simp only[grownCap,Question.cut,maxLen]
 have:=Nat.mod_lt (w.tape w.drawn (.appendCap D6 zf e)) (show 0<2 ^ 63-D6 by omega)
 omega
theorem fe {x y:Operand} {t:TypeId} {u:Value} (ho:o.op=.call {callee:=.builtin .append,args:= #[x,y],argTypes:= #[t,t]}) (h:(Builtin.append_ #[t,t] o.type #[a.eval x,a.eval y]).run P w=.ok u w'):(execOp a.eval o).run P w=.ok (.value u) w':=by
 simp only[execOp,ho,resolve,Sem.run_bind,Sem.run_pure,Result.andThen_ok,invoke,builtin]
 simp only[List.map_toArray,List.map_cons,List.map_nil]
 rw[h];rfl
theorem zo {T:TypeId} (S:fJ P hs D ι g w) (cells:Array Value) (hn:ι id=none) (B:qN):Step hs D ι w D (kf ι id B) (w.drew.alloc (.cells cells T)):=
 Step.stay S (fun k hk=>by show(w.heap.push _)[k]? = _;rw[Array.getElem?_push,if_neg ab]) (by show _<=(w.heap.push _).size;simp) rfl rfl rfl (fun _ h=>h) (fun _ h=>.inl h) (fx hn)
theorem Fw {x y:Operand} {x' y':O} {t e:TypeId} {m:Nat} {z:List K} {i:TypeInfo} {ys:List (List AV)} {g':Rows} (S:fJ P hs D ι g w) (E:bu P w D ι env a) (hn:ι id=none) (ho:o.op=.call {callee:=.builtin .append,args:= #[x,y],argTypes:= #[t,t]})
  (ht:P.underlying t=some (.slice e)) (eS:dx P e=some (m+1)) (hz:iR P e=some z) (hi:P.info? e=some i) (hby:i.bytes<=32768) (hx:cO P x=some x') (hy:cO P y=some y') (Cl:br g (cv env y')=some ys)
  (hv:aZ g id (m+1) (cv env x') ys=some (v,g')):zK P hs a o w D ι id v g':=by
 have rx:=cE E hx
 have ry:=cE E hy
 obtain⟨it,zv,o3,sZ,MO,hm,Cm⟩:=je hz
 rw[hi]at o3;injection o3 with o3;subst o3
 have iO:i.size=m+1:=by simpa[dx,hi]using eS
 have fits:∀n,n<=dJ->n*i.bytes<=140737488355328:=fun n h=>by
  unfold dJ at h
  have:=Nat.mul_le_mul h hby
  omega
 have e63:∀n,n<=dJ->(n:Int)<=9223372036854775807:=fun n h=>by unfold dJ at h;omega
 have same:∀(w1:World) (cells:Array Value),w1=w.drew.alloc (.cells cells e)->w1.heap=w.heap.push (.cells cells e (0,0)):=fun w1 cells h=>by subst h;rfl
 have M4:∀l:List (List AV),(l.all fun c=>c.length==m+1&&c.all AV.cell)=true->(∀c∈l,c.length=m+1)/\∀c∈l,∀b∈c,b.cell=true:=fun l h=>by
  rw[List.all_eq_true]at h
  refine⟨fun c hc=>?_,fun c hc b hb=>?_⟩
  ·have:=h c hc;simp at this;exact this.1
  ·have:=h c hc;simp at this;exact this.2 b hb
 unfold aZ at hv
 split at hv
 ·rename_i hb
  rw[hb]at rx
  have ex:=ju rx
  split at hv
  ·simp at hv
   obtain⟨rfl,rfl⟩:=hv
   obtain⟨A,c,ey,_⟩:=pM (sz:=m+1) S ry Cl (fun c h=>by cases h) (fun c h=>by cases h)
   refine⟨_,w,ι,.inl (fe ho (by rw[ex,ey];exact nw ht hi none 0 0 (Nat.le_refl _) A c)),Step.refl _ _ _ _,S,.ev _ _ .bC,fun _ _=>rfl⟩
  ·rename_i y0 yr
   split at hv
   ·rename_i hc
    simp only[Option.some.injEq,Prod.mk.injEq]at hv
    obtain⟨rfl,rfl⟩:=hv
    obtain⟨hl,hf⟩:=M4 _ hc.2
    obtain⟨A,c,ey,h2⟩:=pM (sz:=m+1) S ry Cl hl hf
    rcases h2 with h2|⟨b,oo,news,rfl,q1,q2,q3,q4⟩
    ·cases h2
    have gC:=run_append_nil (P:=P) w t o.type e i zv ht hi sZ ⟨b,oo,none⟩ (y0::yr).length c news (by rw[iO];exact q1) (fun j v hj=>by rw[jw];exact q2 j v hj) (by simp) (e63 _ hc.1) (by have:=fits _ hc.1;omega)
    obtain⟨g1,g2⟩:=yD w (y0::yr).length 0 e hc.1
    have dh:(news.toArray++Builtin.zeroCells zv.cells (grownCap w (y0::yr).length 0 e-(y0::yr).length)).size=grownCap w (y0::yr).length 0 e*(m+1):=by
     rw[Array.size_append,size_zeroCells,MO,iO]
     simp only[List.size_toArray,q1]
     rw[<-Nat.add_mul];congr 1;omega
    have S1:=S.alloc (w':=w.drew.alloc (.cells (news.toArray++Builtin.zeroCells zv.cells (grownCap w (y0::yr).length 0 e-(y0::yr).length)) e)) (r:=⟨true,m+1,y0::yr⟩) rfl hn rfl (by rw[dh];exact Nat.mul_le_mul_right _ g1) hl hf
     (fun k j cs b2 hk hj=>by
      obtain⟨u,hu,uu⟩:=q3.2 _ _ (flat_get hl hk hj)
      refine⟨u,?_,uu⟩
      have dF:=(Array.getElem?_eq_some_iff.1 hu).1
      dsimp only
      rw[Array.getElem?_append_left dF];exact hu)
    have dQ:=zo (T:=e) S (news.toArray++Builtin.zeroCells zv.cells (grownCap w (y0::yr).length 0 e-(y0::yr).length)) hn ⟨w.heap.size,m+1,(news.toArray++Builtin.zeroCells zv.cells (grownCap w (y0::yr).length 0 e-(y0::yr).length)).size,none⟩
    refine⟨_,_,_,.inl (fe ho (by rw[ex,ey];exact gC)),dQ,S1,?_,fun _ h=>fw h⟩
    refine .own _ _ _ _ _ _ (dL _ _ _) rfl g1 (.inr (by simp)) ?_ g2
    dsimp only;rw[dh];simp
   ·simp at hv
 ·rename_i i0 len hb
  rw[hb]at rx
  simp only[Option.bind_eq_some_iff]at hv
  obtain⟨r,hg,hv⟩:=hv
  split at hv
  ·rename_i hc
   obtain⟨c1,c2,c3,c4,c5⟩:=hc
   simp only[Option.some.injEq,Prod.mk.injEq]at hv
   obtain⟨rfl,rfl⟩:=hv
   obtain⟨hl,hf⟩:=M4 _ c5
   obtain⟨A,c,ey,h2⟩:=pM (sz:=m+1) S ry Cl hl hf
   obtain⟨oo,cap,B,ex,hB,h1,xx,h3,h4,hk⟩:=iH rx
   obtain⟨B',dn,R,jz,km⟩:=S.row _ _ hg
   rw[hB]at dn;injection dn with dn;subst dn
   replace R:=R.row hk
   have Cc:B.sz=m+1:=R.sz.trans c2
   have wR:∀cs∈r.rows++ys,cs.length=m+1:=fun cs dh=>by
    rcases List.mem_append.1 dh with h|h
    ·rw[<-c2];exact R.len cs h
    ·exact hl cs h
   have JG:∀cs∈r.rows++ys,∀b∈cs,b.cell=true:=fun cs dh=>by
    rcases List.mem_append.1 dh with h|h
    ·exact R.flat cs h
    ·exact hf cs h
   rcases h2 with rfl|⟨yb,yo,news,rfl,q1,q2,q3,q4⟩
   ·have Ds:=S.rename hg c1 hB hn
    refine⟨_,w,kf ι id B,.inl (fe ho (by rw[ex,ey];exact nw ht hi _ _ _ h1 A c)),⟨Below.refl _ _,fun _ _=>rfl,fun _ h=>h,fx hn,fun _ h=>.inl h⟩,?_,?_,fun _ h=>fw h⟩
    ·have:(⟨true,m+1,r.rows++[]⟩:Row)=r:=by cases r;simp_all
     rw[this];exact Ds
    ·simp only[List.length_nil,Nat.add_zero]
     exact .own _ _ _ _ _ B (dL _ _ _) hk h1 xx h3 h4
   ·obtain⟨cur,T,lI,hC,sQ⟩:=R.cur
    by_cases fb:len+ys.length<=cap
    ·have Ix:ys≠[]->oo=0:=fun h=>by
      rcases xx with xx|xx
      ·have:=List.length_pos_iff.2 h;omega
      ·simpa using xx
     by_cases hy0:ys=[]
     ·subst hy0
      have Ds:=S.rename hg c1 hB hn
      refine⟨_,w,kf ι id B,.inl (fe ho (by rw[ex,ey];exact nw ht hi _ _ _ h1 _ c)),⟨Below.refl _ _,fun _ _=>rfl,fun _ h=>h,fx hn,fun _ h=>.inl h⟩,?_,?_,fun _ h=>fw h⟩
      ·have:(⟨true,m+1,r.rows++[]⟩:Row)=r:=by cases r;simp_all
       rw[this];exact Ds
      ·simp only[List.length_nil,Nat.add_zero]
       exact .own _ _ _ _ _ B (dL _ _ _) hk h1 xx h3 h4
     have ho0:=Ix hy0
     subst ho0
     have Az:len*i.size+news.length<=cur.size:=by
      rw[iO,q1,hC,<-Nat.add_mul]
      refine Nat.le_trans ?_ h3
      rw[Cc,Nat.zero_add]
      exact Nat.mul_le_mul_right _ fb
     have gC:=uB (ty:=o.type) ht hi B.b len cap cur lI ⟨yb,yo,none⟩ ys.length c news (by rw[iO];exact q1) (fun j v hj=>by rw[jw];exact q2 j v hj) q4 fb Az
     have mm:cur.toList.length=cur.size:=Array.length_toList
     simp only[iO]at gC Az
     obtain⟨P1,P2⟩:=S.put (r':=⟨true,m+1,r.rows++ys⟩) hg c1 hB lI (cur':=(cur.toList.take (len*(m+1))++news++cur.toList.drop (len*(m+1)+news.length)).toArray) (by simp only[List.size_toArray,List.length_append,List.length_take,List.length_drop,mm];omega) rfl c2.symm
      (by dsimp only;rw[List.length_append,<-c3,<-Cc];refine Nat.le_trans (Nat.mul_le_mul_right _ fb) (Nat.le_trans (by simp) h3)) wR JG (fun k j cs b2 hk hj=>by
       simp only[List.getElem?_toArray]
       have gq:j<m+1:=by rw[<-wR cs (List.mem_of_getElem? hk)];exact(List.getElem?_eq_some_iff.1 hj).1
       rw[c2]
       by_cases ki:k<r.rows.length
       ·rw[List.getElem?_append_left ki]at hk
        have h2:k*(m+1)+j<len*(m+1):=iY ab gq
        rw[List.append_assoc,List.getElem?_append_left (by simp only[List.length_take,mm];omega),List.getElem?_take,if_pos h2]
        have:=sQ k j cs b2 hk hj
        rw[c2]at this;simpa using this
       ·rw[List.getElem?_append_right ab]at hk
        have sS:=(List.getElem?_eq_some_iff.1 hk).1
        have kK:len*(m+1)<=k*(m+1):=Nat.mul_le_mul_right _ ab
        have oI:k*(m+1)+j-len*(m+1)=(k-r.rows.length)*(m+1)+j:=by
         rw[<-c3,Nat.sub_mul];omega
        obtain⟨u,hu,uu⟩:=q3.2 _ _ (flat_get hl hk hj)
        refine⟨u,?_,uu⟩
        have Cj:news[(k-r.rows.length)*(m+1)+j]? =some u:=by simpa using hu
        have dF:=(List.getElem?_eq_some_iff.1 Cj).1
        rw[List.append_assoc,List.getElem?_append_right (by simp only[List.length_take,mm];omega),List.getElem?_append_left (by simp only[List.length_take,mm];omega)]
        rw[<-Cj]
        congr 1
        simp only[List.length_take,mm]
        omega)
     have dK:bK (bY (bK g i0 ⟨true,m+1,r.rows++ys⟩) i0) id ⟨true,m+1,r.rows++ys⟩=bK (bY g i0) id ⟨true,m+1,r.rows++ys⟩:=by
      funext q;simp only[bK,bY]
      by_cases h:q=id<;>by_cases h':q=i0<;>simp[h,h']
     have Ds:=P1.rename (i:=i0) (id:=id) (r:=⟨true,m+1,r.rows++ys⟩) (by simp[bK]) rfl hB hn
     rw[dK]at Ds
     refine⟨_,_,_,.inl (fe ho (by rw[ex,ey];exact gC)),P2.trans ⟨Below.refl _ _,fun _ _=>rfl,fun _ h=>h,fx hn,fun _ h=>.inl h⟩,Ds,?_,fun _ h=>fw h⟩
     exact .own _ _ _ _ _ B (dL _ _ _) hk fb (.inr (by simp)) h3 h4
    ·
     have holds:∃rU:List Value,rU.length=len*(m+1)/\(∀j v,rU[j]? =some v->w.cell? ⟨B.b,oo+j,none⟩=some v)/\eM P w D ι r.rows.flatten rU.toArray:=by
      obtain⟨A2,c2',e2,h2⟩:=pM (sz:=m+1) (u:=.slice (some ⟨B.b,oo,none⟩) len cap) S (.own i0 0 len oo cap B hB hk h1 xx h3 h4) (ys:=r.rows) (by simp[br,hg,c3]) (fun cs h=>by rw[<-c2];exact R.len cs h) R.flat
      rcases h2 with h2|⟨b2,o2,rU,rfl,p1,p2,p3,_⟩
      ·refine⟨[],by simp[c3,h2],fun j v h=>by simp at h,by rw[h2];exact⟨rfl,fun j a h=>by simp at h⟩⟩
      ·injection e2 with e2 _ _
       injection e2 with e2
       injection e2 with Hu e22 _
       subst Hu;subst e22
       exact⟨rU,by rw[p1,c3],p2,p3⟩
     obtain⟨rU,p1,p2,p3⟩:=holds
     have gC:=run_append_grow (P:=P) w t o.type e i zv ht hi sZ ⟨B.b,oo,none⟩ len cap rU (by rw[iO];exact p1) (fun j v hj=>by rw[jw];exact p2 j v hj) ⟨yb,yo,none⟩ ys.length c news (by rw[iO];exact q1) (fun j v hj=>by rw[jw];exact q2 j v hj) ab (e63 _ c4) (growslice_fits ab (fits _ c4))
     obtain⟨g1,g2⟩:=yD w (len+ys.length) cap e c4
     have dh:(rU.toArray++news.toArray++Builtin.zeroCells zv.cells (grownCap w (len+ys.length) cap e-(len+ys.length))).size=grownCap w (len+ys.length) cap e*(m+1):=by
      rw[Array.size_append,Array.size_append,size_zeroCells,MO,iO]
      simp only[List.size_toArray,q1,p1]
      rw[<-Nat.add_mul,<-Nat.add_mul];congr 1;omega
     have S1:=(S.kill i0).alloc (id:=id) (w':=w.drew.alloc (.cells (rU.toArray++news.toArray++Builtin.zeroCells zv.cells (grownCap w (len+ys.length) cap e-(len+ys.length))) e)) (r:=⟨true,m+1,r.rows++ys⟩) rfl hn rfl (by dsimp only;rw[dh,List.length_append,<-c3];exact Nat.mul_le_mul_right _ g1) wR JG
      (fun k j cs b2 hk hj=>by
       have Im:=flat_get wR hk hj
       rw[List.flatten_append]at Im
       have hol:rU.length=r.rows.flatten.length:=by have:=p3.1;simpa using this
       dsimp only
       by_cases dF:k*(m+1)+j<r.rows.flatten.length
       ·rw[List.getElem?_append_left dF]at Im
        obtain⟨u,hu,uu⟩:=p3.2 _ _ Im
        refine⟨u,?_,uu⟩
        rw[Array.getElem?_append_left (by simp;omega),Array.getElem?_append_left (by simp;omega)];exact hu
       ·rw[List.getElem?_append_right ab]at Im
        obtain⟨u,hu,uu⟩:=q3.2 _ _ Im
        refine⟨u,?_,uu⟩
        have yI:=(Array.getElem?_eq_some_iff.1 hu).1
        simp only[List.size_toArray]at yI
        rw[Array.getElem?_append_left (by simp;omega),Array.getElem?_append_right (by simp;omega)]
        simp only[List.size_toArray,hol];exact hu)
     have dQ:=zo (T:=e) S (rU.toArray++news.toArray++Builtin.zeroCells zv.cells (grownCap w (len+ys.length) cap e-(len+ys.length))) hn ⟨w.heap.size,m+1,(rU.toArray++news.toArray++Builtin.zeroCells zv.cells (grownCap w (len+ys.length) cap e-(len+ys.length))).size,none⟩
     refine⟨_,_,_,.inl (fe ho (by rw[ex,ey];exact gC)),dQ,S1,?_,fun _ h=>fw h⟩
     refine .own _ _ _ _ _ _ (dL _ _ _) rfl g1 (.inr (by simp)) ?_ g2
     dsimp only;rw[dh];simp
  ·simp at hv
 ·simp at hv
theorem j7 {x:Operand} {t:TypeId} {u:Value} (ho:o.op=.call {callee:=.builtin .clear,args:= #[x],argTypes:= #[t]}) (h:(Builtin.clear_ #[t] o.type #[a.eval x]).run P w=.ok u w'):(execOp a.eval o).run P w=.ok (.value u) w':=by
 simp only[execOp,ho,resolve,Sem.run_bind,Sem.run_pure,Result.andThen_ok,invoke,builtin]
 simp only[List.map_toArray,List.map_cons,List.map_nil]
 rw[h];rfl
theorem H7 {x:Operand} {x':O} {t e:TypeId} {m:Nat} {z:List K} {g':Rows} (S:fJ P hs D ι g w) (E:bu P w D ι env a) (ho:o.op=.call {callee:=.builtin .clear,args:= #[x],argTypes:= #[t]})
  (ht:P.underlying t=some (.slice e)) (eS:dx P e=some (m+1)) (hz:iR P e=some z) (hx:cO P x=some x') (hv:bL g z (cv env x')=some g'):zK P hs a o w D ι id .undef g':=by
 have rx:=cE E hx
 obtain⟨it,zv,hi,sZ,MO,hm,Cm⟩:=je hz
 have iO:it.size=m+1:=by simpa[dx,hi]using eS
 unfold bL at hv
 split at hv
 ·rename_i hb
  rw[hb]at rx
  simp at hv;subst hv
  refine⟨undef,w,ι,.inl (j7 ho (by rw[ju rx];simp only[Builtin.clear_,Sem.run_bind];simp[run_underlying ht,undef])),Step.refl _ _ _ _,S,cw.undef,fun _ _=>rfl⟩
 ·rename_i i off len hb
  rw[hb]at rx
  simp only[Option.bind_eq_some_iff]at hv
  obtain⟨r,hg,hv⟩:=hv
  split at hv
  ·rename_i hc
   obtain⟨c1,c2,c3⟩:=hc
   simp only[Option.some.injEq]at hv;subst hv
   obtain⟨oo,cap,B,ex,hB,h1,h2,h3,h4,hk⟩:=iH rx
   obtain⟨B',dn,R,jz,km⟩:=S.row _ _ hg
   rw[hB]at dn;injection dn with dn;subst dn
   replace R:=R.row hk
   obtain⟨cur,T,lI,hC,sQ⟩:=R.cur
   by_cases h0:len=0
   ·subst h0
    have e1:({r with rows:=r.rows.take off++List.replicate 0 (z.map K.av)++r.rows.drop (off+0)}:Row)=r:=by cases r;simp
    rw[e1]
    have e2:bK g i r=g:=by
     funext q;unfold bK;split
     ·rename_i h;rw[h,hg]
     ·rfl
    rw[e2]
    refine⟨undef,w,ι,.inl (j7 ho (by rw[ex];simp only[Builtin.clear_,Sem.run_bind];simp[run_underlying ht,undef])),Step.refl _ _ _ _,S,cw.undef,fun _ _=>rfl⟩
   ·have AH:oo=off*B.sz:=by rcases h2 with h2|h2<;>omega
    have Cc:B.sz=m+1:=by rw[R.sz,c2,Cm,iO]
    have u9:r.sz=m+1:=by rw[<-R.sz,Cc]
    have Of:zv.cells.size=m+1:=by rw[MO,iO]
    have vh:(Builtin.zeroCells zv.cells len).toList.length=len*(m+1):=by rw[Array.length_toList,size_zeroCells,Of]
    have Oe:∀k,k<len*(m+1)->∃c,z[k % z.length]? =some c/\(Builtin.zeroCells zv.cells len).toList[k]? =some c.val:=fun k hk=>by
     obtain⟨c,oi,Dm⟩:=nD (n:=len*zv.cells.size) hm (by rw[Cm,iO];omega) k (by rw[Of];exact hk)
     exact⟨c,oi,by rw[Array.getElem?_toList];exact Dm⟩
    have hbound:(off+len)*(m+1)<=r.rows.length*(m+1):=Nat.mul_le_mul_right _ c3
    have FR:=R.fits
    rw[u9]at FR
    have Qo:(off+len)*(m+1)=off*(m+1)+len*(m+1):=Nat.add_mul _ _ _
    have dQ:=run_storeCells_at P B.b oo T (Builtin.zeroCells zv.cells len).toList 0 cur w lI (by rw[vh,hC,AH,Cc];omega) (by
     intro v hv
     obtain⟨k,hk,rfl⟩:=List.getElem_of_mem hv
     obtain⟨c,_,Dm⟩:=Oe k (by rw[<-vh];exact hk)
     rw[List.getElem?_eq_getElem hk]at Dm
     injection Dm with Dm
     rw[Dm];cases c<;>rfl)
    simp only[Nat.add_zero]at dQ
    have mm:cur.toList.length=cur.size:=Array.length_toList
    obtain⟨P1,P2⟩:=S.put (r':={r with rows:=r.rows.take off++List.replicate len (z.map K.av)++r.rows.drop (off+len)}) hg c1 hB lI (cur':=(cur.toList.take oo++(Builtin.zeroCells zv.cells len).toList++cur.toList.drop (oo+(Builtin.zeroCells zv.cells len).toList.length)).toArray)
     (by simp only[List.size_toArray,List.length_append,List.length_take,List.length_drop,mm,vh];rw[AH,Cc];omega) c1 rfl (by
      have:(r.rows.take off++List.replicate len (z.map K.av)++r.rows.drop (off+len)).length=r.rows.length:=by simp;omega
      dsimp only;rw[this];exact R.fits) (fun cs dh=>by
      rcases List.mem_append.1 dh with h|h
      ·rcases List.mem_append.1 h with h|h
       ·exact R.len cs (List.mem_of_mem_take h)
       ·rw[List.eq_of_mem_replicate h];simp[c2]
      ·exact R.len cs (List.mem_of_mem_drop h)) (fun cs dh b hb=>by
      rcases List.mem_append.1 dh with h|h
      ·rcases List.mem_append.1 h with h|h
       ·exact R.flat cs (List.mem_of_mem_take h) b hb
       ·rw[List.eq_of_mem_replicate h]at hb
        obtain⟨c,_,rfl⟩:=List.mem_map.1 hb;exact c.ly
      ·exact R.flat cs (List.mem_of_mem_drop h) b hb) (fun k j cs b hk hj=>by
      simp only[List.getElem?_toArray]
      rw[u9]
      rw[AH,Cc,vh]
      by_cases rj:k<off
      ·rw[List.append_assoc,List.getElem?_append_left (by simp;omega),List.getElem?_take,if_pos rj]at hk
       have gq:j<m+1:=by rw[<-u9,<-R.len cs (List.mem_of_getElem? hk)];exact(List.getElem?_eq_some_iff.1 hj).1
       have h2:=iY rj gq
       rw[List.append_assoc,List.getElem?_append_left (by simp only[List.length_take,mm];omega),List.getElem?_take,if_pos h2]
       have:=sQ k j cs b hk hj
       rw[u9]at this;simpa using this
      ·by_cases sS:k<off+len
       ·rw[List.append_assoc,List.getElem?_append_right (by simp;omega),List.getElem?_append_left (by simp;omega)]at hk
        have gi:=List.eq_of_mem_replicate (List.mem_of_getElem? hk)
        subst gi
        simp only[List.getElem?_map,Option.map_eq_some_iff]at hj
        obtain⟨q,hq,rfl⟩:=hj
        have gq:=(List.getElem?_eq_some_iff.1 hq).1
        rw[Cm,iO]at gq
        have kK:off*(m+1)<=k*(m+1):=Nat.mul_le_mul_right _ ab
        have oI:k*(m+1)+j-off*(m+1)=(k-off)*(m+1)+j:=by rw[Nat.sub_mul];omega
        have yI:(k-off)*(m+1)+j<len*(m+1):=iY ab gq
        rw[List.append_assoc,List.getElem?_append_right (by simp only[List.length_take,mm];omega),List.getElem?_append_left (by simp only[List.length_take,mm,vh];omega)]
        obtain⟨c,oi,Dm⟩:=Oe _ yI
        rw[Cm,iO,Nat.mul_comm (k-off),Nat.mul_add_mod,Nat.mod_eq_of_lt gq,hq]at oi
        injection oi with oi;subst oi
        refine⟨q.val,?_,tr q⟩
        rw[<-Dm]
        congr 1
        simp only[List.length_take,mm];omega
       ·rw[List.getElem?_append_right (by simp;omega)]at hk
        simp only[List.length_append,List.length_take,List.length_replicate,List.getElem?_drop]at hk
        rw[show off+len+(k-(min off r.rows.length+len))=k by omega]at hk
        have ki:=(List.getElem?_eq_some_iff.1 hk).1
        have kK:(off+len)*(m+1)<=k*(m+1):=Nat.mul_le_mul_right _ ab
        rw[List.getElem?_append_right (by simp only[List.length_append,List.length_take,mm,vh];omega)]
        simp only[List.length_append,List.length_take,mm,vh,List.getElem?_drop]
        rw[show off*(m+1)+len*(m+1)+(k*(m+1)+j-(min (off*(m+1)) cur.size+len*(m+1)))=k*(m+1)+j by omega]
        have:=sQ k j cs b hk hj
        rw[u9]at this;simpa using this)
    refine⟨undef,_,ι,.inl (j7 ho ?_),P2,P1,cw.undef,fun _ _=>rfl⟩
    rw[ex]
    cases len with
    |zero=>exact(h0 rfl).elim
    |succ len=>
     simp only[Builtin.clear_,Sem.run_bind]
     simp[run_underlying ht,zeroValue,typeInfo,hi,sZ,dQ,undef]
  ·simp at hv
 ·simp at hv
theorem Ei {dT sT ty e:TypeId} {it:TypeInfo} (hu:P.underlying dT=some (.slice e)) (hi:P.info? e=some it) (A B:Option Addr) (pP Bt C3 KA:Nat) (h0:Nat.min pP C3=0):
  (Builtin.copy_ #[dT,sT] ty #[.slice A C3 KA,.slice B pP Bt]).run P w=.ok (goInt 0) w:=by
 cases A<;>cases B<;>simp[Builtin.copy_,run_underlying hu,Builtin.lenOf,Builtin.firstCells,sizeOf,typeInfo,hi,h0,storeCells,loadCells,loadCellsFrom]
theorem Ej {dT sT ty e:TypeId} {it:TypeInfo} (hu:P.underlying dT=some (.slice e)) (hi:P.info? e=some it) (A B:Addr) (pP Bt C3 KA:Nat) (cs:List Value) (hn:cs.length=Nat.min pP C3*it.size) (hl:(loadCells B cs.length).run P w=.ok cs.toArray w) (hs:(storeCells A cs).run P w=.ok () w'):
  (Builtin.copy_ #[dT,sT] ty #[.slice (some A) C3 KA,.slice (some B) pP Bt]).run P w=.ok (goInt (Nat.min pP C3)) w':=by
 simp[Builtin.copy_,run_underlying hu,Builtin.lenOf,Builtin.firstCells,sizeOf,typeInfo,hi,<-hn,hl,hs]
theorem oq {x y:Operand} {t t2:TypeId} {u:Value} (ho:o.op=.call {callee:=.builtin .copy,args:= #[x,y],argTypes:= #[t,t2]}) (h:(Builtin.copy_ #[t,t2] o.type #[a.eval x,a.eval y]).run P w=.ok u w'):(execOp a.eval o).run P w=.ok (.value u) w':=by
 simp only[execOp,ho,resolve,Sem.run_bind,Sem.run_pure,Result.andThen_ok,invoke,builtin]
 simp only[List.map_toArray,List.map_cons,List.map_nil]
 rw[h];rfl
theorem KB {x y:Operand} {x' y':O} {t t2 e:TypeId} {m:Nat} {ys:List (List AV)} {v:AV} {g':Rows} (S:fJ P hs D ι g w) (E:bu P w D ι env a) (ho:o.op=.call {callee:=.builtin .copy,args:= #[x,y],argTypes:= #[t,t2]})
  (ht:P.underlying t=some (.slice e)) (eS:dx P e=some (m+1)) (hx:cO P x=some x') (hy:cO P y=some y') (Cl:br g (cv env y')=some ys) (hv:CD g (m+1) (cv env x') ys=some (v,g')):zK P hs a o w D ι id v g':=by
 have rx:=cE E hx
 have ry:=cE E hy
 obtain⟨it,hi,iO⟩:∃it,P.info? e=some it/\it.size=m+1:=by
  cases hq:P.info? e with
  |none=>simp[dx,hq]at eS
  |some it=>exact⟨it,rfl,by simpa[dx,hq]using eS⟩
 unfold CD at hv
 split at hv
 ·rename_i i off len hb
  rw[hb]at rx
  simp only[Option.bind_eq_some_iff]at hv
  obtain⟨r,hg,hv⟩:=hv
  split at hv
  ·rename_i hc
   obtain⟨c1,c2,c3,c4⟩:=hc
   simp only[Option.some.injEq,Prod.mk.injEq]at hv
   obtain⟨rfl,rfl⟩:=hv
   rw[List.all_eq_true]at c4
   have hl:∀c∈ys,c.length=m+1:=fun c hc=>by have:=c4 c hc;simp at this;exact this.1
   have hf:∀c∈ys,∀b∈c,b.cell=true:=fun c hc b hb=>by have:=c4 c hc;simp at this;exact this.2 b hb
   obtain⟨oo,cap,B,ex,hB,h1,h2,h3,h4,hk⟩:=iH rx
   obtain⟨B',dn,R,jz,km⟩:=S.row _ _ hg
   rw[hB]at dn;injection dn with dn;subst dn
   replace R:=R.row hk
   obtain⟨cur,T,lI,hC,sQ⟩:=R.cur
   obtain⟨A,sc,hu,hA⟩:=pM S ry Cl hl hf
   by_cases h0:min ys.length len=0
   ·rw[h0]
    have e1:({r with rows:=r.rows.take off++ys.take 0++r.rows.drop (off+0)}:Row)=r:=by cases r;simp
    rw[e1]
    have e2:bK g i r=g:=by
     funext q;unfold bK;split
     ·rename_i h;rw[h,hg]
     ·rfl
    rw[e2]
    refine⟨goInt 0,w,ι,.inl (oq ho (by rw[ex,hu];exact Ei ht hi _ _ _ _ _ _ h0)),Step.refl _ _ _ _,S,.ev _ _ (.int _ _),fun _ _=>rfl⟩
   ·rcases hA with rfl|⟨b,o2,news,rfl,QF,hsrc,hR,h1c⟩
    ·simp at h0
    have NU:Nat.min ys.length len=min ys.length len:=rfl
    have hky:min ys.length len<=ys.length:=Nat.min_le_left _ _
    have ki:min ys.length len<=len:=Nat.min_le_right _ _
    generalize JU:min ys.length len=kk at *
    have JV:len≠0:=ab
    have AH:oo=off*B.sz:=by rcases h2 with h2|h2<;>omega
    have Cc:B.sz=m+1:=by rw[R.sz,c2]
    have u9:r.sz=m+1:=c2
    have FX:kk*(m+1)<=ys.length*(m+1):=Nat.mul_le_mul_right _ hky
    have vh:(news.take (kk*(m+1))).length=kk*(m+1):=by rw[List.length_take,QF];omega
    have hbound:(off+kk)*(m+1)<=r.rows.length*(m+1):=Nat.mul_le_mul_right _ ab
    have FR:=R.fits
    rw[u9]at FR
    have Qo:(off+kk)*(m+1)=off*(m+1)+kk*(m+1):=Nat.add_mul _ _ _
    have dQ:=run_storeCells_at P B.b oo T (news.take (kk*(m+1))) 0 cur w lI (by rw[vh,hC,AH,Cc];omega) (fun v hv=>h1c v (List.mem_of_mem_take hv))
    have Pe:=run_loadCells_list (P:=P) w ⟨b,o2,none⟩ (news.take (kk*(m+1))) (fun j v hj=>by
     rw[List.getElem?_take]at hj
     split at hj
     ·have:=hsrc j v hj
      cases j with
      |zero=>simpa[Addr.add]using this
      |succ j=>simpa[Addr.add]using this
     ·cases hj)
    simp only[Nat.add_zero]at dQ
    have mm:cur.toList.length=cur.size:=Array.length_toList
    have htl:(ys.take kk).length=kk:=by rw[List.length_take];omega
    obtain⟨P1,P2⟩:=S.put (r':={r with rows:=r.rows.take off++ys.take kk++r.rows.drop (off+kk)}) hg c1 hB lI (cur':=(cur.toList.take oo++news.take (kk*(m+1))++cur.toList.drop (oo+(news.take (kk*(m+1))).length)).toArray)
     (by simp only[List.size_toArray,List.length_append,List.length_drop,mm,vh];rw[List.length_take,mm,AH,Cc];omega) c1 rfl (by
      have:(r.rows.take off++ys.take kk++r.rows.drop (off+kk)).length=r.rows.length:=by simp;omega
      dsimp only;rw[this];exact R.fits) (fun cs dh=>by
      rcases List.mem_append.1 dh with h|h
      ·rcases List.mem_append.1 h with h|h
       ·exact R.len cs (List.mem_of_mem_take h)
       ·rw[hl cs (List.mem_of_mem_take h)];exact c2.symm
      ·exact R.len cs (List.mem_of_mem_drop h)) (fun cs dh b hb=>by
      rcases List.mem_append.1 dh with h|h
      ·rcases List.mem_append.1 h with h|h
       ·exact R.flat cs (List.mem_of_mem_take h) b hb
       ·exact hf cs (List.mem_of_mem_take h) b hb
      ·exact R.flat cs (List.mem_of_mem_drop h) b hb) (fun k j cs b hk hj=>by
      simp only[List.getElem?_toArray]
      rw[u9]
      rw[AH,Cc,vh]
      by_cases rj:k<off
      ·rw[List.append_assoc,List.getElem?_append_left (by simp;omega),List.getElem?_take,if_pos rj]at hk
       have gq:j<m+1:=by rw[<-u9,<-R.len cs (List.mem_of_getElem? hk)];exact(List.getElem?_eq_some_iff.1 hj).1
       have h2:=iY rj gq
       rw[List.append_assoc,List.getElem?_append_left (by simp only[List.length_take,mm];omega),List.getElem?_take,if_pos h2]
       have:=sQ k j cs b hk hj
       rw[u9]at this;simpa using this
      ·by_cases sS:k<off+kk
       ·rw[List.append_assoc,List.getElem?_append_right (by simp;omega),List.getElem?_append_left (by simp;omega)]at hk
        simp only[List.length_take]at hk
        rw[show k-min off r.rows.length=k-off by omega,List.getElem?_take,if_pos ab]at hk
        have gq:j<m+1:=by rw[<-hl cs (List.mem_of_getElem? hk)];exact(List.getElem?_eq_some_iff.1 hj).1
        have kK:off*(m+1)<=k*(m+1):=Nat.mul_le_mul_right _ ab
        have oI:k*(m+1)+j-off*(m+1)=(k-off)*(m+1)+j:=by rw[Nat.sub_mul];omega
        have yI:(k-off)*(m+1)+j<kk*(m+1):=iY ab gq
        rw[List.append_assoc,List.getElem?_append_right (by simp only[List.length_take,mm];omega),List.getElem?_append_left (by rw[vh];simp only[List.length_take,mm];omega)]
        obtain⟨u,N6,MJ⟩:=hR.2 ((k-off)*(m+1)+j) b (flat_get hl hk hj)
        refine⟨u,?_,MJ⟩
        rw[List.getElem?_take]
        simp only[List.length_take,mm]
        rw[show k*(m+1)+j-min (off*(m+1)) cur.size=(k-off)*(m+1)+j by omega,if_pos yI]
        simpa using N6
       ·rw[List.getElem?_append_right (by simp;omega)]at hk
        simp only[List.length_append,List.length_take,List.getElem?_drop]at hk
        rw[show off+kk+(k-(min off r.rows.length+min kk ys.length))=k by omega]at hk
        have ki:=(List.getElem?_eq_some_iff.1 hk).1
        have kK:(off+kk)*(m+1)<=k*(m+1):=Nat.mul_le_mul_right _ ab
        rw[List.getElem?_append_right (by rw[List.length_append,vh];simp only[List.length_take,mm];omega)]
        rw[List.getElem?_drop,List.length_append,vh]
        simp only[List.length_take,mm]
        rw[show off*(m+1)+kk*(m+1)+(k*(m+1)+j-(min (off*(m+1)) cur.size+kk*(m+1)))=k*(m+1)+j by omega]
        have:=sQ k j cs b hk hj
        rw[u9]at this;simpa using this)
    refine⟨goInt kk,_,ι,.inl (oq ho ?_),P2,P1,.ev _ _ (.int _ _),fun _ _=>rfl⟩
    rw[ex,hu]
    have:=Ej (w:=w) (sT:=t2) (ty:=o.type) ht hi ⟨B.b,oo,none⟩ ⟨b,o2,none⟩ ys.length sc len cap _ (by rw[vh,NU,iO]) Pe dQ
    rw[NU]at this
    exact this
  ·simp at hv
 ·simp at hv
end
end Go.Proofs.YtihgaadadaekmaaGreatDoor.V

namespace Go.Proofs.YtihgaadadaekmaaGreatDoor.V
open Go.RowKit
variable {P:Program} {w w':World} {D D' D2:Nat->Prop} {ι ι' ι2:Names}
section
variable {g:Rows} {hs:Nat}
theorem fE:∀{n:Nat} {l r:List AV},bW g n l=some r->r.length=l.length/\∀(j:Nat) (b:AV),r[j]? =some b->∃a,l[j]? =some a/\fz g n a=some b
 |n,[],r,h=>by
  rw[bW]at h;simp at h;subst h;simp
 |n,a::l,r,h=>by
  rw[bW]at h
  split at h
  ·rename_i b hb
   simp only[Option.map_eq_some_iff]at h
   obtain⟨r',hr,rfl⟩:=h
   obtain⟨h1,h2⟩:=fE hr
   refine⟨by simp[h1],fun j c hj=>?_⟩
   cases j with
   |zero=>simp at hj;subst hj;exact⟨a,rfl,hb⟩
   |succ j=>simp at hj ⊢;exact h2 j c hj
  ·simp at h
theorem sO:∀{n:Nat} {l r:List (List AV)},dq g n l=some r->r.length=l.length/\∀(j:Nat) (b:List AV),r[j]? =some b->∃a,l[j]? =some a/\bW g n a=some b
 |n,[],r,h=>by
  rw[dq]at h;simp at h;subst h;simp
 |n,a::l,r,h=>by
  rw[dq]at h
  split at h
  ·rename_i b hb
   simp only[Option.map_eq_some_iff]at h
   obtain⟨r',hr,rfl⟩:=h
   obtain⟨h1,h2⟩:=sO hr
   refine⟨by simp[h1],fun j c hj=>?_⟩
   cases j with
   |zero=>simp at hj;subst hj;exact⟨a,rfl,hb⟩
   |succ j=>simp at hj ⊢;exact h2 j c hj
  ·simp at h
theorem po (hD:∀b,D b->D2 b) (CU:∀id row,g id=some row->row.w=true->∃B,ι id=some B/\gM P w D ι B row/\D2 B.b):∀(n:Nat) (a:AV) (u:Value) (r:AV),cw P w D ι a u->fz g n a=some r->cw P w D2 ι2 r u/\(a.cell=true->jl P w D2 r u/\r.cell=true):=by
 intro n
 induction n with
 |zero=>intro a u r _ h;rw[fz]at h;simp at h
 |succ n ih=>
  intro a u r hr h
  have both:∀{r:AV},jl P w D2 r u->r.cell=true->cw P w D2 ι2 r u/\(a.cell=true->jl P w D2 r u/\r.cell=true):=fun h1 h2=>⟨.ev _ _ h1,fun _=>⟨h1,h2⟩⟩
  cases a with
  |map id m=>rw[fz]at h;cases h
  |qk id=>rw[fz]at h;cases h
  |own id off len=>
   rw[fz]at h
   split at h
   ·rename_i row hg
    split at h
    ·rename_i hw
     split at h
     ·rename_i hle
      simp only[Option.map_eq_some_iff]at h
      obtain⟨rows,pv,rfl⟩:=h
      obtain⟨B,hB,R,KS⟩:=CU id row hg hw
      obtain⟨o,cap,B',rfl,dn,h1,h2,h3,h4,hk⟩:=iH hr
      rw[hB]at dn;injection dn with dn;subst dn
      replace R:=R.row hk
      obtain⟨l1,l2⟩:=sO pv
      have hlen:rows.length=len:=by rw[l1];simp;omega
      by_cases h0:rows=[]
      ·subst h0
       simp at hlen;subst hlen
       exact both (.zI _ _ h4) rfl
      ·have hlp:0<len:=by rw[<-hlen];exact List.length_pos_iff.2 h0
       have ho:o=off*B.sz:=by rcases h2 with h2|h2<;>omega
       have src:∀i cs,rows[i]? =some cs->∃c0,row.rows[off+i]? =some c0/\bW g n c0=some cs:=fun i cs hi=>by
        obtain⟨c0,iS,hf⟩:=l2 i cs hi
        rw[List.getElem?_take]at iS
        split at iS
        ·rw[List.getElem?_drop]at iS;exact⟨c0,iS,hf⟩
        ·simp at iS
       have cell:∀i j,i<len->j<row.sz->∃c0 a0 v,row.rows[off+i]? =some c0/\c0[j]? =some a0/\w.cell? ⟨B.b,o+(i*row.sz+j),none⟩=some v/\cw P w D ι a0 v:=fun i j hi hj=>by
        have o3:off+i<row.rows.length:=ab
        have e1:=List.getElem?_eq_getElem o3
        have JT:j<row.rows[off+i].length:=by rw[R.len _ (List.getElem_mem o3)];exact hj
        obtain⟨v,hv,kV⟩:=R.at_ _ _ _ _ e1 (List.getElem?_eq_getElem JT)
        refine⟨_,_,v,e1,List.getElem?_eq_getElem JT,?_,kV⟩
        rw[ho,R.sz,<-hv]
        congr 2
        rw[Nat.add_mul];omega
       refine both (.sl rows B.b o len cap row.sz (fun i j=>(w.cell? ⟨B.b,o+(i*row.sz+j),none⟩).getD undef) hlen h1 h4 KS (fun cs dh=>?_) (fun cs dh b hb=>?_) (fun i j hi hj=>?_) (fun i j cs b hi hj=>?_)) rfl
       ·obtain⟨i,hi,rfl⟩:=List.getElem_of_mem dh
        obtain⟨c0,iS,hf⟩:=src i _ (List.getElem?_eq_getElem hi)
        rw[(fE hf).1];exact R.len c0 (List.mem_of_getElem? iS)
       ·obtain⟨i,hi,rfl⟩:=List.getElem_of_mem dh
        obtain⟨c0,iS,hf⟩:=src i _ (List.getElem?_eq_getElem hi)
        obtain⟨j,hj,rfl⟩:=List.getElem_of_mem hb
        obtain⟨a0,kh,FQ⟩:=(fE hf).2 j _ (List.getElem?_eq_getElem hj)
        obtain⟨v,_,kV⟩:=R.at_ _ _ _ _ iS kh
        exact((ih _ _ _ kV FQ).2 (R.flat c0 (List.mem_of_getElem? iS) a0 (List.mem_of_getElem? kh))).2
       ·obtain⟨c0,a0,v,_,_,hv,_⟩:=cell i j hi hj
        simp only[hv,Option.getD_some]
       ·obtain⟨c0,iS,hf⟩:=src i cs hi
        obtain⟨a0,kh,FQ⟩:=(fE hf).2 j b hj
        have oj:i<len:=by rw[<-hlen];exact(List.getElem?_eq_some_iff.1 hi).1
        have gq:j<row.sz:=by rw[<-R.len c0 (List.mem_of_getElem? iS)];exact(List.getElem?_eq_some_iff.1 kh).1
        obtain⟨c1,a1,v,e1,e2,hv,kV⟩:=cell i j oj gq
        rw[iS]at e1;injection e1 with e1;subst e1
        rw[kh]at e2;injection e2 with e2;subst e2
        simp only[hv,Option.getD_some]
        exact((ih _ _ _ kV FQ).2 (R.flat c0 (List.mem_of_getElem? iS) a0 (List.mem_of_getElem? kh))).1
     ·simp at h
    ·simp at h
   ·simp at h
  |ptr id i off=>
   rw[fz]at h
   split at h
   ·rename_i row hg
    split at h
    ·rename_i hw
     split at h
     ·rename_i c0 iS
      simp only[Option.map_eq_some_iff]at h
      obtain⟨cs,dh,rfl⟩:=h
      obtain⟨B,hB,R,KS⟩:=CU id row hg hw
      obtain⟨B',rfl,dn,hk⟩:=iI hr
      rw[hB]at dn;injection dn with dn;subst dn
      replace R:=R.row hk
      obtain⟨l1,l2⟩:=fE dh
      have at_:∀j b,cs[j]? =some b->∃a0 v,w.cell? ⟨B.b,i*B.sz+off+j,none⟩=some v/\cw P w D ι a0 v/\a0.cell=true/\fz g n a0=some b:=fun j b hj=>by
       obtain⟨a0,kh,hf⟩:=l2 j b hj
       rw[List.getElem?_drop]at kh
       obtain⟨v,hv,kV⟩:=R.at_ _ _ _ _ iS kh
       refine⟨a0,v,?_,kV,R.flat c0 (List.mem_of_getElem? iS) a0 (List.mem_of_getElem? kh),hf⟩
       rw[R.sz,Nat.add_assoc];exact hv
      refine both (.cK cs B.b _ (fun j=>(w.cell? ⟨B.b,i*B.sz+off+j,none⟩).getD undef) KS (fun b hb=>?_) (fun j hj=>?_) (fun j b hj=>?_)) rfl
      ·obtain⟨j,hj,rfl⟩:=List.getElem_of_mem hb
       obtain⟨a0,v,_,kV,hc,hf⟩:=at_ j _ (List.getElem?_eq_getElem hj)
       exact((ih _ _ _ kV hf).2 hc).2
      ·obtain⟨a0,v,hv,_⟩:=at_ j _ (List.getElem?_eq_getElem hj)
       simp only[hv,Option.getD_some]
      ·obtain⟨a0,v,hv,kV,hc,hf⟩:=at_ j b hj
       simp only[hv,Option.getD_some]
       exact((ih _ _ _ kV hf).2 hc).1
     ·simp at h
    ·simp at h
   ·simp at h
  |agg cs=>
   rw[fz]at h
   simp only[Option.map_eq_some_iff]at h
   obtain⟨r',mD,rfl⟩:=h
   obtain⟨vs,f,rfl,h1,h2,h3,h4⟩:=gS hr
   obtain⟨l1,l2⟩:=fE mD
   have hI:jl P w D2 (.agg r') (.agg vs):=.agg r' vs f (by rw[h1,l1]) (fun b hb=>by
    obtain⟨j,hj,rfl⟩:=List.getElem_of_mem hb
    obtain⟨a0,kh,hf⟩:=l2 j _ (List.getElem?_eq_getElem hj)
    exact((ih _ _ _ (h4 j a0 kh) hf).2 (h2 a0 (List.mem_of_getElem? kh))).2) (fun j hj=>h3 j (by rw[<-l1];exact hj)) (fun j b hj=>by
    obtain⟨a0,kh,hf⟩:=l2 j b hj
    exact((ih _ _ _ (h4 j a0 kh) hf).2 (h2 a0 (List.mem_of_getElem? kh))).1)
   exact⟨.ev _ _ hI,fun hc=>by simp[AV.cell]at hc⟩
  |ib cs=>
   rw[fz]at h
   simp only[Option.map_eq_some_iff]at h
   obtain⟨r',mD,rfl⟩:=h
   obtain⟨vs,f,rfl,h1,h3,h4⟩:=sg hr
   obtain⟨l1,l2⟩:=fE mD
   exact⟨.ib r' vs f (by rw[h1,l1]) (fun j hj=>h3 j (by rw[<-l1];exact hj)) (fun j b hj=>by
    obtain⟨a0,kh,hf⟩:=l2 j b hj
    exact(ih _ _ _ (h4 j a0 kh) hf).1),fun hc=>by simp[AV.cell]at hc⟩
  |fn f cr=>
   rw[fz]at h
   split at h
   ·rename_i di
    simp only[Option.map_eq_some_iff]at h
    obtain⟨r',mD,rfl⟩:=h
    obtain⟨vs,q,rfl,h0,h1,h3,h4⟩:=Bl hr
    obtain⟨l1,l2⟩:=fE mD
    exact both (.fn f r' vs q h0 (by rw[h1,l1]) (fun j hj=>h3 j (by rw[<-l1];exact hj)) (fun j b hj=>by
     obtain⟨a0,kh,hf⟩:=l2 j b hj
     exact((ih _ _ _ (h4 j a0 kh) hf).2 (List.all_eq_true.1 di a0 (List.mem_of_getElem? kh))).1)) rfl
   ·simp at h
  |int k m=>rw[fz]at h<;>(try simp at h)<;>(try subst h)<;>(try(rw[db hr];exact⟨.ev _ _ (.int _ _),fun _=>⟨.int _ _,rfl⟩⟩))<;>(try(intros;simp_all))
  |bool b=>rw[fz]at h<;>(try simp at h)<;>(try subst h)<;>(try(rw[eG hr];exact⟨.ev _ _ (.bool _),fun _=>⟨.bool _,rfl⟩⟩))<;>(try(intros;simp_all))
  |str b=>rw[fz]at h<;>(try simp at h)<;>(try subst h)<;>(try(rw[eT hr];exact⟨.ev _ _ (.str _),fun _=>⟨.str _,rfl⟩⟩))<;>(try(intros;simp_all))
  |bC=>rw[fz]at h<;>(try simp at h)<;>(try subst h)<;>(try(rw[ju hr];exact⟨.ev _ _ .bC,fun _=>⟨.bC,rfl⟩⟩))<;>(try(intros;simp_all))
  |iG=>rw[fz]at h<;>(try simp at h)<;>(try subst h)<;>(try(rw[tt hr];exact⟨.ev _ _ .iG,fun _=>⟨.iG,rfl⟩⟩))<;>(try(intros;simp_all))
  |iP=>rw[fz]at h<;>(try simp at h)<;>(try subst h)<;>(try(rw[zj hr];exact⟨.ev _ _ .iP,fun _=>⟨.iP,rfl⟩⟩))<;>(try(intros;simp_all))
  |tX f cr=>rw[fz]at h<;>(try simp at h)<;>(try(intros;simp_all))
  |gj=>rw[fz]at h<;>(try simp at h)<;>(try subst h)<;>(try(cases hr with|ev _ _ hr=>exact both (hr.frame (fun _ _=>rfl) hD) rfl))<;>(try(intros;simp_all))
  |sl rows=>rw[fz]at h<;>(try simp at h)<;>(try subst h)<;>(try(cases hr with|ev _ _ hr=>exact both (hr.frame (fun _ _=>rfl) hD) rfl))<;>(try(intros;simp_all))
  |cK cs=>rw[fz]at h<;>(try simp at h)<;>(try subst h)<;>(try(cases hr with|ev _ _ hr=>exact both (hr.frame (fun _ _=>rfl) hD) rfl))<;>(try(intros;simp_all))
theorem gV:∀{n:Nat} {l r:List AV},dv g n l=some r->r.length=l.length/\∀(j:Nat) (b:AV),r[j]? =some b->∃a,l[j]? =some a/\fa g n a=some b
 |n,[],r,h=>by
  rw[dv]at h;simp at h;subst h;simp
 |n,a::l,r,h=>by
  rw[dv]at h
  split at h
  ·rename_i b hb
   simp only[Option.map_eq_some_iff]at h
   obtain⟨r',hr,rfl⟩:=h
   obtain⟨h1,h2⟩:=gV hr
   refine⟨by simp[h1],fun j c hj=>?_⟩
   cases j with
   |zero=>simp at hj;subst hj;exact⟨a,rfl,hb⟩
   |succ j=>simp at hj ⊢;exact h2 j c hj
  ·simp at h
theorem qZ:∀{n:Nat} {l r:List (List AV)},fq g n l=some r->r.length=l.length/\∀(j:Nat) (b:List AV),r[j]? =some b->∃a,l[j]? =some a/\dv g n a=some b
 |n,[],r,h=>by
  rw[fq]at h;simp at h;subst h;simp
 |n,a::l,r,h=>by
  rw[fq]at h
  split at h
  ·rename_i b hb
   simp only[Option.map_eq_some_iff]at h
   obtain⟨r',hr,rfl⟩:=h
   obtain⟨h1,h2⟩:=qZ hr
   refine⟨by simp[h1],fun j c hj=>?_⟩
   cases j with
   |zero=>simp at hj;subst hj;exact⟨a,rfl,hb⟩
   |succ j=>simp at hj ⊢;exact h2 j c hj
  ·simp at h
theorem Dj (CU:∀id row,g id=some row->row.w=true->∃B,ι id=some B/\gM P w D ι B row/\D2 B.b):∀(n:Nat) (a:AV) (u:Value) (r:AV),cw P w D ι a u->fa g n a=some r->cw P w D2 ι2 r u/\(a.cell=true->jl P w D2 r u/\r.cell=true):=by
 intro n
 induction n with
 |zero=>intro a u r _ h;rw[fa]at h;simp at h
 |succ n ih=>
  intro a u r hr h
  have both:∀{r:AV},jl P w D2 r u->r.cell=true->cw P w D2 ι2 r u/\(a.cell=true->jl P w D2 r u/\r.cell=true):=fun h1 h2=>⟨.ev _ _ h1,fun _=>⟨h1,h2⟩⟩
  cases a with
  |map id m=>rw[fa]at h<;>simp_all
  |qk id=>rw[fa]at h<;>simp_all
  |own id off len=>
   rw[fa]at h
   split at h
   ·rename_i row hg
    split at h
    ·rename_i hw
     split at h
     ·rename_i hle
      simp only[Option.map_eq_some_iff]at h
      obtain⟨rows,pv,rfl⟩:=h
      obtain⟨B,hB,R,KS⟩:=CU id row hg hw
      obtain⟨o,cap,B',rfl,dn,h1,h2,h3,h4,hk⟩:=iH hr
      rw[hB]at dn;injection dn with dn;subst dn
      replace R:=R.row hk
      obtain⟨l1,l2⟩:=qZ pv
      have hlen:rows.length=len:=by rw[l1];simp;omega
      by_cases h0:rows=[]
      ·subst h0
       simp at hlen;subst hlen
       exact both (.zI _ _ h4) rfl
      ·have hlp:0<len:=by rw[<-hlen];exact List.length_pos_iff.2 h0
       have ho:o=off*B.sz:=by rcases h2 with h2|h2<;>omega
       have src:∀i cs,rows[i]? =some cs->∃c0,row.rows[off+i]? =some c0/\dv g n c0=some cs:=fun i cs hi=>by
        obtain⟨c0,iS,hf⟩:=l2 i cs hi
        rw[List.getElem?_take]at iS
        split at iS
        ·rw[List.getElem?_drop]at iS;exact⟨c0,iS,hf⟩
        ·simp at iS
       have cell:∀i j,i<len->j<row.sz->∃c0 a0 v,row.rows[off+i]? =some c0/\c0[j]? =some a0/\w.cell? ⟨B.b,o+(i*row.sz+j),none⟩=some v/\cw P w D ι a0 v:=fun i j hi hj=>by
        have o3:off+i<row.rows.length:=ab
        have e1:=List.getElem?_eq_getElem o3
        have JT:j<row.rows[off+i].length:=by rw[R.len _ (List.getElem_mem o3)];exact hj
        obtain⟨v,hv,kV⟩:=R.at_ _ _ _ _ e1 (List.getElem?_eq_getElem JT)
        refine⟨_,_,v,e1,List.getElem?_eq_getElem JT,?_,kV⟩
        rw[ho,R.sz,<-hv]
        congr 2
        rw[Nat.add_mul];omega
       refine both (.sl rows B.b o len cap row.sz (fun i j=>(w.cell? ⟨B.b,o+(i*row.sz+j),none⟩).getD undef) hlen h1 h4 KS (fun cs dh=>?_) (fun cs dh b hb=>?_) (fun i j hi hj=>?_) (fun i j cs b hi hj=>?_)) rfl
       ·obtain⟨i,hi,rfl⟩:=List.getElem_of_mem dh
        obtain⟨c0,iS,hf⟩:=src i _ (List.getElem?_eq_getElem hi)
        rw[(gV hf).1];exact R.len c0 (List.mem_of_getElem? iS)
       ·obtain⟨i,hi,rfl⟩:=List.getElem_of_mem dh
        obtain⟨c0,iS,hf⟩:=src i _ (List.getElem?_eq_getElem hi)
        obtain⟨j,hj,rfl⟩:=List.getElem_of_mem hb
        obtain⟨a0,kh,FQ⟩:=(gV hf).2 j _ (List.getElem?_eq_getElem hj)
        obtain⟨v,_,kV⟩:=R.at_ _ _ _ _ iS kh
        exact((ih _ _ _ kV FQ).2 (R.flat c0 (List.mem_of_getElem? iS) a0 (List.mem_of_getElem? kh))).2
       ·obtain⟨c0,a0,v,_,_,hv,_⟩:=cell i j hi hj
        simp only[hv,Option.getD_some]
       ·obtain⟨c0,iS,hf⟩:=src i cs hi
        obtain⟨a0,kh,FQ⟩:=(gV hf).2 j b hj
        have oj:i<len:=by rw[<-hlen];exact(List.getElem?_eq_some_iff.1 hi).1
        have gq:j<row.sz:=by rw[<-R.len c0 (List.mem_of_getElem? iS)];exact(List.getElem?_eq_some_iff.1 kh).1
        obtain⟨c1,a1,v,e1,e2,hv,kV⟩:=cell i j oj gq
        rw[iS]at e1;injection e1 with e1;subst e1
        rw[kh]at e2;injection e2 with e2;subst e2
        simp only[hv,Option.getD_some]
        exact((ih _ _ _ kV FQ).2 (R.flat c0 (List.mem_of_getElem? iS) a0 (List.mem_of_getElem? kh))).1
     ·simp at h
    ·simp at h
   ·simp at h
  |ptr id i off=>
   rw[fa]at h
   split at h
   ·rename_i row hg
    split at h
    ·rename_i hw
     split at h
     ·rename_i c0 iS
      simp only[Option.map_eq_some_iff]at h
      obtain⟨cs,dh,rfl⟩:=h
      obtain⟨B,hB,R,KS⟩:=CU id row hg hw
      obtain⟨B',rfl,dn,hk⟩:=iI hr
      rw[hB]at dn;injection dn with dn;subst dn
      replace R:=R.row hk
      obtain⟨l1,l2⟩:=gV dh
      have at_:∀j b,cs[j]? =some b->∃a0 v,w.cell? ⟨B.b,i*B.sz+off+j,none⟩=some v/\cw P w D ι a0 v/\a0.cell=true/\fa g n a0=some b:=fun j b hj=>by
       obtain⟨a0,kh,hf⟩:=l2 j b hj
       rw[List.getElem?_drop]at kh
       obtain⟨v,hv,kV⟩:=R.at_ _ _ _ _ iS kh
       refine⟨a0,v,?_,kV,R.flat c0 (List.mem_of_getElem? iS) a0 (List.mem_of_getElem? kh),hf⟩
       rw[R.sz,Nat.add_assoc];exact hv
      refine both (.cK cs B.b _ (fun j=>(w.cell? ⟨B.b,i*B.sz+off+j,none⟩).getD undef) KS (fun b hb=>?_) (fun j hj=>?_) (fun j b hj=>?_)) rfl
      ·obtain⟨j,hj,rfl⟩:=List.getElem_of_mem hb
       obtain⟨a0,v,_,kV,hc,hf⟩:=at_ j _ (List.getElem?_eq_getElem hj)
       exact((ih _ _ _ kV hf).2 hc).2
      ·obtain⟨a0,v,hv,_⟩:=at_ j _ (List.getElem?_eq_getElem hj)
       simp only[hv,Option.getD_some]
      ·obtain⟨a0,v,hv,kV,hc,hf⟩:=at_ j b hj
       simp only[hv,Option.getD_some]
       exact((ih _ _ _ kV hf).2 hc).1
     ·simp at h
    ·simp at h
   ·simp at h
  |agg cs=>
   rw[fa]at h
   simp only[Option.map_eq_some_iff]at h
   obtain⟨r',mD,rfl⟩:=h
   obtain⟨vs,f,rfl,h1,h2,h3,h4⟩:=gS hr
   obtain⟨l1,l2⟩:=gV mD
   have hI:jl P w D2 (.agg r') (.agg vs):=.agg r' vs f (by rw[h1,l1]) (fun b hb=>by
    obtain⟨j,hj,rfl⟩:=List.getElem_of_mem hb
    obtain⟨a0,kh,hf⟩:=l2 j _ (List.getElem?_eq_getElem hj)
    exact((ih _ _ _ (h4 j a0 kh) hf).2 (h2 a0 (List.mem_of_getElem? kh))).2) (fun j hj=>h3 j (by rw[<-l1];exact hj)) (fun j b hj=>by
    obtain⟨a0,kh,hf⟩:=l2 j b hj
    exact((ih _ _ _ (h4 j a0 kh) hf).2 (h2 a0 (List.mem_of_getElem? kh))).1)
   exact⟨.ev _ _ hI,fun hc=>by simp[AV.cell]at hc⟩
  |ib cs=>
   rw[fa]at h
   simp only[Option.map_eq_some_iff]at h
   obtain⟨r',mD,rfl⟩:=h
   obtain⟨vs,f,rfl,h1,h3,h4⟩:=sg hr
   obtain⟨l1,l2⟩:=gV mD
   exact⟨.ib r' vs f (by rw[h1,l1]) (fun j hj=>h3 j (by rw[<-l1];exact hj)) (fun j b hj=>by
    obtain⟨a0,kh,hf⟩:=l2 j b hj
    exact(ih _ _ _ (h4 j a0 kh) hf).1),fun hc=>by simp[AV.cell]at hc⟩
  |fn f cr=>rw[fa]at h<;>(try simp at h)<;>(try(intros;simp_all))
  |int k m=>rw[fa]at h<;>(try simp at h)<;>(try subst h)<;>(try(rw[db hr];exact⟨.ev _ _ (.int _ _),fun _=>⟨.int _ _,rfl⟩⟩))<;>(try(intros;simp_all))
  |bool b=>rw[fa]at h<;>(try simp at h)<;>(try subst h)<;>(try(rw[eG hr];exact⟨.ev _ _ (.bool _),fun _=>⟨.bool _,rfl⟩⟩))<;>(try(intros;simp_all))
  |str b=>rw[fa]at h<;>(try simp at h)<;>(try subst h)<;>(try(rw[eT hr];exact⟨.ev _ _ (.str _),fun _=>⟨.str _,rfl⟩⟩))<;>(try(intros;simp_all))
  |bC=>rw[fa]at h<;>(try simp at h)<;>(try subst h)<;>(try(rw[ju hr];exact⟨.ev _ _ .bC,fun _=>⟨.bC,rfl⟩⟩))<;>(try(intros;simp_all))
  |iG=>rw[fa]at h<;>(try simp at h)<;>(try subst h)<;>(try(rw[tt hr];exact⟨.ev _ _ .iG,fun _=>⟨.iG,rfl⟩⟩))<;>(try(intros;simp_all))
  |iP=>rw[fa]at h<;>(try simp at h)<;>(try subst h)<;>(try(rw[zj hr];exact⟨.ev _ _ .iP,fun _=>⟨.iP,rfl⟩⟩))<;>(try(intros;simp_all))
  |tX f cr=>rw[fa]at h<;>(try simp at h)<;>(try(intros;simp_all))
  |gj=>rw[fa]at h<;>(try simp at h)<;>(try subst h)<;>(try(cases hr with|ev _ _ hr=>cases hr;exact both .gj rfl))<;>(try(intros;simp_all))
  |sl rows=>rw[fa]at h<;>(try simp at h)<;>(try(intros;simp_all))
  |cK cs=>rw[fa]at h<;>(try simp at h)<;>(try(intros;simp_all))
end
end Go.Proofs.YtihgaadadaekmaaGreatDoor.V

namespace Go.Proofs.YtihgaadadaekmaaGreatDoor.V
open Go.RowKit
variable {P:Program} {w w':World} {D D':Nat->Prop} {ι ι':Names}
section
variable {g:Rows} {hs:Nat} {env:Env} {a:Act} {o:Oper} {id:Id} {v:AV}
theorem fJ.EA (S:fJ P hs D ι g w) {i:Id} {r r':Row} {B:qN} {ob:Obj} (hid:g i=some r) (hw:r.w=true) (hB:ι i=some B)
  (hR:(∀a v,cw P w D ι a v->cw P {w with heap:=w.heap.setIfInBounds B.b ob} D ι a v)->(w.heap.setIfInBounds B.b ob)[B.b]? =some ob->gM P {w with heap:=w.heap.setIfInBounds B.b ob} D ι B r'):
  fJ P hs D ι (bK g i r') {w with heap:=w.heap.setIfInBounds B.b ob}/\Step hs D ι w D ι {w with heap:=w.heap.setIfInBounds B.b ob}:=by
 obtain⟨B0,yE,R,jz,km⟩:=S.row i r hid
 rw[hB]at yE;injection yE with yE;subst yE
 have other:∀b,b≠B.b->(w.heap.setIfInBounds B.b ob)[b]? =w.heap[b]? :=fun b hb=>by simp[Ne.symm hb]
 have hd:∀b,D b->(w.heap.setIfInBounds B.b ob)[b]? =w.heap[b]? :=fun b hb=>other b (by rintro rfl;exact km hw hb)
 have hr:∀a v,cw P w D ι a v->cw P {w with heap:=w.heap.setIfInBounds B.b ob} D ι a v:=fun a v h=>h.frame hd (fun _ h=>h) (fun _ _ h=>h)
 refine⟨⟨by simpa using S.lo,fun b hb=>by simpa using S.dead b hb,fun j q h=>?_,fun j j' q q' C C' h h' N3 hC Ar he=>?_⟩,⟨⟨rfl,rfl,rfl,by simp,fun k hk=>other k (by have:=jz hw;omega)⟩,hd,fun _ h=>h,fun _ _ h=>h,fun _ h=>.inl h⟩⟩
 ·unfold bK at h
  split at h
  ·rename_i e
   subst e
   injection h with h;subst h
   exact⟨B,hB,hR hr (by simp[R.lt]),fun _=>jz hw,fun _=>km hw⟩
  ·rename_i e
   obtain⟨C,hC,RC,k1,k2⟩:=S.row j q h
   refine⟨C,hC,RC.frame (other C.b (fun JK=>e ?_)) hr,k1,k2⟩
   exact(S.inj i j r q B C hid h hw hB hC JK.symm).symm
 ·unfold bK at h h'
  have get:∀j p,(if j=i then some r' else g j)=some p->∃p0,g j=some p0/\(p.w=true->p0.w=true):=fun j p hp=>by
   split at hp
   ·rename_i e;subst e;injection hp with hp;subst hp;exact⟨r,hid,fun _=>hw⟩
   ·exact⟨p,hp,fun h=>h⟩
  obtain⟨p,hp,MF⟩:=get _ _ h
  obtain⟨p',Lg,_⟩:=get _ _ h'
  exact S.inj j j' p p' C C' hp Lg (MF N3) hC Ar he
theorem B5 {s:TS} {x y:AV} {u v:Value} (he:fZ s x y=some true) (hx:cw P w D ι x u) (hy:cw P w D ι y v):u=v/\∀n,Instr.sameBits n u v=true:=by
 unfold fZ at he
 split at he
 ·split at he
  ·rename_i hk
   subst hk
   simp at he;subst he
   rw[db hx,db hy]
   exact⟨rfl,fun n=>by cases n<;>simp[Instr.sameBits]⟩
  ·cases he
 ·simp at he;subst he
  rw[eG hx,eG hy]
  exact⟨rfl,fun n=>by cases n<;>simp[Instr.sameBits]⟩
 ·simp at he;subst he
  rw[eT hx,eT hy]
  exact⟨rfl,fun n=>by cases n<;>simp[Instr.sameBits,Fh]⟩
 ·cases he
theorem yk {n:Nat}:∀{ts:List TS} {xs ys:List AV} {vs us:List Value},eX ts xs ys=some true->vs.length=xs.length->us.length=ys.length->(∀(j:Nat) (a:AV),xs[j]? =some a->∃u,vs[j]? =some u/\cw P w D ι a u)->(∀(j:Nat) (a:AV),ys[j]? =some a->∃u,us[j]? =some u/\cw P w D ι a u)->
  us.length=vs.length/\(us.zip vs).all (fun p=>Instr.sameBits n p.1 p.2)=true
 |[],[],[],vs,us,_,h1,h2,_,_=>by
  cases vs<;>cases us<;>simp_all
 |[],x::xs,ys,vs,us,h,_,_,_,_=>by simp[eX]at h
 |[],[],y::ys,vs,us,h,_,_,_,_=>by simp[eX]at h
 |t::ts,[],ys,vs,us,h,_,_,_,_=>by simp[eX]at h
 |t::ts,x::xs,[],vs,us,h,_,_,_,_=>by simp[eX]at h
 |t::ts,x::xs,y::ys,[],us,h,h1,_,_,_=>by simp at h1
 |t::ts,x::xs,y::ys,v::vs,[],h,_,h2,_,_=>by simp at h2
 |t::ts,x::xs,y::ys,v::vs,u::us,h,h1,h2,hx,hy=>by
  unfold eX at h
  split at h
  ·rename_i a b ha hb
   simp only[Option.some.injEq,Bool.and_eq_true]at h
   obtain⟨rfl,rfl⟩:=h
   obtain⟨v',mA,rv⟩:=hx 0 x rfl
   obtain⟨u',Cj,ru⟩:=hy 0 y rfl
   simp at mA Cj;subst mA;subst Cj
   obtain⟨e1,e2⟩:=B5 ha rv ru
   obtain⟨q1,q2⟩:=yk (n:=n) hb (by simpa using h1) (by simpa using h2) (fun j a hj=>by simpa using hx (j+1) a (by simpa using hj)) (fun j a hj=>by simpa using hy (j+1) a (by simpa using hj))
   refine⟨by simp[q1],?_⟩
   simp only[List.zip_cons_cons,List.all_cons,q2,Bool.and_true]
   rw[<-e1]
   have:=e2 n
   rw[<-e1]at this
   exact this
  ·cases h
theorem y9 {m:MK} {key:List AV}:∀{rows:List (List AV)} {i j:Nat},gG m key rows i=some (some j)->∃cs,i<=j/\rows[j-i]? =some cs/\eX m.ts key (cs.take m.ks)=some true
 |[],i,j,h=>by simp[gG]at h
 |cs::rows,i,j,h=>by
  unfold gG at h
  split at h
  ·rename_i hq
   simp at h;subst h
   exact⟨cs,Nat.le_refl _,by simp,hq⟩
  ·obtain⟨c,h1,h2,h3⟩:=y9 h
   exact⟨c,ab,by rw[show j-i=(j-(i+1))+1 by omega];simpa using h2,h3⟩
  ·cases h
theorem te {m:MK} {k:AV} {rows:List (List AV)} {fi:Option Nat} (h:gx m k rows=some fi):k.isAgg=m.ka/\k.cells.length=m.ks/\(k.cells.all AV.cell=true)/\gG m k.cells rows 0=some fi:=by
 unfold gx at h
 split at h
 ·rename_i hc;exact⟨hc.1,hc.2.1,hc.2.2,h⟩
 ·cases h
theorem GL {m:MK} {k y:AV} (h1:k.isAgg=m.ka) (h2:k.cells.length=m.ks):part m.ka m.ks (k.cells++[y])=some k/\(k.cells++[y])[m.ks]? =some y:=by
 refine⟨?_,by rw[List.getElem?_append_right ab,h2,Nat.sub_self];rfl⟩
 cases hk:m.ka with
 |false=>
  rw[hk]at h1
  rw[sH h1];rfl
 |true=>
  rw[hk]at h1
  cases k<;>simp[AV.isAgg]at h1
  rename_i cs
  simp only[AV.cells]at h2 ⊢
  simp only[part,if_true]
  rw[if_pos (by simp;omega),<-h2,List.take_left']
  rfl
theorem stays {k:TypeId} {m:MK} (hK:BQ P k m) {key kv:AV} {u zf:Value} {cs:List AV} (h1:key.isAgg=m.ka) (hr:cw P w D ι key u) (hp:part m.ka m.ks cs=some kv) (ho:cw P w D ι kv zf) (he:eX m.ts key.cells (cs.take m.ks)=some true):(Instr.keyThatStays zf u).run P w=.ok u w:=by
 have hs:Instr.sameBits 10000 zf u=true:=by
  rcases hK with⟨s,rfl,hs⟩|⟨fs,ts,rfl,pr,uv,dQ,di⟩
  ·rw[sH h1]at he
   cases cs with
   |nil=>simp[part]at hp
   |cons c l=>
    simp[part]at hp;subst hp
    simp only[MK.ks,List.length_cons,List.length_nil,Nat.zero_add,List.take_succ_cons,List.take_zero,eX]at he
    cases hq:fZ s key c with
    |none=>rw[hq]at he;simp at he
    |some b=>
     rw[hq]at he;simp at he;subst he
     obtain⟨e1,e2⟩:=B5 hq hr ho
     rw[<-e1]
     have:=e2 10000
     rwa [<-e1]at this
  ·cases key<;>simp[AV.isAgg]at h1
   rename_i ks
   simp only[part,if_true]at hp
   split at hp
   ·simp only[Option.some.injEq]at hp;subst hp
    obtain⟨vs,rfl,n1,r1⟩:=pK hr
    obtain⟨us,rfl,n2,r2⟩:=pK ho
    obtain⟨q1,q2⟩:=yk (n:=9999) (vs:=vs.toList) (us:=us.toList) he (by simpa[AV.cells]using n1) (by simpa using n2) (fun j a hj=>by simpa using r1 j a hj) (fun j a hj=>by simpa using r2 j a hj)
    simp only[Instr.sameBits,Bool.and_eq_true,beq_iff_eq]
    exact⟨by simpa using q1,q2⟩
   ·cases hp
 simp[Instr.keyThatStays,hs]
theorem G0 {es:Array MapEntry} {clock:Nat} (h:Km es clock) (k v:Value):Km (es.push ⟨k,v,clock⟩) (clock+1):=by
 refine⟨fun x hx=>?_,?_⟩
 ·simp only[Array.toList_push,List.mem_append,List.mem_singleton]at hx
  rcases hx with hx|rfl
  ·have:=h.1 x hx;omega
  ·exact Nat.lt_succ_self _
 ·simp only[Array.toList_push,List.map_append,List.map_cons,List.map_nil]
  refine List.nodup_append.2 ⟨h.2,by simp,fun a ha b hb=>?_⟩
  obtain⟨x,hx,rfl⟩:=List.mem_map.1 ha
  simp at hb;subst hb
  have:=h.1 x hx;omega
theorem BA {es:Array MapEntry} {clock:Nat} (h:Km es clock) (j:Nat) (k v:Value):Km (es.modify j fun e=>{e with key:=k,val:=v}) clock:=by
 have e:(es.modify j fun e=>{e with key:=k,val:=v}).toList.map (·.born)=es.toList.map (·.born):=by
  refine List.ext_getElem? fun i=>?_
  simp only[List.getElem?_map,Array.getElem?_toList,Array.getElem?_modify]
  split
  ·cases es[i]? <;>rfl
  ·rfl
 refine⟨fun x hx=>?_,by rw[e];exact h.2⟩
 have hb:x.born∈(es.modify j fun e=>{e with key:=k,val:=v}).toList.map (·.born):=List.mem_map_of_mem hx
 rw[e]at hb
 obtain⟨y,hy,hyb⟩:=List.mem_map.1 hb
 rw[<-hyb];exact h.1 y hy
theorem Em {es:Array MapEntry} {clock:Nat} (h:Km es clock) {j:Nat} (hj:j<es.size):Km (es.eraseIdxIfInBounds j) clock:=by
 have e:(es.eraseIdxIfInBounds j).toList=es.toList.eraseIdx j:=by
  unfold Array.eraseIdxIfInBounds
  rw[dif_pos hj,Array.toList_eraseIdx]
 refine⟨fun x hx=>h.1 x ((List.eraseIdx_sublist _ _).subset (by rwa [e]at hx)),?_⟩
 rw[e]
 exact((List.eraseIdx_sublist es.toList j).map (·.born)).nodup h.2
theorem yu {k y:AV} (h1:k.cells.all AV.cell=true) (h2:y.cell=true):∀a∈k.cells++[y],a.cell=true:=fun a ha=>by
 rcases List.mem_append.1 ha with ha|ha
 ·exact List.all_eq_true.1 h1 a ha
 ·rw[List.mem_singleton.1 ha];exact h2
theorem KD {t:TypeId} {x k y:Operand} {m:MK} {z:K} {x' k' y':O} {g':Rows} (S:fJ P hs D ι g w) (E:bu P w D ι env a) (ho:o.op=.mapUpdate t x k y∨o.op=.insert t x k y) (hc:qh P t=some (m,z)) (hx:cO P x=some x') (hk:cO P k=some k') (hy:cO P y=some y')
  (hv:bH (.set m) [cv env x',cv env k',cv env y'] g=some g'):zK P hs a o w D ι id .undef g':=by
 obtain⟨kt,e,i,zv,ht,hi,sZ,Pc,hK⟩:=pe hc
 simp only[bH,Option.bind_eq_some_iff]at hv
 obtain⟨p,hp,fi,JN,hv⟩:=hv
 split at hv
 ·rename_i hcond
  obtain⟨hw,hyc,_⟩:=hcond
  simp only[Option.some.injEq]at hv;subst hv
  obtain⟨B,hu,hg,hB,r6,es,clock,hb,eS,hlen,hM⟩:=wU S (cE E hx) hp
  have rk:=cE E hk
  have ry:=cE E hy
  obtain⟨Hy,res,hf,hF⟩:=sL (B:=B) hK rk eS hM JN
  obtain⟨k1,k2,k3,k4⟩:=te JN
  obtain⟨B',dn,R,_⟩:=S.row p.1 p.2 hg
  rw[hB]at dn;injection dn with dn;subst dn
  obtain⟨pk1,pk2⟩:=GL (y:=cv env y') k1 k2
  have dE:(getObj B.b).run P w=.ok (.map es clock) w:=MapKept.run_getObj_map hb
  rcases hF with⟨rfl,rfl⟩|⟨j,en,rfl,he,rfl⟩
  ·have mu:=S.EA (ob:=.map (es.push ⟨a.eval k,a.eval y,clock⟩) (clock+1)) (r':={p.2 with rows:=dO p.2.rows ((cv env k').cells++[cv env y']) none}) hg hw hB fun hr jS=>⟨R.sz,fun cs dh=>?_,fun tV=>(by rw[r6]at tV;cases tV),fun m' yJ=>?_,fun c hc=>(by rw[r6]at hc;cases hc)⟩
   ·refine⟨undef,_,ι,.inr ⟨?_,rfl⟩,mu.2,mu.1,cw.undef,fun _ _=>rfl⟩
    rcases ho with ho|ho<;>
    ·simp only[execOp,ho,Instr.mapUpdate,hu,Sem.run_bind,run_underlying ht,Result.andThen_ok,dE,Hy,hf,MapKept.run_setObj_map _ hb,Sem.run_pure]
   ·rcases List.mem_append.1 dh with h|h
    ·exact R.flat cs h
    ·rw[List.mem_singleton.1 h];exact yu k3 hyc
   ·rw[r6]at yJ;simp only[Option.some.injEq,BK.map.injEq]at yJ;subst yJ
    refine⟨(R.map m r6).1,_,_,jS,by simp[dO,eS],⟨fun cs dh=>?_,G0 hlen.2 _ _⟩,fun q cs hq=>?_⟩
    ·rcases List.mem_append.1 dh with h|h
     ·exact hlen.1 cs h
     ·rw[List.mem_singleton.1 h];simp[k2]
    ·rcases Nat.lt_or_ge q p.2.rows.length with dF|kK
     ·simp only[dO]at hq
      rw[List.getElem?_append_left dF]at hq
      obtain⟨en,kv,vv,q1,q2,q3,q4,q5⟩:=hM q cs hq
      exact⟨en,kv,vv,by rw[Array.getElem?_push_lt ab];rw[Array.getElem?_eq_getElem ab]at q1;simpa using q1,q2,q3,hr _ _ q4,hr _ _ q5⟩
     ·simp only[dO]at hq
      rw[List.getElem?_append_right kK]at hq
      have hq0:q=p.2.rows.length:=by
       have:=(List.getElem?_eq_some_iff.1 hq).1
       simp at this;omega
      subst hq0
      simp at hq;subst hq
      exact⟨⟨a.eval k,a.eval y,clock⟩,_,_,by rw[<-eS];simp,pk1,pk2,hr _ _ rk,hr _ _ ry⟩
  ·simp only[Nat.zero_add]at k4 JN hf ⊢
   obtain⟨Mq,_,Ax,heq⟩:=y9 k4
   simp only[Nat.sub_zero]at Ax
   obtain⟨PL,kv,vv,q1,q2,_,q4,_⟩:=hM j Mq Ax
   have Hz:PL=en:=by
    have h1:es.toList[j]? =some PL:=by simpa using q1
    rw[he]at h1;injection h1 with h1;exact h1.symm
   subst Hz
   have dQ:=stays (w:=w) hK k1 rk q2 q4 heq
   have mu:=S.EA (ob:=.map (es.modify j fun e=>{e with key:=a.eval k,val:=a.eval y}) clock) (r':={p.2 with rows:=dO p.2.rows ((cv env k').cells++[cv env y']) (some j)}) hg hw hB fun hr jS=>⟨R.sz,fun cs dh=>?_,fun tV=>(by rw[r6]at tV;cases tV),fun m' yJ=>?_,fun c hc=>(by rw[r6]at hc;cases hc)⟩
   ·refine⟨undef,_,ι,.inr ⟨?_,rfl⟩,mu.2,mu.1,cw.undef,fun _ _=>rfl⟩
    rcases ho with ho|ho<;>
    ·simp only[execOp,ho,Instr.mapUpdate,hu,Sem.run_bind,run_underlying ht,Result.andThen_ok,dE,Hy,hf,q1,Option.map_some,Option.getD_some,dQ,MapKept.run_setObj_map _ hb,Sem.run_pure]
   ·rcases List.mem_or_eq_of_mem_set dh with h|h
    ·exact R.flat cs h
    ·rw[h];exact yu k3 hyc
   ·rw[r6]at yJ;simp only[Option.some.injEq,BK.map.injEq]at yJ;subst yJ
    have gq:=(List.getElem?_eq_some_iff.1 Ax).1
    refine⟨(R.map m r6).1,_,_,jS,by simp[dO,eS],⟨fun cs dh=>?_,BA hlen.2 _ _ _⟩,fun q cs hq=>?_⟩
    ·rcases List.mem_or_eq_of_mem_set dh with h|h
     ·exact hlen.1 cs h
     ·rw[h];simp[k2]
    ·simp only[dO,List.getElem?_set]at hq
     split at hq
     ·rename_i Mz
      subst Mz
      (try rw[if_pos gq]at hq)
      injection hq with hq;subst hq
      exact⟨{PL with key:=a.eval k,val:=a.eval y},_,_,by rw[Array.getElem?_modify];simp[q1],pk1,pk2,hr _ _ rk,hr _ _ ry⟩
     ·rename_i Mz
      obtain⟨en,kv,vv,q1,q2,q3,q4,q5⟩:=hM q cs hq
      exact⟨en,kv,vv,by rw[Array.getElem?_modify];simp[Mz,q1],q2,q3,hr _ _ q4,hr _ _ q5⟩
 ·cases hv
theorem KC {t t':TypeId} {x k:Operand} {m:MK} {z:K} {x' k':O} {g':Rows} (S:fJ P hs D ι g w) (E:bu P w D ι env a) (ho:o.op=.call {callee:=.builtin .delete,args:= #[x,k],argTypes:= #[t,t']}) (hc:qh P t=some (m,z)) (hx:cO P x=some x') (hk:cO P k=some k')
  (hv:bH (.del m) [cv env x',cv env k'] g=some g'):zK P hs a o w D ι id .undef g':=by
 obtain⟨kt,e,i,zv,ht,hi,sZ,Pc,hK⟩:=pe hc
 simp only[bH,Option.bind_eq_some_iff]at hv
 obtain⟨p,hp,fi,JN,hv⟩:=hv
 split at hv
 ·rename_i hw
  simp only[Option.some.injEq]at hv;subst hv
  obtain⟨B,hu,hg,hB,r6,es,clock,hb,eS,hlen,hM⟩:=wU S (cE E hx) hp
  have rk:=cE E hk
  obtain⟨Hy,res,hf,hF⟩:=sL (B:=B) hK rk eS hM JN
  obtain⟨k1,k2,k3,k4⟩:=te JN
  obtain⟨B',dn,R,_⟩:=S.row p.1 p.2 hg
  rw[hB]at dn;injection dn with dn;subst dn
  have dE:(getObj B.b).run P w=.ok (.map es clock) w:=MapKept.run_getObj_map hb
  have go:∀ob,(Builtin.delete_ #[t,t'] o.type #[a.eval x,a.eval k]).run P w=.ok (.tuple #[]) {w with heap:=w.heap.setIfInBounds B.b ob}->(execOp a.eval o).run P w=.ok (.value undef) {w with heap:=w.heap.setIfInBounds B.b ob}:=fun ob h=>by
   simp only[execOp,ho,resolve,Sem.run_bind,Sem.run_pure,Result.andThen_ok,invoke,builtin,Array.map]
   simp[h,undef]
  rcases hF with⟨rfl,rfl⟩|⟨j,en,rfl,he,rfl⟩
  ·have mu:=S.EA (ob:=.map es clock) (r':={p.2 with rows:=ea p.2.rows none}) hg hw hB fun hr jS=>⟨R.sz,R.flat,fun tV=>(by rw[r6]at tV;cases tV),fun m' yJ=>?_,fun c hc=>(by rw[r6]at hc;cases hc)⟩
   ·refine⟨undef,_,ι,.inl (go _ ?_),mu.2,mu.1,cw.undef,fun _ _=>rfl⟩
    simp[Builtin.delete_,hu,run_underlying ht,dE,Hy,hf,MapKept.run_setObj_map _ hb]
   ·rw[r6]at yJ;simp only[Option.some.injEq,BK.map.injEq]at yJ;subst yJ
    exact⟨(R.map m r6).1,_,_,jS,eS,hlen,fun q cs hq=>by
     obtain⟨en,kv,vv,q1,q2,q3,q4,q5⟩:=hM q cs hq
     exact⟨en,kv,vv,q1,q2,q3,hr _ _ q4,hr _ _ q5⟩⟩
  ·simp only[Nat.zero_add]at hf ⊢
   have gq:j<es.size:=by have:=(List.getElem?_eq_some_iff.1 he).1;simpa using this
   have mu:=S.EA (ob:=.map (es.eraseIdxIfInBounds j) clock) (r':={p.2 with rows:=ea p.2.rows (some j)}) hg hw hB fun hr jS=>⟨R.sz,fun cs dh=>R.flat cs (List.mem_of_mem_eraseIdx dh),fun tV=>(by rw[r6]at tV;cases tV),fun m' yJ=>?_,fun c hc=>(by rw[r6]at hc;cases hc)⟩
   ·refine⟨undef,_,ι,.inl (go _ ?_),mu.2,mu.1,cw.undef,fun _ _=>rfl⟩
    simp[Builtin.delete_,hu,run_underlying ht,dE,Hy,hf,MapKept.run_setObj_map _ hb]
   ·rw[r6]at yJ;simp only[Option.some.injEq,BK.map.injEq]at yJ;subst yJ
    have he2:∀q,(es.eraseIdxIfInBounds j)[q]? =(es.toList.eraseIdx j)[q]? :=fun q=>by
     unfold Array.eraseIdxIfInBounds
     rw[dif_pos gq,<-Array.getElem?_toList,Array.toList_eraseIdx]
    refine⟨(R.map m r6).1,_,_,jS,by simp[ea,Array.eraseIdxIfInBounds,gq,List.length_eraseIdx,<-eS],⟨fun cs dh=>hlen.1 cs (List.mem_of_mem_eraseIdx dh),Em hlen.2 gq⟩,fun q cs hq=>?_⟩
    simp only[ea,List.getElem?_eraseIdx]at hq
    split at hq
    ·rename_i dF
     obtain⟨en,kv,vv,q1,q2,q3,q4,q5⟩:=hM q cs hq
     exact⟨en,kv,vv,by rw[he2,List.getElem?_eraseIdx,if_pos dF];simpa using q1,q2,q3,hr _ _ q4,hr _ _ q5⟩
    ·rename_i dF
     obtain⟨en,kv,vv,q1,q2,q3,q4,q5⟩:=hM (q+1) cs hq
     exact⟨en,kv,vv,by rw[he2,List.getElem?_eraseIdx,if_neg dF];simpa using q1,q2,q3,hr _ _ q4,hr _ _ q5⟩
 ·cases hv
end
end Go.Proofs.YtihgaadadaekmaaGreatDoor.V
