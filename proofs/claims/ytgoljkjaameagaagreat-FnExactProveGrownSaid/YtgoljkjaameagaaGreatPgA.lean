/- A small language in which the program's functions are read by value: its values, its operations, its code, and how the program's code is brought into it. -/
import Derived.WalkKit
import Derived.WalkSpells
import Derived.WalkLawsBesides
import Derived.Lib.Hide
import Derived.Great.BuildSlice
import Derived.Conc.LoneCalls
import Derived.MapKept
import Derived.WideKeyRuns
set_option linter.unusedVariables false
set_option linter.unusedSimpArgs false
set_option maxRecDepth 100000
set_option maxHeartbeats 16000000
namespace Go.Proofs.YtgoljkjaameagaaGreat.V
open Go.RowKit
structure Id where
  site:Nat
  ck:Nat
  deriving DecidableEq,Repr
inductive TS where
  |tI|tB|tS
  deriving Repr,DecidableEq
structure MK where
  ka:Bool
  ts:List TS
  deriving Repr,DecidableEq
inductive AV where
  |int (k:IntKind) (n:Int)
  |bool (b:Bool)
  |str (s:ByteArray)
  |bl|gT|jd
  |sl (rows:List (List AV))
  |own (id:Id) (off len:Nat)
  |ptr (id:Id) (i off:Nat)
  |di (cs:List AV)
  |agg (cs:List AV)
  |gD (vs:List AV)
  |fn (f:Nat) (cN:List AV)
  |map (id:Id) (m:MK)
  |jo
  |uj (f:Nat) (first:List AV)
  |rL (id:Id)
  deriving Inhabited
def AV.undef:AV:=.gD []
def AV.cell:AV->Bool
  | .agg _| .gD _=>false
  |_=>true
def AV.cells:AV->List AV
  | .agg cs=>cs
  |v=>[v]
inductive K where
  |int (k:IntKind) (n:Int)
  |bool (b:Bool)
  |str (l:List UInt8)
  |bl|gT|jd|jo
  deriving Repr,DecidableEq
def K.val:K->Value
  | .int k n=>.int k n
  | .bool b=>.bool b
  | .str l=>.string ⟨l.toArray⟩
  | .bl=>.slice none 0 0
  | .gT=>.pointer none
  | .jd=>.nilFunc
  | .jo=>.map none
def K.av:K->AV
  | .int k n=>.int k n
  | .bool b=>.bool b
  | .str l=>.str ⟨l.toArray⟩
  | .bl=>.bl
  | .gT=>.gT
  | .jd=>.jd
  | .jo=>.jo
def GR:Value->Option K
  | .int k n=>some (.int k n)
  | .bool b=>some (.bool b)
  | .string s=>some (.str s.data.toList)
  | .slice none 0 0=>some .bl
  | .pointer none=>some .gT
  | .nilFunc=>some .jd
  | .map none=>some .jo
  |_=>none
inductive O where
  |t (n:Nat)
  |k (c:K)
  |ka (cs:List K)
  |f (n:Nat)
  deriving Repr,DecidableEq
inductive MQ where
  |new (m:MK)
  |look (m:MK) (ok:Bool) (zero:K)
  |len (m:MK)
  deriving Repr,DecidableEq
inductive MW where
  |set (m:MK)
  |del (m:MK)
  deriving Repr,DecidableEq
inductive gE where
  |dm (x:O)
  |pick (c a b:O)
  |new (zero:List K)
  |box (x:O)
  |build (zero:List K) (parts:List (Nat×Nat×O))
  |l5 (sz len:Nat) (parts:List O)
  |load (agg:Bool) (n:Nat) (a:O)
  |store (n:Nat) (a x:O)
  |A8 (x:O)
  |bin (op:BinOp) (k:IntKind) (x y:O)
  |sh (left:Bool) (x y:O)
  |Lr (op:BinOp) (x y:O)
  |Oa (neg:Bool) (t:TS) (x y:O)
  |SH (neg:Bool) (ts:List TS) (x y:O)
  |QY (neg L9:Bool) (x:O)
  |SI (neg:Bool) (x:O)
  |not (x:O)
  |neg (x:O)
  |conv (k:IntKind) (x:O)
  |Fc (x:O)
  |slice (sz:Nat) (x:O) (lo hi:Option O)
  |AK (x:O) (lo hi:Option O)
  |fU (off:Nat) (x:O)
  |field (agg:Bool) (off n:Nat) (x:O)
  |dL (sz:Nat) (x i:O)
  |L4 (len sz:Nat) (x i:O)
  |L6 (x i:O)
  |eF (agg:Bool) (len n:Nat) (x i:O)
  |extract (i:Nat) (x:O)
  |len (x:O)
  |Md (x:O)
  |append (sz:Nat) (x y:O)
  |copy (sz:Nat) (x y:O)
  |clear (zero:List K) (x:O)
  |Mi (f:Nat) (cN:List O)
  |Mj (f:Nat) (first:List O)
  |j7 (zero:List K) (len cap:O)
  |call (f:Nat) (args:List O)
  |tU (x:O) (args:List O)
  |mq (q:MQ) (xs:List O)
  |mw (q:MW) (xs:List O)
  |JK (x:O)
  |JC (x:O)
  |snd (x y:O)
  |Pu (x:O)
  |bad
  deriving Repr,DecidableEq
structure bq where
  dst:Option Nat
  op:gE
  guard:Option (Nat×Bool)
  site:Nat
  hid:List Nat
  deriving Repr,DecidableEq
def q (d:Nat) (op:gE) (s:Nat):bq:=⟨some d,op,none,s,[]⟩
inductive VC where
  |skip
  |eJ (draw:Bool) (ops:List bq)
  |seq (a b:VC)
  |cond (c:O) (x y:VC)
  |block (id:Nat) (c:VC)
  |loop (c:VC)
  |exit (id:Nat)
  |ret
  |one (o:bq) (c:VC)
  |both (a b:VC)
  |loc (t s:Nat) (y:O) (c:VC)
  |N0 (ops:List bq)
  deriving Repr,DecidableEq
inductive nT where
  |tmp (t:Nat)
  |cell (agg:Bool) (n:Nat) (t:Nat)
  deriving Repr,DecidableEq
structure A7 where
  ntmps:Nat
  zb:Nat
  body:VC
  res:List nT
  deriving Repr,DecidableEq
def fJ (P:Program) (f:Nat):Bool:=
  match P.funcs[f]? with
  |some fn=>fn.body.isSome&& !(fn.name== "runtime.NumGoroutine")
  |none=>false
def cO (P:Program):Operand->Option O
  | .tmp t=>some (.t t)
  | .const (.agg cs)=>(cs.toList.mapM GR).map O.ka
  | .const v=>(GR v).map O.k
  | .global _=>none
  | .func f=>if fJ P f then some (.f f)else none
def jP (P:Program) (t:TypeId):Option (List K):=
  match P.info? t with
  |some i=>match i.zero with
    |some v=>if v.cells.size=i.size then v.cells.toList.mapM GR else none
    |none=>none
  |none=>none
def dZ (P:Program) (t:TypeId):Option Nat:=(P.info? t).map (·.size)
def n9 (P:Program) (t:TypeId):Option Bool:=
  match P.underlying t with
  |some (.struct _)|some (.array _ _)=>some true
  |some _=>some false
  |none=>none
inductive TK where
  |sc (t:TS)|ag (ts:List TS)
  deriving Repr,DecidableEq
def fq (P:Program) (t:TypeId):Option TS:=
  match P.underlying t with
  |some .bool=>some .tB
  |some (.int _)=>some .tI
  |some .string=>some .tS
  |_=>none
def DE (P:Program) (inner:List Field->Option (List TS)):Nat->List Field->Option (List TS)
  |_,[]=>some []
  |off,f::r=>
    if f.offset=off/\f.name≠ "_" then
      match fq P f.type with
      |some t=>if n9 P f.type=some false then(DE P inner (off+1) r).map (t::·)else none
      |none=>match P.underlying f.type with
        |some (.struct fs)=>if !P.stoodInHeld f.type then match inner fs.toList with
          |some ts=>if dZ P f.type=some ts.length/\ts≠[]then(DE P inner (off+ts.length) r).map (ts++·)else none
          |none=>none else none
        |_=>none
    else none
def eK (P:Program):Nat->Nat->List Field->Option (List TS)
  |0,_,[]=>some []
  |0,_,_::_=>none
  |d+1,off,fs=>DE P (eK P d 0) off fs
def TY (P:Program) (t:TypeId):Option TK:=
  match fq P t with
  |some s=>some (.sc s)
  |none=>match P.underlying t with
    |some (.struct fs)=>if !P.stoodInHeld t&& !P.eqGuardType P.depth t then(eK P 4 0 fs.toList).map TK.ag else none
    |_=>none
def sV (P:Program) (fs:Array Field):List (Nat×O)->Option (List (Nat×Nat×O))
  |[]=>some []
  |(i,x)::r=>match fs[i]? with
    |some f=>match dZ P f.type with
      |some n=>(sV P fs r).map ((f.offset,n,x)::·)
      |none=>none
    |none=>none
def s4 (P:Program) (ps:Array (Nat×Operand)):Option (List (Nat×O)):=ps.toList.mapM fun(i,x)=>(cO P x).map (i,·)
def rJ (P:Program):Option Operand->Option (Option O)
  |none=>some none
  |some x=>(cO P x).map some
def sY (P:Program) (neg:Bool) (t:TypeId) (x y:Operand):Option gE:=
  match y with
  | .const (.slice none 0 0)=>match P.underlying t with
    |some (.slice _)=>(cO P x).map (gE.QY neg false)
    |_=>none
  | .const .nilFunc=>match P.underlying t with
    |some (.func ..)=>(cO P x).map (gE.QY neg true)
    |_=>none
  | .const (.pointer none)=>match P.underlying t with
    |some (.pointer _)=>(cO P x).map (gE.SI neg)
    |_=>none
  |_=>match TY P t with
    |some (.sc s)=>do pure (.Oa neg s (<-cO P x) (<-cO P y))
    |some (.ag ts)=>do pure (.SH neg ts (<-cO P x) (<-cO P y))
    |_=>none
def vV (P:Program) (op:BinOp) (t:TypeId) (x y:Operand):Option gE:=
  match op with
  | .eql=>sY P false t x y
  | .neq=>sY P true t x y
  | .shl=>do pure (.sh true (<-cO P x) (<-cO P y))
  | .shr=>do pure (.sh false (<-cO P x) (<-cO P y))
  |op=>match P.underlying t with
    |some (.int k)=>do pure (.bin op k (<-cO P x) (<-cO P y))
    |some .string=>do pure (.Lr op (<-cO P x) (<-cO P y))
    |_=>none
def sZ (P:Program) (t:TypeId):Option (MK×K):=
  match P.underlying t with
  |some (.map k e)=>match n9 P e,(P.info? e).bind (·.zero),fq P k,P.underlying k with
    |some false,some zv,some s,_=>(GR zv).map fun z=>(⟨false,[s]⟩,z)
    |some false,some zv,none,some (.struct fs)=>match eK P 4 0 fs.toList,GR zv with
      |some ts,some z=>if !P.stoodInHeld k/\fs.toList.all (fun f=>(fq P f.type).isSome)then some (⟨true,ts⟩,z)else none
      |_,_=>none
    |_,_,_,_=>none
  |_=>none
def nI (P:Program) (c:Call):Option gE:=
  match c.callee with
  | .builtin .len=>match c.args.toList,c.argTypes.toList with
    |[x],[t]=>match P.underlying t with
      |some (.slice _)=>(cO P x).map gE.len
      |some .string=>(cO P x).map gE.Md
      |some (.map _ _)=>match sZ P t,cO P x with
        |some (m,_),some x=>some (.mq (.len m) [x])
        |_,_=>none
      |some (.chan _ _)=>(cO P x).map gE.JC
      |_=>none
    |_,_=>none
  | .builtin .append=>match c.args.toList,c.argTypes.toList with
    |[x,y],[t,u]=>match P.underlying t with
      |some (.slice e)=>match dZ P e,jP P e,P.info? e with
        |some (sz+1),some _,some i=>if i.bytes<=32768/\t=u then do pure (.append (sz+1) (<-cO P x) (<-cO P y))else none
        |_,_,_=>none
      |_=>none
    |_,_=>none
  | .builtin .clear=>match c.args.toList,c.argTypes.toList with
    |[x],[t]=>match P.underlying t with
      |some (.slice e)=>match dZ P e,jP P e with
        |some (_+1),some z=>(cO P x).map (gE.clear z)
        |_,_=>none
      |_=>none
    |_,_=>none
  | .value (.func f)=>if fJ P f then(c.args.toList.mapM (cO P)).map (gE.call f)else none
  | .value (.tmp t)=>(c.args.toList.mapM (cO P)).map (gE.tU (.t t))
  | .builtin .delete=>match c.args.toList,c.argTypes.toList with
    |[x,k],[t,_]=>match sZ P t,cO P x,cO P k with
      |some (m,_),some x,some k=>some (.mw (.del m) [x,k])
      |_,_,_=>none
    |_,_=>none
  | .builtin .copy=>match c.args.toList,c.argTypes.toList with
    |[x,y],[t,_]=>match P.underlying t with
      |some (.slice e)=>match dZ P e with
        |some (sz+1)=>do pure (.copy (sz+1) (<-cO P x) (<-cO P y))
        |_=>none
      |_=>none
    |_,_=>none
  |_=>none
def rj (P:Program) (o:Op):Option gE:=
  match o with
  | .move x| .assign x=>(cO P x).map gE.dm
  | .pick c a b=>do pure (.pick (<-cO P c) (<-cO P a) (<-cO P b))
  | .alloc e=>(jP P e).map gE.new
  | .box _ x=>(cO P x).map gE.box
  | .load t a=>do pure (.load (<-n9 P t) (<-dZ P t) (<-cO P a))
  | .store t a x=>do pure (.store (<-dZ P t) (<-cO P a) (<-cO P x))
  | .nilCheck x=>(cO P x).map gE.A8
  | .binOp op t x y _=>vV P op t x y
  | .unOp .not _ x=>(cO P x).map gE.not
  | .unOp .neg _ x=>(cO P x).map gE.neg
  | .convert s d x=>match P.underlying s,P.underlying d with
    |some (.int _),some (.int k)=>(cO P x).map (gE.conv k)
    |some .string,some .string=>(cO P x).map gE.Fc
    |_,_=>none
  | .slice t x lo hi none=>match P.underlying t with
    |some (.slice e)=>do
      pure (.slice (<-dZ P e) (<-cO P x) (<-rJ P lo) (<-rJ P hi))
    |some .string=>do pure (.AK (<-cO P x) (<-rJ P lo) (<-rJ P hi))
    |_=>none
  | .fieldAddr s x i=>match P.underlying s with
    |some (.struct fs)=>match fs[i]? with
      |some f=>match dZ P f.type with
        |some (_+1)=>(cO P x).map (gE.fU f.offset)
        |_=>none
      |none=>none
    |_=>none
  | .field s x i=>match P.underlying s with
    |some (.struct fs)=>match fs[i]? with
      |some f=>do pure (.field (<-n9 P f.type) f.offset (<-dZ P f.type) (<-cO P x))
      |none=>none
    |_=>none
  | .indexAddr t x i=>match P.underlying t with
    |some (.slice e)=>match dZ P e with
      |some (m+1)=>do pure (.dL (m+1) (<-cO P x) (<-cO P i))
      |_=>none
    |some (.array len e)=>match dZ P e with
      |some (m+1)=>do pure (.L4 len (m+1) (<-cO P x) (<-cO P i))
      |_=>none
    |_=>none
  | .index t x i=>match P.underlying t with
    |some .string=>do pure (.L6 (<-cO P x) (<-cO P i))
    |some (.array len e)=>do pure (.eF (<-n9 P e) len (<-dZ P e) (<-cO P x) (<-cO P i))
    |_=>none
  | .extract x i=>(cO P x).map (gE.extract i)
  | .build t ps=>match P.underlying t with
    |some (.struct fs)=>
      match jP P t,s4 P ps with
      |some z,some l=>
        if fs.all (fun f=>(P.info? f.type).isSome)then(sV P fs l).map (gE.build z)else none
      |_,_=>none
    |some (.array _ e)=>
      match jP P t,s4 P ps,dZ P e with
      |some z,some l,some n=>some (.build z (l.map fun(i,x)=>(i*n,n,x)))
      |_,_,_=>none
    |_=>none
  | .buildSlice t len ps=>match P.underlying t with
    |some (.slice e)=>match dZ P e,jP P e,s4 P ps with
      |some (sz+1),some _,some l=>
        if len*(sz+1)<=4096/\l.map (·.1)=List.range len then some (.l5 (sz+1) len (l.map (·.2)))else none
      |_,_,_=>none
    |_=>none
  | .makeFunc (.func f) first cN=>
    if first= #[]/\fJ P f then(cN.toList.mapM (cO P)).map (gE.Mi f)else if cN= #[]/\fJ P f then(first.toList.mapM (cO P)).map (gE.Mj f)else none
  | .makeSlice t l c=>match P.underlying t with
    |some (.slice e)=>match dZ P e,jP P e,P.info? e with
      |some (_+1),some z,some i=>if i.bytes<=32768 then do pure (.j7 z (<-cO P l) (<-cO P c))else none
      |_,_,_=>none
    |_=>none
  | .call c=>nI P c
  | .makeChan t n=>match P.underlying t with
    |some (.chan _ e)=>match P.info? e with
      |some i=>if i.bytes<=32768 then(cO P n).map gE.JK else none
      |none=>none
    |_=>none
  | .send x y=>do pure (.snd (<-cO P x) (<-cO P y))
  | .recv t x false=>match P.underlying t with
    |some (.chan _ e)=>match (P.info? e).bind (·.zero)with
      |some _=>(cO P x).map gE.Pu
      |none=>none
    |_=>none
  | .makeMap t none=>match sZ P t with
    |some (m,_)=>some (.mq (.new m) [])
    |none=>none
  | .lookup t x k ok=>match sZ P t,cO P x,cO P k with
    |some (m,z),some x,some k=>some (.mq (.look m ok z) [x,k])
    |_,_,_=>none
  | .mapUpdate t x k v| .insert t x k v=>match sZ P t,cO P x,cO P k,cO P v with
    |some (m,_),some x,some k,some v=>some (.mw (.set m) [x,k,v])
    |_,_,_,_=>none
  | .makeInterface _ _=>some .bad
  | .panic _=>some .bad
  |_=>none
inductive TJ where
  |pure|look|make|write
  deriving DecidableEq,Repr
def gE.cls:gE->TJ
  | .new _| .box _| .l5 .. | .j7 .. | .mq (.new _) _| .JK _=>.make
  | .load .. | .dL .. | .slice .. | .call .. | .tU .. | .mq .. | .JC _=>.look
  | .store .. | .append .. | .copy .. | .clear .. | .mw .. | .snd .. | .Pu _=>.write
  |_=>.pure
def clash:TJ->TJ->Bool
  | .pure,_|_,.pure=>false
  | .write,_|_,.write=>true
  |_,_=>false
def jH (ops:Array Oper):Array Nat:=Region.before ops
def qW:gE->Bool:=fun o=>o.cls==.make||o.cls==.write
def gE.l6:gE->Bool
  | .call .. | .tU .. =>true
  |_=>false
def Ds (ops:Array Oper) (o:Oper):Option (Option (Nat×Bool)):=
  match o.guard with
  |none=>some none
  |some (i,b)=>match (ops[i]?).bind (·.dst)with
    |some t=>some (some (t,b))
    |none=>none
def kQ (P:Program) (ops:Array Oper) (nt site0:Nat) (draw mk:Bool) (bs:Array Nat) (hidden:List (Nat×Bool)) (j:Nat) (o:Oper):Option bq:=do
  let v <-rj P o.op
  let g <-Ds ops o
  if (o.dst.all fun d=>decide (d<nt))then
    pure {dst:=o.dst,op:=v,guard:=g,site:=site0+j,hid:=if draw then(hidden.filter fun(i,m)=>m&& !(bs.getD j 0).testBit i&&(i !=j||mk&&v.l6)).map fun(i,_)=>site0+i else[]}
  else none
def allM {α:Type} (f:Nat->Oper->Option α):List Oper->Nat->Option (List α)
  |[],_=>some []
  |o::r,j=>do pure ((<-f j o)::(<-allM f r (j+1)))
def gU:O->List Nat
  | .t n=>[n]
  |_=>[]
def w9:Option O->List Nat
  |some x=>gU x
  |none=>[]
def gE.gL:gE->List Nat
  | .clear _ x| .dm x| .box x| .load _ _ x| .A8 x| .QY _ _ x| .SI _ x| .not x| .neg x| .conv _ x| .Fc x| .fU _ x| .field _ _ _ x| .extract _ x| .len x| .Md x| .JK x| .JC x| .Pu x=>gU x
  | .pick c a b=>gU c++gU a++gU b
  | .new _| .bad=>[]
  | .build _ ps=>ps.flatMap fun(_,_,x)=>gU x
  | .l5 _ _ ps=>ps.flatMap gU
  | .store _ a x| .snd a x=>gU a++gU x
  | .bin _ _ x y| .sh _ x y| .Lr _ x y| .Oa _ _ x y| .SH _ _ x y| .dL _ x y| .L4 _ _ x y| .L6 x y| .eF _ _ _ x y| .append _ x y| .copy _ x y| .j7 _ x y=>gU x++gU y
  | .slice _ x lo hi| .AK x lo hi=>gU x++w9 lo++w9 hi
  | .Mi _ l| .Mj _ l| .call _ l| .mq _ l| .mw _ l=>l.flatMap gU
  | .tU x l=>gU x++l.flatMap gU
def bq.gL (v:bq):List Nat:=v.op.gL++(match v.guard with|some (t,_)=>[t]|none=>[])
def tK (x y:bq):Bool:=
  (match x.dst with
   |some d=> !y.gL.contains d&&y.dst !=some d
   |none=>true)&&
  (match y.dst with
   |some d=> !x.gL.contains d
   |none=>true)
def bq.makes (v:bq):Bool:=qW v.op||v.op.l6&&v.hid.contains v.site
def Fo (x y:bq):Bool:=
  tK x y&& !clash x.op.cls y.op.cls&&(!x.makes||y.hid.contains x.site)&&(!y.makes||x.hid.contains y.site)&&x.site !=y.site
def Fg (ops:Array Oper):Bool:=ops.toList.zipIdx.all fun(o,j)=>o.after.all fun e=> !Region.binds .any e||decide (e.on<j)
def oM (ops:Array Oper) (vl:List bq) (bs:Array Nat):Bool:=
  Fg ops&&vl.zipIdx.all fun(y,j)=>vl.zipIdx.all fun(x,i)=> !(decide (i<j))||(bs.getD j 0).testBit i||Fo x y
def rK (P:Program) (nt site0:Nat) (ops:Array Oper) (draw mk:Bool):Option (List bq):=
  let bs:=if draw then jH ops else #[]
  let hidden:=if draw then ops.toList.zipIdx.map fun(o,i)=>(i,((rj P o.op).map fun v=>qW v||mk&&v.l6).getD false)else[]
  match allM (kQ P ops nt site0 draw mk bs hidden) ops.toList 0 with
  |some vl=>if !draw||oM ops vl bs then some vl else none
  |none=>none
def k8 (v:bq):Bool:= !v.op.l6&&v.op.cls !=.write
def yK (x y:bq):Bool:=tK x y&&x.op.cls==.pure||Fo x y&&k8 x&&k8 y
def qG (ops:Array Oper) (vl:List bq) (bs:Array Nat) (listed:Array Bool) (i:Nat):Bool:=
  match vl[i]? with
  |some x=>(List.range ops.size).all fun j=>listed.getD j false||j==i||(bs.getD j 0).testBit i||(match vl[j]? with|some y=>yK x y|none=>false)
  |none=>false
def Nv (vl:List bq) (x:bq):Option (Nat×Nat×O):=
  match x.op,x.guard with
  | .append _ (.t t) y,none=>match vl.find? fun v=>v.dst==some t&&v.op.cls==.make with
    |some v=>some (t,v.site,y)
    |none=>none
  |_,_=>none
def Fm (s:Nat) (x y:bq):Bool:=tK x y&&k8 y&&y.hid.contains s&&y.hid.contains x.site&&y.site !=s&&y.site !=x.site
def oO (ops:Array Oper) (vl:List bq) (bs:Array Nat) (listed:Array Bool) (i s:Nat):Bool:=
  match vl[i]? with
  |some x=>(List.range ops.size).all fun j=>listed.getD j false||j==i||(bs.getD j 0).testBit i||(match vl[j]? with|some y=>Fm s x y|none=>false)
  |none=>false
def Pf (ops:Array Oper) (vl:List bq) (bs:Array Nat) (listed:Array Bool) (i:Nat):Option (Nat×Nat×Nat×O×bq):=
  match vl[i]? with
  |some x=>match Nv vl x with
    |some (t,s,y)=>if oO ops vl bs listed i s then some (i,t,s,y,x)else none
    |none=>none
  |none=>none
def Bt:List VC->Option VC
  |[]=>none
  |[c]=>some c
  |c::r=>(Bt r).map (VC.both c)
def xD (ops:Array Oper) (vl:List bq) (bs:Array Nat):Nat->Array Bool->Option VC
  |0,listed=>
    match Region.ready .any ops listed with
    |[]=>some (.eJ false [])
    |_::_=>none
  |n+1,listed=>
    match Region.ready .any ops listed with
    |[]=>some (.eJ false [])
    |r::rs=>let rdy:=r::rs
      match rdy.find? (qG ops vl bs listed)with
      |some i=>match vl[i]? with
        |some vo=>(xD ops vl bs n (listed.setIfInBounds i true)).map (VC.one vo)
        |none=>none
      |none=>match rdy.findSome? (Pf ops vl bs listed)with
        |some (i,t,s,y,vo)=>(xD ops vl bs n (listed.setIfInBounds i true)).map fun c=>VC.loc t s y (.one vo c)
        |none=>match rdy.mapM fun i=>(vl[i]?).bind fun vo=>(xD ops vl bs n (listed.setIfInBounds i true)).map (VC.one vo)with
          |some l=>Bt l
          |none=>none
def Nt:Op->Bool
  | .send .. | .recv .. =>true
  |_=>false
def QQ (P:Program) (nt site0:Nat) (ops:Array Oper) (draw:Bool) (mode:Nat):Option VC:=
  if draw&&mode==2 then
    match allM (kQ P ops nt site0 true false (jH ops) (ops.toList.zipIdx.map fun(o,i)=>(i,((rj P o.op).map qW).getD false))) ops.toList 0 with
    |some vl=>xD ops vl (jH ops) ops.size (Array.replicate ops.size false)
    |none=>none
  else if !draw&&ops.any (fun o=>Nt o.op)then(rK P nt site0 ops false false).map VC.N0
  else(rK P nt site0 ops draw (mode==1)).map (VC.eJ draw)
def wY (md:List (Nat×Nat)) (id:Nat):Nat:=
  match md with
  |[]=>0
  |(i,m)::r=>if i=id then m else wY r id
def ju (P:Program) (md:List (Nat×Nat)) (nt fid:Nat):Code->Option VC
  | .skip=>some .skip
  | .region id ops draw=>QQ P nt ((fid*1000+id)*1000) ops draw (wY md id)
  | .seq a b=>do pure (.seq (<-ju P md nt fid a) (<-ju P md nt fid b))
  | .cond c x y=>do pure (.cond (<-cO P c) (<-ju P md nt fid x) (<-ju P md nt fid y))
  | .block id c=>(ju P md nt fid c).map (VC.block id)
  | .loop c=>(ju P md nt fid c).map VC.loop
  | .exit id=>some (.exit id)
  | .ret=>some .ret
  |_=>none
def Dt (P:Program) (r:ResultVar):Option nT:=
  match r with
  | .tmp t=>some (.tmp t)
  | .cell a t=>do pure (.cell (<-n9 P t) (<-dZ P t) a)
def xU (P:Program) (f:Nat) (md:List (Nat×Nat)):Option A7:=
  match P.funcs[f]? with
  |some fn=>match fn.body with
    |some c=>do
      let b <-ju P md fn.ntmps f c
      let r <-fn.results.toList.mapM (Dt P)
      if fn.params.size+fn.nfree<=fn.ntmps then pure {ntmps:=fn.ntmps,zb:=fn.params.size+fn.nfree,body:=b,res:=r}else none
    |none=>none
  |none=>none
def me (P:Program) (f:Nat):Option A7:=xU P f []
structure Row where
 w:Bool
 sz:Nat
 rows:List (List AV)
abbrev Rows:=Id->Option Row
structure ar where
 get:Rows
 next:Nat
abbrev Env:=Nat->AV
def upd (env:Env):Option Nat->AV->Env
 |some d,v=>fun t=>if t=d then v else env t
 |none,_=>env
inductive Ex where
 |normal
 |exit (id:Nat)
 |ret
 deriving DecidableEq
def cQ (env:Env):O->AV
 | .t n=>env n
 | .k c=>c.av
 | .ka cs=>.agg (cs.map K.av)
 | .f n=>.fn n []
def bt (g:Rows) (id:Id) (r:Row):Rows:=fun i=>if i=id then some r else g i
def cu (g:Rows) (id:Id):Rows:=fun i=>if i=id then none else g i
def fY:List Nat->Nat->Rows->Rows
 |[],_,g=>g
 |h::t,n,g=>fun id=>if (h::t).contains id.site=true/\id.ck=n then none else g id
def ro (g:Rows):Rows:=fun id=>(g id).map fun r=>{r with w:=false}
def part (agg:Bool) (n:Nat) (cs:List AV):Option AV:=
 if agg then(if n<=cs.length then some (.agg (cs.take n))else none)else cs.head?
def rowAt (g:Rows) (id:Id) (i:Nat):Option (List AV):=(g id).bind (·.rows[i]?)
def ld (g:Rows) (agg:Bool) (n:Nat):AV->Option AV
 | .ptr id i off=>(rowAt g id i).bind fun cs=>part agg n (cs.drop off)
 | .di cs=>part agg n cs
 |_=>none
def dE:BinOp->IntKind->Int->Int->Option AV
 | .add,k,a,b=>some (.int k (k.wrap (a+b)))
 | .sub,k,a,b=>some (.int k (k.wrap (a-b)))
 | .mul,k,a,b=>some (.int k (k.wrap (a*b)))
 | .quo,k,a,b=>if b=0 then none else some (.int k (k.wrap (a.tdiv b)))
 | .rem,k,a,b=>if b=0 then none else some (.int k (a.tmod b))
 | .lss,_,a,b=>some (.bool (decide (a<b)))
 | .leq,_,a,b=>some (.bool (decide (a<=b)))
 | .gtr,_,a,b=>some (.bool (decide (b<a)))
 | .geq,_,a,b=>some (.bool (decide (b<=a)))
 | .and,k,a,b=>some (.int k (k.wrap (BitVec.ofInt k.bits a&&& BitVec.ofInt k.bits b).toNat))
 | .or,k,a,b=>some (.int k (k.wrap (BitVec.ofInt k.bits a|||BitVec.ofInt k.bits b).toNat))
 | .xor,k,a,b=>some (.int k (k.wrap (BitVec.ofInt k.bits a ^^^ BitVec.ofInt k.bits b).toNat))
 |_,_,_,_=>none
def ee (op:BinOp):AV->AV->Option AV
 | .int k a,.int k' b=>if k=k' then dE op k a b else none
 |_,_=>none
def ik (left:Bool):AV->AV->Option AV
 | .int k a,.int _ b=>if b<0 then none else some (.int k (if left then k.wrap (a*2 ^ min b.toNat k.bits)else a.fdiv (2 ^ min b.toNat k.bits)))
 |_,_=>none
def ew:BinOp->ByteArray->ByteArray->Option AV
 | .add,a,b=>if a.size+b.size<=9223372036854775807 then some (.str (a++b))else none
 | .lss,a,b=>some (.bool (Op.bytesLess a.toList b.toList))
 | .leq,a,b=>some (.bool (Op.bytesLess a.toList b.toList||(a.toList==b.toList)))
 | .gtr,a,b=>some (.bool !(Op.bytesLess a.toList b.toList||(a.toList==b.toList)))
 | .geq,a,b=>some (.bool !(Op.bytesLess a.toList b.toList))
 |_,_,_=>none
def dh (op:BinOp):AV->AV->Option AV
 | .str a,.str b=>ew op a b
 |_,_=>none
def fX:TS->AV->AV->Option Bool
 | .tI,.int k a,.int k' b=>if k=k' then some (decide (a=b))else none
 | .tB,.bool a,.bool b=>some (a==b)
 | .tS,.str a,.str b=>some (decide (a=b))
 |_,_,_=>none
def eX:List TS->List AV->List AV->Option Bool
 |[],[],[]=>some true
 |t::ts,a::r,b::s=>match fX t a b,eX ts r s with
  |some x,some y=>some (x&&y)
  |_,_=>none
 |_,_,_=>none
def dp (neg b:Bool):Bool:=if neg then !b else b
def dd:AV->Option Bool
 | .bl=>some true
 | .own _ _ _=>some false
 | .sl (_::_)=>some false
 |_=>none
def dc:AV->Option Bool
 | .jd=>some true
 | .fn _ _=>some false
 |_=>none
def KH:AV->Option Bool
 | .gT=>some true
 | .ptr .. | .di _=>some false
 |_=>none
def ej (L9:Bool) (x:AV):Option Bool:=if L9 then dc x else dd x
def dQ (len:Nat):Option AV->Option Nat
 |none=>some len
 |some (.int _ n)=>if 0<=n/\n<=len then some n.toNat else none
 |_=>none
def dR (h:Nat):Option AV->Option Nat
 |none=>some 0
 |some (.int _ n)=>if 0<=n/\n<=h then some n.toNat else none
 |_=>none
def bQ (g:Rows) (sz:Nat) (x:AV) (lo hi:Option AV):Option AV:=
 match x with
 | .bl=>(dQ 0 hi).bind fun h=>(dR h lo).map fun _=>.bl
 | .sl rows=>(dQ rows.length hi).bind fun h=>(dR h lo).bind fun l=>if ∀cs∈rows,cs.length=sz then some (.sl ((rows.drop l).take (h-l)))else none
 | .own id off len=>(g id).bind fun r=>(dQ len hi).bind fun h=>(dR h lo).bind fun l=>if r.sz=sz then some (.own id (off+l) (h-l))else none
 |_=>none
def bf (x:AV) (lo hi:Option AV):Option AV:=
 match x with
 | .str s=>(dQ s.size hi).bind fun h=>(dR h lo).map fun l=>.str (s.extract l h)
 |_=>none
def EX (off:Nat):AV->Option AV
 | .ptr id i o=>some (.ptr id i (o+off))
 | .di cs=>some (.di (cs.drop off))
 |_=>none
def bP (g:Rows) (sz:Nat):AV->AV->Option AV
 | .sl rows,.int _ n=>if 0<=n then(rows[n.toNat]?).bind fun cs=>if cs.length=sz then some (.di cs)else none else none
 | .own id off len,.int _ n=>if 0<=n/\n<len then(g id).bind fun r=>if r.sz=sz then some (.ptr id (off+n.toNat) 0)else none else none
 |_,_=>none
def cW (len sz:Nat):AV->AV->Option AV
 | .ptr id r off,.int _ n=>if 0<=n/\n<len then some (.ptr id r (off+n.toNat*sz))else none
 | .di cs,.int _ n=>if 0<=n/\n<len then some (.di (cs.drop (n.toNat*sz)))else none
 |_,_=>none
def cY:AV->AV->Option AV
 | .str s,.int _ n=>if 0<=n then(s[n.toNat]?).map fun b=>.int .u8 b.toNat else none
 |_,_=>none
def cX (agg:Bool) (len n:Nat):AV->AV->Option AV
 | .agg cs,.int _ i=>if 0<=i/\i<len then part agg n (cs.drop (i.toNat*n))else none
 |_,_=>none
def eh:AV->Option Nat
 | .bl=>some 0
 | .sl rows=>some rows.length
 | .own _ _ n=>some n
 |_=>none
def ek:AV->Option AV
 | .bool b=>some (.bool !b)
 |_=>none
def ei:AV->Option AV
 | .int k n=>some (.int k (k.wrap (0-n)))
 |_=>none
def cV (k:IntKind):AV->Option AV
 | .int _ n=>some (.int k (k.wrap n))
 |_=>none
def b4:AV->Option AV
 | .str s=>some (.str s)
 |_=>none
def de:AV->AV->AV->Option AV
 | .bool c,a,b=>some (if c then a else b)
 |_,_,_=>none
def ef:AV->Option AV
 | .ptr id i o=>some (.ptr id i o)
 | .di cs=>some (.di cs)
 |_=>none
def bK (agg:Bool) (off n:Nat):AV->Option AV
 | .agg cs=>if off+n<=cs.length then part agg n (cs.drop off)else none
 |_=>none
def aP (i:Nat):AV->Option AV
 | .gD vs=>vs[i]?
 |_=>none
def da:AV->Option AV
 | .str s=>some (.int .i64 s.size)
 |_=>none
def rowOf (sz:Nat) (v:AV):Option (List AV):=if v.cells.length=sz/\v.cells.all AV.cell then some v.cells else none
def cP (v:AV):Option (List AV):=if v.cells.all AV.cell then some v.cells else none
def rowsOf (sz:Nat):List AV->Option (List (List AV))
 |[]=>some []
 |v::r=>(rowOf sz v).bind fun c=>(rowsOf sz r).map fun cs=>c::cs
def cG:List AV->List (Nat×Nat×AV)->Option (List AV)
 |cs,[]=>some cs
 |cs,(off,n,v)::r=>if v.cells.length=n/\off+n<=cs.length/\v.cells.all AV.cell then cG (cs.take off++v.cells++cs.drop (off+n)) r else none
def dF:Nat:=16777216
def ij (zero:List K):AV->AV->Option (Nat×Row)
 | .int _ l,.int _ c=>if 0<=l/\l<=c/\c<=dF then some (l.toNat,⟨true,zero.length,List.replicate l.toNat (zero.map K.av)⟩)else none
 |_,_=>none
def r8:Nat:=1000000000
def MK.ks (m:MK):Nat:=m.ts.length
def MK.pQ (m:MK):Nat:=r8+m.ks
def AV.isAgg:AV->Bool
 | .agg _=>true
 |_=>false
def gm (m:MK) (key:List AV):List (List AV)->Nat->Option (Option Nat)
 |[],_=>some none
 |r::l,i=>match eX m.ts key (r.take m.ks)with
  |some true=>some (some i)
  |some false=>gm m key l (i+1)
  |none=>none
def dS (g:Rows) (m:MK):AV->Option (Id×Row)
 | .map id m'=>if m'=m then(g id).map fun r=>(id,r)else none
 |_=>none
def fP (m:MK) (k:AV) (rows:List (List AV)):Option (Option Nat):=if k.isAgg=m.ka/\k.cells.length=m.ks/\k.cells.all AV.cell then gm m k.cells rows 0 else none
def ec (m:MK) (z:K) (rows:List (List AV)):Option Nat->Option AV
 |some i=>(rows[i]?).bind fun cs=>cs[m.ks]?
 |none=>some z.av
def bF (q:MQ) (vs:List AV) (g:Rows) (id:Id):Option (AV×Option Row):=
 match q,vs with
 | .new m,[]=>some (.map id m,some ⟨true,m.pQ,[]⟩)
 | .look m ok z,[x,k]=>(dS g m x).bind fun p=>(fP m k p.2.rows).bind fun fi=>(ec m z p.2.rows fi).map fun v=>(if ok then .gD [v,.bool fi.isSome]else v,none)
 | .len m,[x]=>(dS g m x).map fun p=>(.int .i64 p.2.rows.length,none)
 |_,_=>none
def qF:Nat:=2000000000
def db:AV->Option Nat
 | .int _ n=>if 0<=n/\n<=1048576 then some n.toNat else none
 |_=>none
def cZ (g:Rows):AV->Option AV
 | .rL id=>(g id).map fun r=>.int .i64 r.rows.length
 |_=>none
def ep (g:Rows):AV->AV->Option Rows
 | .rL id,v=>(g id).bind fun r=>if r.w/\qF+r.rows.length<r.sz/\v.cell then some (bt g id {r with rows:=r.rows++[[v]]})else none
 |_,_=>none
def eo (g:Rows):AV->Option (AV×Rows)
 | .rL id=>(g id).bind fun r=>match r.rows with
  |[v]::rest=>if r.w then some (v,bt g id {r with rows:=rest})else none
  |_=>none
 |_=>none
def dM (rows:List (List AV)) (e:List AV):Option Nat->List (List AV)
 |some i=>rows.set i e
 |none=>rows++[e]
def dK (rows:List (List AV)):Option Nat->List (List AV)
 |some i=>rows.eraseIdx i
 |none=>rows
def bI (q:MW) (vs:List AV) (g:Rows):Option Rows:=
 match q,vs with
 | .set m,[x,k,v]=>(dS g m x).bind fun p=>(fP m k p.2.rows).bind fun fi=>if p.2.w/\v.cell/\v.isAgg=false then some (bt g p.1 {p.2 with rows:=dM p.2.rows (k.cells++[v]) fi})else none
 | .del m,[x,k]=>(dS g m x).bind fun p=>(fP m k p.2.rows).bind fun fi=>if p.2.w then some (bt g p.1 {p.2 with rows:=dK p.2.rows fi})else none
 |_,_=>none
def eQ (o:gE) (ρ:O->AV) (g:Rows) (id:Id):Option (AV×Option Row):=
 match o with
 | .dm x=>some (ρ x,none)
 | .pick c a b=>(de (ρ c) (ρ a) (ρ b)).map (·,none)
 | .new zero=>some (.ptr id 0 0,some ⟨true,zero.length,[zero.map K.av]⟩)
 | .box x=>(cP (ρ x)).map fun cs=>(.ptr id 0 0,some ⟨true,cs.length,[cs]⟩)
 | .build zero parts=>(cG (zero.map K.av) (parts.map fun(o,n,x)=>(o,n,ρ x))).map fun cs=>(.agg cs,none)
 | .l5 sz len parts=>(rowsOf sz (parts.map ρ)).map fun rs=>(.own id 0 len,some ⟨true,sz,rs⟩)
 | .load agg n a=>(ld g agg n (ρ a)).map (·,none)
 | .A8 x=>(ef (ρ x)).map (·,none)
 | .bin op _ x y=>(ee op (ρ x) (ρ y)).map (·,none)
 | .sh left x y=>(ik left (ρ x) (ρ y)).map (·,none)
 | .Lr op x y=>(dh op (ρ x) (ρ y)).map (·,none)
 | .Oa neg t x y=>(fX t (ρ x) (ρ y)).map fun b=>(.bool (dp neg b),none)
 | .SH neg ts x y=>match ρ x,ρ y with
  | .agg xs,.agg ys=>(eX ts xs ys).map fun b=>(.bool (dp neg b),none)
  |_,_=>none
 | .QY neg L9 x=>(ej L9 (ρ x)).map fun b=>(.bool (dp neg b),none)
 | .SI neg x=>(KH (ρ x)).map fun b=>(.bool (dp neg b),none)
 | .not x=>(ek (ρ x)).map (·,none)
 | .neg x=>(ei (ρ x)).map (·,none)
 | .conv k x=>(cV k (ρ x)).map (·,none)
 | .Fc x=>(b4 (ρ x)).map (·,none)
 | .slice sz x lo hi=>(bQ g sz (ρ x) (lo.map ρ) (hi.map ρ)).map (·,none)
 | .AK x lo hi=>(bf (ρ x) (lo.map ρ) (hi.map ρ)).map (·,none)
 | .fU off x=>(EX off (ρ x)).map (·,none)
 | .field agg off n x=>(bK agg off n (ρ x)).map (·,none)
 | .dL sz x i=>(bP g sz (ρ x) (ρ i)).map (·,none)
 | .L4 len sz x i=>(cW len sz (ρ x) (ρ i)).map (·,none)
 | .L6 x i=>(cY (ρ x) (ρ i)).map (·,none)
 | .eF agg len n x i=>(cX agg len n (ρ x) (ρ i)).map (·,none)
 | .extract i x=>(aP i (ρ x)).map (·,none)
 | .len x=>(eh (ρ x)).map fun(n:Nat)=>(AV.int .i64 (n:Int),none)
 | .Md x=>(da (ρ x)).map (·,none)
 | .Mi f cN=>some (.fn f (cN.map ρ),none)
 | .Mj f first=>some (.uj f (first.map ρ),none)
 | .j7 zero l c=>(ij zero (ρ l) (ρ c)).map fun(n,r)=>(.own id 0 n,some r)
 | .mq q xs=>bF q (xs.map ρ) g id
 | .JK x=>(db (ρ x)).map fun n=>(.rL id,some ⟨true,qF+n,[]⟩)
 | .JC x=>(cZ g (ρ x)).map (·,none)
 |_=>none
def bw (g:Rows):AV->Option (List (List AV))
 | .bl=>some []
 | .sl rows=>some rows
 | .own id off len=>(g id).bind fun r=>if off+len<=r.rows.length then some ((r.rows.drop off).take len)else none
 |_=>none
def cK (cs:List AV) (off:Nat) (xs:List AV):List AV:=cs.take off++xs++cs.drop (off+xs.length)
def bU (g:Rows) (n:Nat) (v:AV):AV->Option Rows
 | .ptr id i off=>(g id).bind fun r=>(r.rows[i]?).bind fun cs=>
  if r.w/\v.cells.length=n/\v.cells.all AV.cell/\off+n<=cs.length then some (bt g id {r with rows:=r.rows.set i (cK cs off v.cells)})else none
 |_=>none
def aY (g:Rows) (id:Id) (sz:Nat) (x:AV) (ys:List (List AV)):Option (AV×Rows):=
 match x with
 | .bl=>match ys with
  |[]=>some (.bl,g)
  |y::r=>if (y::r).length<=dF/\(y::r).all (fun c=>c.length==sz&&c.all AV.cell)then some (.own id 0 (y::r).length,bt g id ⟨true,sz,y::r⟩)else none
 | .own i 0 len=>(g i).bind fun r=>
  if r.w/\r.sz=sz/\len=r.rows.length/\len+ys.length<=dF/\ys.all (fun c=>c.length==sz&&c.all AV.cell)then some (.own id 0 (len+ys.length),bt (cu g i) id ⟨true,sz,r.rows++ys⟩)else none
 |_=>none
def FZ (g:Rows) (sz:Nat) (x:AV) (ys:List (List AV)):Option (AV×Rows):=
 match x with
 | .own i off len=>(g i).bind fun r=>
  if r.w/\r.sz=sz/\off+len<=r.rows.length/\ys.all (fun c=>c.length==sz&&c.all AV.cell)then
   some (.int .i64 (min ys.length len:Nat),bt g i {r with rows:=r.rows.take off++ys.take (min ys.length len)++r.rows.drop (off+min ys.length len)})else none
 |_=>none
def bJ (g:Rows) (zero:List K) (x:AV):Option Rows:=
 match x with
 | .bl=>some g
 | .own i off len=>(g i).bind fun r=>
  if r.w/\r.sz=zero.length/\off+len<=r.rows.length then
   some (bt g i {r with rows:=r.rows.take off++List.replicate len (zero.map K.av)++r.rows.drop (off+len)})else none
 |_=>none
def fZ (o:gE) (ρ:O->AV) (g:Rows) (id:Id):Option (AV×Rows):=
 match o with
 | .store n a x=>(bU g n (ρ x) (ρ a)).map fun g'=>(.undef,g')
 | .append sz x y=>(bw g (ρ y)).bind fun ys=>aY g id sz (ρ x) ys
 | .copy sz x y=>(bw g (ρ y)).bind fun ys=>FZ g sz (ρ x) ys
 | .clear zero x=>(bJ g zero (ρ x)).map fun g'=>(.undef,g')
 | .mw q xs=>(bI q (xs.map ρ) g).map fun g'=>(.undef,g')
 |_=>none
def vY:AV->List AV->Option (Nat×List AV)
 | .fn f cN,l=>some (f,l++cN)
 | .uj f first,l=>some (f,first++l)
 |_,_=>none
abbrev fH:=Nat->List AV->ar->(AV->ar->Prop)->Prop
mutual
def fz (g:Rows):Nat->AV->Option AV
 |0,_=>none
 |n+1,a=>match a with
  | .own id off len=>match g id with
   |some r=>if r.w then(if off+len<=r.rows.length then(eb g n ((r.rows.drop off).take len)).map AV.sl else none)else none
   |none=>none
  | .ptr id i off=>match g id with
   |some r=>if r.w then(match r.rows[i]? with
    |some cs=>(cJ g n (cs.drop off)).map AV.di
    |none=>none)else none
   |none=>none
  | .agg cs=>(cJ g n cs).map AV.agg
  | .gD vs=>(cJ g n vs).map AV.gD
  | .fn f cN=>if cN.all AV.cell then(cJ g n cN).map (AV.fn f)else none
  | .map _ _| .uj _ _| .rL _=>none
  |v=>some v
 termination_by n _=>(n,0)
def cJ (g:Rows):Nat->List AV->Option (List AV)
 |n,[]=>some []
 |n,a::r=>match fz g n a with
  |some b=>(cJ g n r).map (b::·)
  |none=>none
 termination_by n l=>(n,l.length+1)
def eb (g:Rows):Nat->List (List AV)->Option (List (List AV))
 |n,[]=>some []
 |n,c::r=>match cJ g n c with
  |some b=>(eb g n r).map (b::·)
  |none=>none
 termination_by n l=>(n,(l.map (fun c=>c.length+2)).sum+1)
 decreasing_by all_goals simp_wf;try omega
end
mutual
def gC (g:Rows):Nat->AV->Option AV
 |0,_=>none
 |n+1,a=>match a with
  | .own id off len=>match g id with
   |some r=>if r.w then(if off+len<=r.rows.length then(il g n ((r.rows.drop off).take len)).map AV.sl else none)else none
   |none=>none
  | .ptr id i off=>match g id with
   |some r=>if r.w then(match r.rows[i]? with
    |some cs=>(ez g n (cs.drop off)).map AV.di
    |none=>none)else none
   |none=>none
  | .agg cs=>(ez g n cs).map AV.agg
  | .gD vs=>(ez g n vs).map AV.gD
  | .int k m=>some (.int k m)
  | .bool b=>some (.bool b)
  | .str s=>some (.str s)
  | .bl=>some .bl
  | .gT=>some .gT
  | .jd=>some .jd
  | .jo=>some .jo
  |_=>none
 termination_by n _=>(n,0)
def ez (g:Rows):Nat->List AV->Option (List AV)
 |n,[]=>some []
 |n,a::r=>match gC g n a with
  |some b=>(ez g n r).map (b::·)
  |none=>none
 termination_by n l=>(n,l.length+1)
def il (g:Rows):Nat->List (List AV)->Option (List (List AV))
 |n,[]=>some []
 |n,c::r=>match ez g n c with
  |some b=>(il g n r).map (b::·)
  |none=>none
 termination_by n l=>(n,(l.map (fun c=>c.length+2)).sum+1)
 decreasing_by all_goals simp_wf;try omega
end
def dJ (g:Rows):Rows:=fun id=>(g id).map fun r=>{r with w:=true}
def PC (X:fH) (f:Nat) (args:List AV) (σ:ar) (K:AV->Prop):Prop:=
 X f args ⟨ro σ.get,σ.next⟩ fun r σ'=>∃r',fz σ'.get 6 r=some r'/\K r'
def PCv (X:fH) (f:Nat) (args:List AV) (σ:ar) (K:AV->Prop):Prop:=
 ∃eu,cJ (dJ σ.get) 6 args=some eu/\X f eu ⟨fun _=>none,σ.next⟩ fun r σ'=>∃r',gC σ'.get 6 r=some r'/\K r'
def gy (X:fH) (f:Nat) (args:List AV) (σ:ar) (K:AV->Prop):Prop:=PC X f args σ K∨PCv X f args σ K
def aM (g:Option (Nat×Bool)) (env:Env):Bool:=
 match g with
 |none=>true
 |some (t,b)=>match env t with
  | .bool c=>c==b
  |_=>false
def AV.plain:AV->Bool
 | .int .. | .bool _| .str _| .bl| .gT| .jd| .jo=>true
 |_=>false
def CM (X:fH) (f:Nat) (args:List AV) (σ:ar) (sz:Nat) (rows:List (List AV)):Prop:=
 (∀c∈rows,∀a∈c,a.plain=true)/\∃eu,cJ (dJ σ.get) 6 args=some eu/\X f eu ⟨fun _=>none,σ.next⟩ fun r σ'=>∃id,r=.own id 0 rows.length/\σ'.get id=some ⟨true,sz,rows⟩
def cH (X:fH) (draw:Bool) (hid:List Nat) (site:Nat) (f:Nat) (args:List AV) (σ:ar) (next:AV->ar->Prop):Prop:=
 (∃r,gy X f args ⟨fY hid σ.next σ.get,σ.next+1⟩ (fun r'=>r'=r)/\next r σ)∨
 (draw=false/\X f args ⟨σ.get,σ.next+1⟩ next)∨
 (hid.contains site=true/\∃sz rows,CM X f args ⟨fY hid σ.next σ.get,σ.next+1⟩ sz rows/\next (.own ⟨site,σ.next⟩ 0 rows.length) ⟨bt σ.get ⟨site,σ.next⟩ ⟨true,sz,rows⟩,σ.next⟩)
def fG (X:fH) (draw:Bool) (o:bq) (env:Env) (σ:ar) (next:AV->ar->Prop):Prop:=
 match o.op with
 | .call f args=>cH X draw o.hid o.site f (args.map (cQ env)) σ next
 | .tU x args=>match cQ env x with
  | .fn f cN=>cH X draw o.hid o.site f (args.map (cQ env)++cN) σ next
  | .uj f first=>cH X draw o.hid o.site f (first++args.map (cQ env)) σ next
  |_=>False
 | .store .. | .append .. | .copy .. | .clear .. | .mw .. =>match fZ o.op (cQ env) σ.get ⟨o.site,σ.next⟩with
  |some (v,g)=>next v ⟨g,σ.next⟩
  |none=>False
 |_=>match eQ o.op (cQ env) (fY o.hid σ.next σ.get) ⟨o.site,σ.next⟩with
  |some (v,some r)=>next v ⟨bt σ.get ⟨o.site,σ.next⟩ r,σ.next⟩
  |some (v,none)=>next v σ
  |none=>False
def wpOps (X:fH) (draw:Bool):List bq->(Env->ar->Prop)->Env->ar->Prop
 |[],K,env,σ=>K env ⟨σ.get,σ.next+1⟩
 |o::r,K,env,σ=>
  if aM o.guard env then fG X draw o env σ fun v σ'=>wpOps X draw r K (upd env o.dst v) σ'
  else wpOps X draw r K (upd env o.dst .undef) σ
def cF:List bq->(Env->ar->Prop)->Env->ar->Prop
 |[],K,env,σ=>K env ⟨σ.get,σ.next+1⟩
 |o::r,K,env,σ=>o.guard=none/\match o.op with
  | .snd x y=>match ep σ.get (cQ env x) (cQ env y)with
   |some g=>cF r K (upd env o.dst .undef) ⟨g,σ.next⟩
   |none=>False
  | .Pu x=>match eo σ.get (cQ env x)with
   |some (v,g)=>cF r K (upd env o.dst v) ⟨g,σ.next⟩
   |none=>False
  |op=>match eQ op (cQ env) σ.get ⟨o.site,σ.next⟩with
   |some (v,none)=>cF r K (upd env o.dst v) σ
   |_=>False
def dn (next:Env->ar->Prop) (Q:Ex->Env->ar->Prop):Ex->Env->ar->Prop
 | .normal=>next
 |e=>Q e
def bc (id:Nat) (Q:Ex->Env->ar->Prop):Ex->Env->ar->Prop
 | .exit j6=>if j6=id then Q .normal else Q (.exit j6)
 |e=>Q e
def FL (W:(Ex->Env->ar->Prop)->Env->ar->Prop) (Q:Ex->Env->ar->Prop):Nat->Env->ar->Prop
 |0=>fun _ _=>False
 |n+1=>W (dn (FL W Q n) Q)
def Me (t s:Nat) (y:O) (env:Env) (n:Nat):Prop:=(∃len,env t=.own ⟨s,n⟩ 0 len)/\∀id o l,cQ env y=.own id o l->id.ck≠n
def dI (X:fH):VC->(Ex->Env->ar->Prop)->Env->ar->Prop
 | .skip,Q=>Q .normal
 | .eJ draw ops,Q=>wpOps X draw ops (Q .normal)
 | .seq a b,Q=>dI X a (dn (dI X b Q) Q)
 | .cond c x y,Q=>fun env σ=>match cQ env c with
  | .bool b=>if b then dI X x Q env σ else dI X y Q env σ
  |_=>False
 | .block id c,Q=>dI X c (bc id Q)
 | .loop c,Q=>fun env σ=>∃n,FL (dI X c) Q n env σ
 | .exit id,Q=>Q (.exit id)
 | .ret,Q=>Q .ret
 | .one o c,Q=>fun env σ=>if aM o.guard env then fG X false o env σ fun v σ'=>dI X c Q (upd env o.dst v) σ' else dI X c Q (upd env o.dst .undef) σ
 | .both a b,Q=>fun env σ=>dI X a Q env σ/\dI X b Q env σ
 | .loc t s y c,Q=>fun env σ=>Me t s y env σ.next/\dI X c Q env σ
 | .N0 ops,Q=>cF ops (Q .normal)
def iv (env:Env) (g:Rows):nT->Option AV
 | .tmp t=>some (env t)
 | .cell agg n t=>ld g agg n (env t)
def fu (env:Env) (g:Rows):List nT->Option (List AV)
 |[]=>some []
 |r::l=>(iv env g r).bind fun v=>(fu env g l).map (v::·)
def fa:List AV->AV
 |[v]=>v
 |l=>.gD l
def cC (args:List AV):Env:=fun t=>args.getD t .undef
def kJ (res:List nT) (K:AV->ar->Prop):Ex->Env->ar->Prop
 | .exit _,_,_=>False
 |_,env,σ=>∃vs,fu env σ.get res=some vs/\K (fa vs) σ
inductive jM (P:Program) (w:World) (D:Nat->Prop):AV->Value->Prop
 |int (k n):jM P w D (.int k n) (.int k n)
 |bool (b):jM P w D (.bool b) (.bool b)
 |str (s):jM P w D (.str s) (.string s)
 |bl:jM P w D .bl (.slice none 0 0)
 |gT:jM P w D .gT (.pointer none)
 |jd:jM P w D .jd .nilFunc
 |Bg (a c):c<=maxLen->jM P w D (.sl []) (.slice a 0 c)
 |sl (rows b o n c sz) (vs:Nat->Nat->Value):rows.length=n->n<=c->c<=maxLen->D b->(∀cs∈rows,cs.length=sz)->(∀cs∈rows,∀a∈cs,a.cell=true)->
   (∀i j,i<n->j<sz->w.cell? ⟨b,o+(i*sz+j),none⟩=some (vs i j))->
   (∀i j cs a,rows[i]? =some cs->cs[j]? =some a->jM P w D a (vs i j))->jM P w D (.sl rows) (.slice (some ⟨b,o,none⟩) n c)
 |di (cs b o) (vs:Nat->Value):D b->(∀a∈cs,a.cell=true)->(∀j,j<cs.length->w.cell? ⟨b,o+j,none⟩=some (vs j))->
   (∀j a,cs[j]? =some a->jM P w D a (vs j))->jM P w D (.di cs) (.pointer (some ⟨b,o,none⟩))
 |agg (cs) (vs:Array Value) (f:Nat->Value):vs.size=cs.length->(∀a∈cs,a.cell=true)->(∀j,j<cs.length->vs[j]? =some (f j))->(∀j a,cs[j]? =some a->jM P w D a (f j))->jM P w D (.agg cs) (.agg vs)
 |fn (f cN) (vs:Array Value) (g:Nat->Value):fJ P f=true->vs.size=cN.length->(∀j,j<cN.length->vs[j]? =some (g j))->(∀j a,cN[j]? =some a->jM P w D a (g j))->jM P w D (.fn f cN) (.func (.func f) #[] vs)
 |jo:jM P w D .jo (.map none)
inductive BK where
 |map (m:MK)
 |chan (cap:Nat)
structure sL where
 b:Nat
 sz:Nat
 C:Nat
 k:Option BK
abbrev Names:=Id->Option sL
inductive cI (P:Program) (w:World) (D:Nat->Prop) (ι:Names):AV->Value->Prop
 |eO (a v):jM P w D a v->cI P w D ι a v
 |own (id off len o cap B):ι id=some B->B.k=none->len<=cap->(cap=0∨o=off*B.sz)->(off+cap)*B.sz<=B.C->cap<=maxLen->cI P w D ι (.own id off len) (.slice (some ⟨B.b,o,none⟩) len cap)
 |ptr (id i off B):ι id=some B->B.k=none->cI P w D ι (.ptr id i off) (.pointer (some ⟨B.b,i*B.sz+off,none⟩))
 |agg (cs) (vs:Array Value) (f:Nat->Value):vs.size=cs.length->(∀a∈cs,a.cell=true)->(∀j,j<cs.length->vs[j]? =some (f j))->(∀j a,cs[j]? =some a->cI P w D ι a (f j))->cI P w D ι (.agg cs) (.agg vs)
 |gD (cs) (vs:Array Value) (f:Nat->Value):vs.size=cs.length->(∀j,j<cs.length->vs[j]? =some (f j))->(∀j a,cs[j]? =some a->cI P w D ι a (f j))->cI P w D ι (.gD cs) (.tuple vs)
 |fn (f cN) (vs:Array Value) (g:Nat->Value):fJ P f=true->vs.size=cN.length->(∀j,j<cN.length->vs[j]? =some (g j))->(∀j a,cN[j]? =some a->cI P w D ι a (g j))->cI P w D ι (.fn f cN) (.func (.func f) #[] vs)
 |rL (id c B):ι id=some B->B.k=some (.chan c)->cI P w D ι (.rL id) (.chan (some B.b))
 |map (id m B):ι id=some B->B.k=some (.map m)->cI P w D ι (.map id m) (.map (some B.b))
 |uj (f cN) (vs:Array Value) (g:Nat->Value):fJ P f=true->vs.size=cN.length->(∀j,j<cN.length->vs[j]? =some (g j))->(∀j a,cN[j]? =some a->cI P w D ι a (g j))->cI P w D ι (.uj f cN) (.func (.func f) vs #[])
variable {P:Program} {w w':World} {D D':Nat->Prop} {ι ι':Names}
theorem jM.frame (hD:∀b,D b->w'.heap[b]? =w.heap[b]?) (hs:∀b,D b->D' b) {a:AV} {v:Value} (h:jM P w D a v):jM P w' D' a v:=by
 induction h with
 |int k n=>exact .int k n
 |bool b=>exact .bool b
 |str s=>exact .str s
 |bl=>exact .bl
 |gT=>exact .gT
 |jd=>exact .jd
 |jo=>exact .jo
 |Bg a c h=>exact .Bg a c h
 |sl rows b o n c sz vs h1 h2 h3 h4 h5 h5' h6 _ ih=>exact .sl rows b o n c sz vs h1 h2 h3 (hs b h4) h5 h5' (fun i j hi hj=>(World.cell?_of_block (hD b h4)).trans (h6 i j hi hj)) ih
 |di cs b o vs h1 Ol h2 _ ih=>exact .di cs b o vs (hs b h1) Ol (fun j hj=>(World.cell?_of_block (hD b h1)).trans (h2 j hj)) ih
 |agg cs vs f h1 h2 h3 _ ih=>exact .agg cs vs f h1 h2 h3 ih
 |fn f cN vs g h1 h2 h3 _ ih=>exact .fn f cN vs g h1 h2 h3 ih
theorem cI.frame (hD:∀b,D b->w'.heap[b]? =w.heap[b]?) (hs:∀b,D b->D' b) (hι:∀id B,ι id=some B->ι' id=some B) {a:AV} {v:Value} (h:cI P w D ι a v):cI P w' D' ι' a v:=by
 induction h with
 |eO a v h=>exact .eO a v (h.frame hD hs)
 |map id m B h1 h2=>exact .map id m B (hι _ _ h1) h2
 |rL id c B h1 h2=>exact .rL id c B (hι _ _ h1) h2
 |own id off len o cap B h1 h2 h3 h4 h5 h6=>exact .own id off len o cap B (hι _ _ h1) h2 h3 h4 h5 h6
 |ptr id i off B h1 h2=>exact .ptr id i off B (hι _ _ h1) h2
 |agg cs vs f h1 h2 h3 _ ih=>exact .agg cs vs f h1 h2 h3 ih
 |gD cs vs f h1 h2 _ ih=>exact .gD cs vs f h1 h2 ih
 |fn f cN vs g h1 h2 h3 _ ih=>exact .fn f cN vs g h1 h2 h3 ih
 |uj f cN vs g h1 h2 h3 _ ih=>exact .uj f cN vs g h1 h2 h3 ih
theorem cI.undef:cI P w D ι .undef Go.undef:=.gD [] #[] (fun _=>Go.undef) rfl (fun j hj=>by simp at hj) (fun j a h=>by simp at h)
theorem xg (c:K):cI P w D ι c.av c.val:=by
 cases c with
 |int k n=>exact .eO _ _ (.int k n)
 |bool b=>exact .eO _ _ (.bool b)
 |str l=>exact .eO _ _ (.str _)
 |bl=>exact .eO _ _ .bl
 |gT=>exact .eO _ _ .gT
 |jd=>exact .eO _ _ .jd
 |jo=>exact .eO _ _ .jo
theorem K.nj (c:K):c.av.cell=true:=by cases c<;>rfl
theorem Aj {v:Value} {c:K} (h:GR v=some c):v=c.val:=by
 unfold GR at h
 split at h<;>simp at h<;>subst h<;>rfl
theorem cI.By {a:AV} {v:Value} (h:cI P w D ι a v) (hc:a.cell=true):v.cells= #[v]/\(∀vs,v≠.agg vs)/\(∀vs,v≠.tuple vs):=by
 cases h with
 |eO a v h=>cases h<;>simp_all [AV.cell,Value.cells]
 |own=>simp[Value.cells]
 |map=>simp[Value.cells]
 |rL=>simp[Value.cells]
 |ptr=>simp[Value.cells]
 |agg=>simp[AV.cell]at hc
 |gD=>simp[AV.cell]at hc
 |fn=>simp[Value.cells]
 |uj=>simp[Value.cells]
theorem cI.cells {a:AV} {v:Value} (h:cI P w D ι a v) (ha:a.cells.all AV.cell=true):v.cells.size=a.cells.length/\∃f:Nat->Value,(∀j,j<a.cells.length->v.cells[j]? =some (f j))/\∀j x,a.cells[j]? =some x->cI P w D ι x (f j):=by
 have one:∀(a:AV) (v:Value),a.cell=true->a.cells=[a]->cI P w D ι a v->v.cells.size=a.cells.length/\∃f:Nat->Value,(∀j,j<a.cells.length->v.cells[j]? =some (f j))/\∀j x,a.cells[j]? =some x->cI P w D ι x (f j):=by
  intro a v hc dt h
  obtain⟨h1,_,_⟩:=h.By hc
  rw[h1,dt]
  refine⟨rfl,fun _=>v,fun j hj=>?_,fun j x hx=>?_⟩
  ·have:j=0:=by simp at hj;omega
   subst this;rfl
  ·cases j with
   |zero=>simp at hx;subst hx;exact h
   |succ j=>simp at hx
 cases h with
 |eO a v h=>
  cases h with
  |agg cs vs f h1 h2 h3 h4=>exact⟨h1,f,h3,fun j x hx=>.eO _ _ (h4 j x hx)⟩
  |_=>exact one _ _ rfl rfl (.eO _ _ (by constructor<;>assumption))
 |own id off len o cap B h1 h2 h3 h4 h5 h6=>exact one _ _ rfl rfl (.own id off len o cap B h1 h2 h3 h4 h5 h6)
 |ptr id i off B h1 h2=>exact one _ _ rfl rfl (.ptr id i off B h1 h2)
 |map id m B h1 h2=>exact one _ _ rfl rfl (.map id m B h1 h2)
 |rL id c B h1 h2=>exact one _ _ rfl rfl (.rL id c B h1 h2)
 |agg cs vs f h1 h2 h3 h4=>exact⟨h1,f,h3,h4⟩
 |gD cs vs f h1 h2 h3=>simp[AV.cells,AV.cell]at ha
 |fn f cN vs g h1 h2 h3 h4=>exact one _ _ rfl rfl (.fn f cN vs g h1 h2 h3 h4)
 |uj f cN vs g h1 h2 h3 h4=>exact one _ _ rfl rfl (.uj f cN vs g h1 h2 h3 h4)
structure lG (P:Program) (w:World) (D:Nat->Prop) (ι:Names) (B:sL) (r:Row):Prop where
 sz:B.sz=r.sz
 xR:∃cells T,w.heap[B.b]? =some (.cells cells T (0,0))/\cells.size=B.C
 fits:r.rows.length*r.sz<=B.C
 len:∀cs∈r.rows,cs.length=r.sz
 flat:∀cs∈r.rows,∀a∈cs,a.cell=true
 at_:∀i j cs a,r.rows[i]? =some cs->cs[j]? =some a->∃v,w.cell? ⟨B.b,i*r.sz+j,none⟩=some v/\cI P w D ι a v
def Li (es:Array MapEntry) (clock:Nat):Prop:=(∀x∈es.toList,x.born<clock)/\(es.toList.map (·.born)).Nodup
def M0 (P:Program) (w:World) (D:Nat->Prop) (ι:Names) (B:sL) (m:MK) (r:Row):Prop:=
 ∃(es:Array MapEntry) (clock:Nat),w.heap[B.b]? =some (.map es clock)/\es.size=r.rows.length/\((∀cs∈r.rows,cs.length=m.ks+1)/\Li es clock)/\
  ∀(i:Nat) (cs:List AV),r.rows[i]? =some cs->∃(e:MapEntry) (kv vv:AV),es[i]? =some e/\part m.ka m.ks cs=some kv/\cs[m.ks]? =some vv/\cI P w D ι kv e.key/\cI P w D ι vv e.val
def H5 (P:Program) (w:World) (D:Nat->Prop) (ι:Names) (B:sL) (c:Nat) (r:Row):Prop:=
 ∃(buf:Array Value) (s q:Nat),w.heap[B.b]? =some (.chan c buf false s q false)/\buf.size=r.rows.length/\
  ∀(i:Nat) (cs:List AV),r.rows[i]? =some cs->∃(a:AV) (u:Value),cs=[a]/\buf[i]? =some u/\cI P w D ι a u
structure gO (P:Program) (w:World) (D:Nat->Prop) (ι:Names) (B:sL) (r:Row):Prop where
 sz:B.sz=r.sz
 flat:∀cs∈r.rows,∀a∈cs,a.cell=true
 row:B.k=none->lG P w D ι B r
 map:∀m,B.k=some (.map m)->r.sz=m.pQ/\M0 P w D ι B m r
 chan:∀c,B.k=some (.chan c)->r.sz=qF+c/\H5 P w D ι B c r
theorem lG.obj {B:sL} {r:Row} (R:lG P w D ι B r) (h:B.k=none):gO P w D ι B r:=⟨R.sz,R.flat,fun _=>R,fun m hm=>(by rw[h]at hm;cases hm),fun m hm=>by rw[h]at hm;cases hm⟩
theorem gO.flag {B:sL} {r:Row} (R:gO P w D ι B r) (b:Bool):gO P w D ι B {r with w:=b}:=⟨R.sz,R.flat,fun h=>⟨R.sz,(R.row h).xR,(R.row h).fits,(R.row h).len,R.flat,(R.row h).at_⟩,R.map,R.chan⟩
theorem gO.cells {B:sL} {r:Row} (R:gO P w D ι B r) (h:r.sz<r8):B.k=none:=by
 cases hk:B.k with
 |none=>rfl
 |some m=>
  cases m with
  |map m=>
   have h1:=(R.map m hk).1
   unfold MK.pQ at h1
   omega
  |chan c=>
   have h1:=(R.chan c hk).1
   unfold qF at h1
   unfold r8 at h
   omega
theorem gO.Mm {B:sL} {r:Row} (R:gO P w D ι B r) {c:Array Value} {T:TypeId} {z:Nat×Nat} (h:w.heap[B.b]? =some (.cells c T z)):B.k=none:=by
 cases hk:B.k with
 |none=>rfl
 |some m=>
  cases m with
  |map m=>obtain⟨_,es,c,h3,_⟩:=R.map m hk;rw[h]at h3;cases h3
  |chan c=>obtain⟨_,buf,s,q,h3,_⟩:=R.chan c hk;rw[h]at h3;cases h3
theorem gO.lt {B:sL} {r:Row} (R:gO P w D ι B r):B.b<w.heap.size:=by
 cases h:B.k with
 |none=>
  obtain⟨c,T,h3,_⟩:=(R.row h).xR
  exact(Array.getElem?_eq_some_iff.1 h3).1
 |some m=>
  cases m with
  |map m=>obtain⟨_,es,c,h3,_⟩:=R.map m h;exact(Array.getElem?_eq_some_iff.1 h3).1
  |chan c=>obtain⟨_,buf,s,q,h3,_⟩:=R.chan c h;exact(Array.getElem?_eq_some_iff.1 h3).1
structure gz (P:Program) (hs:Nat) (D:Nat->Prop) (ι:Names) (g:Rows) (w:World):Prop where
 lo:hs<=w.heap.size
 dead:∀b,D b->b<w.heap.size
 row:∀id r,g id=some r->∃B,ι id=some B/\gO P w D ι B r/\(r.w=true->hs<=B.b)/\(r.w=true->¬D B.b)
 inj:∀id j6 r r' B B',g id=some r->g j6=some r'->r.w=true->ι id=some B->ι j6=some B'->B.b=B'.b->id=j6
def Used (ι:Names) (n:Nat) (U:Nat->Prop):Prop:=∀id,ι id≠none->id.ck<n∨(id.ck=n/\U id.site)
structure Step (hs:Nat) (D:Nat->Prop) (ι:Names) (w:World) (D':Nat->Prop) (ι':Names) (w':World):Prop where
 below:Below hs w w'
 qT:∀b,D b->w'.heap[b]? =w.heap[b]?
 dead:∀b,D b->D' b
 names:∀id B,ι id=some B->ι' id=some B
 new:∀b,D' b->D b∨hs<=b
theorem Step.refl (hs:Nat) (D:Nat->Prop) (ι:Names) (w:World):Step hs D ι w D ι w:=⟨Below.refl _ _,fun _ _=>rfl,fun _ h=>h,fun _ _ h=>h,fun _ h=>.inl h⟩
theorem Step.trans {hs:Nat} {D D' D'':Nat->Prop} {ι ι' SF:Names} {w w' Lc:World} (h:Step hs D ι w D' ι' w') (k:Step hs D' ι' w' D'' SF Lc):Step hs D ι w D'' SF Lc:=
 ⟨h.below.trans k.below,fun b hb=>(k.qT b (h.dead b hb)).trans (h.qT b hb),fun b hb=>k.dead b (h.dead b hb),fun id B hB=>k.names id B (h.names id B hB),fun b hb=>by
  rcases k.new b hb with hb|hb
  ·exact h.new b hb
  ·exact .inr hb⟩
theorem Step.rep {hs:Nat} {D D':Nat->Prop} {ι ι':Names} {w w':World} (h:Step hs D ι w D' ι' w') {a:AV} {v:Value} (hr:cI P w D ι a v):cI P w' D' ι' a v:=hr.frame h.qT h.dead h.names
theorem dq {k n} {v:Value} (h:cI P w D ι (.int k n) v):v=.int k n:=by
 cases h with
 |eO _ _ h=>cases h;rfl
theorem e6 {b} {v:Value} (h:cI P w D ι (.bool b) v):v=.bool b:=by
 cases h with
 |eO _ _ h=>cases h;rfl
theorem fD {s} {v:Value} (h:cI P w D ι (.str s) v):v=.string s:=by
 cases h with
 |eO _ _ h=>cases h;rfl
theorem ki {v:Value} (h:cI P w D ι .bl v):v=.slice none 0 0:=by
 cases h with
 |eO _ _ h=>cases h;rfl
theorem xh {v:Value} (h:cI P w D ι .jd v):v=.nilFunc:=by
 cases h with
 |eO _ _ h=>cases h;rfl
theorem iR {cs} {v:Value} (h:cI P w D ι (.agg cs) v):∃(vs:Array Value) (f:Nat->Value),v=.agg vs/\vs.size=cs.length/\(∀a∈cs,a.cell=true)/\(∀j,j<cs.length->vs[j]? =some (f j))/\∀j a,cs[j]? =some a->cI P w D ι a (f j):=by
 cases h with
 |eO _ _ h=>
  cases h with
  |agg cs vs f h1 h2 h3 h4=>exact⟨vs,f,rfl,h1,h2,h3,fun j a h=>.eO _ _ (h4 j a h)⟩
 |agg cs vs f h1 h2 h3 h4=>exact⟨vs,f,rfl,h1,h2,h3,h4⟩
theorem vz {cs} {v:Value} (h:cI P w D ι (.gD cs) v):∃(vs:Array Value) (f:Nat->Value),v=.tuple vs/\vs.size=cs.length/\(∀j,j<cs.length->vs[j]? =some (f j))/\∀j a,cs[j]? =some a->cI P w D ι a (f j):=by
 cases h with
 |eO _ _ h=>cases h
 |gD cs vs f h1 h2 h3=>exact⟨vs,f,rfl,h1,h2,h3⟩
theorem AD {f cN} {v:Value} (h:cI P w D ι (.fn f cN) v):∃(vs:Array Value) (g:Nat->Value),v=.func (.func f) #[] vs/\fJ P f=true/\vs.size=cN.length/\(∀j,j<cN.length->vs[j]? =some (g j))/\∀j a,cN[j]? =some a->cI P w D ι a (g j):=by
 cases h with
 |eO _ _ h=>
  cases h with
  |fn f cN vs g h1 h2 h3 h4=>exact⟨vs,g,rfl,h1,h2,h3,fun j a h=>.eO _ _ (h4 j a h)⟩
 |fn f cN vs g h1 h2 h3 h4=>exact⟨vs,g,rfl,h1,h2,h3,h4⟩
theorem J3 {v:Value} (h:cI P w D ι .gT v):v=.pointer none:=by
 cases h with
 |eO _ _ h=>cases h;rfl
theorem CG {v:Value} (h:cI P w D ι .jo v):v=.map none:=by
 cases h with
 |eO _ _ h=>cases h;rfl
theorem MC {f cN} {v:Value} (h:cI P w D ι (.uj f cN) v):∃(vs:Array Value) (g:Nat->Value),v=.func (.func f) vs #[]/\fJ P f=true/\vs.size=cN.length/\(∀j,j<cN.length->vs[j]? =some (g j))/\∀j a,cN[j]? =some a->cI P w D ι a (g j):=by
 cases h with
 |eO _ _ h=>cases h
 |uj f cN vs g h1 h2 h3 h4=>exact⟨vs,g,rfl,h1,h2,h3,h4⟩
theorem iS {id off len} {v:Value} (h:cI P w D ι (.own id off len) v):∃o cap B,v=.slice (some ⟨B.b,o,none⟩) len cap/\ι id=some B/\len<=cap/\(cap=0∨o=off*B.sz)/\(off+cap)*B.sz<=B.C/\cap<=maxLen/\B.k=none:=by
 cases h with
 |eO _ _ h=>cases h
 |own id off len o cap B h1 h2 h3 h4 h5 h6=>exact⟨o,cap,B,rfl,h1,h3,h4,h5,h6,h2⟩
theorem iE {id i off} {v:Value} (h:cI P w D ι (.ptr id i off) v):∃B,v=.pointer (some ⟨B.b,i*B.sz+off,none⟩)/\ι id=some B/\B.k=none:=by
 cases h with
 |eO _ _ h=>cases h
 |ptr id i off B h1 h2=>exact⟨B,rfl,h1,h2⟩
theorem MA {id} {v:Value} (h:cI P w D ι (.rL id) v):∃B c,v=.chan (some B.b)/\ι id=some B/\B.k=some (.chan c):=by
 cases h with
 |eO _ _ h=>cases h
 |rL id c B h1 h2=>exact⟨B,c,rfl,h1,h2⟩
theorem FT {id m} {v:Value} (h:cI P w D ι (.map id m) v):∃B,v=.map (some B.b)/\ι id=some B/\B.k=some (.map m):=by
 cases h with
 |eO _ _ h=>cases h
 |map id m B h1 h2=>exact⟨B,rfl,h1,h2⟩
theorem lf {cs} {v:Value} (h:cI P w D ι (.di cs) v):∃b o,∃vs:Nat->Value,v=.pointer (some ⟨b,o,none⟩)/\D b/\(∀a∈cs,a.cell=true)/\(∀j,j<cs.length->w.cell? ⟨b,o+j,none⟩=some (vs j))/\∀j a,cs[j]? =some a->jM P w D a (vs j):=by
 cases h with
 |eO _ _ h=>
  cases h with
  |di cs b o vs h1 h2 h3 h4=>exact⟨b,o,vs,rfl,h1,h2,h3,h4⟩
theorem xi {rows} {v:Value} (h:cI P w D ι (.sl rows) v):∃A c,v=.slice A rows.length c/\rows.length<=c/\c<=maxLen/\
  (rows=[]∨∃b o sz,∃vs:Nat->Nat->Value,A=some ⟨b,o,none⟩/\D b/\(∀cs∈rows,cs.length=sz)/\(∀cs∈rows,∀a∈cs,a.cell=true)/\
   (∀i j,i<rows.length->j<sz->w.cell? ⟨b,o+(i*sz+j),none⟩=some (vs i j))/\∀i j cs a,rows[i]? =some cs->cs[j]? =some a->jM P w D a (vs i j)):=by
 cases h with
 |eO _ _ h=>
  cases h with
  |Bg a c h=>exact⟨a,c,rfl,Nat.zero_le _,h,.inl rfl⟩
  |sl rows b o n c sz vs h1 h2 h3 h4 h5 h5' h6 h7=>subst h1;exact⟨_,c,rfl,h2,h3,.inr ⟨b,o,sz,vs,rfl,h4,h5,h5',h6,h7⟩⟩
inductive eH:AV->Prop
 |int (k n):eH (.int k n)
 |bool (b):eH (.bool b)
 |str (s):eH (.str s)
 |bl:eH .bl
 |gT:eH .gT
 |jd:eH .jd
 |sl (rows):rows.length<=maxLen->(∀cs∈rows,∀a∈cs,eH a)->eH (.sl rows)
 |own (id off len):eH (.own id off len)
 |ptr (id i off):eH (.ptr id i off)
 |di (cs):(∀a∈cs,eH a)->eH (.di cs)
 |agg (cs):(∀a∈cs,eH a)->eH (.agg cs)
 |gD (cs):(∀a∈cs,eH a)->eH (.gD cs)
 |fn (f cN):(∀a∈cN,eH a)->eH (.fn f cN)
 |map (id m):eH (.map id m)
 |rL (id):eH (.rL id)
 |jo:eH .jo
 |uj (f cN):(∀a∈cN,eH a)->eH (.uj f cN)
theorem eH.len {rows:List (List AV)} (h:eH (.sl rows)):rows.length<=9223372036854775807:=by
 cases h with
 |sl _ h _=>unfold maxLen at h;omega
theorem eH.cell {rows:List (List AV)} (h:eH (.sl rows)) {cs:List AV} (hc:cs∈rows) {a:AV} (ha:a∈cs):eH a:=by
 cases h with
 |sl _ _ h=>exact h cs hc a ha
theorem eH.NQ {cs:List AV} (h:eH (.agg cs)) {a:AV} (ha:a∈cs):eH a:=by
 cases h with
 |agg _ h=>exact h a ha
theorem eH.Ce {cs:List AV} (h:eH (.di cs)) {a:AV} (ha:a∈cs):eH a:=by
 cases h with
 |di _ h=>exact h a ha
theorem pa {l:List AV} {p:AV->Prop} (h:∀(j:Nat) (a:AV),l[j]? =some a->p a):∀a∈l,p a:=fun a ha=>by
 obtain⟨j,hj,rfl⟩:=List.getElem_of_mem ha
 exact h j _ (List.getElem?_eq_getElem hj)
theorem jM.JB {a:AV} {v:Value} (h:jM P w D a v):eH a:=by
 induction h with
 |int k n=>exact .int k n
 |bool b=>exact .bool b
 |str s=>exact .str s
 |bl=>exact .bl
 |gT=>exact .gT
 |jd=>exact .jd
 |jo=>exact .jo
 |Bg a c h=>exact .sl [] (Nat.zero_le _) (fun cs h=>by cases h)
 |sl rows b o n c sz vs h1 h2 h3 h4 h5 h5' h6 _ ih=>
  exact .sl rows (by omega) fun cs dt a ha=>by
   obtain⟨i,hi,rfl⟩:=List.getElem_of_mem dt
   obtain⟨j,hj,rfl⟩:=List.getElem_of_mem ha
   exact ih i j _ _ (List.getElem?_eq_getElem hi) (List.getElem?_eq_getElem hj)
 |di cs b o vs h1 Ol h2 _ ih=>exact .di cs (pa ih)
 |agg cs vs f h1 h2 h3 _ ih=>exact .agg cs (pa ih)
 |fn f cN vs g h1 h2 h3 _ ih=>exact .fn f cN (pa ih)
theorem cI.JB {a:AV} {v:Value} (h:cI P w D ι a v):eH a:=by
 induction h with
 |eO a v h=>exact h.JB
 |own id off len o cap B=>exact .own _ _ _
 |ptr id i off B=>exact .ptr _ _ _
 |map id m B=>exact .map _ _
 |rL id c B=>exact .rL _
 |agg cs vs f h1 h2 h3 _ ih=>exact .agg cs (pa ih)
 |gD cs vs f h1 h2 _ ih=>exact .gD cs (pa ih)
 |fn f cN vs g h1 h2 h3 _ ih=>exact .fn f cN (pa ih)
 |uj f cN vs g h1 h2 h3 _ ih=>exact .uj f cN (pa ih)
end Go.Proofs.YtgoljkjaameagaaGreat.V

namespace Go.Proofs.YtgoljkjaameagaaGreat.V
open Go.RowKit
variable {P:Program} {w w':World} {D D':Nat->Prop} {ι ι':Names}
def cr (P:Program) (w:World) (D:Nat->Prop) (ι:Names) (env:Env) (a:Act):Prop:=∀t,cI P w D ι (env t) (a.tmps.getD t undef)
theorem r6 {vs:List Value} {cs:List K} (h:vs.mapM GR=some cs):cs.length=vs.length/\∀(j:Nat) (c:K),cs[j]? =some c->vs[j]? =some c.val:=by
 induction vs generalizing cs with
 |nil=>simp at h;subst h;simp
 |cons v r ih=>
  simp only[List.mapM_cons,Option.bind_eq_bind,Option.bind_eq_some_iff]at h
  obtain⟨c,hc,qk,dt,h⟩:=h
  simp at h;subst h
  obtain⟨h1,h2⟩:=ih dt
  refine⟨by simp[h1],fun j d hd=>?_⟩
  cases j with
  |zero=>simp at hd ⊢;subst hd;exact Aj hc
  |succ j=>simp at hd ⊢;exact h2 j d hd
theorem Vx {vs:List Value} {cs:List K} (h:vs.mapM GR=some cs):cI P w D ι (.agg (cs.map K.av)) (.agg vs.toArray):=by
 obtain⟨h1,h2⟩:=r6 h
 refine .agg _ _ (fun j=>vs.getD j undef) (by simp[h1]) (fun a ha=>?_) (fun j hj=>?_) (fun j a ha=>?_)
 ·obtain⟨c,_,rfl⟩:=List.mem_map.1 ha;exact c.nj
 ·simp at hj;simp[List.getElem?_eq_getElem (show j<vs.length by omega)]
 ·simp only[List.getElem?_map,Option.map_eq_some_iff]at ha
  obtain⟨c,hc,rfl⟩:=ha
  rw[List.getD_eq_getElem?_getD,h2 j c hc];exact xg c
theorem dj {env:Env} {a:Act} {x:Operand} {y:O} (E:cr P w D ι env a) (h:cO P x=some y):cI P w D ι (cQ env y) (a.eval x):=by
 unfold cO at h
 split at h
 ·simp at h;subst h;exact E _
 ·simp only[Option.map_eq_some_iff]at h
  obtain⟨cs,dt,rfl⟩:=h
  have:=Vx (P:=P) (w:=w) (D:=D) (ι:=ι) dt
  simpa[Act.eval,cQ]using this
 ·simp only[Option.map_eq_some_iff]at h
  obtain⟨c,hc,rfl⟩:=h
  simp only[Act.eval,cQ]
  rw[Aj hc];exact xg c
 ·simp at h
 ·split at h
  ·rename_i hc
   simp at h;subst h
   simp only[Act.eval,cQ]
   exact .fn _ _ _ (fun _=>undef) hc rfl (fun j hj=>by simp at hj) (fun j a h=>by simp at h)
  ·simp at h
def oG (P:Program) (a:Act) (o:Oper) (w:World) (D:Nat->Prop) (ι:Names) (v:AV):Prop:=∃u,(execOp a.eval o).run P w=.ok (.value u) w/\cI P w D ι v u
section
variable {g:Rows} {hs:Nat} {env:Env} {a:Act} {o:Oper} {id:Id} {v:AV}
theorem ND {x:Operand} {y:O} (E:cr P w D ι env a) (ho:o.op=.move x∨o.op=.assign x) (hx:cO P x=some y):oG P a o w D ι (cQ env y):=by
 refine⟨a.eval x,?_,dj E hx⟩
 rcases ho with h|h<;>simp[execOp,h,go_sem]
theorem P6 {c x y:Operand} {c' x' y':O} (E:cr P w D ι env a) (ho:o.op=.pick c x y) (hc:cO P c=some c') (hx:cO P x=some x') (hy:cO P y=some y') (hv:de (cQ env c') (cQ env x') (cQ env y')=some v):oG P a o w D ι v:=by
 unfold de at hv
 split at hv
 ·rename_i b hb
  simp at hv;subst hv
  have h1:=e6 (hb▸dj E hc)
  refine⟨if b then a.eval x else a.eval y,by simp only[execOp,ho,h1,asBool];rfl,?_⟩
  cases b
  ·exact dj E hy
  ·exact dj E hx
 ·simp at hv
theorem Su {op:BinOp} {x y:Operand} {x' y':O} {t yt:TypeId} (E:cr P w D ι env a) (ho:o.op=.binOp op t x y yt) (he:op≠.eql) (hn:op≠.neq) (hx:cO P x=some x') (hy:cO P y=some y') (hv:ee op (cQ env x') (cQ env y')=some v):oG P a o w D ι v:=by
 unfold ee at hv
 split at hv
 ·rename_i k n k' m hb ta
  split at hv
  ·rename_i hk
   subst hk
   have h1:=dq (hb▸dj E hx)
   have h2:=dq (ta▸dj E hy)
   have key:∀u,(binOp op t (.int k n) (.int k m)).run P w=.ok u w->(execOp a.eval o).run P w=.ok (.value u) w:=fun u hu=>by
    have e0:eqGuard op t x y (.int k n) (.int k m)=pure ():=by unfold eqGuard;cases op<;>rfl
    simp only[execOp,ho,h1,h2,e0]
    simp[go_sem,hu]
   cases op<;>simp only[dE]at hv<;>(try(simp at hv;done))<;>(try split at hv)<;>(try(simp at hv;done))<;>simp only[Option.some.injEq]at hv<;>subst hv<;>
    (refine⟨_,key _ (by simp only[binOp,ne_eq,not_true_eq_false,if_false,Op.intArith,Op.intDiv,Op.intBits,Op.intCmp, *];rfl),?_⟩)<;>
    first
     |exact .eO _ _ (.int _ _)
     |exact .eO _ _ (.bool _)
  ·simp at hv
 ·simp at hv
theorem PQ {op:BinOp} {x y:Operand} {x' y':O} {t yt:TypeId} (E:cr P w D ι env a) (ho:o.op=.binOp op t x y yt) (he:op≠.eql) (hn:op≠.neq) (hx:cO P x=some x') (hy:cO P y=some y') (hv:dh op (cQ env x') (cQ env y')=some v):oG P a o w D ι v:=by
 unfold dh at hv
 split at hv
 ·rename_i n m hb ta
  have h1:=fD (hb▸dj E hx)
  have h2:=fD (ta▸dj E hy)
  cases op<;>simp only[ew]at hv<;>(try(simp at hv;done))
  case add=>
   split at hv
   ·rename_i hl
    simp only[Option.some.injEq]at hv;subst hv
    exact⟨_,by simp only[execOp,ho,h1,h2];simp[eqGuard,binOp,go_sem];exact hl,.eO _ _ (.str _)⟩
   ·simp at hv
  all_goals
   simp only[Option.some.injEq]at hv;subst hv
   exact⟨_,by simp only[execOp,ho,h1,h2];simp[eqGuard,binOp,Op.stringOp,go_sem],.eO _ _ (.bool _)⟩
 ·simp at hv
theorem FX (n m:ByteArray):(n.toList==m.toList)=decide (n=m):=by
 rw[ByteArray.toList_eq,ByteArray.toList_eq]
 by_cases h:n=m
 ·subst h;simp
 ·have:n.data.toList≠m.data.toList:=fun he=>h (ByteArray.ext (Array.ext' he))
  rw[decide_eq_false h];exact beq_eq_false_iff_ne.2 this
theorem pS {t:TypeId} (h:fq P t=some .tB):P.underlying t=some .bool:=by unfold fq at h;split at h<;>simp_all
theorem pT {t:TypeId} (h:fq P t=some .tI):∃k,P.underlying t=some (.int k):=by unfold fq at h;split at h<;>simp_all
theorem pU {t:TypeId} (h:fq P t=some .tS):P.underlying t=some .string:=by unfold fq at h;split at h<;>simp_all
theorem sk {d:Nat} {t:TypeId} {s:TS} {x y:AV} {u u':Value} {b:Bool} (hx:cI P w D ι x u) (hy:cI P w D ι y u') (hv:fX s x y=some b) (ht:fq P t=some s):(Op.equalIn (d+1) t u u').run P w=.ok b w:=by
 unfold fX at hv
 split at hv
 ·rename_i k n k' m
  split at hv
  ·rename_i hk
   subst hk
   simp at hv;subst hv
   obtain⟨q,hq⟩:=pT ht
   rw[dq hx,dq hy,run_equalIn_int _ _ _ _ _ _ _ hq];rfl
  ·simp at hv
 ·simp at hv;subst hv
  rw[e6 hx,e6 hy,run_equalIn_bool' _ _ _ _ _ (pS ht)]
 ·simp at hv;subst hv
  rw[fD hx,fD hy,run_equalIn_string _ _ _ _ _ (pU ht),FX]
 ·simp at hv
def fm (P:Program) (w:World) (D:Nat->Prop) (ι:Names) (xs:List AV) (vs:Array Value):Prop:=vs.size=xs.length/\∀(j:Nat) (a:AV),xs[j]? =some a->∃u,vs[j]? =some u/\cI P w D ι a u
theorem fm.part {xs:List AV} {vs:Array Value} (h:fm P w D ι xs vs) (off n:Nat) (hn:off+n<=xs.length):fm P w D ι ((xs.drop off).take n) (vs.extract off (off+n)):=by
 refine⟨by simp[h.1];omega,fun j a ha=>?_⟩
 rw[List.getElem?_take]at ha
 split at ha
 ·rename_i hj
  rw[List.getElem?_drop]at ha
  obtain⟨u,h1,h2⟩:=h.2 _ _ ha
  refine⟨u,?_,h2⟩
  rw[Array.getElem?_extract]
  rw[if_pos (by rw[h.1];omega),h1]
 ·simp at ha
theorem rO:∀{ts:List TS} {xs ys:List AV} {b:Bool},eX ts xs ys=some b->xs.length=ts.length/\ys.length=ts.length
 |[],[],[],_,_=>⟨rfl,rfl⟩
 |t::ts,x::xs,y::ys,b,h=>by
  unfold eX at h
  split at h
  ·rename_i c d h1 h2
   have:=rO h2
   simp[this.1,this.2]
  ·simp at h
 |[],[],_::_,_,h=>by simp[eX]at h
 |[],_::_,_,_,h=>by simp[eX]at h
 |_::_,[],_,_,h=>by simp[eX]at h
 |_::_,_::_,[],_,h=>by simp[eX]at h
theorem Fj:∀{ts us:List TS} {xs ys:List AV} {b:Bool},eX (ts++us) xs ys=some b->∃c d,eX ts (xs.take ts.length) (ys.take ts.length)=some c/\eX us (xs.drop ts.length) (ys.drop ts.length)=some d/\b=(c&&d)
 |[],us,xs,ys,b,h=>⟨true,b,by simp[eX],by simpa using h,by simp⟩
 |t::ts,us,x::xs,y::ys,b,h=>by
  simp only[List.cons_append]at h
  unfold eX at h
  split at h
  ·rename_i c d h1 h2
   obtain⟨c',d',h3,h4,rfl⟩:=Fj h2
   simp at h;subst h
   exact⟨c&&c',d',by simp[eX,h1,h3],by simpa using h4,by simp[Bool.and_assoc]⟩
  ·simp at h
 |t::ts,us,[],ys,b,h=>by simp[eX]at h
 |t::ts,us,x::xs,[],b,h=>by simp[eX]at h
theorem mK {t:TypeId} {vs:Array Value} {off:Nat} {u:Value} (ha:n9 P t=some false) (hu:vs[off]? =some u):(Go.part t vs off).run P w=.ok u w:=by
 unfold n9 at ha
 have hi:(isAgg t).run P w=.ok false w:=by
  split at ha<;>simp at ha
  rename_i d h1 h2 hd
  simp only[isAgg,Sem.run_bind,run_underlying hd,Result.andThen_ok]
  cases d<;>simp_all
 simp[Go.part,hi,hu]
theorem tC {t:TypeId} {b:Bool} (ha:n9 P t=some b):(isAgg t).run P w=.ok b w:=by
 unfold n9 at ha
 split at ha<;>simp at ha<;>subst ha<;>rename_i hd<;>simp only[isAgg,Sem.run_bind,run_underlying hd,Result.andThen_ok]<;>(try simp)
theorem run_sizeOf {t:TypeId} {n:Nat} (h:dZ P t=some n):(sizeOf t).run P w=.ok n w:=by
 unfold dZ at h
 simp only[Option.map_eq_some_iff]at h
 obtain⟨i,hi,rfl⟩:=h
 simp[sizeOf,typeInfo,hi]
theorem pR {t:TypeId} {vs:Array Value} {off n:Nat} (ha:n9 P t=some true) (hn:dZ P t=some n):(Go.part t vs off).run P w=.ok (.agg (vs.extract off (off+n))) w:=by
 simp[Go.part,tC ha,run_sizeOf hn]
theorem IM (d off:Nat):eK P (d+1) off []=some []:=rfl
theorem yI (d off:Nat) (f:Field) (r:List Field):eK P (d+1) off (f::r)=(if f.offset=off/\f.name≠ "_" then
   match fq P f.type with
   |some t=>if n9 P f.type=some false then(eK P (d+1) (off+1) r).map (t::·)else none
   |none=>match P.underlying f.type with
    |some (.struct fs)=>if !P.stoodInHeld f.type then match eK P d 0 fs.toList with
     |some ts=>if dZ P f.type=some ts.length/\ts≠[]then(eK P (d+1) (off+ts.length) r).map (ts++·)else none
     |none=>none else none
    |_=>none
  else none):=rfl
theorem sj:∀(d:Nat) (fs:List Field) (off:Nat) (ts:List TS),eK P d off fs=some ts->∀(N:Nat) (_:d<=N) (xs ys:List AV) (vs us:Array Value) (b:Bool),fm P w D ι xs vs->fm P w D ι ys us->
  eX ts ((xs.drop off).take ts.length) ((ys.drop off).take ts.length)=some b->(Op.eqFields (N+1) vs us fs).run P w=.ok b w:=by
 intro d
 induction d with
 |zero=>
  intro fs off ts hf N _ xs ys vs us b _ _ he
  cases fs with
  |nil=>simp[eK]at hf;subst hf;simp[eX]at he;subst he;simp[Op.eqFields]
  |cons f r=>simp[eK]at hf
 |succ d ihd=>
  intro fs
  induction fs with
  |nil=>
   intro off ts hf N _ xs ys vs us b _ _ he
   rw[IM]at hf;simp at hf;subst hf;simp[eX]at he;subst he;simp[Op.eqFields]
  |cons f r ih=>
   intro off ts hf N hN xs ys vs us b hx hy he
   rw[yI]at hf
   split at hf
   ·rename_i hcond
    obtain⟨ho,gZ⟩:=hcond
    split at hf
    ·rename_i s hs
     split at hf
     ·rename_i vd
      simp only[Option.map_eq_some_iff]at hf
      obtain⟨NB,hr,rfl⟩:=hf
      obtain⟨l1,l2⟩:=rO he
      simp only[List.length_cons,List.length_take,List.length_drop]at l1 l2
      have HV:off<xs.length:=by omega
      have hyo:off<ys.length:=by omega
      rw[List.drop_eq_getElem_cons HV,List.drop_eq_getElem_cons hyo,List.length_cons,List.take_succ_cons,List.take_succ_cons]at he
      unfold eX at he
      split at he
      ·rename_i c d' h1 h2
       simp at he;subst he
       obtain⟨u,hu,ru⟩:=hx.2 off _ (List.getElem?_eq_getElem HV)
       obtain⟨u',FD,ru'⟩:=hy.2 off _ (List.getElem?_eq_getElem hyo)
       have:=ih (off+1) NB hr N hN xs ys vs us d' hx hy h2
       simp only[Op.eqFields,if_pos gZ,Sem.run_bind,ho,mK vd hu,mK vd FD,Result.andThen_ok,sk ru ru' h1 hs,Sem.run_ite]
       cases c<;>simp[this]
      ·simp at he
     ·simp at hf
    ·split at hf
     ·rename_i fs' rR
      split at hf
      ·rename_i dH
       split at hf
       ·rename_i ts1 hts1
        split at hf
        ·rename_i fo
         simp only[Option.map_eq_some_iff]at hf
         obtain⟨NB,hr,rfl⟩:=hf
         obtain⟨c,d',h1,h2,rfl⟩:=Fj he
         obtain⟨l1,l2⟩:=rO he
         simp only[List.length_append,List.length_take,List.length_drop]at l1 l2
         have vd:n9 P f.type=some true:=by simp[n9,rR]
         have kz:0<ts1.length:=List.length_pos_iff.2 fo.2
         have Jp:off+ts1.length<=xs.length:=by omega
         have RV:off+ts1.length<=ys.length:=by omega
         rw[List.drop_take,List.drop_drop,List.drop_take,List.drop_drop]at h2
         rw[List.take_take,List.take_take]at h1
         simp only[List.length_append]at h1 h2
         rw[Nat.min_eq_left (by omega)]at h1
         have e2:ts1.length+NB.length-ts1.length=NB.length:=by omega
         rw[e2]at h2
         have:=ih (off+ts1.length) NB hr N hN xs ys vs us d' hx hy h2
         have fw:=ihd fs'.toList 0 ts1 hts1 (N-1) (by omega) _ _ _ _ c (hx.part off ts1.length Jp) (hy.part off ts1.length RV) (by simpa[List.take_take]using h1)
         have hN':N-1+1=N:=by omega
         rw[hN']at fw
         have I5:P.fieldsOf f.type=fs':=by simp[Program.fieldsOf,rR]
         simp only[Op.eqFields,if_pos gZ,Sem.run_bind,ho,pR vd fo.1,Result.andThen_ok,Sem.run_ite]
         rw[run_equalIn_struct w N f.type _ _ (by rw[I5];exact rR) (by simpa using dH),I5,fw]
         cases c<;>simp[this]
        ·simp at hf
       ·simp at hf
      ·simp at hf
     ·simp at hf
   ·simp at hf
theorem Sy {x y:Operand} {x' y':O} {t yt:TypeId} {neg:Bool} {s:TS} {b:Bool} (E:cr P w D ι env a) (ho:o.op=.binOp (if neg then .neq else .eql) t x y yt) (hs:fq P t=some s) (hx:cO P x=some x') (hy:cO P y=some y')
  (hv:fX s (cQ env x') (cQ env y')=some b):oG P a o w D ι (.bool (dp neg b)):=by
 have rx:=dj E hx
 have ry:=dj E hy
 refine⟨.bool (dp neg b),?_,.eO _ _ (.bool _)⟩
 have e0:(eqGuard (if neg then .neq else .eql) t x y (a.eval x) (a.eval y)).run P w=.ok () w:=by
  unfold fX at hv
  split at hv
  ·rename_i k n k' m h1 h2
   rw[h1]at rx;rw[h2]at ry
   rw[dq rx,dq ry];unfold eqGuard;cases neg<;>simp
  ·rename_i n m h1 h2
   rw[h1]at rx;rw[h2]at ry
   rw[e6 rx,e6 ry];unfold eqGuard;cases neg<;>simp
  ·rename_i n m h1 h2
   rw[h1]at rx;rw[h2]at ry
   rw[fD rx,fD ry];unfold eqGuard;cases neg<;>simp
  ·simp at hv
 have e1:(binOp (if neg then .neq else .eql) t (a.eval x) (a.eval y)).run P w=.ok (.bool (dp neg b)) w:=by
  have q:=sk (d:=9999) rx ry hv hs
  unfold fX at hv
  split at hv
  ·rename_i k n k' m h1 h2
   split at hv
   ·rename_i hk
    subst hk
    simp at hv;subst hv
    rw[h1]at rx;rw[h2]at ry
    rw[dq rx,dq ry]
    cases neg<;>simp only[binOp,ne_eq,not_true_eq_false,if_false,Op.intCmp,dp,if_true,Bool.false_eq_true]<;>simp[bne]<;>rfl
   ·simp at hv
  ·rename_i n m h1 h2
   rw[h1]at rx;rw[h2]at ry
   rw[e6 rx,e6 ry]at q ⊢
   cases neg<;>simp only[binOp,dp,if_true,Bool.false_eq_true,if_false,Sem.run_bind]<;>simp[Op.equal,Op.maxDepth,q]
  ·rename_i n m h1 h2
   simp at hv;subst hv
   rw[h1]at rx;rw[h2]at ry
   rw[fD rx,fD ry]
   cases neg<;>simp[binOp,Op.stringOp,dp,FX]
  ·simp at hv
 simp only[execOp,ho,Sem.run_bind,e0,e1,Result.andThen_ok,Sem.run_pure]
theorem Sw {x y:Operand} {x' y':O} {t yt:TypeId} {neg:Bool} {ts:List TS} {fs:Array Field} {xs ys:List AV} {b:Bool} (E:cr P w D ι env a) (ho:o.op=.binOp (if neg then .neq else .eql) t x y yt) (rR:P.underlying t=some (.struct fs)) (dH:P.stoodInHeld t=false) (LK:P.eqGuardType P.depth t=false)
  (ya:eK P 4 0 fs.toList=some ts) (hx:cO P x=some x') (hy:cO P y=some y') (h1:cQ env x'=.agg xs) (h2:cQ env y'=.agg ys)
  (hv:eX ts xs ys=some b):oG P a o w D ι (.bool (dp neg b)):=by
 obtain⟨vs,f,rx,n1,_,f1,r1⟩:=iR (h1▸dj E hx)
 obtain⟨us,f',ry,n2,_,f2,r2⟩:=iR (h2▸dj E hy)
 refine⟨.bool (dp neg b),?_,.eO _ _ (.bool _)⟩
 obtain⟨l1,l2⟩:=rO hv
 have L:∀(xs:List AV) (vs:Array Value) (f:Nat->Value),vs.size=xs.length->(∀j,j<xs.length->vs[j]? =some (f j))->(∀j a,xs[j]? =some a->cI P w D ι a (f j))->fm P w D ι xs vs:=fun xs vs f h1 h2 h3=>
  ⟨h1,fun j a ha=>⟨f j,h2 j (List.getElem?_eq_some_iff.1 ha).1,h3 j a ha⟩⟩
 have q:=sj (w:=w) 4 fs.toList 0 ts ya 9998 (by omega) xs ys vs us b (L _ _ _ n1 f1 r1) (L _ _ _ n2 f2 r2) (by simpa[List.take_of_length_le,l1,l2]using hv)
 have I5:P.fieldsOf t=fs:=by simp[Program.fieldsOf,rR]
 have q2:(Op.equal t (.agg vs) (.agg us)).run P w=.ok b w:=by
  unfold Op.equal
  rw[show Op.maxDepth=9999+1 from rfl,run_equalIn_struct w 9999 t _ _ (by rw[I5];exact rR) dH,I5,q]
 simp only[execOp,ho,Sem.run_bind,rx,ry,run_eqGuard_agg w _ _ _ _ _ _ LK,Result.andThen_ok]
 cases neg<;>simp[binOp,q2,dp]
theorem PT {x:Operand} {x':O} {t yt e:TypeId} {neg:Bool} {b:Bool} (E:cr P w D ι env a) (ho:o.op=.binOp (if neg then .neq else .eql) t x (.const (.slice none 0 0)) yt) (ht:P.underlying t=some (.slice e)) (hx:cO P x=some x')
  (hv:dd (cQ env x')=some b):oG P a o w D ι (.bool (dp neg b)):=by
 have hr:=dj E hx
 have rx:∃A n c,a.eval x=.slice A n c/\b=A.isNone:=by
  unfold dd at hv
  split at hv<;>simp at hv<;>subst hv<;>rename_i hh
  ·rw[hh]at hr;exact⟨_,_,_,ki hr,rfl⟩
  ·rw[hh]at hr;obtain⟨o,cap,B,h,_⟩:=iS hr
   exact⟨_,_,_,h,rfl⟩
  ·rw[hh]at hr
   obtain⟨A,c,h',_,_,h⟩:=xi hr
   rcases h with h|⟨b,o,sz,vs,rfl,_⟩
   ·simp at h
   ·exact⟨_,_,_,h',rfl⟩
 refine⟨.bool (dp neg b),?_,.eO _ _ (.bool _)⟩
 obtain⟨A,n,c,h,rfl⟩:=rx
 have hq:(Op.equal t (.slice A n c) (.slice none 0 0)).run P w=.ok A.isNone w:=by
  unfold Op.equal
  rw[show Op.maxDepth=9999+1 from rfl,Op.equalIn]
  simp only[Sem.run_bind,run_underlying ht,Result.andThen_ok]
  cases A<;>rfl
 have hc:a.eval (.const (.slice none 0 0))=.slice none 0 0:=rfl
 simp only[execOp,ho,h,hc]
 cases neg<;>simp only[Bool.false_eq_true,if_false,if_true,Bool.not_true,Bool.not_false,eqGuard,binOp,dp,Sem.run_bind,hq,Result.andThen_ok,Sem.run_pure]
theorem Sx {x:Operand} {x':O} {t yt e:TypeId} {neg:Bool} {b:Bool} (E:cr P w D ι env a) (ho:o.op=.binOp (if neg then .neq else .eql) t x (.const (.pointer none)) yt) (ht:P.underlying t=some (.pointer e)) (hx:cO P x=some x')
  (hv:KH (cQ env x')=some b):oG P a o w D ι (.bool (dp neg b)):=by
 have hr:=dj E hx
 have rx:∃A,a.eval x=.pointer A/\b=A.isNone:=by
  unfold KH at hv
  split at hv<;>simp at hv<;>subst hv<;>rename_i hh
  ·rw[hh]at hr;exact⟨_,J3 hr,rfl⟩
  ·rw[hh]at hr;obtain⟨B,h,_⟩:=iE hr
   exact⟨_,h,rfl⟩
  ·rw[hh]at hr;obtain⟨_,_,_,h,_⟩:=lf hr
   exact⟨_,h,rfl⟩
 refine⟨.bool (dp neg b),?_,.eO _ _ (.bool _)⟩
 obtain⟨A,h,rfl⟩:=rx
 have hq:(Op.equal t (.pointer A) (.pointer none)).run P w=.ok A.isNone w:=by
  unfold Op.equal
  rw[show Op.maxDepth=9999+1 from rfl,Op.equalIn]
  simp only[Sem.run_bind,run_underlying ht,Result.andThen_ok]
  cases A<;>rfl
 have hc:a.eval (.const (.pointer none))=.pointer none:=rfl
 simp only[execOp,ho,h,hc]
 cases neg<;>simp only[Bool.false_eq_true,if_false,if_true,Bool.not_true,Bool.not_false,eqGuard,binOp,dp,Sem.run_bind,hq,Result.andThen_ok,Sem.run_pure]
theorem PS {x:Operand} {x':O} {t yt:TypeId} {p r:Array TypeId} {va:Bool} {neg:Bool} {b:Bool} (E:cr P w D ι env a) (ho:o.op=.binOp (if neg then .neq else .eql) t x (.const .nilFunc) yt) (ht:P.underlying t=some (.func p r va)) (hx:cO P x=some x')
  (hv:dc (cQ env x')=some b):oG P a o w D ι (.bool (dp neg b)):=by
 have hr:=dj E hx
 have rx:a.eval x=.nilFunc/\b=true∨∃f c,a.eval x=.func f #[] c/\b=false:=by
  unfold dc at hv
  split at hv<;>simp at hv<;>subst hv<;>rename_i hh
  ·rw[hh]at hr;exact .inl ⟨xh hr,rfl⟩
  ·rw[hh]at hr;obtain⟨vs,g,h,_⟩:=AD hr
   exact .inr ⟨_,_,h,rfl⟩
 refine⟨.bool (dp neg b),?_,.eO _ _ (.bool _)⟩
 have hc:a.eval (.const .nilFunc)=.nilFunc:=rfl
 rcases rx with⟨h,rfl⟩|⟨f,c,h,rfl⟩
 ·have hq:(Op.equal t .nilFunc .nilFunc).run P w=.ok true w:=by
   unfold Op.equal
   rw[show Op.maxDepth=9999+1 from rfl,Op.equalIn]
   simp only[Sem.run_bind,run_underlying ht,Result.andThen_ok]
   rfl
  simp only[execOp,ho,h,hc]
  cases neg<;>simp only[Bool.false_eq_true,if_false,if_true,Bool.not_true,Bool.not_false,eqGuard,binOp,dp,Sem.run_bind,hq,Result.andThen_ok,Sem.run_pure]
 ·have hq:(Op.equal t (.func f #[] c) .nilFunc).run P w=.ok false w:=by
   unfold Op.equal
   rw[show Op.maxDepth=9999+1 from rfl,Op.equalIn]
   simp only[Sem.run_bind,run_underlying ht,Result.andThen_ok]
   rfl
  simp only[execOp,ho,h,hc]
  cases neg<;>simp only[Bool.false_eq_true,if_false,if_true,Bool.not_true,Bool.not_false,eqGuard,binOp,dp,Sem.run_bind,hq,Result.andThen_ok,Sem.run_pure]
theorem SB {x:Operand} {x':O} {t:TypeId} (E:cr P w D ι env a) (ho:o.op=.unOp .not t x) (hx:cO P x=some x') (hv:ek (cQ env x')=some v):oG P a o w D ι v:=by
 have hr:=dj E hx
 unfold ek at hv
 split at hv
 ·rename_i b hb
  simp at hv;subst hv
  rw[hb]at hr
  exact⟨_,by simp only[execOp,ho,e6 hr];rfl,.eO _ _ (.bool _)⟩
 ·simp at hv
theorem SA {x:Operand} {x':O} {t:TypeId} (E:cr P w D ι env a) (ho:o.op=.unOp .neg t x) (hx:cO P x=some x') (hv:ei (cQ env x')=some v):oG P a o w D ι v:=by
 have hr:=dj E hx
 unfold ei at hv
 split at hv
 ·rename_i k n hb
  simp at hv;subst hv
  rw[hb]at hr
  refine⟨_,by simp only[execOp,ho,dq hr];rfl,?_⟩
  rw[Int.zero_sub];exact .eO _ _ (.int _ _)
 ·simp at hv
theorem PR {x:Operand} {x':O} {s d:TypeId} {k q:IntKind} (E:cr P w D ι env a) (ho:o.op=.convert s d x) (hs:P.underlying s=some (.int q)) (hd:P.underlying d=some (.int k)) (hx:cO P x=some x') (hv:cV k (cQ env x')=some v):oG P a o w D ι v:=by
 have hr:=dj E hx
 unfold cV at hv
 split at hv
 ·rename_i k' n hb
  simp at hv;subst hv
  rw[hb]at hr
  refine⟨.int k (k.wrap n),?_,.eO _ _ (.int _ _)⟩
  simp only[execOp,ho,dq hr,convert,Sem.run_bind,run_underlying hs,run_underlying hd,Result.andThen_ok,Conv.intToInt,Sem.run_pure]
 ·simp at hv
theorem MS {x:Operand} {x':O} {s:TypeId} {i:Nat} {fs:Array Field} {f:Field} {m:Nat} (E:cr P w D ι env a) (ho:o.op=.fieldAddr s x i) (hs:P.underlying s=some (.struct fs)) (hf:fs[i]? =some f) (hm:dZ P f.type=some (m+1)) (hx:cO P x=some x')
  (hv:EX f.offset (cQ env x')=some v):oG P a o w D ι v:=by
 have hr:=dj E hx
 have go:∀b oo,a.eval x=.pointer (some ⟨b,oo,none⟩)->(execOp a.eval o).run P w=.ok (.value (.pointer (some ⟨b,oo+f.offset,none⟩))) w:=fun b oo h=>by
  simp only[execOp,ho,h,Instr.fieldAt,Sem.run_bind,run_underlying hs,Result.andThen_ok,hf,Instr.sureAddr,Sem.run_pure,fieldPlace,run_sizeOf hm,Nat.add_eq_zero_iff,Nat.one_ne_zero,and_false,if_false,Addr.add]
  split
  ·rename_i h0;simp[h0]
  ·rfl
 unfold EX at hv
 split at hv
 ·rename_i j6 i' oo hb
  simp at hv;subst hv
  rw[hb]at hr
  obtain⟨B,h,hB,hk⟩:=iE hr
  refine⟨_,go _ _ h,?_⟩
  rw[Nat.add_assoc]
  exact .ptr _ _ _ _ hB hk
 ·rename_i cs hb
  simp at hv;subst hv
  rw[hb]at hr
  obtain⟨b,oo,vs,h,h1,h2,h3,h4⟩:=lf hr
  refine⟨_,go _ _ h,.eO _ _ (.di _ _ _ (fun j=>vs (f.offset+j)) h1 (fun a ha=>h2 a (List.mem_of_mem_drop ha)) (fun j hj=>?_) (fun j a ha=>h4 _ _ (by simpa using ha)))⟩
  rw[Nat.add_assoc]
  exact h3 _ (by simp at hj;omega)
 ·simp at hv
theorem MT {x:Operand} {x':O} {s:TypeId} {i n:Nat} {ag:Bool} {fs:Array Field} {f:Field} (E:cr P w D ι env a) (ho:o.op=.field s x i) (hs:P.underlying s=some (.struct fs)) (hf:fs[i]? =some f) (vd:n9 P f.type=some ag) (hm:dZ P f.type=some n) (hx:cO P x=some x')
  (hv:bK ag f.offset n (cQ env x')=some v):oG P a o w D ι v:=by
 have hr:=dj E hx
 unfold bK at hv
 split at hv
 ·rename_i cs hb
  split at hv
  ·rename_i hl
   rw[hb]at hr
   obtain⟨vs,g,h,n1,fl,f1,r1⟩:=iR hr
   unfold part at hv
   cases ag with
   |true=>
    simp only[if_true]at hv
    split at hv
    ·simp at hv;subst hv
     refine⟨.agg (vs.extract f.offset (f.offset+n)),?_,.agg _ _ (fun j=>g (f.offset+j)) (by simp[n1];omega) (fun a ha=>fl a (List.mem_of_mem_drop (List.mem_of_mem_take ha))) (fun j hj=>?_) (fun j a ha=>?_)⟩
     ·simp only[execOp,ho,h,Instr.field,Sem.run_bind,run_underlying hs,Result.andThen_ok,hf,asAgg,Sem.run_pure,pR vd hm]
     ·simp at hj
      rw[Array.getElem?_extract,if_pos (by omega)];exact f1 _ (by omega)
     ·rw[List.getElem?_take]at ha
      split at ha
      ·exact r1 _ _ (by simpa using ha)
      ·simp at ha
    ·simp at hv
   |false=>
    simp only[Bool.false_eq_true,if_false]at hv
    have oi:cs[f.offset]? =some v:=by simpa[List.head?_drop]using hv
    have dU:=(List.getElem?_eq_some_iff.1 oi).1
    exact⟨g f.offset,by simp only[execOp,ho,h,Instr.field,Sem.run_bind,run_underlying hs,Result.andThen_ok,hf,asAgg,Sem.run_pure,mK vd (f1 _ dU)],r1 _ _ oi⟩
  ·simp at hv
 ·simp at hv
theorem SC {left:Bool} {x y:Operand} {x' y':O} {t yt:TypeId} (E:cr P w D ι env a) (ho:o.op=.binOp (if left then .shl else .shr) t x y yt) (hx:cO P x=some x') (hy:cO P y=some y') (hv:ik left (cQ env x') (cQ env y')=some v):oG P a o w D ι v:=by
 unfold ik at hv
 split at hv
 ·rename_i k n k' m hb ta
  split at hv
  ·simp at hv
  ·rename_i hm
   simp at hv;subst hv
   have h1:=dq (hb▸dj E hx)
   have h2:=dq (ta▸dj E hy)
   refine⟨_,?_,.eO _ _ (.int _ _)⟩
   simp only[execOp,ho,h1,h2]
   cases left<;>simp only[Bool.false_eq_true,if_false,if_true,eqGuard,Bool.not_true,Bool.not_false,binOp,Op.shift,hm,Sem.run_bind,Sem.run_pure,Result.andThen_ok]<;>rfl
 ·simp at hv
end
end Go.Proofs.YtgoljkjaameagaaGreat.V

namespace Go.Proofs.YtgoljkjaameagaaGreat.V
open Go.RowKit
variable {P:Program} {w w':World} {D D':Nat->Prop} {ι ι':Names}
theorem km (b o j:Nat):(⟨b,o,none⟩:Addr).add j=⟨b,o+j,none⟩:=by unfold Addr.add;split<;>simp_all
section
variable {g:Rows} {hs:Nat} {env:Env} {a:Act} {o:Oper} {id:Id} {v:AV}
theorem kK {t:TypeId} {ag:Bool} {n b oo:Nat} {cs:List AV} {v:AV} {f:Nat->Value} (vd:n9 P t=some ag) (hn:dZ P t=some n) (hp:part ag n cs=some v) (fl:∀a∈cs,a.cell=true)
  (hc:∀j,j<cs.length->w.cell? ⟨b,oo+j,none⟩=some (f j)) (hr:∀j a,cs[j]? =some a->cI P w D ι a (f j)):∃u,(loadVar t ⟨b,oo,none⟩).run P w=.ok u w/\cI P w D ι v u:=by
 unfold part at hp
 cases ag with
 |true=>
  simp only[if_true]at hp
  split at hp
  ·rename_i hl
   simp at hp;subst hp
   refine⟨.agg ((List.range n).map f).toArray,?_,.agg _ _ f (by simp;omega) (fun a ha=>fl a (List.mem_of_mem_take ha)) (fun j hj=>?_) (fun j a ha=>?_)⟩
   ·simp only[loadVar,Sem.run_bind,tC vd,Result.andThen_ok,if_true,run_sizeOf hn,Sem.run_pure]
    rw[run_loadCells w _ n f (fun j hj=>by rw[km];exact hc j (by omega))]
    rfl
   ·simp at hj
    have:j<n:=by omega
    simp[this]
   ·rw[List.getElem?_take]at ha
    split at ha
    ·exact hr _ _ ha
    ·simp at ha
  ·simp at hp
 |false=>
  simp only[Bool.false_eq_true,if_false]at hp
  cases cs with
  |nil=>simp at hp
  |cons c r=>
   simp at hp;subst hp
   refine⟨f 0,?_,hr 0 _ rfl⟩
   simp only[loadVar,Sem.run_bind,tC vd,Result.andThen_ok,Bool.false_eq_true,if_false]
   have:=hc 0 (by simp)
   simp at this
   rw[run_load,this]
theorem Kd {S:gz P hs D ι g w} {i:Nat} {cs:List AV} (h:rowAt g id i=some cs) (hk:∀B,ι id=some B->B.k=none):∃B r,g id=some r/\ι id=some B/\lG P w D ι B r/\r.rows[i]? =some cs/\(∀a∈cs,a.cell=true)/\∃f:Nat->Value,∀j,j<cs.length->w.cell? ⟨B.b,i*B.sz+j,none⟩=some (f j)/\∀a,cs[j]? =some a->cI P w D ι a (f j):=by
 unfold rowAt at h
 simp only[Option.bind_eq_some_iff]at h
 obtain⟨r,hr,hi⟩:=h
 obtain⟨B,hB,R,_,_⟩:=S.row id r hr
 replace R:=R.row (hk B hB)
 refine⟨B,r,hr,hB,R,hi,R.flat cs (List.mem_of_getElem? hi),fun j=>(w.cell? ⟨B.b,i*B.sz+j,none⟩).getD undef,fun j hj=>?_⟩
 obtain⟨u,hu,x9⟩:=R.at_ i j cs _ hi (List.getElem?_eq_getElem hj)
 rw[R.sz,hu]
 refine⟨by simp only[hu,Option.getD_some],fun a ha=>?_⟩
 rw[List.getElem?_eq_getElem hj]at ha
 injection ha with ha
 subst ha
 simpa only[hu,Option.getD_some]using x9
theorem PZ {x:Operand} {x':O} {t:TypeId} {ag:Bool} {n:Nat} (S:gz P hs D ι g w) (E:cr P w D ι env a) (ho:o.op=.load t x) (vd:n9 P t=some ag) (hn:dZ P t=some n) (hx:cO P x=some x') (hv:ld g ag n (cQ env x')=some v):oG P a o w D ι v:=by
 have hr:=dj E hx
 have go:∀b oo u,a.eval x=.pointer (some ⟨b,oo,none⟩)->(loadVar t ⟨b,oo,none⟩).run P w=.ok u w->(execOp a.eval o).run P w=.ok (.value u) w:=fun b oo u h h2=>by
  simp only[execOp,ho,h,Instr.loadAt,Instr.sureAddr,Sem.run_bind,Sem.run_pure,Result.andThen_ok,h2]
 unfold ld at hv
 split at hv
 ·rename_i j6 i' oo hb
  rw[hb]at hr
  obtain⟨B,h,hB,hk⟩:=iE hr
  simp only[Option.bind_eq_some_iff]at hv
  obtain⟨cs,dt,hp⟩:=hv
  obtain⟨B',r,C6,dz,R,hi,fl,f,hf⟩:=Kd (S:=S) dt (fun B2 h2=>by rw[hB]at h2;injection h2 with h2;subst h2;exact hk)
  rw[hB]at dz;injection dz with dz;subst dz
  obtain⟨u,h1,h2⟩:=kK (w:=w) (b:=B.b) (oo:=i'*B.sz+oo) (f:=fun j=>f (oo+j)) vd hn hp (fun a ha=>fl a (List.mem_of_mem_drop ha)) (fun j hj=>by
   rw[Nat.add_assoc];exact(hf _ (by simp at hj;omega)).1) (fun j a ha=>by
   simp at ha;exact(hf _ ((List.getElem?_eq_some_iff.1 ha).1)).2 _ ha)
  exact⟨u,go _ _ _ h h1,h2⟩
 ·rename_i cs hb
  rw[hb]at hr
  obtain⟨b,oo,vs,h,h1,h2,h3,h4⟩:=lf hr
  obtain⟨u,k1,k2⟩:=kK (w:=w) (b:=b) (oo:=oo) (f:=vs) vd hn hv h2 h3 (fun j a ha=>.eO _ _ (h4 j a ha))
  exact⟨u,go _ _ _ h k1,k2⟩
 ·simp at hv
theorem Sv {x:Operand} {x':O} (E:cr P w D ι env a) (ho:o.op=.nilCheck x) (hx:cO P x=some x') (hv:ef (cQ env x')=some v):oG P a o w D ι v:=by
 have hr:=dj E hx
 unfold ef at hv
 split at hv
 ·rename_i j6 i' oo hb
  simp at hv;subst hv
  rw[hb]at hr
  obtain⟨B,h,hB,hk⟩:=iE hr
  exact⟨_,by simp only[execOp,ho,h];rfl,.ptr _ _ _ _ hB hk⟩
 ·rename_i cs hb
  simp at hv;subst hv
  rw[hb]at hr
  obtain⟨b,oo,vs,h,_⟩:=lf hr
  exact⟨_,by simp only[execOp,ho,h];rfl,h▸hr⟩
 ·simp at hv
theorem MU {x i:Operand} {x' i':O} {t e:TypeId} {m:Nat} (S:gz P hs D ι g w) (E:cr P w D ι env a) (ho:o.op=.indexAddr t x i) (ht:P.underlying t=some (.slice e)) (hm:dZ P e=some (m+1)) (hx:cO P x=some x') (hi:cO P i=some i')
  (hv:bP g (m+1) (cQ env x') (cQ env i')=some v):oG P a o w D ι v:=by
 have hr:=dj E hx
 have DV:=dj E hi
 have go:∀b oo n c k (q:Int),a.eval x=.slice (some ⟨b,oo,none⟩) n c->a.eval i=.int k q->0<=q->q<n->(execOp a.eval o).run P w=.ok (.value (.pointer (some ⟨b,oo+q.toNat*(m+1),none⟩))) w:=fun b oo n c k q h h2 h3 h4=>by
  simp only[execOp,ho,h,h2,Instr.indexAt,asIntOf,Sem.run_bind,Sem.run_pure,run_underlying ht,Result.andThen_ok,h3,h4,and_self,if_true,run_sizeOf hm,km]
 unfold bP at hv
 split at hv
 ·rename_i rows k q hb ta
  split at hv
  ·rename_i hq
   simp only[Option.bind_eq_some_iff]at hv
   obtain⟨cs,dt,hv⟩:=hv
   split at hv
   ·rename_i hlen
    simp at hv;subst hv
    rw[hb]at hr;rw[ta]at DV
    have dU:=(List.getElem?_eq_some_iff.1 dt).1
    obtain⟨A,c,h,h1,h2,h3⟩:=xi hr
    rcases h3 with h3|⟨b,oo,sz,vs,rfl,hD,hl,fl,hc,hi⟩
    ·subst h3;simp at dt
    have fo:sz=m+1:=by rw[<-hlen,hl cs (List.mem_of_getElem? dt)]
    refine⟨_,go b oo _ _ k q h (dq DV) hq (by omega),.eO _ _ (.di cs b _ (vs q.toNat) hD (fl cs (List.mem_of_getElem? dt)) (fun j hj=>?_) (fun j a ha=>hi _ _ _ _ dt ha))⟩
    have:=hc q.toNat j dU (by rw[<-hl cs (List.mem_of_getElem? dt)];exact hj)
    rw[fo]at this
    rw[Nat.add_assoc];exact this
   ·simp at hv
  ·simp at hv
 ·rename_i j6 off len k q hb ta
  split at hv
  ·rename_i hq
   simp only[Option.bind_eq_some_iff]at hv
   obtain⟨r,C6,hv⟩:=hv
   split at hv
   ·rename_i yR
    simp at hv;subst hv
    rw[hb]at hr;rw[ta]at DV
    obtain⟨oo,cap,B,h,hB,h1,h2,h3,h4,hk⟩:=iS hr
    obtain⟨B',dz,R,_,_⟩:=S.row _ _ C6
    rw[hB]at dz;injection dz with dz;subst dz
    replace R:=R.row hk
    have fo:B.sz=m+1:=R.sz.trans yR
    refine⟨_,go _ _ _ _ k q h (dq DV) hq.1 hq.2,?_⟩
    have C3:oo=off*B.sz:=by rcases h2 with h2|h2<;>omega
    have:oo+q.toNat*(m+1)=(off+q.toNat)*B.sz+0:=by rw[C3,<-fo,Nat.add_mul];rfl
    rw[this]
    exact .ptr _ _ _ _ hB hk
   ·simp at hv
  ·simp at hv
 ·simp at hv
theorem PU {x i:Operand} {x' i':O} {t e:TypeId} {m len:Nat} (E:cr P w D ι env a) (ho:o.op=.indexAddr t x i) (ht:P.underlying t=some (.array len e)) (hm:dZ P e=some (m+1)) (hx:cO P x=some x') (hi:cO P i=some i')
  (hv:cW len (m+1) (cQ env x') (cQ env i')=some v):oG P a o w D ι v:=by
 have hr:=dj E hx
 have DV:=dj E hi
 have go:∀b oo k (q:Int),a.eval x=.pointer (some ⟨b,oo,none⟩)->a.eval i=.int k q->0<=q->q<len->(execOp a.eval o).run P w=.ok (.value (.pointer (some ⟨b,oo+q.toNat*(m+1),none⟩))) w:=fun b oo k q h h2 h3 h4=>by
  simp only[execOp,ho,h,h2,Instr.indexAt,asIntOf,Sem.run_bind,Sem.run_pure,run_underlying ht,Instr.sureAddr,Result.andThen_ok,h3,h4,and_self,if_true,run_sizeOf hm,km]
 unfold cW at hv
 split at hv
 ·rename_i j6 r oo k q hb ta
  split at hv
  ·rename_i hq
   simp at hv;subst hv
   rw[hb]at hr;rw[ta]at DV
   obtain⟨B,h,hB,hk⟩:=iE hr
   refine⟨_,go _ _ k q h (dq DV) hq.1 hq.2,?_⟩
   rw[Nat.add_assoc]
   exact .ptr _ _ _ _ hB hk
  ·simp at hv
 ·rename_i cs k q hb ta
  split at hv
  ·rename_i hq
   simp at hv;subst hv
   rw[hb]at hr;rw[ta]at DV
   obtain⟨b,oo,vs,h,h1,h2,h3,h4⟩:=lf hr
   refine⟨_,go _ _ k q h (dq DV) hq.1 hq.2,.eO _ _ (.di _ _ _ (fun j=>vs (q.toNat*(m+1)+j)) h1 (fun a ha=>h2 a (List.mem_of_mem_drop ha)) (fun j hj=>?_) (fun j a ha=>h4 _ _ (by simpa using ha)))⟩
   rw[Nat.add_assoc]
   exact h3 _ (by simp at hj;omega)
  ·simp at hv
 ·simp at hv
theorem PW {x i:Operand} {x' i':O} {t:TypeId} (E:cr P w D ι env a) (ho:o.op=.index t x i) (ht:P.underlying t=some .string) (hx:cO P x=some x') (hi:cO P i=some i')
  (hv:cY (cQ env x') (cQ env i')=some v):oG P a o w D ι v:=by
 have hr:=dj E hx
 have DV:=dj E hi
 unfold cY at hv
 split at hv
 ·rename_i s k q hb ta
  split at hv
  ·rename_i hq
   simp only[Option.map_eq_some_iff]at hv
   obtain⟨c,hc,rfl⟩:=hv
   rw[hb]at hr;rw[ta]at DV
   refine⟨_,?_,.eO _ _ (.int _ _)⟩
   simp only[execOp,ho,fD hr,dq DV,Instr.index,asIntOf,Sem.run_bind,Sem.run_pure,run_underlying ht,Result.andThen_ok,hq,if_true,hc]
  ·simp at hv
 ·simp at hv
theorem PV {x i:Operand} {x' i':O} {t e:TypeId} {ag:Bool} {len n:Nat} (E:cr P w D ι env a) (ho:o.op=.index t x i) (ht:P.underlying t=some (.array len e)) (vd:n9 P e=some ag) (hn:dZ P e=some n) (hx:cO P x=some x') (hi:cO P i=some i')
  (hv:cX ag len n (cQ env x') (cQ env i')=some v):oG P a o w D ι v:=by
 have hr:=dj E hx
 have DV:=dj E hi
 unfold cX at hv
 split at hv
 ·rename_i cs k q hb ta
  split at hv
  ·rename_i hq
   rw[hb]at hr;rw[ta]at DV
   obtain⟨vs,f,h,n1,fl,f1,r1⟩:=iR hr
   have go:∀u,(Go.part e vs (q.toNat*n)).run P w=.ok u w->(execOp a.eval o).run P w=.ok (.value u) w:=fun u hu=>by
    simp only[execOp,ho,h,dq DV,Instr.index,asIntOf,Sem.run_bind,Sem.run_pure,run_underlying ht,Result.andThen_ok,hq,and_self,if_true,run_sizeOf hn,hu]
   unfold part at hv
   cases ag with
   |true=>
    simp only[if_true]at hv
    split at hv
    ·rename_i hl
     simp at hv;subst hv
     simp only[List.length_drop]at hl
     by_cases HR:n=0
     ·subst HR
      refine⟨_,go _ (pR vd hn),.agg _ _ (fun _=>undef) (by simp) (fun a ha=>by simp at ha) (fun j hj=>by simp at hj) (fun j a ha=>by simp at ha)⟩
     refine⟨_,go _ (pR vd hn),.agg _ _ (fun j=>f (q.toNat*n+j)) (by simp[n1];omega) (fun a ha=>fl a (List.mem_of_mem_drop (List.mem_of_mem_take ha))) (fun j hj=>?_) (fun j a ha=>?_)⟩
     ·simp at hj
      rw[Array.getElem?_extract,if_pos (by omega)];exact f1 _ (by omega)
     ·rw[List.getElem?_take]at ha
      split at ha
      ·exact r1 _ _ (by simpa using ha)
      ·simp at ha
    ·simp at hv
   |false=>
    simp only[Bool.false_eq_true,if_false]at hv
    have oi:cs[q.toNat*n]? =some v:=by simpa[List.head?_drop]using hv
    have dU:=(List.getElem?_eq_some_iff.1 oi).1
    exact⟨_,go _ (mK vd (f1 _ dU)),r1 _ _ oi⟩
  ·simp at hv
 ·simp at hv
theorem HK {x:Operand} {x':O} {i:Nat} (E:cr P w D ι env a) (ho:o.op=.extract x i) (hx:cO P x=some x') (hv:aP i (cQ env x')=some v):oG P a o w D ι v:=by
 have hr:=dj E hx
 unfold aP at hv
 split at hv
 ·rename_i vs hb
  rw[hb]at hr
  obtain⟨us,f,h,h1,h2,h3⟩:=vz hr
  have dU:=(List.getElem?_eq_some_iff.1 hv).1
  exact⟨_,by simp only[execOp,ho,h,Instr.extract,h2 _ dU];rfl,h3 _ _ hv⟩
 ·simp at hv
theorem Sz {x:Operand} {x':O} {t:TypeId} {e:TypeId} {n:Nat} (E:cr P w D ι env a) (ho:o.op=.call {callee:=.builtin .len,args:= #[x],argTypes:= #[t]}) (ht:P.underlying t=some (.slice e)) (hx:cO P x=some x') (hv:eh (cQ env x')=some n):oG P a o w D ι (.int .i64 n):=by
 have hr:=dj E hx
 have go:∀A c,a.eval x=.slice A n c->(execOp a.eval o).run P w=.ok (.value (.int .i64 n)) w:=fun A c h=>by
  simp only[execOp,ho,resolve,Sem.run_bind,Sem.run_pure,Result.andThen_ok,invoke,builtin,Array.map,h]
  simp[Builtin.len_,run_underlying ht,goInt,h]
 refine⟨.int .i64 n,?_,.eO _ _ (.int _ _)⟩
 unfold eh at hv
 split at hv<;>simp at hv<;>subst hv<;>rename_i hb<;>rw[hb]at hr
 ·exact go _ _ (ki hr)
 ·obtain⟨A,c,h,_⟩:=xi hr;exact go _ _ h
 ·obtain⟨oo,cap,B,h,_⟩:=iS hr;exact go _ _ h
theorem PY {x:Operand} {x':O} {t:TypeId} (E:cr P w D ι env a) (ho:o.op=.call {callee:=.builtin .len,args:= #[x],argTypes:= #[t]}) (ht:P.underlying t=some .string) (hx:cO P x=some x') (hv:da (cQ env x')=some v):oG P a o w D ι v:=by
 have hr:=dj E hx
 unfold da at hv
 split at hv
 ·rename_i s hb
  simp at hv;subst hv
  rw[hb]at hr
  have h:=fD hr
  refine⟨_,?_,.eO _ _ (.int _ _)⟩
  simp only[execOp,ho,resolve,Sem.run_bind,Sem.run_pure,Result.andThen_ok,invoke,builtin,Array.map,h]
  simp[Builtin.len_,run_underlying ht,goInt,h]
 ·simp at hv
theorem nz {isS:Bool} {len cap h l:Nat} {lo hi:Option Operand} {Nu rl:Option O} (E:cr P w D ι env a) (kq:rJ P lo=some Nu) (C7:rJ P hi=some rl) (hh:dQ len (rl.map (cQ env))=some h) (hl:dR h (Nu.map (cQ env))=some l) (hc:len<=cap):
  (Instr.sliceBounds isS len cap (lo.map a.eval) (hi.map a.eval) none).run P w=.ok (l,h,cap) w/\l<=h/\h<=len:=by
 have bound:∀(x:Operand) (y:O) (k:IntKind) (n:Int) (m:Nat) (c:BoundsCode),cO P x=some y->cQ env y=.int k n->0<=n->n<=m->(Instr.sliceBound (a.eval x) m c).run P w=.ok n.toNat w:=fun x y k n m c hx hy h0 h1=>by
  have hr:=dj E hx
  rw[hy]at hr
  simp only[Instr.sliceBound,dq hr,asIntOf,Sem.run_bind,Sem.run_pure,Result.andThen_ok,h0,h1,and_self,if_true]
 have H:h<=len/\((hi=none/\h=len)∨∃x,hi=some x/\∀c,(Instr.sliceBound (a.eval x) cap c).run P w=.ok h w):=by
  cases hi with
  |none=>
   simp[rJ]at C7;subst C7
   simp[dQ]at hh;subst hh
   exact⟨Nat.le_refl _,.inl ⟨rfl,rfl⟩⟩
  |some x=>
   simp only[rJ,Option.map_eq_some_iff]at C7
   obtain⟨y,hy,rfl⟩:=C7
   simp only[Option.map_some,dQ]at hh
   split at hh
   ·rename_i e;cases e
   ·rename_i k n e
    injection e with e
    split at hh
    ·rename_i hn
     simp at hh;subst hh
     exact⟨by omega,.inr ⟨x,rfl,fun c=>bound x y k n _ _ hy e hn.1 (by omega)⟩⟩
    ·simp at hh
   ·simp at hh
 have L:l<=h/\((lo=none/\l=0)∨∃x,lo=some x/\∀c,(Instr.sliceBound (a.eval x) h c).run P w=.ok l w):=by
  cases lo with
  |none=>
   simp[rJ]at kq;subst kq
   simp[dR]at hl;subst hl
   exact⟨Nat.zero_le _,.inl ⟨rfl,rfl⟩⟩
  |some x=>
   simp only[rJ,Option.map_eq_some_iff]at kq
   obtain⟨y,hy,rfl⟩:=kq
   simp only[Option.map_some,dR]at hl
   split at hl
   ·rename_i e;cases e
   ·rename_i k n e
    injection e with e
    split at hl
    ·rename_i hn
     simp at hl;subst hl
     exact⟨by omega,.inr ⟨x,rfl,fun c=>bound x y k n h _ hy e hn.1 hn.2⟩⟩
    ·simp at hl
   ·simp at hl
 refine⟨?_,L.1,H.1⟩
 unfold Instr.sliceBounds
 rcases H.2 with⟨rfl,rfl⟩|⟨x,rfl,hx⟩<;>rcases L.2 with⟨rfl,rfl⟩|⟨y,rfl,hy⟩<;>
  simp only[Option.map_none,Option.map_some,Sem.run_bind,Sem.run_pure,Result.andThen_ok, *]
theorem MV {x:Operand} {x':O} {lo hi:Option Operand} {Nu rl:Option O} {t e:TypeId} {m:Nat} (S:gz P hs D ι g w) (E:cr P w D ι env a) (ho:o.op=.slice t x lo hi none) (ht:P.underlying t=some (.slice e)) (hm:dZ P e=some m) (hx:cO P x=some x') (kq:rJ P lo=some Nu) (C7:rJ P hi=some rl)
  (hv:bQ g m (cQ env x') (Nu.map (cQ env)) (rl.map (cQ env))=some v):oG P a o w D ι v:=by
 have hr:=dj E hx
 have go:∀A len cap l h,a.eval x=.slice A len cap->(Instr.sliceBounds true len cap (lo.map a.eval) (hi.map a.eval) none).run P w=.ok (l,h,cap) w->(execOp a.eval o).run P w=.ok (.value (.slice (if cap=l then A else A.map (·.add (l*m))) (h-l) (cap-l))) w:=fun A len cap l h h1 h2=>by
  simp only[execOp,ho,h1,Instr.sliceAt,Instr.slice,Sem.run_bind,Sem.run_pure,run_underlying ht,Result.andThen_ok,Option.map_none,h2,run_sizeOf hm]
 unfold bQ at hv
 split at hv
 ·rename_i hb
  rw[hb]at hr
  simp only[Option.bind_eq_some_iff,Option.map_eq_some_iff]at hv
  obtain⟨h,hh,l,hl,rfl⟩:=hv
  obtain⟨q,q1,q2⟩:=nz (w:=w) (isS:=true) (cap:=0) E kq C7 hh hl (Nat.le_refl _)
  have h0:h=0:=by omega
  have l0:l=0:=by omega
  subst h0;subst l0
  refine⟨_,go _ _ _ _ _ (ki hr) q,?_⟩
  simp;exact .eO _ _ .bl
 ·rename_i rows hb
  rw[hb]at hr
  simp only[Option.bind_eq_some_iff,Option.map_eq_some_iff]at hv
  obtain⟨h,hh,l,hl,hv⟩:=hv
  split at hv
  ·rename_i dD
   simp at hv;subst hv
   obtain⟨A,c,he,c1,c2,h3⟩:=xi hr
   obtain⟨q,q1,q2⟩:=nz (w:=w) (isS:=true) (cap:=c) E kq C7 hh hl c1
   refine⟨_,go _ _ _ _ _ he q,.eO _ _ ?_⟩
   have hlen:((rows.drop l).take (h-l)).length=h-l:=by simp;omega
   by_cases hz:h-l=0
   ·have:(rows.drop l).take (h-l)=[]:=by rw[hz];simp
    rw[this,hz]
    exact .Bg _ _ (by omega)
   ·rcases h3 with h3|⟨b,oo,sz,vs,rfl,hD,K4,fl,hc,hi⟩
    ·subst h3;simp at q2;omega
    rw[if_neg (by omega)]
    simp only[Option.map_some,km]
    have BX:sz=m:=by
     have dU:l<rows.length:=by omega
     have:=dD rows[l] (List.getElem_mem dU)
     rw[<-this,K4 _ (List.getElem_mem dU)]
    subst BX
    refine .sl _ b _ _ _ sz (fun i j=>vs (l+i) j) hlen (by omega) (by omega) hD (fun cs dt=>K4 cs (List.mem_of_mem_drop (List.mem_of_mem_take dt))) (fun cs dt=>fl cs (List.mem_of_mem_drop (List.mem_of_mem_take dt))) (fun i j hi hj=>?_) (fun i j cs a dt ha=>?_)
    ·rw[<-hc (l+i) j (by omega) hj,Nat.add_mul]
     congr 2;omega
    ·rw[List.getElem?_take]at dt
     split at dt
     ·exact hi _ _ _ _ (by simpa using dt) ha
     ·simp at dt
  ·simp at hv
 ·rename_i j6 off len hb
  rw[hb]at hr
  simp only[Option.bind_eq_some_iff,Option.map_eq_some_iff]at hv
  obtain⟨r,C6,h,hh,l,hl,hv⟩:=hv
  split at hv
  ·rename_i yR
   simp at hv;subst hv
   obtain⟨oo,cap,B,he,hB,h1,h2,h3,h4,hk⟩:=iS hr
   obtain⟨B',dz,R,_,_⟩:=S.row _ _ C6
   rw[hB]at dz;injection dz with dz;subst dz
   replace R:=R.row hk
   have fo:B.sz=m:=R.sz.trans yR
   obtain⟨q,q1,q2⟩:=nz (w:=w) (isS:=true) (cap:=cap) E kq C7 hh hl h1
   refine⟨_,go _ _ _ _ _ he q,?_⟩
   have e1:(off+l+(cap-l))*B.sz<=B.C:=by rw[show off+l+(cap-l)=off+cap by omega];exact h3
   by_cases nq:cap=l
   ·rw[if_pos nq]
    exact .own _ _ _ _ _ B hB hk (by omega) (.inl (by omega)) e1 (by omega)
   ·rw[if_neg nq]
    simp only[Option.map_some,km]
    have C3:oo=off*B.sz:=by rcases h2 with h2|h2<;>omega
    exact .own _ _ _ _ _ B hB hk (by omega) (.inr (by rw[C3,fo,Nat.add_mul])) e1 (by omega)
  ·simp at hv
 ·simp at hv
theorem KP {x:Operand} {x':O} {lo hi:Option Operand} {Nu rl:Option O} {t:TypeId} (E:cr P w D ι env a) (ho:o.op=.slice t x lo hi none) (ht:P.underlying t=some .string) (hx:cO P x=some x') (kq:rJ P lo=some Nu) (C7:rJ P hi=some rl)
  (hv:bf (cQ env x') (Nu.map (cQ env)) (rl.map (cQ env))=some v):oG P a o w D ι v:=by
 have hr:=dj E hx
 unfold bf at hv
 split at hv
 ·rename_i s hb
  rw[hb]at hr
  simp only[Option.bind_eq_some_iff,Option.map_eq_some_iff]at hv
  obtain⟨h,hh,l,hl,rfl⟩:=hv
  obtain⟨q,_,_⟩:=nz (w:=w) (isS:=false) E kq C7 hh hl (Nat.le_refl _)
  refine⟨_,?_,.eO _ _ (.str _)⟩
  simp only[execOp,ho,fD hr,Instr.sliceAt,Instr.slice,Sem.run_bind,Sem.run_pure,run_underlying ht,Result.andThen_ok,Option.map_none,Option.isSome_none,Bool.false_eq_true,if_false,q]
 ·simp at hv
theorem Es {xs:List Operand} {ys:List O} (E:cr P w D ι env a) (h:xs.mapM (cO P)=some ys):(xs.map a.eval).length=ys.length/\∀j y,ys[j]? =some y->cI P w D ι (cQ env y) ((xs.map a.eval).getD j undef):=by
 induction xs generalizing ys with
 |nil=>simp at h;subst h;simp
 |cons x r ih=>
  simp only[List.mapM_cons,Option.bind_eq_bind,Option.bind_eq_some_iff]at h
  obtain⟨c,hc,qk,dt,h⟩:=h
  simp at h;subst h
  obtain⟨h1,h2⟩:=ih dt
  refine⟨by simpa using h1,fun j d hd=>?_⟩
  cases j with
  |zero=>simp at hd ⊢;subst hd;exact dj E hc
  |succ j=>simp at hd ⊢;simpa using h2 j d hd
theorem P3 {f:Nat} {first cN:Array Operand} {Bw:List O} (E:cr P w D ι env a) (ho:o.op=.makeFunc (.func f) first cN) (hf:first= #[]) (hc:fJ P f=true) (hx:cN.toList.mapM (cO P)=some Bw):oG P a o w D ι (.fn f (Bw.map (cQ env))):=by
 subst hf
 obtain⟨h1,h2⟩:=Es E hx
 refine⟨.func (.func f) #[] (cN.map a.eval),by simp only[execOp,ho,Instr.makeFunc,Sem.run_bind,Sem.run_pure,Result.andThen_ok];simp,.fn _ _ _ (fun j=>(cN.toList.map a.eval).getD j undef) hc (by simpa using h1) (fun j hj=>?_) (fun j x Qw=>?_)⟩
 ·simp at hj h1
  have:j<cN.size:=by omega
  simp[this]
 ·simp only[List.getElem?_map,Option.map_eq_some_iff]at Qw
  obtain⟨y,hy,rfl⟩:=Qw
  exact h2 j y hy
theorem P4 {f:Nat} {first cN:Array Operand} {Bw:List O} (E:cr P w D ι env a) (ho:o.op=.makeFunc (.func f) first cN) (hf:cN= #[]) (hc:fJ P f=true) (hx:first.toList.mapM (cO P)=some Bw):oG P a o w D ι (.uj f (Bw.map (cQ env))):=by
 subst hf
 obtain⟨h1,h2⟩:=Es E hx
 refine⟨.func (.func f) (first.map a.eval) #[],by simp only[execOp,ho,Instr.makeFunc,Sem.run_bind,Sem.run_pure,Result.andThen_ok];simp,.uj _ _ _ (fun j=>(first.toList.map a.eval).getD j undef) hc (by simpa using h1) (fun j hj=>?_) (fun j x Qw=>?_)⟩
 ·simp at hj h1
  have:j<first.size:=by omega
  simp[this]
 ·simp only[List.getElem?_map,Option.map_eq_some_iff]at Qw
  obtain⟨y,hy,rfl⟩:=Qw
  exact h2 j y hy
end
end Go.Proofs.YtgoljkjaameagaaGreat.V

namespace Go.Proofs.YtgoljkjaameagaaGreat.V
open Go.RowKit
variable {P:Program} {w w':World} {D D':Nat->Prop} {ι ι':Names}
def Mk (P:Program) (a:Act) (o:Oper) (w:World) (D:Nat->Prop) (ι:Names) (id:Id) (v:AV) (r:Row):Prop:=
 ∃u cells T,(execOp a.eval o).run P w=.ok (.value u) (w.alloc (.cells cells T))/\r.w=true/\r.rows.length*r.sz<=cells.size/\(∀cs∈r.rows,cs.length=r.sz)/\(∀cs∈r.rows,∀a∈cs,a.cell=true)/\
  (∀i j cs a,r.rows[i]? =some cs->cs[j]? =some a->∃x,cells[i*r.sz+j]? =some x/\cI P w D ι a x)/\∀ι':Names,ι' id=some ⟨w.heap.size,r.sz,cells.size,none⟩->cI P w D ι' v u
section
variable {g:Rows} {hs:Nat} {env:Env} {a:Act} {o:Oper} {id:Id} {v:AV}
theorem kL {vs:List Value} {cs:List K} (h:vs.mapM GR=some cs):fm P w D ι (cs.map K.av) vs.toArray:=by
 obtain⟨h1,h2⟩:=r6 h
 refine⟨by simp[h1],fun j a ha=>?_⟩
 simp only[List.getElem?_map,Option.map_eq_some_iff]at ha
 obtain⟨c,hc,rfl⟩:=ha
 exact⟨c.val,by simpa using h2 j c hc,xg c⟩
theorem j5 {t:TypeId} {z:List K} (h:jP P t=some z):∃i v,P.info? t=some i/\i.zero=some v/\v.cells.size=i.size/\v.cells.toList.mapM GR=some z/\z.length=i.size:=by
 unfold jP at h
 split at h
 ·rename_i i hi
  split at h
  ·rename_i v hv
   split at h
   ·rename_i hs
    exact⟨i,v,hi,hv,hs,h,by rw[(r6 h).1];simpa using hs⟩
   ·simp at h
  ·simp at h
 ·simp at h
theorem FP {cs:List AV} {cells:Array Value} (h:fm P w D ι cs cells):∀i j c a,[cs][i]? =some c->c[j]? =some a->∃x,cells[i*cs.length+j]? =some x/\cI P w D ι a x:=by
 intro i j c a hi hj
 cases i with
 |zero=>simp at hi;subst hi;simpa using h.2 j a hj
 |succ i=>simp at hi
theorem R7 {t:TypeId} {z:List K} (ho:o.op=.alloc t) (hz:jP P t=some z):Mk P a o w D ι id (.ptr id 0 0) ⟨true,z.length,[z.map K.av]⟩:=by
 obtain⟨i,v,hi,hv,hs,hm,hl⟩:=j5 hz
 have hk:=kL (P:=P) (w:=w) (D:=D) (ι:=ι) hm
 refine⟨.pointer (some ⟨w.heap.size,0,none⟩),v.cells,t,?_,rfl,?_,?_,?_,?_,?_⟩
 ·simp only[execOp,ho,Instr.alloc,zeroValue,typeInfo,Sem.run_bind]
  simp[hi,hv,newVar,newRow]
 ·simp[hl,hs]
 ·intro cs dt;simp at dt;subst dt;simp
 ·intro cs dt x hx;simp at dt;subst dt
  obtain⟨c,_,rfl⟩:=List.mem_map.1 hx;exact c.nj
 ·have:=FP hk;simpa using this
 ·intro ι' hι
  have:=cI.ptr (P:=P) (w:=w) (D:=D) (ι:=ι') id 0 0 _ hι rfl
  simpa using this
theorem q9 {x:AV} {u:Value} (h:cI P w D ι x u) (hc:x.cells.all AV.cell=true):fm P w D ι x.cells u.cells:=by
 obtain⟨h1,f,h2,h3⟩:=h.cells hc
 exact⟨h1,fun j a ha=>⟨f j,h2 j (List.getElem?_eq_some_iff.1 ha).1,h3 j a ha⟩⟩
theorem R5 {t:TypeId} {x:Operand} {x':O} {cs:List AV} (E:cr P w D ι env a) (ho:o.op=.box t x) (hx:cO P x=some x') (hb:cP (cQ env x')=some cs):Mk P a o w D ι id (.ptr id 0 0) ⟨true,cs.length,[cs]⟩:=by
 have hr:=dj E hx
 unfold cP at hb
 split at hb
 ·rename_i dD
  simp at hb;subst hb
  have hk:=q9 hr dD
  refine⟨.pointer (some ⟨w.heap.size,0,none⟩),(a.eval x).cells,t,?_,rfl,?_,?_,?_,?_,?_⟩
  ·simp only[execOp,ho,Instr.box,Sem.run_bind]
   simp[newVar,newRow]
  ·simp[hk.1]
  ·intro cs dt;simp at dt;subst dt;rfl
  ·intro cs dt y hy;simp at dt;subst dt
   exact List.all_eq_true.1 dD y hy
  ·exact FP hk
  ·intro ι' hι
   have:=cI.ptr (P:=P) (w:=w) (D:=D) (ι:=ι') id 0 0 _ hι rfl
   simpa using this
 ·simp at hb
theorem foldl_set:∀(vs:List Value) (n off:Nat) (cells:Array Value),off+n+vs.length<=cells.size->((vs.zipIdx n).foldl (fun cs (x:Value×Nat)=>cs.setIfInBounds (off+x.2) x.1) cells).size=cells.size/\
  ∀k,((vs.zipIdx n).foldl (fun cs (x:Value×Nat)=>cs.setIfInBounds (off+x.2) x.1) cells)[k]? =if off+n<=k/\k<off+n+vs.length then vs[k-(off+n)]? else cells[k]?
 |[],n,off,cells,_=>⟨rfl,fun k=>by simp;intro h1 h2;omega⟩
 |v::r,n,off,cells,h=>by
  simp only[List.length_cons]at h
  obtain⟨h1,h2⟩:=foldl_set r (n+1) off (cells.setIfInBounds (off+n) v) (by simp;omega)
  simp only[List.zipIdx_cons,List.foldl_cons]
  refine⟨by rw[h1];simp,fun k=>?_⟩
  rw[h2 k]
  simp only[List.length_cons]
  by_cases hk:k=off+n
  ·subst hk
   rw[if_neg (by omega),if_pos (by omega)]
   simp[show off+n<cells.size by omega]
  ·by_cases wI:off+n<=k/\k<off+n+(r.length+1)
   ·rw[if_pos (by omega),if_pos wI]
    have:k-(off+n)=(k-(off+(n+1)))+1:=by omega
    rw[this,List.getElem?_cons_succ]
   ·rw[if_neg (by omega),if_neg wI,Array.getElem?_setIfInBounds_ne (by omega)]
theorem wi (place:Nat->Option (Nat×Nat)):∀(ps:List (Nat×Value)) (qs:List (Nat×Nat×AV)) (cells:Array Value) (cs res:List AV),fm P w D ι cs cells->(∀a∈cs,a.cell=true)->ps.length=qs.length->
  (∀(k:Nat) i u o' n x,ps[k]? =some (i,u)->qs[k]? =some (o',n,x)->place i=some (o',n)/\cI P w D ι x u)->cG cs qs=some res->∃jv,Instr.fill place cells ps=some jv/\fm P w D ι res jv/\(∀a∈res,a.cell=true)/\res.length=cs.length:=by
 intro ps
 induction ps with
 |nil=>
  intro qs cells cs res hR hf hl _ hv
  cases qs with
  |nil=>simp[cG]at hv;subst hv;exact⟨cells,rfl,hR,hf,rfl⟩
  |cons q r=>simp at hl
 |cons p ps ih=>
  intro qs cells cs res hR hf hl hp hv
  cases qs with
  |nil=>simp at hl
  |cons q qs=>
   obtain⟨i,u⟩:=p
   obtain⟨oo,n,x⟩:=q
   obtain⟨mi,hr⟩:=hp 0 i u oo n x rfl rfl
   unfold cG at hv
   split at hv
   ·rename_i hc
    obtain⟨c1,c2,c3⟩:=hc
    have hk:=q9 hr c3
    have hus:u.cells.size=n:=by rw[hk.1,c1]
    have dt:cells.size=cs.length:=hR.1
    unfold Instr.fill
    simp only[mi]
    rw[if_neg (by rw[hus,dt];simp;omega)]
    obtain⟨s1,s2⟩:=foldl_set u.cells.toList 0 oo cells (by simp;omega)
    have e0:(u.cells.zipIdx.foldl (fun cs (x:Value×Nat)=>cs.setIfInBounds (oo+x.2) x.1) cells)=(u.cells.toList.zipIdx 0).foldl (fun cs (x:Value×Nat)=>cs.setIfInBounds (oo+x.2) x.1) cells:=by
     rw[<-Array.foldl_toList];simp
    have rS:=ih qs (u.cells.zipIdx.foldl (fun cs (x:Value×Nat)=>cs.setIfInBounds (oo+x.2) x.1) cells) (cs.take oo++x.cells++cs.drop (oo+n)) res ?_ ?_ (by simpa using hl) (fun k i u o' n x h1 h2=>hp (k+1) i u o' n x (by simpa using h1) (by simpa using h2)) hv
    ·obtain⟨jv,h1,h2,h3,h4⟩:=rS
     refine⟨jv,h1,h2,h3,?_⟩
     rw[h4];simp;omega
    ·rw[e0]
     refine⟨by rw[s1,dt];simp;omega,fun j a ha=>?_⟩
     rw[s2 j]
     simp only[Nat.add_zero,Array.length_toList]
     by_cases hj:oo<=j/\j<oo+u.cells.size
     ·rw[if_pos hj]
      rw[List.append_assoc,List.getElem?_append_right (by simp;omega),List.getElem?_append_left (by simp;omega)]at ha
      simp only[List.length_take]at ha
      rw[show min oo cs.length=oo by omega]at ha
      simpa using hk.2 _ _ ha
     ·rw[if_neg hj]
      by_cases UR:j<oo
      ·rw[List.append_assoc,List.getElem?_append_left (by simp;omega),List.getElem?_take,if_pos UR]at ha
       exact hR.2 _ _ ha
      ·rw[List.getElem?_append_right (by simp;omega)]at ha
       simp only[List.length_append,List.length_take,List.getElem?_drop]at ha
       rw[show oo+n+(j-(min oo cs.length+x.cells.length))=j by omega]at ha
       exact hR.2 _ _ ha
    ·intro b hb
     rcases List.mem_append.1 hb with hb|hb
     ·rcases List.mem_append.1 hb with hb|hb
      ·exact hf b (List.mem_of_mem_take hb)
      ·exact List.all_eq_true.1 c3 b hb
     ·exact hf b (List.mem_of_mem_drop hb)
   ·simp at hv
theorem xX {fs:List Field} (h:∀f∈fs,(P.info? f.type).isSome=true):∃Az,fs.mapM (fun f=>(P.info? f.type).map fun i=>(f.offset,i.size))=some Az/\∀(i:Nat) (f:Field) (n:Nat),fs[i]? =some f->dZ P f.type=some n->Az[i]? =some (f.offset,n):=by
 induction fs with
 |nil=>exact⟨[],rfl,fun i f n h=>by simp at h⟩
 |cons f r ih=>
  obtain⟨q,h1,h2⟩:=ih (fun x hx=>h x (List.mem_cons_of_mem _ hx))
  obtain⟨i,hi⟩:=Option.isSome_iff_exists.1 (h f (by simp))
  refine⟨(f.offset,i.size)::q,by simp[hi,h1],fun k x n hk hn=>?_⟩
  cases k with
  |zero=>simp at hk;subst hk;simp[dZ,hi]at hn;subst hn;rfl
  |succ k=>simp at hk ⊢;exact h2 k x n hk hn
theorem qw {ps:List (Nat×Operand)} {l:List (Nat×O)} (E:cr P w D ι env a) (h:ps.mapM (fun(x:Nat×Operand)=>(cO P x.2).map (x.1,·))=some l):l.length=ps.length/\∀(k i:Nat) (y:O),l[k]? =some (i,y)->∃x,ps[k]? =some (i,x)/\cO P x=some y:=by
 induction ps generalizing l with
 |nil=>simp at h;subst h;simp
 |cons p r ih=>
  simp only[List.mapM_cons,Option.bind_eq_bind,Option.bind_eq_some_iff]at h
  obtain⟨c,hc,qk,dt,h⟩:=h
  simp at h;subst h
  obtain⟨h1,h2⟩:=ih dt
  simp only[Option.map_eq_some_iff]at hc
  obtain⟨y,hy,rfl⟩:=hc
  refine⟨by simp[h1],fun k i z hk=>?_⟩
  cases k with
  |zero=>simp at hk;obtain⟨rfl,rfl⟩:=hk;exact⟨p.2,rfl,hy⟩
  |succ k=>simp at hk ⊢;exact h2 k i z hk
theorem Dr {fs:Array Field} {l:List (Nat×O)} {q:List (Nat×Nat×O)} (h:sV P fs l=some q):q.length=l.length/\∀(k oo n:Nat) (y:O),q[k]? =some (oo,n,y)->∃(i:Nat) (f:Field),l[k]? =some (i,y)/\fs[i]? =some f/\f.offset=oo/\dZ P f.type=some n:=by
 induction l generalizing q with
 |nil=>simp[sV]at h;subst h;simp
 |cons p r ih=>
  obtain⟨i,x⟩:=p
  unfold sV at h
  split at h
  ·rename_i f hf
   split at h
   ·rename_i n hn
    simp only[Option.map_eq_some_iff]at h
    obtain⟨q',LY,rfl⟩:=h
    obtain⟨h1,h2⟩:=ih LY
    refine⟨by simp[h1],fun k oo m y hk=>?_⟩
    cases k with
    |zero=>simp at hk;obtain⟨rfl,rfl,rfl⟩:=hk;exact⟨i,f,rfl,hf,rfl,hn⟩
    |succ k=>simp only[List.getElem?_cons_succ]at hk ⊢;exact h2 k oo m y hk
   ·simp at h
  ·simp at h
theorem fm.agg {xs:List AV} {vs:Array Value} (h:fm P w D ι xs vs) (hf:∀a∈xs,a.cell=true):cI P w D ι (.agg xs) (.agg vs):=
 .agg xs vs (fun j=>vs.getD j undef) h.1 hf (fun j hj=>by
  have:j<vs.size:=by rw[h.1];exact hj
  simp[this]) (fun j a ha=>by
  obtain⟨u,h1,h2⟩:=h.2 j a ha
  simpa[Array.getD_eq_getD_getElem?,h1]using h2)
theorem MR {t:TypeId} {ps:Array (Nat×Operand)} {fs:Array Field} {z:List K} {l:List (Nat×O)} {q:List (Nat×Nat×O)} {cs:List AV} (E:cr P w D ι env a) (ho:o.op=.build t ps) (ht:P.underlying t=some (.struct fs)) (hz:jP P t=some z) (hl:s4 P ps=some l)
  (rR:∀f∈fs.toList,(P.info? f.type).isSome=true) (hq:sV P fs l=some q) (hv:cG (z.map K.av) (q.map fun(o,n,x)=>(o,n,cQ env x))=some cs):oG P a o w D ι (.agg cs):=by
 obtain⟨it,zv,hi,qR,hs,hm,FG⟩:=j5 hz
 obtain⟨Az,mi,Vi⟩:=xX rR
 have hk:=kL (P:=P) (w:=w) (D:=D) (ι:=ι) hm
 obtain⟨n1,r1⟩:=qw E hl
 obtain⟨n2,r2⟩:=Dr hq
 obtain⟨jv,h1,h2,h3,_⟩:=wi (P:=P) (w:=w) (D:=D) (ι:=ι) (Az.toArray[·]?) (ps.toList.map fun(i,x)=>(i,a.eval x)) (q.map fun(o,n,x)=>(o,n,cQ env x)) zv.cells _ cs (by simpa using hk)
  (fun b hb=>by obtain⟨c,_,rfl⟩:=List.mem_map.1 hb;exact c.nj) (by simp[n2,n1]) (fun k i u o' n x xM wI=>by
   simp only[List.getElem?_map,Option.map_eq_some_iff]at xM wI
   obtain⟨⟨i',x'⟩,hp,e1⟩:=xM
   obtain⟨⟨o2,n',y⟩,LY,e2⟩:=wI
   simp only[Prod.mk.injEq]at e1 e2
   obtain⟨rfl,rfl⟩:=e1
   obtain⟨rfl,rfl,rfl⟩:=e2
   obtain⟨i2,f,Jb,hf,rfl,hn⟩:=r2 _ _ _ _ LY
   obtain⟨x2,yT,hc⟩:=r1 _ _ _ Jb
   rw[hp]at yT
   simp only[Option.some.injEq,Prod.mk.injEq]at yT
   obtain⟨rfl,rfl⟩:=yT
   exact⟨by simpa using Vi _ _ _ (by simpa using hf) hn,dj E hc⟩) hv
 refine⟨.agg jv,?_,h2.agg h3⟩
 have hb:P.built t ((ps.map fun(i,x)=>(i,a.eval x)).toList)=some jv:=by
  unfold Program.built
  simp only[hi,ht,qR,mi]
  simpa using h1
 simp only[execOp,ho,Sem.run_bind,run_build w t _ _ hb,Result.andThen_ok,Sem.run_pure]
theorem KO {t e:TypeId} {len n:Nat} {ps:Array (Nat×Operand)} {z:List K} {l:List (Nat×O)} {cs:List AV} (E:cr P w D ι env a) (ho:o.op=.build t ps) (ht:P.underlying t=some (.array len e)) (hz:jP P t=some z) (hl:s4 P ps=some l) (hn:dZ P e=some n)
  (hv:cG (z.map K.av) ((l.map fun(x:Nat×O)=>(x.1*n,n,x.2)).map fun(o,n,x)=>(o,n,cQ env x))=some cs):oG P a o w D ι (.agg cs):=by
 obtain⟨it,zv,hi,qR,hs,hm,FG⟩:=j5 hz
 have hk:=kL (P:=P) (w:=w) (D:=D) (ι:=ι) hm
 obtain⟨n1,r1⟩:=qw E hl
 obtain⟨ie,HP,fo⟩:∃ie,P.info? e=some ie/\ie.size=n:=by simpa[dZ]using hn
 obtain⟨jv,h1,h2,h3,_⟩:=wi (P:=P) (w:=w) (D:=D) (ι:=ι) (fun i=>some (i*ie.size,ie.size)) (ps.toList.map fun(i,x)=>(i,a.eval x)) ((l.map fun(x:Nat×O)=>(x.1*n,n,x.2)).map fun(o,n,x)=>(o,n,cQ env x)) zv.cells _ cs (by simpa using hk)
  (fun b hb=>by obtain⟨c,_,rfl⟩:=List.mem_map.1 hb;exact c.nj) (by simp[n1]) (fun k i u o' n' x xM wI=>by
   simp only[List.getElem?_map,Option.map_eq_some_iff]at xM wI
   obtain⟨⟨i',x'⟩,hp,e1⟩:=xM
   obtain⟨⟨o2,n2,y⟩,⟨⟨i2,y2⟩,Jb,e3⟩,e2⟩:=wI
   simp only[Prod.mk.injEq]at e1 e2 e3
   obtain⟨rfl,rfl⟩:=e1
   obtain⟨rfl,rfl,rfl⟩:=e2
   obtain⟨rfl,rfl,rfl⟩:=e3
   obtain⟨x2,yT,hc⟩:=r1 _ _ _ Jb
   rw[hp]at yT
   simp only[Option.some.injEq,Prod.mk.injEq]at yT
   obtain⟨rfl,rfl⟩:=yT
   exact⟨by rw[fo],dj E hc⟩) hv
 refine⟨.agg jv,?_,h2.agg h3⟩
 have hb:P.built t ((ps.map fun(i,x)=>(i,a.eval x)).toList)=some jv:=by
  unfold Program.built
  simp only[hi,ht,qR,HP]
  simpa using h1
 simp only[execOp,ho,Sem.run_bind,run_build w t _ _ hb,Result.andThen_ok,Sem.run_pure]
theorem wh:∀(vs:List AV) (sz i:Nat) (rs:List (List AV)) (cs:List AV),0<sz->cs.length=(i+vs.length)*sz->rowsOf sz vs=some rs->
  cG cs ((vs.zipIdx i).map fun(v,j)=>(j*sz,sz,v))=some (cs.take (i*sz)++rs.flatten)/\rs.length=vs.length/\(∀c∈rs,c.length=sz)/\∀c∈rs,∀x∈c,x.cell=true
 |[],sz,i,rs,cs,_,hl,h=>by
  simp[rowsOf]at h;subst h
  simp at hl
  simp[cG,List.take_of_length_le (show cs.length<=i*sz by omega)]
 |v::r,sz,i,rs,cs,fo,hl,h=>by
  simp only[rowsOf,Option.bind_eq_some_iff,Option.map_eq_some_iff]at h
  obtain⟨c,hc,rs',yR,rfl⟩:=h
  unfold rowOf at hc
  split at hc
  ·rename_i Ab
   simp at hc;subst hc
   obtain⟨qm,GA⟩:=Ab
   simp only[List.length_cons]at hl
   have hmul:(i+(r.length+1))*sz=i*sz+sz+r.length*sz:=by rw[Nat.add_mul,Nat.add_mul];omega
   have ih:=wh r sz (i+1) rs' (cs.take (i*sz)++v.cells++cs.drop (i*sz+sz)) fo (by
    simp[qm];rw[Nat.add_mul,Nat.add_mul];omega) yR
   refine⟨?_,by simp[ih.2.1],?_,?_⟩
   ·simp only[List.zipIdx_cons,List.map_cons,cG]
    rw[if_pos ⟨qm,by omega,GA⟩,ih.1]
    congr 1
    rw[List.flatten_cons,<-List.append_assoc]
    congr 1
    rw[Nat.add_mul,Nat.one_mul,List.take_append_of_le_length (by simp[qm];omega)]
    rw[List.take_of_length_le (by simp[qm];omega)]
   ·intro c' kT;rcases List.mem_cons.1 kT with rfl|kT
    ·exact qm
    ·exact ih.2.2.1 c' kT
   ·intro c' kT;rcases List.mem_cons.1 kT with rfl|kT
    ·exact List.all_eq_true.1 GA
    ·exact ih.2.2.2 c' kT
  ·simp at hc
theorem flat_get {α:Type} {oL:List (List α)} {sz:Nat} (h:∀cs∈oL,cs.length=sz) {i j:Nat} {cs:List α} {a:α} (hi:oL[i]? =some cs) (hj:cs[j]? =some a):oL.flatten[i*sz+j]? =some a:=by
 induction oL generalizing i with
 |nil=>simp at hi
 |cons c r ih=>
  have hc:c.length=sz:=h c (by simp)
  cases i with
  |zero=>
   simp at hi;subst hi
   have dU:=(List.getElem?_eq_some_iff.1 hj).1
   rw[List.flatten_cons,List.getElem?_append_left (by omega)];simpa using hj
  |succ i=>
   rw[List.flatten_cons,List.getElem?_append_right (by rw[hc,Nat.succ_mul];omega)]
   have:(i+1)*sz+j-c.length=i*sz+j:=by rw[hc,Nat.succ_mul];omega
   rw[this]
   exact ih (fun cs dt=>h cs (List.mem_cons_of_mem _ dt)) (by simpa using hi)
theorem IL {α:Type} {oL:List (List α)} {sz:Nat} (h:∀cs∈oL,cs.length=sz):oL.flatten.length=oL.length*sz:=by
 induction oL with
 |nil=>simp
 |cons c r ih=>
  rw[List.flatten_cons,List.length_append,h c (by simp),ih (fun cs dt=>h cs (List.mem_cons_of_mem _ dt)),List.length_cons,Nat.succ_mul];omega
theorem pC {zv:Value} {z:List K} {n:Nat} (hm:zv.cells.toList.mapM GR=some z) (kz:0<z.length):∀k,k<n->∃c,z[k % z.length]? =some c/\((Array.range n).map (zv.cells[· % zv.cells.size]!))[k]? =some c.val:=by
 intro k hk
 obtain⟨h1,h2⟩:=r6 hm
 have fo:zv.cells.size=z.length:=by simpa using h1.symm
 have dU:k % z.length<z.length:=Nat.mod_lt _ kz
 refine⟨z[k % z.length],List.getElem?_eq_getElem dU,?_⟩
 have h3:=h2 _ _ (List.getElem?_eq_getElem dU)
 simp only[Array.getElem?_toList]at h3
 have BW:k % z.length<zv.cells.size:=by rw[fo];exact dU
 rw[Array.getElem?_map,Array.getElem?_range,if_pos hk]
 simp only[Option.map_some]
 rw[fo,getElem!_pos zv.cells (k % z.length) BW]
 rw[Array.getElem?_eq_getElem BW]at h3
 exact h3
theorem JH {t e:TypeId} {len sz:Nat} {ps:Array (Nat×Operand)} {z:List K} {l:List (Nat×O)} {rs:List (List AV)} (E:cr P w D ι env a) (ho:o.op=.buildSlice t len ps) (ht:P.underlying t=some (.slice e)) (fo:dZ P e=some (sz+1)) (hz:jP P e=some z)
  (hl:s4 P ps=some l) (LZ:len*(sz+1)<=4096) (RG:l.map (·.1)=List.range len) (hv:rowsOf (sz+1) (l.map fun x=>cQ env x.2)=some rs):Mk P a o w D ι id (.own id 0 len) ⟨true,sz+1,rs⟩:=by
 obtain⟨it,zv,hi,qR,hs,hm,FG⟩:=j5 hz
 have jI:it.size=sz+1:=by simpa[dZ,hi]using fo
 obtain⟨n1,r1⟩:=qw E hl
 have Fy:l.length=len:=by have:=congrArg List.length RG;simpa using this
 by_cases h0:len=0
 ·subst h0
  have Ni:l=[]:=List.length_eq_zero_iff.1 Fy
  subst Ni
  simp[rowsOf]at hv;subst hv
  have Tp:ps= #[]:=by
   apply Array.ext';apply List.eq_nil_of_length_eq_zero;rw[<-n1];rfl
  subst Tp
  refine⟨.slice (some ⟨w.heap.size,0,none⟩) 0 0, #[],e,?_,rfl,by simp,by simp,by simp,fun i j cs x hi=>by simp at hi,fun ι' hι=>?_⟩
  ·simp[execOp,ho,Instr.buildSlice,run_underlying ht,sizeOf,typeInfo,hi,Instr.fill,newRow,Array.range_zero']
  ·exact .own _ 0 0 0 0 _ hι rfl (Nat.le_refl _) (.inl rfl) (by simp) (by simp[maxLen])
 ·have yU:fm P w D ι ((List.range (len*(sz+1))).map fun k=>(z.getD (k % z.length) .bl).av) ((Array.range (len*(sz+1))).map (zv.cells[· % zv.cells.size]!)):=by
   refine⟨by simp,fun j x hx=>?_⟩
   simp only[List.getElem?_map,Option.map_eq_some_iff]at hx
   obtain⟨k,hk,rfl⟩:=hx
   have mh:=(List.getElem?_eq_some_iff.1 hk).1
   simp at mh
   rw[List.getElem?_range mh]at hk
   injection hk with hk
   subst hk
   obtain⟨c,hc,S9⟩:=pC hm (by rw[FG,jI];omega) j mh
   exact⟨c.val,S9,by rw[List.getD_eq_getElem?_getD,hc];exact xg c⟩
  obtain⟨f1,f2,f3,f4⟩:=wh (l.map fun x=>cQ env x.2) (sz+1) 0 rs ((List.range (len*(sz+1))).map fun k=>(z.getD (k % z.length) .bl).av) (by omega) (by simp[Fy]) hv
  obtain⟨jv,h1,h2,h3,h4⟩:=wi (P:=P) (w:=w) (D:=D) (ι:=ι) (fun i=>some (i*it.size,it.size)) (ps.toList.map fun(i,x)=>(i,a.eval x)) _ _ _ _ yU
   (fun b hb=>by obtain⟨c,_,rfl⟩:=List.mem_map.1 hb;exact K.nj _) (by simp[n1]) (fun k i u o' n x xM wI=>by
   simp only[List.getElem?_map,Option.map_eq_some_iff]at xM wI
   obtain⟨⟨i',x'⟩,hp,e1⟩:=xM
   obtain⟨⟨v2,j2⟩,LY,e2⟩:=wI
   simp only[Prod.mk.injEq]at e1 e2
   obtain⟨rfl,rfl⟩:=e1
   obtain⟨rfl,rfl,rfl⟩:=e2
   rw[List.getElem?_zipIdx]at LY
   simp only[List.getElem?_map,Option.map_map,Option.map_eq_some_iff,Function.comp_apply,Prod.mk.injEq,Nat.zero_add]at LY
   obtain⟨⟨i2,y⟩,Jb,rfl,rfl⟩:=LY
   obtain⟨x2,yT,hc⟩:=r1 _ _ _ Jb
   rw[hp]at yT
   simp only[Option.some.injEq,Prod.mk.injEq]at yT
   obtain⟨rfl,rfl⟩:=yT
   have yO:(l.map (·.1))[k]? =some i':=by rw[List.getElem?_map,Jb];rfl
   have mh:=(List.getElem?_eq_some_iff.1 yO).1
   rw[RG]at yO
   simp at mh
   rw[List.getElem?_range (by omega)]at yO
   injection yO with yO
   subst yO
   exact⟨by rw[jI],dj E hc⟩) f1
  simp only[Nat.zero_mul,List.take_zero,List.nil_append,List.length_map]at h2 h3 h4 f2
  have dt:jv.size=len*(sz+1):=by rw[h2.1,h4];simp
  refine⟨.slice (some ⟨w.heap.size,0,none⟩) len len,jv,e,?_,rfl,?_,f3,f4,fun i j cs x rl hj=>h2.2 _ _ (flat_get f3 rl hj),fun ι' hι=>?_⟩
  ·have gj:=run_buildSlice (P:=P) w t e len (ps.map fun(i,x)=>(i,a.eval x)) jv it zv ht hi qR (by rw[jI];omega) (by rw[jI];exact Nat.mul_ne_zero h0 (by omega)) (by rw[<-jI]at h1;simpa using h1)
   simp only[execOp,ho,Sem.run_bind,gj,Result.andThen_ok,Sem.run_pure]
  ·dsimp only;rw[f2,Fy,dt];exact Nat.le_refl _
  ·refine .own _ 0 len 0 len _ hι rfl (Nat.le_refl _) (.inr (by simp)) ?_ (by simp only[maxLen];have:=Nat.le_mul_of_pos_right len (show 0<sz+1 by omega);omega)
   dsimp only;rw[dt];simp
theorem G3 {t e:TypeId} {it:TypeInfo} {m:Nat} {z:List K} {l c:Operand} {l' c':O} {n:Nat} {r:Row} (E:cr P w D ι env a) (ho:o.op=.makeSlice t l c) (ht:P.underlying t=some (.slice e)) (fo:dZ P e=some (m+1)) (hz:jP P e=some z) (LM:P.info? e=some it) (hby:it.bytes<=32768)
  (hl:cO P l=some l') (hc:cO P c=some c') (hv:ij z (cQ env l') (cQ env c')=some (n,r)):Mk P a o w D ι id (.own id 0 n) r:=by
 obtain⟨it',zv,hi,qR,hs,hm,FG⟩:=j5 hz
 rw[LM]at hi;injection hi with hi;subst hi
 have jI:it.size=m+1:=by simpa[dZ,LM]using fo
 unfold ij at hv
 split at hv
 ·rename_i k1 ln k2 cn e1 e2
  split at hv
  ·rename_i hb
   obtain⟨b1,b2,b3⟩:=hb
   simp at hv
   obtain⟨rfl,rfl⟩:=hv
   have r1:=dq (e1▸dj E hl)
   have r2:=dq (e2▸dj E hc)
   unfold dF at b3
   have Nb:(it.bytes:Int)*cn<=281474976710656:=by
    have h1:(it.bytes:Int)<=32768:=by omega
    have h2:(it.bytes:Int)*cn<=32768*16777216:=Int.mul_le_mul h1 (by omega) (by omega) (by omega)
    omega
   have gj:=run_make (P:=P) w t e it zv ht LM qR k1 k2 ln cn b1 b2 Nb (by omega)
   have kE:∀k,k<cn.toNat*it.size->∃x,z[k % z.length]? =some x/\(madeCells zv.cells (cn.toNat*it.size))[k]? =some x.val:=fun k hk=>pC hm (by rw[FG,jI];omega) k hk
   refine⟨.slice (some ⟨w.heap.size,0,none⟩) ln.toNat cn.toNat,madeCells zv.cells (cn.toNat*it.size),e,by simp only[execOp,ho,r1,r2,Sem.run_bind,gj,Result.andThen_ok,Sem.run_pure],rfl,?_,?_,?_,?_,fun ι' hι=>?_⟩
   ·simp only[List.length_replicate,size_madeCells,FG]
    exact Nat.mul_le_mul_right _ (by omega)
   ·intro cs dt
    have:=List.eq_of_mem_replicate dt
    subst this;simp
   ·intro cs dt x hx
    have:=List.eq_of_mem_replicate dt
    subst this
    obtain⟨c,_,rfl⟩:=List.mem_map.1 hx;exact c.nj
   ·intro i j cs x rl hj
    have lK:=(List.getElem?_eq_some_iff.1 rl).1
    have:=List.eq_of_mem_replicate (List.mem_of_getElem? rl)
    subst this
    simp only[List.length_replicate]at lK
    simp only[List.getElem?_map,Option.map_eq_some_iff]at hj
    obtain⟨q,hq,rfl⟩:=hj
    have ig:=(List.getElem?_eq_some_iff.1 hq).1
    dsimp only
    obtain⟨x,hx,yT⟩:=kE (i*z.length+j) (by
     rw[<-FG]
     calc i*z.length+j<i*z.length+z.length:=by omega
      _=(i+1)*z.length:=by rw[Nat.add_mul,Nat.one_mul]
      _<=cn.toNat*z.length:=Nat.mul_le_mul_right _ (by omega))
    rw[Nat.mul_comm i,Nat.mul_add_mod,Nat.mod_eq_of_lt ig,hq]at hx
    injection hx with hx;subst hx
    exact⟨_,by rw[Nat.mul_comm i]at yT ⊢;exact yT,xg q⟩
   ·refine .own _ 0 _ 0 _ _ hι rfl (by omega) (.inr (by simp)) ?_ (by simp only[maxLen];omega)
    dsimp only;rw[size_madeCells,FG];simp
  ·simp at hv
 ·simp at hv
end
end Go.Proofs.YtgoljkjaameagaaGreat.V

namespace Go.Proofs.YtgoljkjaameagaaGreat.V
open Go.RowKit
variable {P:Program} {w w':World} {D D':Nat->Prop} {ι ι':Names}
def E4 (P:Program) (k:TypeId) (m:MK):Prop:=
 (∃s,m=⟨false,[s]⟩/\fq P k=some s)∨
 (∃fs ts,m=⟨true,ts⟩/\P.underlying k=some (.struct fs)/\eK P 4 0 fs.toList=some ts/\P.stoodInHeld k=false/\∀f∈fs.toList,(fq P f.type).isSome=true)
theorem rI {t:TypeId} {m:MK} {z:K} (h:sZ P t=some (m,z)):∃k e i zv,P.underlying t=some (.map k e)/\P.info? e=some i/\i.zero=some zv/\GR zv=some z/\E4 P k m:=by
 unfold sZ at h
 split at h
 ·rename_i k e ht
  split at h
  ·rename_i zv s h1 h2 h3
   simp only[Option.map_eq_some_iff,Prod.mk.injEq]at h
   obtain⟨z',hz,rfl,rfl⟩:=h
   simp only[Option.bind_eq_some_iff]at h2
   obtain⟨i,hi,qR⟩:=h2
   exact⟨k,e,i,zv,ht,hi,qR,hz,.inl ⟨s,rfl,h3⟩⟩
  ·rename_i zv fs h1 h2 h3 h4
   split at h
   ·rename_i ts z' ya hz
    split at h
    ·rename_i hc
     simp only[Option.some.injEq,Prod.mk.injEq]at h
     obtain⟨rfl,rfl⟩:=h
     simp only[Option.bind_eq_some_iff]at h2
     obtain⟨i,hi,qR⟩:=h2
     simp only[Bool.not_eq_true',List.all_eq_true]at hc
     exact⟨k,e,i,zv,ht,hi,qR,hz,.inr ⟨fs,ts,rfl,h4,ya,hc.1,hc.2⟩⟩
    ·cases h
   ·cases h
  ·cases h
 ·cases h
theorem xk {t:TypeId} {s:TS} (ht:fq P t=some s) (em:Bool) (n:Nat) (v:Value):(Instr.checkKey em (n+1) t v).run P w=.ok () w:=by
 unfold Instr.checkKey
 cases s with
 |tB=>simp[run_underlying (pS ht)]
 |tS=>simp[run_underlying (pU ht)]
 |tI=>
  obtain⟨q,hq⟩:=pT ht
  simp[run_underlying hq]
theorem xl (em:Bool) (n:Nat) (vs:Array Value):∀(d:Nat) (fs:List Field) (off:Nat) (ts:List TS),eK P (d+1) off fs=some ts->(∀f∈fs,(fq P f.type).isSome=true)->off+ts.length<=vs.size->
  Sem.run P (forIn fs PUnit.unit fun f (_:PUnit)=>if f.name≠ "_" then do
    let x <-Go.part f.type vs f.offset
    Instr.checkKey em (n+1) f.type x
    pure (ForInStep.yield PUnit.unit)
   else pure (ForInStep.yield PUnit.unit)) w=Result.ok PUnit.unit w
 |d,[],off,ts,_,_,_=>by simp
 |d,f::r,off,ts,hf,hs,hl=>by
  rw[yI]at hf
  split at hf
  ·rename_i hcond
   obtain⟨ho,gZ⟩:=hcond
   split at hf
   ·rename_i s Qt
    split at hf
    ·rename_i vd
     simp only[Option.map_eq_some_iff]at hf
     obtain⟨NB,hr,rfl⟩:=hf
     simp only[List.length_cons]at hl
     have ih:=xl em n vs d r (off+1) NB hr (fun f hf=>hs f (List.mem_cons_of_mem _ hf)) (by omega)
     have hu:vs[off]? =some vs[off]:=by simp
     simp only[List.forIn_cons,Sem.run_bind,if_pos gZ,ho,mK vd hu,Result.andThen_ok,xk Qt,Sem.run_pure]
     exact ih
    ·cases hf
   ·rename_i hn
    have:=hs f (by simp)
    rw[hn]at this;cases this
  ·cases hf
theorem Ez {k:TypeId} {m:MK} (hk:E4 P k m) (em:Bool) (key:AV) (u:Value) (vd:key.isAgg=m.ka) (hlen:key.cells.length=m.ks) (hr:cI P w D ι key u):(Instr.checkKey em 10000 k u).run P w=.ok () w:=by
 rcases hk with⟨s,rfl,hs⟩|⟨fs,ts,rfl,rR,ya,dH,dD⟩
 ·exact xk hs em 9999 u
 ·cases key<;>simp[AV.isAgg]at vd
  rename_i cs
  obtain⟨vs,f,rfl,h1,_⟩:=iR hr
  unfold Instr.checkKey
  simp only[Sem.run_bind,run_underlying rR,Result.andThen_ok]
  rw[<-Array.forIn_toList]
  have h:=xl (P:=P) (w:=w) em 9998 vs 3 fs.toList 0 ts ya dD (by simp[AV.cells,MK.ks]at hlen;omega)
  rw[h]
  rfl
theorem Ik (a b:ByteArray):(a==b)=decide (a=b):=by
 by_cases h:a=b
 ·subst h;rw[decide_eq_true rfl]
  obtain⟨x⟩:=a
  show(x==x)=true
  simp
 ·rw[decide_eq_false h,Bool.eq_false_iff]
  intro hc
  obtain⟨x⟩:=a
  obtain⟨y⟩:=b
  exact h (by rw[show x=y by simpa using(show(x==y)=true from hc)])
theorem Ke {t:TypeId} {s:TS} {x y:AV} {u v:Value} {b:Bool} {d:TypeDesc} (ht:fq P t=some s) (hd:P.underlying t=some d) (he:fX s x y=some b) (hx:cI P w D ι x u) (hy:cI P w D ι y v):Instr.sameNow d u v=some b:=by
 unfold fX at he
 split at he
 ·rename_i k n k' n'
  split at he
  ·rename_i hk
   subst hk
   simp at he;subst he
   obtain⟨q,hq⟩:=pT ht
   rw[hd]at hq;injection hq with hq;subst hq
   rw[dq hx,dq hy]
   simp[Instr.sameNow]
   rfl
  ·cases he
 ·simp at he;subst he
  have hq:=pS ht
  rw[hd]at hq;injection hq with hq;subst hq
  rw[e6 hx,e6 hy];rfl
 ·rename_i a c
  simp at he;subst he
  have hq:=pU ht
  rw[hd]at hq;injection hq with hq;subst hq
  rw[fD hx,fD hy]
  simp only[Instr.sameNow,Ik]
 ·cases he
def Found (es:List MapEntry) (i:Nat) (r:Option Nat) (res:Option (Nat×Value)):Prop:=(r=none/\res=none)∨∃j e,r=some (i+j)/\es[j]? =some e/\res=some (i+j,e.val)
theorem wm {e:MapEntry} {es:List MapEntry} {i:Nat} {r:Option Nat} {res:Option (Nat×Value)} (h:Found es (i+1) r res):Found (e::es) i r res:=by
 rcases h with h|⟨j,x,h1,h2,h3⟩
 ·exact .inl h
 ·exact .inr ⟨j+1,x,by rw[h1];congr 1;omega,by simpa using h2,by rw[h3];congr 2;omega⟩
theorem BI {t:TypeId} {s:TS} {d:TypeDesc} {x:AV} {u:Value} (ht:fq P t=some s) (hd:P.underlying t=some d) (hx:cI P w D ι x u):∀(rows:List (List AV)) (es:List MapEntry) (i:Nat) (r:Option Nat),es.length=rows.length->
  (∀(j:Nat) (cs:List AV),rows[j]? =some cs->∃(e:MapEntry) (kv:AV),es[j]? =some e/\cs.head? =some kv/\cI P w D ι kv e.key)->gm ⟨false,[s]⟩ [x] rows i=some r->∃res,Instr.findNow d u es i=some res/\Found es i r res
 |[],[],i,r,_,_,h=>by
  simp[gm]at h;subst h
  exact⟨none,rfl,.inl ⟨rfl,rfl⟩⟩
 |[],e::es,i,r,hl,_,h=>by simp at hl
 |cs::rows,[],i,r,hl,_,h=>by simp at hl
 |cs::rows,e::es,i,r,hl,hr,h=>by
  obtain⟨e',kv,LH,hk,gN⟩:=hr 0 cs rfl
  simp at LH;subst LH
  have dt:cs.take (MK.ks ⟨false,[s]⟩)=[kv]:=by
   cases cs with
   |nil=>simp at hk
   |cons a l=>simp at hk;subst hk;simp[MK.ks]
  unfold gm at h
  rw[dt]at h
  cases hq:fX s x kv with
  |none=>simp[eX,hq]at h
  |some b=>
   have hs:=Ke ht hd hq hx gN
   cases b with
   |true=>
    simp[eX,hq]at h;subst h
    exact⟨some (i,e.val),by simp[Instr.findNow,hs],.inr ⟨0,e,rfl,rfl,rfl⟩⟩
   |false=>
    simp[eX,hq]at h
    obtain⟨res,h1,h2⟩:=BI ht hd hx rows es (i+1) r (by simpa using hl) (fun j cs hj=>hr (j+1) cs (by simpa using hj)) h
    exact⟨res,by simp[Instr.findNow,hs,h1],wm h2⟩
theorem qo {t:TypeId} {fs:Array Field} {ts:List TS} {xs ys:List AV} {vs us:Array Value} {b:Bool} (rR:P.underlying t=some (.struct fs)) (dH:P.stoodInHeld t=false) (ya:eK P 4 0 fs.toList=some ts) (hx:fm P w D ι xs vs) (hy:fm P w D ι ys us) (hv:eX ts xs ys=some b):(Op.equal t (.agg vs) (.agg us)).run P w=.ok b w:=by
 obtain⟨l1,l2⟩:=rO hv
 have q:=sj (w:=w) 4 fs.toList 0 ts ya 9998 (by omega) xs ys vs us b hx hy (by simpa[List.take_of_length_le,l1,l2]using hv)
 have I5:P.fieldsOf t=fs:=by simp[Program.fieldsOf,rR]
 unfold Op.equal
 rw[show Op.maxDepth=9999+1 from rfl,run_equalIn_struct w 9999 t _ _ (by rw[I5];exact rR) dH,I5,q]
theorem sf {cs:List AV} {v:Value} (h:cI P w D ι (.agg cs) v):∃vs,v=.agg vs/\fm P w D ι cs vs:=by
 obtain⟨vs,f,rfl,n1,_,f1,r1⟩:=iR h
 exact⟨vs,rfl,n1,fun j a ha=>⟨f j,f1 j (List.getElem?_eq_some_iff.1 ha).1,r1 j a ha⟩⟩
theorem BH {t:TypeId} {fs:Array Field} {ts:List TS} {xs:List AV} {vs:Array Value} (rR:P.underlying t=some (.struct fs)) (dH:P.stoodInHeld t=false) (ya:eK P 4 0 fs.toList=some ts) (hx:fm P w D ι xs vs):∀(rows:List (List AV)) (es:List MapEntry) (i:Nat) (r:Option Nat),es.length=rows.length->
  (∀(j:Nat) (cs:List AV),rows[j]? =some cs->∃e:MapEntry,es[j]? =some e/\cI P w D ι (.agg (cs.take ts.length)) e.key)->gm ⟨true,ts⟩ xs rows i=some r->∃res,(Instr.findAsking t (.agg vs) es i).run P w=.ok res w/\Found es i r res
 |[],[],i,r,_,_,h=>by
  simp[gm]at h;subst h
  exact⟨none,by simp[Instr.findAsking],.inl ⟨rfl,rfl⟩⟩
 |[],e::es,i,r,hl,_,h=>by simp at hl
 |cs::rows,[],i,r,hl,_,h=>by simp at hl
 |cs::rows,e::es,i,r,hl,hr,h=>by
  obtain⟨e',LH,gN⟩:=hr 0 cs rfl
  simp at LH;subst LH
  obtain⟨us,hk,hy⟩:=sf gN
  unfold gm at h
  simp only[MK.ks]at h
  split at h
  ·rename_i hq
   simp at h;subst h
   have q:=qo rR dH ya hx hy hq
   exact⟨some (i,e.val),by simp[Instr.findAsking,hk,q],.inr ⟨0,e,rfl,rfl,rfl⟩⟩
  ·rename_i hq
   have q:=qo rR dH ya hx hy hq
   obtain⟨res,h1,h2⟩:=BH rR dH ya hx rows es (i+1) r (by simpa using hl) (fun j cs hj=>hr (j+1) cs (by simpa using hj)) h
   exact⟨res,by simp[Instr.findAsking,hk,q,h1],wm h2⟩
  ·cases h
theorem wc {a:AV} (h:a.isAgg=false):a.cells=[a]:=by cases a<;>simp_all [AV.isAgg,AV.cells]
theorem wj {k:TypeId} {m:MK} {B:sL} {r:Row} (hk:E4 P k m) {key:AV} {u:Value} (hr:cI P w D ι key u) {es:Array MapEntry} (fo:es.size=r.rows.length)
  (hM:∀(i:Nat) (cs:List AV),r.rows[i]? =some cs->∃(e:MapEntry) (kv vv:AV),es[i]? =some e/\part m.ka m.ks cs=some kv/\cs[m.ks]? =some vv/\cI P w D ι kv e.key/\cI P w D ι vv e.val) {fi:Option Nat} (h:fP m key r.rows=some fi):
  (∀em,(Instr.checkKey em 10000 k u).run P w=.ok () w)/\∃res,(Instr.findKey k u es.toList).run P w=.ok res w/\Found es.toList 0 fi res:=by
 unfold fP at h
 split at h
 ·rename_i hc
  obtain⟨c1,c2,c3⟩:=hc
  refine⟨fun em=>Ez hk em key u c1 c2 hr,?_⟩
  rcases hk with⟨s,rfl,hs⟩|⟨fs,ts,rfl,rR,ya,dH,dD⟩
  ·rw[wc c1]at h
   have hd:∃d,P.underlying k=some d:=by
    cases s with
    |tB=>exact⟨_,pS hs⟩
    |tS=>exact⟨_,pU hs⟩
    |tI=>obtain⟨q,hq⟩:=pT hs;exact⟨_,hq⟩
   obtain⟨d,hd⟩:=hd
   obtain⟨res,h1,h2⟩:=BI hs hd hr r.rows es.toList 0 fi (by simpa using fo) (fun j cs hj=>by
    obtain⟨e,kv,vv,q1,q2,_,q4,_⟩:=hM j cs hj
    exact⟨e,kv,by simpa using q1,by simpa[part]using q2,q4⟩) h
   exact⟨res,by simp[Instr.findKey,run_underlying hd,h1],h2⟩
  ·cases key<;>simp[AV.isAgg]at c1
   rename_i cs
   obtain⟨vs,rfl,hL⟩:=sf hr
   obtain⟨res,h1,h2⟩:=BH rR dH ya hL r.rows es.toList 0 fi (by simpa using fo) (fun j cs hj=>by
    obtain⟨e,kv,vv,q1,q2,_,q4,_⟩:=hM j cs hj
    unfold part at q2
    simp only[if_true]at q2
    split at q2
    ·simp only[Option.some.injEq]at q2;subst q2
     exact⟨e,by simpa using q1,q4⟩
    ·cases q2) h
   exact⟨res,(run_findKey_eq w (by simp[rR]) _ _).trans h1,h2⟩
 ·cases h
section
variable {g:Rows} {hs:Nat} {env:Env} {a:Act} {o:Oper} {id:Id} {v:AV}
theorem Aq {m:MK} {x:AV} {u:Value} {p:Id×Row} (S:gz P hs D ι g w) (hr:cI P w D ι x u) (h:dS g m x=some p):∃B,u=.map (some B.b)/\g p.1=some p.2/\ι p.1=some B/\B.k=some (.map m)/\M0 P w D ι B m p.2:=by
 unfold dS at h
 split at h
 ·rename_i i m'
  split at h
  ·rename_i hm
   subst hm
   simp only[Option.map_eq_some_iff]at h
   obtain⟨r,hg,rfl⟩:=h
   obtain⟨B,rfl,hB,hk⟩:=FT hr
   obtain⟨B',dz,R,_⟩:=S.row i r hg
   rw[hB]at dz;injection dz with dz;subst dz
   exact⟨B,rfl,hg,hB,hk,(R.map _ hk).2⟩
  ·cases h
 ·cases h
theorem P0 {t:TypeId} {x k:Operand} {ok:Bool} {m:MK} {z:K} {x' k':O} {mr:Option Row} (S:gz P hs D ι g w) (E:cr P w D ι env a) (ho:o.op=.lookup t x k ok) (hc:sZ P t=some (m,z)) (hx:cO P x=some x') (hk:cO P k=some k')
  (hv:bF (.look m ok z) [cQ env x',cQ env k'] g id=some (v,mr)):mr=none/\oG P a o w D ι v:=by
 obtain⟨kt,e,i,zv,ht,hi,qR,Tk,hK⟩:=rI hc
 simp only[bF,Option.bind_eq_some_iff,Option.map_eq_some_iff,Prod.mk.injEq]at hv
 obtain⟨p,hp,fi,GD,y,hy,rfl,rfl⟩:=hv
 obtain⟨B,hu,hg,hB,u9,es,clock,hb,fo,hlen,hM⟩:=Aq S (dj E hx) hp
 obtain⟨KY,res,hf,hF⟩:=wj (B:=B) hK (dj E hk) fo hM GD
 have key:∃val,(match res with|some (_,v)=>(v,true)|none=>(zv,false))=(val,fi.isSome)/\cI P w D ι y val:=by
  rcases hF with⟨rfl,rfl⟩|⟨j,en,rfl,he,rfl⟩
  ·simp only[ec,Option.some.injEq]at hy;subst hy
   refine⟨zv,rfl,?_⟩
   rw[Aj Tk];exact xg z
  ·simp only[ec,Option.bind_eq_some_iff,Nat.zero_add]at hy
   obtain⟨cs,dt,hy⟩:=hy
   obtain⟨e',kv,vv,q1,_,q3,_,q5⟩:=hM _ cs dt
   rw[hy]at q3;injection q3 with q3;subst q3
   have:e'=en:=by
    have h1:es.toList[j]? =some e':=by simpa using q1
    rw[he]at h1;injection h1 with h1;exact h1.symm
   subst this
   exact⟨_,rfl,q5⟩
 obtain⟨val,th,lN⟩:=key
 have fc:(getObj B.b).run P w=.ok (.map es clock) w:=MapKept.run_getObj_map hb
 have hz:(zeroValue e).run P w=.ok zv w:=by simp[zeroValue,typeInfo,hi,qR]
 refine⟨rfl,if ok then .tuple #[val,.bool fi.isSome]else val,?_,?_⟩
 ·simp only[execOp,ho,hu,Instr.lookup,Sem.run_bind,run_underlying ht,Result.andThen_ok,fc,Sem.run_pure,KY,hf]
  rcases hF with⟨rfl,rfl⟩|⟨j,en,rfl,he,rfl⟩
  ·simp only[Prod.mk.injEq]at th
   simp[hz,th.1]
  ·simp only[Prod.mk.injEq]at th
   simp[th.1]
 ·cases ok with
  |false=>exact lN
  |true=>
   refine .gD _ _ (fun j=>if j=0 then val else .bool fi.isSome) rfl (fun j hj=>?_) (fun j b hj=>?_)
   ·have:j=0∨j=1:=by simp at hj;omega
    rcases this with rfl|rfl<;>rfl
   ·match j,hj with
    |0,hj=>simp at hj;subst hj;exact lN
    |1,hj=>simp at hj;subst hj;exact .eO _ _ (.bool _)
    |j+2,hj=>simp at hj
theorem P5 {t:TypeId} {x:Operand} {m:MK} {z:K} {x':O} {mr:Option Row} (S:gz P hs D ι g w) (E:cr P w D ι env a) (ho:o.op=.call {callee:=.builtin .len,args:= #[x],argTypes:= #[t]}) (hc:sZ P t=some (m,z)) (hx:cO P x=some x')
  (hv:bF (.len m) [cQ env x'] g id=some (v,mr)):mr=none/\oG P a o w D ι v:=by
 obtain⟨kt,e,i,zv,ht,hi,qR,Tk,hK⟩:=rI hc
 simp only[bF,Option.map_eq_some_iff,Prod.mk.injEq]at hv
 obtain⟨p,hp,rfl,rfl⟩:=hv
 obtain⟨B,hu,hg,hB,u9,es,clock,hb,fo,hlen,hM⟩:=Aq S (dj E hx) hp
 have fc:(getObj B.b).run P w=.ok (.map es clock) w:=MapKept.run_getObj_map hb
 refine⟨rfl,.int .i64 (es.size:Int),?_,by rw[fo];exact .eO _ _ (.int _ _)⟩
 simp only[execOp,ho,resolve,Sem.run_bind,Sem.run_pure,Result.andThen_ok,invoke,builtin,Array.map,hu]
 simp[Builtin.len_,run_underlying ht,goInt,hu,fc]
def MkM (P:Program) (a:Act) (o:Oper) (w:World) (id:Id) (v:AV) (r:Row):Prop:=
 ∃m,(execOp a.eval o).run P w=.ok (.value (.map (some w.heap.size))) (w.alloc (.map #[] 0))/\v=.map id m/\r=⟨true,m.pQ,[]⟩
theorem R6 {t:TypeId} {m:MK} (ho:o.op=.makeMap t none):MkM P a o w id (.map id m) ⟨true,m.pQ,[]⟩:=by
 refine⟨m,?_,rfl,rfl⟩
 simp[execOp,ho,Instr.makeMap,go_sem]
def MkC (P:Program) (a:Act) (o:Oper) (w:World) (id:Id) (v:AV) (r:Row):Prop:=
 ∃n,(execOp a.eval o).run P w=.ok (.value (.chan (some w.heap.size))) (w.alloc (.chan n #[] false 0 0 false))/\v=.rL id/\r=⟨true,qF+n,[]⟩
theorem Ph {t e:TypeId} {x:Operand} {x':O} {dir:ChanDir} {i:TypeInfo} {n:Nat} (E:cr P w D ι env a) (ho:o.op=.makeChan t x) (ht:P.underlying t=some (.chan dir e)) (hi:P.info? e=some i) (hb:i.bytes<=32768) (hx:cO P x=some x') (hn:db (cQ env x')=some n):MkC P a o w id (.rL id) ⟨true,qF+n,[]⟩:=by
 refine⟨n,?_,rfl,rfl⟩
 have hr:=dj E hx
 unfold db at hn
 split at hn
 ·rename_i k m hm
  rw[hm]at hr
  split at hn
  ·rename_i hc
   simp only[Option.some.injEq]at hn
   subst hn
   have HQ:((m.toNat:Nat):Int)=m:=by omega
   have dU:(i.bytes:Int)*(m.toNat:Nat)<=281474976710544:=by
    have h1:i.bytes*m.toNat<=32768*1048576:=Nat.mul_le_mul hb (by omega)
    have h2:((i.bytes*m.toNat:Nat):Int)<=281474976710544:=by omega
    rwa [Int.natCast_mul]at h2
   have h:=Conc.run_makeChan (P:=P) (w:=w) ht hi k m.toNat (by omega) dU
   rw[HQ]at h
   simp only[execOp,ho,dq hr,Sem.run_bind,h,Result.andThen_ok,Sem.run_pure]
  ·cases hn
 ·cases hn
theorem zP {x:AV} {u:Value} {i:Id} {r:Row} (S:gz P hs D ι g w) (hr:cI P w D ι x u) (hx:x=.rL i) (hg:g i=some r):∃B c,u=.chan (some B.b)/\ι i=some B/\B.k=some (.chan c)/\r.sz=qF+c/\H5 P w D ι B c r:=by
 subst hx
 obtain⟨B,c,rfl,hB,hk⟩:=MA hr
 obtain⟨B',dz,R,_⟩:=S.row i r hg
 rw[hB]at dz;injection dz with dz;subst dz
 exact⟨B,c,rfl,hB,hk,R.chan c hk⟩
theorem PX {t e:TypeId} {dir:ChanDir} {x:Operand} {x':O} (S:gz P hs D ι g w) (E:cr P w D ι env a) (ho:o.op=.call {callee:=.builtin .len,args:= #[x],argTypes:= #[t]}) (ht:P.underlying t=some (.chan dir e)) (hx:cO P x=some x') (hv:cZ g (cQ env x')=some v):oG P a o w D ι v:=by
 have hr:=dj E hx
 unfold cZ at hv
 split at hv
 ·rename_i i he
  simp only[Option.map_eq_some_iff]at hv
  obtain⟨r,hg,rfl⟩:=hv
  obtain⟨B,c,hu,hB,hk,fo,buf,s,q,hb,KX,_⟩:=zP S hr he hg
  have fc:(getObj B.b).run P w=.ok (.chan c buf false s q false) w:=by simp[getObj,Sem.run,hb]
  refine⟨.int .i64 (buf.size:Int),?_,by rw[KX];exact .eO _ _ (.int _ _)⟩
  simp only[execOp,ho,resolve,Sem.run_bind,Sem.run_pure,Result.andThen_ok,invoke,builtin,Array.map,hu]
  simp[Builtin.len_,run_underlying ht,goInt,hu,fc]
 ·cases hv
end
end Go.Proofs.YtgoljkjaameagaaGreat.V

namespace Go.Proofs.YtgoljkjaameagaaGreat.V
open Go.RowKit
variable {P:Program} {w w':World} {D D':Nat->Prop} {ι ι':Names}
def Lh (P:Program) (a:Act) (o:Oper) (w:World) (D:Nat->Prop) (ι:Names) (id:Id) (v:AV):Option Row->Prop
 |none=>oG P a o w D ι v
 |some r=>Mk P a o w D ι id v r∨MkM P a o w id v r∨MkC P a o w id v r
section
variable {g:Rows} {hs:Nat} {env:Env} {a:Act} {o:Oper} {id:Id} {v:AV}
theorem lD {x:Option AV} {mr:Option Row} (h:x.map (·,(none:Option Row))=some (v,mr)) (H:x=some v->oG P a o w D ι v):Lh P a o w D ι id v mr:=by
 cases x with
 |none=>simp at h
 |some y=>simp at h;obtain⟨rfl,rfl⟩:=h;exact H rfl
theorem Se {neg:Bool} {t yt:TypeId} {x y:Operand} {vo:gE} {mr:Option Row} (ho:o.op=.binOp (if neg then .neq else .eql) t x y yt) (hc:sY P neg t x y=some vo) (hq:eQ vo (cQ env) g id=some (v,mr)) (E:cr P w D ι env a):Lh P a o w D ι id v mr:=by
 unfold sY at hc
 split at hc
 ·split at hc
  ·rename_i e ht
   simp only[Option.map_eq_some_iff]at hc
   obtain⟨x',hx,rfl⟩:=hc
   simp only[eQ,ej,Bool.false_eq_true,if_false,Option.map_eq_some_iff,Prod.mk.injEq]at hq
   obtain⟨b,hb,rfl,rfl⟩:=hq
   exact PT E ho ht hx hb
  ·simp at hc
 ·split at hc
  ·rename_i ht
   simp only[Option.map_eq_some_iff]at hc
   obtain⟨x',hx,rfl⟩:=hc
   simp only[eQ,ej,if_true,Option.map_eq_some_iff,Prod.mk.injEq]at hq
   obtain⟨b,hb,rfl,rfl⟩:=hq
   exact PS E ho ht hx hb
  ·simp at hc
 ·split at hc
  ·rename_i ht
   simp only[Option.map_eq_some_iff]at hc
   obtain⟨x',hx,rfl⟩:=hc
   simp only[eQ,Option.map_eq_some_iff,Prod.mk.injEq]at hq
   obtain⟨b,hb,rfl,rfl⟩:=hq
   exact Sx E ho ht hx hb
  ·simp at hc
 ·split at hc
  ·rename_i s hs
   simp only[Option.bind_eq_bind,Option.bind_eq_some_iff,Option.pure_def,Option.some.injEq]at hc
   obtain⟨x',hx,y',hy,rfl⟩:=hc
   simp only[eQ,Option.map_eq_some_iff,Prod.mk.injEq]at hq
   obtain⟨b,hb,rfl,rfl⟩:=hq
   have BZ:fq P t=some s:=by
    unfold TY at hs
    split at hs
    ·rename_i s' h;simp at hs;subst hs;exact h
    ·split at hs
     ·split at hs
      ·simp at hs
      ·simp at hs
     ·simp at hs
   exact Sy E ho BZ hx hy hb
  ·rename_i ts hs
   simp only[Option.bind_eq_bind,Option.bind_eq_some_iff,Option.pure_def,Option.some.injEq]at hc
   obtain⟨x',hx,y',hy,rfl⟩:=hc
   simp only[eQ]at hq
   split at hq
   ·rename_i xs ys h1 h2
    simp only[Option.map_eq_some_iff,Prod.mk.injEq]at hq
    obtain⟨b,hb,rfl,rfl⟩:=hq
    unfold TY at hs
    split at hs
    ·simp at hs
    ·split at hs
     ·rename_i fs rR
      split at hs
      ·rename_i hg
       simp only[Option.map_eq_some_iff,TK.ag.injEq]at hs
       obtain⟨NB,ya,rfl⟩:=hs
       simp only[Bool.and_eq_true,Bool.not_eq_true']at hg
       exact Sw E ho rR hg.1 hg.2 ya hx hy h1 h2 hb
      ·simp at hs
     ·simp at hs
   ·simp at hq
  ·simp at hc
theorem Pt {c:Call} {vo:gE} {mr:Option Row} (ho:o.op=.call c) (hc:nI P c=some vo) (hq:eQ vo (cQ env) g id=some (v,mr)) (S:gz P hs D ι g w) (E:cr P w D ι env a):Lh P a o w D ι id v mr:=by
 unfold nI at hc
 split at hc
 ·rename_i kH
  split at hc
  ·rename_i x t h1 h2
   have hce:c={callee:=.builtin .len,args:= #[x],argTypes:= #[t]}:=by
    obtain⟨a,b,c⟩:=c
    simp only at h1 h2 kH
    subst kH
    congr
    ·exact Array.ext' h1
    ·exact Array.ext' h2
   rw[hce]at ho
   split at hc
   ·rename_i e ht
    simp only[Option.map_eq_some_iff]at hc
    obtain⟨x',hx,rfl⟩:=hc
    simp only[eQ,Option.map_eq_some_iff,Prod.mk.injEq]at hq
    obtain⟨n,hn,rfl,rfl⟩:=hq
    exact Sz E ho ht hx hn
   ·rename_i ht
    simp only[Option.map_eq_some_iff]at hc
    obtain⟨x',hx,rfl⟩:=hc
    exact lD hq fun h=>PY E ho ht hx h
   ·split at hc
    ·rename_i m z x' hm hx
     simp only[Option.some.injEq]at hc
     subst hc
     obtain⟨rfl,h⟩:=P5 (id:=id) S E ho hm hx hq
     exact h
    ·cases hc
   ·rename_i ht
    simp only[Option.map_eq_some_iff]at hc
    obtain⟨x',hx,rfl⟩:=hc
    exact lD hq fun h=>PX S E ho ht hx h
   ·simp at hc
  ·simp at hc
 ·split at hc
  ·split at hc
   ·split at hc
    ·split at hc
     ·simp only[Option.bind_eq_bind,Option.bind_eq_some_iff,Option.pure_def,Option.some.injEq]at hc
      obtain⟨x',hx,y',hy,rfl⟩:=hc
      simp[eQ]at hq
     ·simp at hc
    ·simp at hc
   ·simp at hc
  ·simp at hc
 ·split at hc
  ·split at hc
   ·split at hc
    ·simp only[Option.map_eq_some_iff]at hc
     obtain⟨x',hx,rfl⟩:=hc
     simp[eQ]at hq
    ·simp at hc
   ·simp at hc
  ·simp at hc
 ·split at hc
  ·simp only[Option.map_eq_some_iff]at hc
   obtain⟨x',hx,rfl⟩:=hc
   simp[eQ]at hq
  ·simp at hc
 ·simp only[Option.map_eq_some_iff]at hc
  obtain⟨x',hx,rfl⟩:=hc
  simp[eQ]at hq
 ·split at hc
  ·split at hc
   ·simp only[Option.some.injEq]at hc
    subst hc
    simp[eQ]at hq
   ·cases hc
  ·cases hc
 ·split at hc
  ·split at hc
   ·split at hc
    ·simp only[Option.bind_eq_bind,Option.bind_eq_some_iff,Option.pure_def,Option.some.injEq]at hc
     obtain⟨x',hx,y',hy,rfl⟩:=hc
     simp[eQ]at hq
    ·simp at hc
   ·simp at hc
  ·simp at hc
 ·simp at hc
theorem zl {vo:gE} {mr:Option Row} (hc:rj P o.op=some vo) (hq:eQ vo (cQ env) g id=some (v,mr)) (S:gz P hs D ι g w) (E:cr P w D ι env a):Lh P a o w D ι id v mr:=by
 unfold rj at hc
 split at hc
 ·rename_i ho
  simp only[Option.map_eq_some_iff]at hc
  obtain⟨x',hx,rfl⟩:=hc
  simp[eQ]at hq;obtain⟨rfl,rfl⟩:=hq
  exact ND E (.inl ho) hx
 ·rename_i ho
  simp only[Option.map_eq_some_iff]at hc
  obtain⟨x',hx,rfl⟩:=hc
  simp[eQ]at hq;obtain⟨rfl,rfl⟩:=hq
  exact ND E (.inr ho) hx
 ·rename_i ho
  simp only[Option.bind_eq_bind,Option.bind_eq_some_iff,Option.pure_def,Option.some.injEq]at hc
  obtain⟨c',h1,x',h2,y',h3,rfl⟩:=hc
  exact lD hq fun h=>P6 E ho h1 h2 h3 h
 ·rename_i ho
  simp only[Option.map_eq_some_iff]at hc
  obtain⟨z,hz,rfl⟩:=hc
  simp only[eQ,Option.some.injEq,Prod.mk.injEq]at hq
  obtain⟨rfl,rfl⟩:=hq
  exact .inl (R7 ho hz)
 ·rename_i ho
  simp only[Option.map_eq_some_iff]at hc
  obtain⟨x',hx,rfl⟩:=hc
  simp only[eQ,Option.map_eq_some_iff,Prod.mk.injEq]at hq
  obtain⟨cs,dt,rfl,rfl⟩:=hq
  exact .inl (R5 E ho hx dt)
 ·rename_i ho
  simp only[Option.bind_eq_bind,Option.bind_eq_some_iff,Option.pure_def,Option.some.injEq]at hc
  obtain⟨ag,h1,n,h2,x',h3,rfl⟩:=hc
  exact lD hq fun h=>PZ S E ho h1 h2 h3 h
 ·rename_i ho
  simp only[Option.bind_eq_bind,Option.bind_eq_some_iff,Option.pure_def,Option.some.injEq]at hc
  obtain⟨n,h2,x',h3,y',h4,rfl⟩:=hc
  simp[eQ]at hq
 ·rename_i ho
  simp only[Option.map_eq_some_iff]at hc
  obtain⟨x',hx,rfl⟩:=hc
  exact lD hq fun h=>Sv E ho hx h
 ·rename_i op t x y yt ho
  unfold vV at hc
  split at hc
  ·exact Se (neg:=false) ho hc hq E
  ·exact Se (neg:=true) ho hc hq E
  ·simp only[Option.bind_eq_bind,Option.bind_eq_some_iff,Option.pure_def,Option.some.injEq]at hc
   obtain⟨x',h3,y',h4,rfl⟩:=hc
   exact lD hq fun h=>SC (left:=true) E ho h3 h4 h
  ·simp only[Option.bind_eq_bind,Option.bind_eq_some_iff,Option.pure_def,Option.some.injEq]at hc
   obtain⟨x',h3,y',h4,rfl⟩:=hc
   exact lD hq fun h=>SC (left:=false) E ho h3 h4 h
  ·rename_i n1 n2 n3 n4
   split at hc
   ·simp only[Option.bind_eq_bind,Option.bind_eq_some_iff,Option.pure_def,Option.some.injEq]at hc
    obtain⟨x',h3,y',h4,rfl⟩:=hc
    exact lD hq fun h=>Su E ho n1 n2 h3 h4 h
   ·simp only[Option.bind_eq_bind,Option.bind_eq_some_iff,Option.pure_def,Option.some.injEq]at hc
    obtain⟨x',h3,y',h4,rfl⟩:=hc
    exact lD hq fun h=>PQ E ho n1 n2 h3 h4 h
   ·simp at hc
 ·rename_i ho
  simp only[Option.map_eq_some_iff]at hc
  obtain⟨x',hx,rfl⟩:=hc
  exact lD hq fun h=>SB E ho hx h
 ·rename_i ho
  simp only[Option.map_eq_some_iff]at hc
  obtain⟨x',hx,rfl⟩:=hc
  exact lD hq fun h=>SA E ho hx h
 ·rename_i ho
  split at hc
  ·rename_i q k h1 h2
   simp only[Option.map_eq_some_iff]at hc
   obtain⟨x',hx,rfl⟩:=hc
   exact lD hq fun h=>PR E ho h1 h2 hx h
  ·rename_i h1 h2
   simp only[Option.map_eq_some_iff]at hc
   obtain⟨x',hx,rfl⟩:=hc
   exact lD hq fun h=>by
    have hr:=dj E hx
    unfold b4 at h
    split at h
    ·rename_i s hb
     simp at h;subst h
     rw[hb]at hr
     exact⟨.string s,by simp only[execOp,ho,fD hr,convert,Sem.run_bind,run_underlying h1,run_underlying h2,Result.andThen_ok,Sem.run_pure],.eO _ _ (.str _)⟩
    ·simp at h
  ·simp at hc
 ·rename_i ho
  split at hc
  ·rename_i e ht
   simp only[Option.bind_eq_bind,Option.bind_eq_some_iff,Option.pure_def,Option.some.injEq]at hc
   obtain⟨n,h1,x',h2,lo,h3,hi,h4,rfl⟩:=hc
   exact lD hq fun h=>MV S E ho ht h1 h2 h3 h4 h
  ·rename_i ht
   simp only[Option.bind_eq_bind,Option.bind_eq_some_iff,Option.pure_def,Option.some.injEq]at hc
   obtain⟨x',h2,lo,h3,hi,h4,rfl⟩:=hc
   exact lD hq fun h=>KP E ho ht h2 h3 h4 h
  ·simp at hc
 ·rename_i ho
  split at hc
  ·rename_i fs rR
   split at hc
   ·rename_i f hf
    split at hc
    ·rename_i m hm
     simp only[Option.map_eq_some_iff]at hc
     obtain⟨x',hx,rfl⟩:=hc
     exact lD hq fun h=>MS E ho rR hf hm hx h
    ·simp at hc
   ·simp at hc
  ·simp at hc
 ·rename_i ho
  split at hc
  ·rename_i fs rR
   split at hc
   ·rename_i f hf
    simp only[Option.bind_eq_bind,Option.bind_eq_some_iff,Option.pure_def,Option.some.injEq]at hc
    obtain⟨ag,h1,n,h2,x',h3,rfl⟩:=hc
    exact lD hq fun h=>MT E ho rR hf h1 h2 h3 h
   ·simp at hc
  ·simp at hc
 ·rename_i ho
  split at hc
  ·rename_i e ht
   split at hc
   ·rename_i m hm
    simp only[Option.bind_eq_bind,Option.bind_eq_some_iff,Option.pure_def,Option.some.injEq]at hc
    obtain⟨x',h1,i',h2,rfl⟩:=hc
    exact lD hq fun h=>MU S E ho ht hm h1 h2 h
   ·simp at hc
  ·rename_i len e ht
   split at hc
   ·rename_i m hm
    simp only[Option.bind_eq_bind,Option.bind_eq_some_iff,Option.pure_def,Option.some.injEq]at hc
    obtain⟨x',h1,i',h2,rfl⟩:=hc
    exact lD hq fun h=>PU E ho ht hm h1 h2 h
   ·simp at hc
  ·simp at hc
 ·rename_i ho
  split at hc
  ·rename_i ht
   simp only[Option.bind_eq_bind,Option.bind_eq_some_iff,Option.pure_def,Option.some.injEq]at hc
   obtain⟨x',h1,i',h2,rfl⟩:=hc
   exact lD hq fun h=>PW E ho ht h1 h2 h
  ·rename_i len e ht
   simp only[Option.bind_eq_bind,Option.bind_eq_some_iff,Option.pure_def,Option.some.injEq]at hc
   obtain⟨ag,h0,n,h1,x',h2,i',h3,rfl⟩:=hc
   exact lD hq fun h=>PV E ho ht h0 h1 h2 h3 h
  ·simp at hc
 ·rename_i ho
  simp only[Option.map_eq_some_iff]at hc
  obtain⟨x',hx,rfl⟩:=hc
  exact lD hq fun h=>HK E ho hx h
 ·rename_i ho
  split at hc
  ·rename_i fs rR
   split at hc
   ·rename_i z l hz hl
    split at hc
    ·rename_i dD
     simp only[Option.map_eq_some_iff]at hc
     obtain⟨q,LY,rfl⟩:=hc
     simp only[eQ,Option.map_eq_some_iff,Prod.mk.injEq]at hq
     obtain⟨cs,dt,rfl,rfl⟩:=hq
     exact MR E ho rR hz hl (fun f hf=>by
      rw[Array.all_eq_true_iff_forall_mem]at dD
      exact dD f (Array.mem_toList_iff.1 hf)) LY dt
    ·simp at hc
   ·simp at hc
  ·rename_i len e ht
   split at hc
   ·rename_i z l n hz hl hn
    simp only[Option.some.injEq]at hc
    subst hc
    simp only[eQ,Option.map_eq_some_iff,Prod.mk.injEq]at hq
    obtain⟨cs,dt,rfl,rfl⟩:=hq
    exact KO E ho ht hz hl hn dt
   ·simp at hc
  ·simp at hc
 ·rename_i ho
  split at hc
  ·rename_i e ht
   split at hc
   ·rename_i sz z l h1 h2 h3
    split at hc
    ·rename_i hh
     simp only[Option.some.injEq]at hc
     subst hc
     simp only[eQ,Option.map_eq_some_iff,Prod.mk.injEq]at hq
     obtain⟨rs,yR,rfl,rfl⟩:=hq
     exact .inl (JH E ho ht h1 h2 h3 hh.1 hh.2 (by rw[List.map_map]at yR;exact yR))
    ·simp at hc
   ·simp at hc
  ·simp at hc
 ·rename_i ho
  split at hc
  ·rename_i hh
   simp only[Option.map_eq_some_iff]at hc
   obtain⟨l,hl,rfl⟩:=hc
   simp[eQ]at hq;obtain⟨rfl,rfl⟩:=hq
   exact P3 E ho hh.1 hh.2 hl
  ·split at hc
   ·rename_i hh
    simp only[Option.map_eq_some_iff]at hc
    obtain⟨l,hl,rfl⟩:=hc
    simp[eQ]at hq;obtain⟨rfl,rfl⟩:=hq
    exact P4 E ho hh.1 hh.2 hl
   ·simp at hc
 ·rename_i ho
  split at hc
  ·rename_i e ht
   split at hc
   ·rename_i m z i h1 h2 h3
    split at hc
    ·rename_i hb
     simp only[Option.bind_eq_bind,Option.bind_eq_some_iff,Option.pure_def,Option.some.injEq]at hc
     obtain⟨l',h4,c',h5,rfl⟩:=hc
     simp only[eQ,Option.map_eq_some_iff,Prod.mk.injEq]at hq
     obtain⟨⟨n,r⟩,hr,rfl,rfl⟩:=hq
     exact .inl (G3 E ho ht h1 h2 h3 hb h4 h5 hr)
    ·simp at hc
   ·simp at hc
  ·simp at hc
 ·rename_i ho
  exact Pt ho hc hq S E
 ·rename_i ho
  split at hc
  ·rename_i dir e ht
   split at hc
   ·rename_i i hi
    split at hc
    ·rename_i hb
     simp only[Option.map_eq_some_iff]at hc
     obtain⟨x',hx,rfl⟩:=hc
     simp only[eQ,Option.map_eq_some_iff,Prod.mk.injEq]at hq
     obtain⟨n,hn,rfl,rfl⟩:=hq
     exact .inr (.inr (Ph E ho ht hi hb hx hn))
    ·cases hc
   ·cases hc
  ·cases hc
 ·simp only[Option.bind_eq_bind,Option.bind_eq_some_iff,Option.pure_def,Option.some.injEq]at hc
  obtain⟨x',_,y',_,rfl⟩:=hc
  simp[eQ]at hq
 ·split at hc
  ·split at hc
   ·simp only[Option.map_eq_some_iff]at hc
    obtain⟨x',_,rfl⟩:=hc
    simp[eQ]at hq
   ·cases hc
  ·cases hc
 ·rename_i ho
  split at hc
  ·rename_i m z hm
   simp only[Option.some.injEq]at hc
   subst hc
   simp only[eQ,List.map_nil,bF,Option.some.injEq,Prod.mk.injEq]at hq
   obtain⟨rfl,rfl⟩:=hq
   exact .inr (.inl (R6 ho))
  ·cases hc
 ·rename_i ho
  split at hc
  ·rename_i m z x' k' hm hx hk
   simp only[Option.some.injEq]at hc
   subst hc
   obtain⟨rfl,h⟩:=P0 (id:=id) S E ho hm hx hk hq
   exact h
  ·cases hc
 ·split at hc
  ·simp only[Option.some.injEq]at hc
   subst hc
   simp[eQ]at hq
  ·cases hc
 ·split at hc
  ·simp only[Option.some.injEq]at hc
   subst hc
   simp[eQ]at hq
  ·cases hc
 ·simp only[Option.some.injEq]at hc
  subst hc
  simp[eQ]at hq
 ·simp only[Option.some.injEq]at hc
  subst hc
  simp[eQ]at hq
 ·simp at hc
end
end Go.Proofs.YtgoljkjaameagaaGreat.V

namespace Go.Proofs.YtgoljkjaameagaaGreat.V
open Go.RowKit
variable {P:Program} {w w':World} {D D':Nat->Prop} {ι ι':Names}
def kM (ι:Names) (id:Id) (B:sL):Names:=fun i=>if i=id then some B else ι i
theorem dY (ι:Names) (id:Id) (B:sL):kM ι id B id=some B:=if_pos rfl
theorem fb {ι:Names} {id:Id} {B:sL} (h:ι id=none):∀i B',ι i=some B'->kM ι id B i=some B':=fun i B' hi=>by
 have:i≠id:=by rintro rfl;rw[h]at hi;cases hi
 rw[kM,if_neg this];exact hi
theorem gq {ι:Names} {id i:Id} {B:sL} (h:i≠id):kM ι id B i=ι i:=if_neg h
section
variable {g:Rows} {hs:Nat} {env:Env} {a:Act} {o:Oper} {id:Id} {v:AV}
theorem lG.frame {B:sL} {r:Row} (h:lG P w D ι B r) (hb:w'.heap[B.b]? =w.heap[B.b]?) (hr:∀a v,cI P w D ι a v->cI P w' D' ι' a v):lG P w' D' ι' B r:=
 ⟨h.sz,by obtain⟨c,T,h1,h2⟩:=h.xR;exact⟨c,T,hb.trans h1,h2⟩,h.fits,h.len,h.flat,fun i j cs a hi hj=>by
  obtain⟨v,h1,h2⟩:=h.at_ i j cs a hi hj
  exact⟨v,(World.cell?_of_block (a:=⟨B.b,i*r.sz+j,none⟩) hb).trans h1,hr _ _ h2⟩⟩
theorem gO.frame {B:sL} {r:Row} (h:gO P w D ι B r) (hb:w'.heap[B.b]? =w.heap[B.b]?) (hr:∀a v,cI P w D ι a v->cI P w' D' ι' a v):gO P w' D' ι' B r:=
 ⟨h.sz,h.flat,fun hk=>(h.row hk).frame hb hr,fun m hm=>by
  obtain⟨h1,es,c,h2,h3,h5,h4⟩:=h.map m hm
  refine⟨h1,es,c,hb.trans h2,h3,h5,fun i cs hi=>?_⟩
  obtain⟨e,kv,vv,q1,q2,q3,q4,q5⟩:=h4 i cs hi
  exact⟨e,kv,vv,q1,q2,q3,hr _ _ q4,hr _ _ q5⟩,fun c hc=>by
  obtain⟨h1,buf,s,q,h2,h3,h4⟩:=h.chan c hc
  refine⟨h1,buf,s,q,hb.trans h2,h3,fun i cs hi=>?_⟩
  obtain⟨a,u,q1,q2,q3⟩:=h4 i cs hi
  exact⟨a,u,q1,q2,hr _ _ q3⟩⟩
theorem gz.kill (S:gz P hs D ι g w) (i:Id):gz P hs D ι (cu g i) w:=by
 refine⟨S.lo,S.dead,fun id r h=>?_,fun id j6 r r' B B' h h' hw hB dz hb=>?_⟩
 ·unfold cu at h;split at h
  ·cases h
  ·exact S.row id r h
 ·unfold cu at h h'
  split at h
  ·cases h
  ·split at h'
   ·cases h'
   ·exact S.inj id j6 r r' B B' h h' hw hB dz hb
theorem gz.sub {g':Rows} (S:gz P hs D ι g w) (h:∀id r,g' id=some r->g id=some r):gz P hs D ι g' w:=
 ⟨S.lo,S.dead,fun id r hr=>S.row id r (h id r hr),fun id j6 r r' B B' h1 h2=>S.inj id j6 r r' B B' (h _ _ h1) (h _ _ h2)⟩
theorem AU {hid:List Nat} {n:Nat} {g:Rows}:∀id r,fY hid n g id=some r->g id=some r:=fun id r h=>by
 cases hid with
 |nil=>exact h
 |cons a l=>
  have e:fY (a::l) n g id=if (a::l).contains id.site=true/\id.ck=n then none else g id:=rfl
  rw[e]at h
  by_cases hc:(a::l).contains id.site=true/\id.ck=n
  ·rw[if_pos hc]at h;cases h
  ·rw[if_neg hc]at h;exact h
theorem gz.stay (S:gz P hs D ι g w) (hb:∀b,b<w.heap.size->w'.heap[b]? =w.heap[b]?) (hz:w.heap.size<=w'.heap.size) (hD:∀b,D b->D' b) (hD':∀b,D' b->b<w'.heap.size) (kr:∀b,D' b->D b∨w.heap.size<=b) (hι:∀id B,ι id=some B->ι' id=some B):gz P hs D' ι' g w':=by
 have hr:∀a v,cI P w D ι a v->cI P w' D' ι' a v:=fun a v h=>h.frame (fun b hd=>hb b (S.dead b hd)) hD hι
 have lt:∀{id r B},g id=some r->ι id=some B->B.b<w.heap.size:=fun {id r B} h hB=>by
  obtain⟨B',dz,R,_⟩:=S.row id r h
  rw[hB]at dz;injection dz with dz;subst dz
  exact R.lt
 refine⟨Nat.le_trans S.lo hz,hD',fun id r h=>?_,fun id j6 r r' B B' h h' hw hB dz he=>?_⟩
 ·obtain⟨B,hB,R,h1,h2⟩:=S.row id r h
  exact⟨B,hι _ _ hB,R.frame (hb _ (lt h hB)) hr,h1,fun hw hd=>by
   rcases kr _ hd with hd|hd
   ·exact h2 hw hd
   ·have:=lt h hB;omega⟩
 ·obtain⟨C,hC,_⟩:=S.row id r h
  obtain⟨C',uF,_⟩:=S.row j6 r' h'
  have e1:=hι _ _ hC
  have e2:=hι _ _ uF
  rw[hB]at e1;injection e1 with e1;subst e1
  rw[dz]at e2;injection e2 with e2;subst e2
  exact S.inj id j6 r r' _ _ h h' hw hC uF he
theorem Step.stay (S:gz P hs D ι g w) (hb:∀b,b<w.heap.size->w'.heap[b]? =w.heap[b]?) (hz:w.heap.size<=w'.heap.size) (e1:w'.os=w.os) (e2:w'.tape=w.tape) (e3:w'.output=w.output) (hD:∀b,D b->D' b) (kr:∀b,D' b->D b∨w.heap.size<=b) (hι:∀id B,ι id=some B->ι' id=some B):Step hs D ι w D' ι' w':=
 ⟨⟨e1,e2,e3,hz,fun k hk=>hb k (Nat.lt_of_lt_of_le hk S.lo)⟩,fun b hd=>hb b (S.dead b hd),hD,hι,fun b h=>(kr b h).imp_right (Nat.le_trans S.lo)⟩
theorem gz.alloc (S:gz P hs D ι g w) {cells:Array Value} {T:TypeId} {r:Row} (hh:w'.heap=w.heap.push (.cells cells T (0,0))) (hn:ι id=none) (hw:r.w=true) (h1:r.rows.length*r.sz<=cells.size) (h2:∀cs∈r.rows,cs.length=r.sz) (h3:∀cs∈r.rows,∀a∈cs,a.cell=true)
  (h4:∀i j cs a,r.rows[i]? =some cs->cs[j]? =some a->∃x,cells[i*r.sz+j]? =some x/\cI P w D ι a x):gz P hs D (kM ι id ⟨w.heap.size,r.sz,cells.size,none⟩) (bt g id r) w':=by
 have hb:∀b,b<w.heap.size->w'.heap[b]? =w.heap[b]? :=fun b dU=>by rw[hh,Array.getElem?_push,if_neg (by omega)]
 have hz:w.heap.size<=w'.heap.size:=by rw[hh];simp
 have S':=S.stay (D':=D) (ι':=kM ι id ⟨w.heap.size,r.sz,cells.size,none⟩) hb hz (fun _ h=>h) (fun b hd=>Nat.lt_of_lt_of_le (S.dead b hd) hz) (fun _ h=>.inl h) (fb hn)
 have hr:∀a v,cI P w D ι a v->cI P w' D (kM ι id ⟨w.heap.size,r.sz,cells.size,none⟩) a v:=fun a v h=>h.frame (fun b hd=>hb b (S.dead b hd)) (fun _ h=>h) (fb hn)
 have kr:w'.heap[w.heap.size]? =some (.cells cells T (0,0)):=by rw[hh];simp
 have gone:g id=none:=by
  cases hg:g id with
  |none=>rfl
  |some q=>
   obtain⟨B,hB,_⟩:=S.row id q hg
   rw[hn]at hB;cases hB
 have lt:∀{i q B},g i=some q->ι i=some B->B.b<w.heap.size:=fun {i q B} h hB=>by
  obtain⟨B',dz,R,_⟩:=S.row i q h
  rw[hB]at dz;injection dz with dz;subst dz
  exact R.lt
 refine⟨S'.lo,S'.dead,fun i q h=>?_,fun i i' q q' B B' h h' Ji hB dz he=>?_⟩
 ·unfold bt at h
  split at h
  ·rename_i e
   subst e
   injection h with h;subst h
   refine⟨_,dY _ _ _,lG.obj ⟨rfl,⟨cells,T,kr,rfl⟩,h1,h2,h3,fun k j cs a hk hj=>?_⟩ rfl,fun _=>S.lo,fun _ hd=>?_⟩
   ·obtain⟨x,hx,hrx⟩:=h4 k j cs a hk hj
    exact⟨x,by simp[World.cell?,kr,hx],hr _ _ hrx⟩
   ·have:=S.dead _ hd;simp at this
  ·exact S'.row i q h
 ·unfold bt at h h'
  split at h
  ·rename_i e
   split at h'
   ·rename_i e';exact e.trans e'.symm
   ·exfalso
    rename_i e'
    subst e
    rw[dY]at hB;injection hB with hB;subst hB
    rw[gq e']at dz
    have:=lt h' dz
    simp at he;omega
  ·rename_i e
   split at h'
   ·exfalso
    rename_i e'
    subst e'
    rw[dY]at dz;injection dz with dz;subst dz
    rw[gq e]at hB
    have:=lt h hB
    simp at he;omega
   ·exact S'.inj i i' q q' B B' h h' Ji hB dz he
theorem gz.put (S:gz P hs D ι g w) {r r':Row} {B:sL} {cur cur':Array Value} {T:TypeId} (hid:g id=some r) (hw:r.w=true) (hB:ι id=some B) (hblk:w.heap[B.b]? =some (.cells cur T (0,0))) (fo:cur'.size=cur.size)
  (h0:r'.w=true) (h1:r'.sz=r.sz) (h2:r'.rows.length*r'.sz<=B.C) (h3:∀cs∈r'.rows,cs.length=r'.sz) (h4:∀cs∈r'.rows,∀a∈cs,a.cell=true)
  (h5:∀i j cs a,r'.rows[i]? =some cs->cs[j]? =some a->∃v,cur'[i*r.sz+j]? =some v/\cI P w D ι a v):gz P hs D ι (bt g id r') (w.setRow B.b cur')/\Step hs D ι w D ι (w.setRow B.b cur'):=by
 obtain⟨B0,BR,RO,kq,mz⟩:=S.row id r hid
 rw[hB]at BR;injection BR with BR;subst BR
 have xL:=RO.Mm hblk
 have R:=RO.row xL
 have hd:∀b,D b->(w.setRow B.b cur').heap[b]? =w.heap[b]? :=fun b hb=>setRow_other w B.b b cur' (by rintro rfl;exact mz hw hb)
 have hr:∀a v,cI P w D ι a v->cI P (w.setRow B.b cur') D ι a v:=fun a v h=>h.frame hd (fun _ h=>h) (fun _ _ h=>h)
 have hC:cur.size=B.C:=by
  obtain⟨c,T',h1,h2⟩:=R.xR
  rw[hblk]at h1;injection h1 with h1;injection h1 with h1 Ol;subst h1;exact h2
 refine⟨⟨by simpa using S.lo,fun b hb=>by simpa using S.dead b hb,fun i q h=>?_,fun i i' q q' C C' h h' Ji hC uF he=>?_⟩,⟨⟨by simp,by simp,by simp,by simp,fun k hk=>setRow_other w B.b k cur' (by have:=kq hw;omega)⟩,hd,fun _ h=>h,fun _ _ h=>h,fun _ h=>.inl h⟩⟩
 ·unfold bt at h
  split at h
  ·rename_i e
   subst e
   injection h with h;subst h
   refine⟨B,hB,lG.obj ⟨by rw[h1];exact R.sz,⟨cur',T,setRow_heap w B.b cur cur' T _ hblk,by rw[fo];exact hC⟩,h2,h3,h4,fun k j cs a hk hj=>?_⟩ xL,fun _=>kq hw,fun _=>mz hw⟩
   obtain⟨v,hv,lN⟩:=h5 k j cs a hk hj
   exact⟨v,by rw[cell_setRow_same w B.b _ cur cur' T _ hblk,h1];exact hv,hr _ _ lN⟩
  ·rename_i e
   obtain⟨C,hC,RC,k1,k2⟩:=S.row i q h
   refine⟨C,hC,RC.frame (setRow_other w B.b C.b cur' (fun Nb=>e ?_)) hr,k1,k2⟩
   exact(S.inj id i r q B C hid h hw hB hC Nb.symm).symm
 ·unfold bt at h h'
  have get:∀j p,(if j=id then some r' else g j)=some p->∃p0,g j=some p0/\(p.w=true->p0.w=true):=fun j p hp=>by
   split at hp
   ·rename_i e;subst e;injection hp with hp;subst hp;exact⟨r,hid,fun _=>hw⟩
   ·exact⟨p,hp,fun h=>h⟩
  obtain⟨p,hp,Qq⟩:=get _ _ h
  obtain⟨p',OU,_⟩:=get _ _ h'
  exact S.inj i i' p p' C C' hp OU (Qq Ji) hC uF he
theorem gz.rename (S:gz P hs D ι g w) {i:Id} {r:Row} {B:sL} (hi:g i=some r) (hw:r.w=true) (hB:ι i=some B) (hn:ι id=none):gz P hs D (kM ι id B) (bt (cu g i) id r) w:=by
 have S':=S.stay (w':=w) (D':=D) (ι':=kM ι id B) (fun _ _=>rfl) (Nat.le_refl _) (fun _ h=>h) S.dead (fun _ h=>.inl h) (fb hn)
 have gZ:i≠id:=by rintro rfl;rw[hn]at hB;cases hB
 obtain⟨B1,Bb,R,k1,k2⟩:=S'.row i r hi
 rw[gq gZ,hB]at Bb;injection Bb with Bb;subst Bb
 have get:∀j p,bt (cu g i) id r j=some p->(j=id/\p=r)∨(j≠id/\j≠i/\g j=some p):=fun j p hp=>by
  unfold bt cu at hp
  split at hp
  ·rename_i e;injection hp with hp;exact .inl ⟨e,hp.symm⟩
  ·rename_i e
   split at hp
   ·cases hp
   ·rename_i e';exact .inr ⟨e,e',hp⟩
 refine⟨S.lo,S.dead,fun j p h=>?_,fun j j' p p' C C' h h' Qq hC uF he=>?_⟩
 ·rcases get j p h with⟨rfl,rfl⟩|⟨_,_,hp⟩
  ·exact⟨B,dY _ _ _,R,k1,k2⟩
  ·exact S'.row j p hp
 ·rcases get j p h with⟨rfl,rfl⟩|⟨q1,q2,hp⟩
  ·rcases get j' p' h' with⟨rfl,rfl⟩|⟨q1',q2',OU⟩
   ·rfl
   ·exfalso
    rw[dY]at hC;injection hC with hC;subst hC
    rw[gq q1']at uF
    exact q2' (S.inj i j' p p' B C' hi OU hw hB uF he).symm
  ·rcases get j' p' h' with⟨rfl,rfl⟩|⟨q1',q2',OU⟩
   ·exfalso
    rw[dY]at uF;injection uF with uF;subst uF
    rw[gq q1]at hC
    exact q2 (S.inj j i p p' C B hp hi Qq hC hB he)
   ·rw[gq q1]at hC
    rw[gq q1']at uF
    exact S.inj j j' p p' C C' hp OU Qq hC uF he
def Dd (P:Program) (hs:Nat) (a:Act) (o:Oper) (w:World) (D:Nat->Prop) (ι:Names) (id:Id) (v:AV) (g':Rows):Prop:=
 ∃u w' ι',((execOp a.eval o).run P w=.ok (.value u) w'∨(execOp a.eval o).run P w=.ok .skip w'/\u=undef)/\Step hs D ι w D ι' w'/\gz P hs D ι' g' w'/\cI P w' D ι' v u/\∀i,i≠id->ι' i=ι i
theorem CE {xs:List AV} {vs:Array Value} (h:fm P w D ι xs vs) (hf:∀a∈xs,a.cell=true):∀v∈vs.toList,v.oneCell'=true:=by
 intro v hv
 obtain⟨j,hj,rfl⟩:=List.getElem_of_mem hv
 have K2:j<xs.length:=by rw[<-h.1];simpa using hj
 obtain⟨u,hu,hr⟩:=h.2 j _ (List.getElem?_eq_getElem K2)
 have hc:=hr.By (hf _ (List.getElem_mem K2))
 have:vs.toList[j]=u:=by
  have:vs.toList[j]? =some u:=by simpa using hu
  rw[List.getElem?_eq_getElem hj]at this;injection this
 rw[this]
 cases u<;>simp_all [Value.oneCell']
theorem jY {i j n m:Nat} (h:i<n) (hj:j<m):i*m+j<n*m:=by
 have:(i+1)*m<=n*m:=Nat.mul_le_mul_right _ h
 rw[Nat.add_mul,Nat.one_mul]at this;omega
theorem lG.cur {B:sL} {r:Row} (R:lG P w D ι B r):∃cur T,w.heap[B.b]? =some (.cells cur T (0,0))/\cur.size=B.C/\∀i j cs a,r.rows[i]? =some cs->cs[j]? =some a->∃v,cur[i*r.sz+j]? =some v/\cI P w D ι a v:=by
 obtain⟨cur,T,h1,h2⟩:=R.xR
 refine⟨cur,T,h1,h2,fun i j cs a hi hj=>?_⟩
 obtain⟨v,hv,hr⟩:=R.at_ i j cs a hi hj
 exact⟨v,by simpa[World.cell?,h1]using hv,hr⟩
theorem Lv {t:TypeId} {n:Nat} {x y:Operand} {x' y':O} {g':Rows} (S:gz P hs D ι g w) (E:cr P w D ι env a) (ho:o.op=.store t x y) (hn:dZ P t=some n) (hx:cO P x=some x') (hy:cO P y=some y')
  (hv:bU g n (cQ env y') (cQ env x')=some g'):Dd P hs a o w D ι id .undef g':=by
 have rx:=dj E hx
 have ry:=dj E hy
 unfold bU at hv
 split at hv
 ·rename_i i k off hp
  rw[hp]at rx
  simp only[Option.bind_eq_some_iff]at hv
  obtain⟨r,hg,cs,dt,hv⟩:=hv
  split at hv
  ·rename_i hc
   obtain⟨c1,c2,c3,c4⟩:=hc
   simp at hv;subst hv
   obtain⟨B,he,hB,hk⟩:=iE rx
   obtain⟨B',dz,R,kq,mz⟩:=S.row i r hg
   rw[hB]at dz;injection dz with dz;subst dz
   replace R:=R.row hk
   obtain⟨cur,T,hblk,hC,wE⟩:=R.cur
   have hL:=q9 ry c3
   have h1:=CE hL (List.all_eq_true.1 c3)
   have RQ:(a.eval y).cells.size=n:=by rw[hL.1,c2]
   have mh:=(List.getElem?_eq_some_iff.1 dt).1
   have hlen:=R.len cs (List.mem_of_getElem? dt)
   have hbound:k*r.sz+r.sz<=r.rows.length*r.sz:=by
    have:(k+1)*r.sz<=r.rows.length*r.sz:=Nat.mul_le_mul_right _ mh
    rwa [Nat.add_mul,Nat.one_mul]at this
   have hf:=R.fits
   have dH:=run_storeCells_at P B.b (k*B.sz+off) T (a.eval y).cells.toList 0 cur w hblk (by rw[R.sz];simp only[Array.length_toList];omega) h1
   simp only[Nat.add_zero,Array.length_toList]at dH
   have wL:=S.put (r':={r with rows:=r.rows.set k (cK cs off (cQ env y').cells)}) hg c1 hB hblk (cur':=(cur.toList.take (k*B.sz+off)++(a.eval y).cells.toList++cur.toList.drop (k*B.sz+off+(a.eval y).cells.size)).toArray)
    (by rw[R.sz];simp;omega) c1 rfl (by simpa using R.fits) (fun c UE=>by
     rcases List.mem_or_eq_of_mem_set UE with h|rfl
     ·exact R.len c h
     ·simp[cK];omega) (fun c UE b hb=>by
     rcases List.mem_or_eq_of_mem_set UE with h|rfl
     ·exact R.flat c h b hb
     ·unfold cK at hb
      rcases List.mem_append.1 hb with hb|hb
      ·rcases List.mem_append.1 hb with hb|hb
       ·exact R.flat cs (List.mem_of_getElem? dt) b (List.mem_of_mem_take hb)
       ·exact List.all_eq_true.1 c3 b hb
      ·exact R.flat cs (List.mem_of_getElem? dt) b (List.mem_of_mem_drop hb)) (fun i2 j c b yN hj=>by
     rw[R.sz]
     simp only[List.getElem?_toArray]
     by_cases yO:i2=k
     ·subst yO
      rw[List.getElem?_set_self mh]at yN
      injection yN with yN;subst yN
      unfold cK at hj
      by_cases hjo:j<off
      ·rw[List.append_assoc,List.getElem?_append_left (by simp;omega),List.getElem?_take,if_pos hjo]at hj
       rw[List.append_assoc,List.getElem?_append_left (by simp;omega),List.getElem?_take,if_pos (by omega)]
       simpa using wE _ _ _ _ dt hj
      ·by_cases iL:j<off+n
       ·rw[List.append_assoc,List.getElem?_append_right (by simp;omega),List.getElem?_append_left (by simp;omega)]at hj
        rw[List.append_assoc,List.getElem?_append_right (by simp;omega),List.getElem?_append_left (by simp;omega)]
        simp only[List.length_take]at hj ⊢
        rw[show j-min off cs.length=j-off by omega]at hj
        rw[show i2*r.sz+j-min (i2*r.sz+off) cur.toList.length=j-off by simp;omega]
        simpa using hL.2 _ _ hj
       ·rw[List.getElem?_append_right (by simp;omega)]at hj
        rw[List.getElem?_append_right (by simp;omega)]
        simp only[List.length_append,List.length_take,List.getElem?_drop,Array.length_toList]at hj ⊢
        rw[show off+(cQ env y').cells.length+(j-(min off cs.length+(cQ env y').cells.length))=j by omega]at hj
        rw[show i2*r.sz+off+(a.eval y).cells.size+(i2*r.sz+j-(min (i2*r.sz+off) cur.size+(a.eval y).cells.size))=i2*r.sz+j by omega]
        simpa using wE _ _ _ _ dt hj
     ·rw[List.getElem?_set_ne (fun e=>yO e.symm)]at yN
      have hi2l:=(List.getElem?_eq_some_iff.1 yN).1
      have ig:j<r.sz:=by rw[<-R.len c (List.mem_of_getElem? yN)];exact(List.getElem?_eq_some_iff.1 hj).1
      have:=wE _ _ _ _ yN hj
      rcases Nat.lt_or_gt_of_ne yO with dU|LK
      ·have h2:i2*r.sz+j<k*r.sz:=jY dU ig
       rw[List.append_assoc,List.getElem?_append_left (by simp;omega),List.getElem?_take,if_pos (by omega)]
       simpa using this
      ·have h2:k*r.sz+r.sz<=i2*r.sz:=by
        have:(k+1)*r.sz<=i2*r.sz:=Nat.mul_le_mul_right _ LK
        rwa [Nat.add_mul,Nat.one_mul]at this
       rw[List.getElem?_append_right (by simp;omega)]
       simp only[List.length_append,List.length_take,List.getElem?_drop,Array.length_toList]
       rw[show k*r.sz+off+(a.eval y).cells.size+(i2*r.sz+j-(min (k*r.sz+off) cur.size+(a.eval y).cells.size))=i2*r.sz+j by omega]
       simpa using this)
   refine⟨undef,_,ι,.inr ⟨?_,rfl⟩,wL.2,wL.1,cI.undef,fun _ _=>rfl⟩
   simp only[execOp,ho,he,Instr.storeAt,Instr.sureAddr,storeVar,Sem.run_bind,Sem.run_pure,Result.andThen_ok,run_sizeOf hn,RQ,ne_eq,not_true_eq_false,if_false,dH]
  ·simp at hv
 ·simp at hv
end
end Go.Proofs.YtgoljkjaameagaaGreat.V

namespace Go.Proofs.YtgoljkjaameagaaGreat.V
open Go.RowKit
variable {P:Program} {w w':World} {D D':Nat->Prop} {ι ι':Names}
section
variable {g:Rows} {hs:Nat} {env:Env} {a:Act} {o:Oper} {id:Id} {v:AV}
theorem si (S:gz P hs D ι g w) {y:AV} {u:Value} {ys:List (List AV)} {sz:Nat} (hr:cI P w D ι y u) (hy:bw g y=some ys) (hl:∀c∈ys,c.length=sz) (hf:∀c∈ys,∀b∈c,b.cell=true):
  ∃A c,u=.slice A ys.length c/\(ys=[]∨∃b o,∃news:List Value,A=some ⟨b,o,none⟩/\news.length=ys.length*sz/\(∀j v,news[j]? =some v->w.cell? ⟨b,o+j,none⟩=some v)/\fm P w D ι ys.flatten news.toArray/\∀v∈news,v.oneCell'=true):=by
 have fin:∀b o,ys≠[]->(∀i j cs x,ys[i]? =some cs->cs[j]? =some x->∃v,w.cell? ⟨b,o+(i*sz+j),none⟩=some v/\cI P w D ι x v)->
   ∃news:List Value,news.length=ys.length*sz/\(∀j v,news[j]? =some v->w.cell? ⟨b,o+j,none⟩=some v)/\fm P w D ι ys.flatten news.toArray/\∀v∈news,v.oneCell'=true:=by
  intro b o _ h
  have hlen:=IL hl
  have at_:∀k,k<ys.length*sz->∃x,ys.flatten[k]? =some x/\∃v,w.cell? ⟨b,o+k,none⟩=some v/\cI P w D ι x v:=by
   intro k hk
   have kz:0<sz:=by
    rcases Nat.eq_zero_or_pos sz with h0|h0
    ·subst h0;simp at hk
    ·exact h0
   have hi:k / sz<ys.length:=Nat.div_lt_of_lt_mul (by rw[Nat.mul_comm];exact hk)
   have hj:k % sz<sz:=Nat.mod_lt _ kz
   have dt:=List.getElem?_eq_getElem hi
   have ig:k % sz<ys[k / sz].length:=by rw[hl _ (List.getElem_mem hi)];exact hj
   have hx:=List.getElem?_eq_getElem ig
   have e:k / sz*sz+k % sz=k:=by rw[Nat.mul_comm];exact Nat.div_add_mod _ _
   refine⟨_,by rw[<-flat_get hl dt hx,e],?_⟩
   obtain⟨v,hv,lN⟩:=h _ _ _ _ dt hx
   rw[e]at hv
   exact⟨v,hv,lN⟩
  let news:=(List.range (ys.length*sz)).map fun k=>(w.cell? ⟨b,o+k,none⟩).getD undef
  have hn:∀k,k<ys.length*sz->∀v,w.cell? ⟨b,o+k,none⟩=some v->news[k]? =some v:=fun k hk v hv=>by
   simp only[news,List.getElem?_map,List.getElem?_range hk,Option.map_some,hv,Option.getD_some]
  have hR:fm P w D ι ys.flatten news.toArray:=⟨by simp[news,hlen],fun j x hx=>by
   have ig:=(List.getElem?_eq_some_iff.1 hx).1
   rw[hlen]at ig
   obtain⟨x',vm,v,hv,lN⟩:=at_ j ig
   rw[hx]at vm;injection vm with vm;subst vm
   exact⟨v,by simpa using hn j ig v hv,lN⟩⟩
  refine⟨news,by simp[news],fun j v hj=>?_,hR,?_⟩
  ·have ig:j<ys.length*sz:=by have:=(List.getElem?_eq_some_iff.1 hj).1;simpa[news]using this
   obtain⟨x,_,v',oi,_⟩:=at_ j ig
   rw[hn j ig v' oi]at hj
   injection hj with hj
   rw[<-hj];exact oi
  ·have:=CE hR (fun x hx=>by
    obtain⟨c,hc,Vv⟩:=List.mem_flatten.1 hx
    exact hf c hc x Vv)
   simpa using this
 unfold bw at hy
 split at hy
 ·simp at hy;subst hy
  exact⟨none,0,ki hr,.inl rfl⟩
 ·rename_i rows
  simp at hy;subst hy
  obtain⟨A,c,he,_,_,h3⟩:=xi hr
  refine⟨A,c,he,?_⟩
  rcases h3 with h3|⟨b,oo,sz',vs,rfl,hD,K4,_,hc,hi⟩
  ·exact .inl h3
  ·by_cases h0:rows=[]
   ·exact .inl h0
   ·have BZ:sz'=sz:=by
     cases rows with
     |nil=>exact(h0 rfl).elim
     |cons c r=>rw[<-K4 c (by simp),hl c (by simp)]
    subst BZ
    obtain⟨news,q1,q2,q3,q4⟩:=fin b oo h0 (fun i j cs x dt hx=>⟨_,hc i j (List.getElem?_eq_some_iff.1 dt).1 (by rw[<-K4 cs (List.mem_of_getElem? dt)];exact(List.getElem?_eq_some_iff.1 hx).1),.eO _ _ (hi i j cs x dt hx)⟩)
    exact .inr ⟨b,oo,news,rfl,q1,q2,q3,q4⟩
 ·rename_i i off len
  simp only[Option.bind_eq_some_iff]at hy
  obtain⟨r,hg,hy⟩:=hy
  split at hy
  ·rename_i hle
   simp at hy;subst hy
   obtain⟨oo,cap,B,he,hB,h1,h2,h3,h4,hk⟩:=iS hr
   obtain⟨B',dz,R,_,_⟩:=S.row i r hg
   rw[hB]at dz;injection dz with dz;subst dz
   replace R:=R.row hk
   have hlen:((r.rows.drop off).take len).length=len:=by simp;omega
   refine⟨some ⟨B.b,oo,none⟩,cap,by rw[hlen];exact he,?_⟩
   by_cases h0:(r.rows.drop off).take len=[]
   ·exact .inl h0
   ·have BZ:r.sz=sz:=by
     cases hq:(r.rows.drop off).take len with
     |nil=>exact(h0 hq).elim
     |cons c q=>
      have hm:c∈(r.rows.drop off).take len:=by rw[hq];simp
      rw[<-hl c hm,R.len c (List.mem_of_mem_drop (List.mem_of_mem_take hm))]
    have hlp:0<len:=by rw[<-hlen];exact List.length_pos_iff.2 h0
    have C3:oo=off*B.sz:=by rcases h2 with h2|h2<;>omega
    obtain⟨news,q1,q2,q3,q4⟩:=fin B.b oo h0 (fun i2 j cs x dt hx=>by
     rw[List.getElem?_take]at dt
     split at dt
     ·rw[List.getElem?_drop]at dt
      obtain⟨v,hv,lN⟩:=R.at_ _ _ _ _ dt hx
      refine⟨v,?_,lN⟩
      rw[C3,R.sz,<-BZ]
      rw[Nat.add_mul]at hv
      rw[<-Nat.add_assoc]
      exact hv
     ·simp at dt)
    exact .inr ⟨B.b,oo,news,rfl,q1,q2,q3,q4⟩
  ·simp at hy
 ·simp at hy
theorem ph {t ty e:TypeId} {i:TypeInfo} (ht:P.underlying t=some (.slice e)) (hi:P.info? e=some i) (A:Option Addr) (n c:Nat) (hn:n<=c) (B:Option Addr) (d:Nat):
  (Builtin.append_ #[t,t] ty #[.slice A n c,.slice B 0 d]).run P w=.ok (.slice A n c) w:=by
 have hf:(Builtin.firstCells i.size 0 (.slice B 0 d)).run P w=.ok #[] w:=by
  cases B<;>simp[Builtin.firstCells,loadCells,loadCellsFrom]
 cases A with
 |none=>simp[Builtin.append_,run_underlying ht,sizeOf,typeInfo,hi,Builtin.lenOf,hn,hf]
 |some A=>simp[Builtin.append_,run_underlying ht,sizeOf,typeInfo,hi,Builtin.lenOf,hn,hf,storeCells]
theorem yg {t ty e T:TypeId} {i:TypeInfo} (ht:P.underlying t=some (.slice e)) (hi:P.info? e=some i) (b sn EA:Nat) (cur:Array Value) (hg:w.heap[b]? =some (.cells cur T (0,0)))
  (x:Addr) (m c:Nat) (news:List Value) (hl:news.length=m*i.size) (Ry:∀j u,news[j]? =some u->w.cell? (x.add j)=some u) (h1:∀u∈news,u.oneCell'=true)
  (fV:sn+m<=EA) (td:sn*i.size+news.length<=cur.size):
  (Builtin.append_ #[t,t] ty #[.slice (some ⟨b,0,none⟩) sn EA,.slice (some x) m c]).run P w=
   .ok (.slice (some ⟨b,0,none⟩) (sn+m) EA) (w.setRow b (cur.toList.take (sn*i.size)++news++cur.toList.drop (sn*i.size+news.length)).toArray):=by
 have hf:=run_firstCells_some (P:=P) w i.size m x m c news hl Ry
 have dH:=run_storeCells_at P b (sn*i.size) T news 0 cur w hg (by simpa using td) h1
 simp only[Nat.add_zero]at dH
 simp[Builtin.append_,run_underlying ht,sizeOf,typeInfo,hi,Builtin.lenOf,fV,hf,km,dH]
theorem BQ (w:World) (Ha zf:Nat) (e:TypeId) (h:Ha<=dF):Ha<=grownCap w Ha zf e/\grownCap w Ha zf e<=maxLen:=by
 unfold dF at h
 simp only[grownCap,Question.cut,maxLen]
 have:=Nat.mod_lt (w.tape w.drawn (.appendCap Ha zf e)) (show 0<2 ^ 63-Ha by omega)
 omega
theorem ga {x y:Operand} {t:TypeId} {u:Value} (ho:o.op=.call {callee:=.builtin .append,args:= #[x,y],argTypes:= #[t,t]}) (h:(Builtin.append_ #[t,t] o.type #[a.eval x,a.eval y]).run P w=.ok u w'):(execOp a.eval o).run P w=.ok (.value u) w':=by
 simp only[execOp,ho,resolve,Sem.run_bind,Sem.run_pure,Result.andThen_ok,invoke,builtin]
 simp only[List.map_toArray,List.map_cons,List.map_nil]
 rw[h];rfl
theorem CN {T:TypeId} (S:gz P hs D ι g w) (cells:Array Value) (hn:ι id=none) (B:sL):Step hs D ι w D (kM ι id B) (w.drew.alloc (.cells cells T)):=
 Step.stay S (fun k hk=>by show(w.heap.push _)[k]? = _;rw[Array.getElem?_push,if_neg (by omega)]) (by show _<=(w.heap.push _).size;simp) rfl rfl rfl (fun _ h=>h) (fun _ h=>.inl h) (fb hn)
theorem Iz {x y:Operand} {x' y':O} {t e:TypeId} {m:Nat} {z:List K} {i:TypeInfo} {ys:List (List AV)} {g':Rows} (S:gz P hs D ι g w) (E:cr P w D ι env a) (hn:ι id=none) (ho:o.op=.call {callee:=.builtin .append,args:= #[x,y],argTypes:= #[t,t]})
  (ht:P.underlying t=some (.slice e)) (fo:dZ P e=some (m+1)) (hz:jP P e=some z) (hi:P.info? e=some i) (hby:i.bytes<=32768) (hx:cO P x=some x') (hy:cO P y=some y') (FF:bw g (cQ env y')=some ys)
  (hv:aY g id (m+1) (cQ env x') ys=some (v,g')):Dd P hs a o w D ι id v g':=by
 have rx:=dj E hx
 have ry:=dj E hy
 obtain⟨it,zv,rl,qR,QA,hm,FG⟩:=j5 hz
 rw[hi]at rl;injection rl with rl;subst rl
 have jI:i.size=m+1:=by simpa[dZ,hi]using fo
 have fits:∀n,n<=dF->n*i.bytes<=140737488355328:=fun n h=>by
  unfold dF at h
  have:=Nat.mul_le_mul h hby
  omega
 have e63:∀n,n<=dF->(n:Int)<=9223372036854775807:=fun n h=>by unfold dF at h;omega
 have same:∀(w1:World) (cells:Array Value),w1=w.drew.alloc (.cells cells e)->w1.heap=w.heap.push (.cells cells e (0,0)):=fun w1 cells h=>by subst h;rfl
 have QN:∀l:List (List AV),(l.all fun c=>c.length==m+1&&c.all AV.cell)=true->(∀c∈l,c.length=m+1)/\∀c∈l,∀b∈c,b.cell=true:=fun l h=>by
  rw[List.all_eq_true]at h
  refine⟨fun c hc=>?_,fun c hc b hb=>?_⟩
  ·have:=h c hc;simp at this;exact this.1
  ·have:=h c hc;simp at this;exact this.2 b hb
 unfold aY at hv
 split at hv
 ·rename_i hb
  rw[hb]at rx
  have ex:=ki rx
  split at hv
  ·simp at hv
   obtain⟨rfl,rfl⟩:=hv
   obtain⟨A,c,ey,_⟩:=si (sz:=m+1) S ry FF (fun c h=>by cases h) (fun c h=>by cases h)
   refine⟨_,w,ι,.inl (ga ho (by rw[ex,ey];exact ph ht hi none 0 0 (Nat.le_refl _) A c)),Step.refl _ _ _ _,S,.eO _ _ .bl,fun _ _=>rfl⟩
  ·rename_i y0 yr
   split at hv
   ·rename_i hc
    simp only[Option.some.injEq,Prod.mk.injEq]at hv
    obtain⟨rfl,rfl⟩:=hv
    obtain⟨hl,hf⟩:=QN _ hc.2
    obtain⟨A,c,ey,h2⟩:=si (sz:=m+1) S ry FF hl hf
    rcases h2 with h2|⟨b,oo,news,rfl,q1,q2,q3,q4⟩
    ·cases h2
    have gj:=run_append_nil (P:=P) w t o.type e i zv ht hi qR ⟨b,oo,none⟩ (y0::yr).length c news (by rw[jI];exact q1) (fun j v hj=>by rw[km];exact q2 j v hj) (by simp) (e63 _ hc.1) (by have:=fits _ hc.1;omega)
    obtain⟨g1,g2⟩:=BQ w (y0::yr).length 0 e hc.1
    have dt:(news.toArray++Builtin.zeroCells zv.cells (grownCap w (y0::yr).length 0 e-(y0::yr).length)).size=grownCap w (y0::yr).length 0 e*(m+1):=by
     rw[Array.size_append,size_zeroCells,QA,jI]
     simp only[List.size_toArray,q1]
     rw[<-Nat.add_mul];congr 1;omega
    have S1:=S.alloc (w':=w.drew.alloc (.cells (news.toArray++Builtin.zeroCells zv.cells (grownCap w (y0::yr).length 0 e-(y0::yr).length)) e)) (r:=⟨true,m+1,y0::yr⟩) rfl hn rfl (by rw[dt];exact Nat.mul_le_mul_right _ g1) hl hf
     (fun k j cs b2 hk hj=>by
      obtain⟨u,hu,x9⟩:=q3.2 _ _ (flat_get hl hk hj)
      refine⟨u,?_,x9⟩
      have dU:=(Array.getElem?_eq_some_iff.1 hu).1
      dsimp only
      rw[Array.getElem?_append_left dU];exact hu)
    have dH:=CN (T:=e) S (news.toArray++Builtin.zeroCells zv.cells (grownCap w (y0::yr).length 0 e-(y0::yr).length)) hn ⟨w.heap.size,m+1,(news.toArray++Builtin.zeroCells zv.cells (grownCap w (y0::yr).length 0 e-(y0::yr).length)).size,none⟩
    refine⟨_,_,_,.inl (ga ho (by rw[ex,ey];exact gj)),dH,S1,?_,fun _ h=>gq h⟩
    refine .own _ _ _ _ _ _ (dY _ _ _) rfl g1 (.inr (by simp)) ?_ g2
    dsimp only;rw[dt];simp
   ·simp at hv
 ·rename_i i0 len hb
  rw[hb]at rx
  simp only[Option.bind_eq_some_iff]at hv
  obtain⟨r,hg,hv⟩:=hv
  split at hv
  ·rename_i hc
   obtain⟨c1,c2,c3,c4,c5⟩:=hc
   simp only[Option.some.injEq,Prod.mk.injEq]at hv
   obtain⟨rfl,rfl⟩:=hv
   obtain⟨hl,hf⟩:=QN _ c5
   obtain⟨A,c,ey,h2⟩:=si (sz:=m+1) S ry FF hl hf
   obtain⟨oo,cap,B,ex,hB,h1,C3,h3,h4,hk⟩:=iS rx
   obtain⟨B',dz,R,kq,mz⟩:=S.row _ _ hg
   rw[hB]at dz;injection dz with dz;subst dz
   replace R:=R.row hk
   have IQ:B.sz=m+1:=R.sz.trans c2
   have An:∀cs∈r.rows++ys,cs.length=m+1:=fun cs dt=>by
    rcases List.mem_append.1 dt with h|h
    ·rw[<-c2];exact R.len cs h
    ·exact hl cs h
   have M5:∀cs∈r.rows++ys,∀b∈cs,b.cell=true:=fun cs dt=>by
    rcases List.mem_append.1 dt with h|h
    ·exact R.flat cs h
    ·exact hf cs h
   rcases h2 with rfl|⟨yb,yo,news,rfl,q1,q2,q3,q4⟩
   ·have GJ:=S.rename hg c1 hB hn
    refine⟨_,w,kM ι id B,.inl (ga ho (by rw[ex,ey];exact ph ht hi _ _ _ h1 A c)),⟨Below.refl _ _,fun _ _=>rfl,fun _ h=>h,fb hn,fun _ h=>.inl h⟩,?_,?_,fun _ h=>gq h⟩
    ·have:(⟨true,m+1,r.rows++[]⟩:Row)=r:=by cases r;simp_all
     rw[this];exact GJ
    ·simp only[List.length_nil,Nat.add_zero]
     exact .own _ _ _ _ _ B (dY _ _ _) hk h1 C3 h3 h4
   ·obtain⟨cur,T,hblk,hC,wE⟩:=R.cur
    by_cases fV:len+ys.length<=cap
    ·have To:ys≠[]->oo=0:=fun h=>by
      rcases C3 with C3|C3
      ·have:=List.length_pos_iff.2 h;omega
      ·simpa using C3
     by_cases hy0:ys=[]
     ·subst hy0
      have GJ:=S.rename hg c1 hB hn
      refine⟨_,w,kM ι id B,.inl (ga ho (by rw[ex,ey];exact ph ht hi _ _ _ h1 _ c)),⟨Below.refl _ _,fun _ _=>rfl,fun _ h=>h,fb hn,fun _ h=>.inl h⟩,?_,?_,fun _ h=>gq h⟩
      ·have:(⟨true,m+1,r.rows++[]⟩:Row)=r:=by cases r;simp_all
       rw[this];exact GJ
      ·simp only[List.length_nil,Nat.add_zero]
       exact .own _ _ _ _ _ B (dY _ _ _) hk h1 C3 h3 h4
     have ho0:=To hy0
     subst ho0
     have td:len*i.size+news.length<=cur.size:=by
      rw[jI,q1,hC,<-Nat.add_mul]
      refine Nat.le_trans ?_ h3
      rw[IQ,Nat.zero_add]
      exact Nat.mul_le_mul_right _ fV
     have gj:=yg (ty:=o.type) ht hi B.b len cap cur hblk ⟨yb,yo,none⟩ ys.length c news (by rw[jI];exact q1) (fun j v hj=>by rw[km];exact q2 j v hj) q4 fV td
     have nq:cur.toList.length=cur.size:=Array.length_toList
     simp only[jI]at gj td
     obtain⟨P1,P2⟩:=S.put (r':=⟨true,m+1,r.rows++ys⟩) hg c1 hB hblk (cur':=(cur.toList.take (len*(m+1))++news++cur.toList.drop (len*(m+1)+news.length)).toArray) (by simp only[List.size_toArray,List.length_append,List.length_take,List.length_drop,nq];omega) rfl c2.symm
      (by dsimp only;rw[List.length_append,<-c3,<-IQ];refine Nat.le_trans (Nat.mul_le_mul_right _ fV) (Nat.le_trans (by simp) h3)) An M5 (fun k j cs b2 hk hj=>by
       simp only[List.getElem?_toArray]
       have ig:j<m+1:=by rw[<-An cs (List.mem_of_getElem? hk)];exact(List.getElem?_eq_some_iff.1 hj).1
       rw[c2]
       by_cases mh:k<r.rows.length
       ·rw[List.getElem?_append_left mh]at hk
        have h2:k*(m+1)+j<len*(m+1):=jY (by omega) ig
        rw[List.append_assoc,List.getElem?_append_left (by simp only[List.length_take,nq];omega),List.getElem?_take,if_pos h2]
        have:=wE k j cs b2 hk hj
        rw[c2]at this;simpa using this
       ·rw[List.getElem?_append_right (by omega)]at hk
        have wI:=(List.getElem?_eq_some_iff.1 hk).1
        have qN:len*(m+1)<=k*(m+1):=Nat.mul_le_mul_right _ (by omega)
        have qP:k*(m+1)+j-len*(m+1)=(k-r.rows.length)*(m+1)+j:=by
         rw[<-c3,Nat.sub_mul];omega
        obtain⟨u,hu,x9⟩:=q3.2 _ _ (flat_get hl hk hj)
        refine⟨u,?_,x9⟩
        have FD:news[(k-r.rows.length)*(m+1)+j]? =some u:=by simpa using hu
        have dU:=(List.getElem?_eq_some_iff.1 FD).1
        rw[List.append_assoc,List.getElem?_append_right (by simp only[List.length_take,nq];omega),List.getElem?_append_left (by simp only[List.length_take,nq];omega)]
        rw[<-FD]
        congr 1
        simp only[List.length_take,nq]
        omega)
     have eE:bt (cu (bt g i0 ⟨true,m+1,r.rows++ys⟩) i0) id ⟨true,m+1,r.rows++ys⟩=bt (cu g i0) id ⟨true,m+1,r.rows++ys⟩:=by
      funext q;simp only[bt,cu]
      by_cases h:q=id<;>by_cases h':q=i0<;>simp[h,h']
     have GJ:=P1.rename (i:=i0) (id:=id) (r:=⟨true,m+1,r.rows++ys⟩) (by simp[bt]) rfl hB hn
     rw[eE]at GJ
     refine⟨_,_,_,.inl (ga ho (by rw[ex,ey];exact gj)),P2.trans ⟨Below.refl _ _,fun _ _=>rfl,fun _ h=>h,fb hn,fun _ h=>.inl h⟩,GJ,?_,fun _ h=>gq h⟩
     exact .own _ _ _ _ _ B (dY _ _ _) hk fV (.inr (by simp)) h3 h4
    ·
     have holds:∃uL:List Value,uL.length=len*(m+1)/\(∀j v,uL[j]? =some v->w.cell? ⟨B.b,oo+j,none⟩=some v)/\fm P w D ι r.rows.flatten uL.toArray:=by
      obtain⟨A2,c2',e2,h2⟩:=si (sz:=m+1) (u:=.slice (some ⟨B.b,oo,none⟩) len cap) S (.own i0 0 len oo cap B hB hk h1 C3 h3 h4) (ys:=r.rows) (by simp[bw,hg,c3]) (fun cs h=>by rw[<-c2];exact R.len cs h) R.flat
      rcases h2 with h2|⟨b2,o2,uL,rfl,p1,p2,p3,_⟩
      ·refine⟨[],by simp[c3,h2],fun j v h=>by simp at h,by rw[h2];exact⟨rfl,fun j a h=>by simp at h⟩⟩
      ·injection e2 with e2 _ _
       injection e2 with e2
       injection e2 with e21 e22 _
       subst e21;subst e22
       exact⟨uL,by rw[p1,c3],p2,p3⟩
     obtain⟨uL,p1,p2,p3⟩:=holds
     have gj:=run_append_grow (P:=P) w t o.type e i zv ht hi qR ⟨B.b,oo,none⟩ len cap uL (by rw[jI];exact p1) (fun j v hj=>by rw[km];exact p2 j v hj) ⟨yb,yo,none⟩ ys.length c news (by rw[jI];exact q1) (fun j v hj=>by rw[km];exact q2 j v hj) (by omega) (e63 _ c4) (growslice_fits (by omega) (fits _ c4))
     obtain⟨g1,g2⟩:=BQ w (len+ys.length) cap e c4
     have dt:(uL.toArray++news.toArray++Builtin.zeroCells zv.cells (grownCap w (len+ys.length) cap e-(len+ys.length))).size=grownCap w (len+ys.length) cap e*(m+1):=by
      rw[Array.size_append,Array.size_append,size_zeroCells,QA,jI]
      simp only[List.size_toArray,q1,p1]
      rw[<-Nat.add_mul,<-Nat.add_mul];congr 1;omega
     have S1:=(S.kill i0).alloc (id:=id) (w':=w.drew.alloc (.cells (uL.toArray++news.toArray++Builtin.zeroCells zv.cells (grownCap w (len+ys.length) cap e-(len+ys.length))) e)) (r:=⟨true,m+1,r.rows++ys⟩) rfl hn rfl (by dsimp only;rw[dt,List.length_append,<-c3];exact Nat.mul_le_mul_right _ g1) An M5
      (fun k j cs b2 hk hj=>by
       have LJ:=flat_get An hk hj
       rw[List.flatten_append]at LJ
       have LR:uL.length=r.rows.flatten.length:=by have:=p3.1;simpa using this
       dsimp only
       by_cases dU:k*(m+1)+j<r.rows.flatten.length
       ·rw[List.getElem?_append_left dU]at LJ
        obtain⟨u,hu,x9⟩:=p3.2 _ _ LJ
        refine⟨u,?_,x9⟩
        rw[Array.getElem?_append_left (by simp;omega),Array.getElem?_append_left (by simp;omega)];exact hu
       ·rw[List.getElem?_append_right (by omega)]at LJ
        obtain⟨u,hu,x9⟩:=q3.2 _ _ LJ
        refine⟨u,?_,x9⟩
        have BW:=(Array.getElem?_eq_some_iff.1 hu).1
        simp only[List.size_toArray]at BW
        rw[Array.getElem?_append_left (by simp;omega),Array.getElem?_append_right (by simp;omega)]
        simp only[List.size_toArray,LR];exact hu)
     have dH:=CN (T:=e) S (uL.toArray++news.toArray++Builtin.zeroCells zv.cells (grownCap w (len+ys.length) cap e-(len+ys.length))) hn ⟨w.heap.size,m+1,(uL.toArray++news.toArray++Builtin.zeroCells zv.cells (grownCap w (len+ys.length) cap e-(len+ys.length))).size,none⟩
     refine⟨_,_,_,.inl (ga ho (by rw[ex,ey];exact gj)),dH,S1,?_,fun _ h=>gq h⟩
     refine .own _ _ _ _ _ _ (dY _ _ _) rfl g1 (.inr (by simp)) ?_ g2
     dsimp only;rw[dt];simp
  ·simp at hv
 ·simp at hv
theorem lh {x:Operand} {t:TypeId} {u:Value} (ho:o.op=.call {callee:=.builtin .clear,args:= #[x],argTypes:= #[t]}) (h:(Builtin.clear_ #[t] o.type #[a.eval x]).run P w=.ok u w'):(execOp a.eval o).run P w=.ok (.value u) w':=by
 simp only[execOp,ho,resolve,Sem.run_bind,Sem.run_pure,Result.andThen_ok,invoke,builtin]
 simp only[List.map_toArray,List.map_cons,List.map_nil]
 rw[h];rfl
theorem Lu {x:Operand} {x':O} {t e:TypeId} {m:Nat} {z:List K} {g':Rows} (S:gz P hs D ι g w) (E:cr P w D ι env a) (ho:o.op=.call {callee:=.builtin .clear,args:= #[x],argTypes:= #[t]})
  (ht:P.underlying t=some (.slice e)) (fo:dZ P e=some (m+1)) (hz:jP P e=some z) (hx:cO P x=some x') (hv:bJ g z (cQ env x')=some g'):Dd P hs a o w D ι id .undef g':=by
 have rx:=dj E hx
 obtain⟨it,zv,hi,qR,QA,hm,FG⟩:=j5 hz
 have jI:it.size=m+1:=by simpa[dZ,hi]using fo
 unfold bJ at hv
 split at hv
 ·rename_i hb
  rw[hb]at rx
  simp at hv;subst hv
  refine⟨undef,w,ι,.inl (lh ho (by rw[ki rx];simp only[Builtin.clear_,Sem.run_bind];simp[run_underlying ht,undef])),Step.refl _ _ _ _,S,cI.undef,fun _ _=>rfl⟩
 ·rename_i i off len hb
  rw[hb]at rx
  simp only[Option.bind_eq_some_iff]at hv
  obtain⟨r,hg,hv⟩:=hv
  split at hv
  ·rename_i hc
   obtain⟨c1,c2,c3⟩:=hc
   simp only[Option.some.injEq]at hv;subst hv
   obtain⟨oo,cap,B,ex,hB,h1,h2,h3,h4,hk⟩:=iS rx
   obtain⟨B',dz,R,kq,mz⟩:=S.row _ _ hg
   rw[hB]at dz;injection dz with dz;subst dz
   replace R:=R.row hk
   obtain⟨cur,T,hblk,hC,wE⟩:=R.cur
   by_cases h0:len=0
   ·subst h0
    have e1:({r with rows:=r.rows.take off++List.replicate 0 (z.map K.av)++r.rows.drop (off+0)}:Row)=r:=by cases r;simp
    rw[e1]
    have e2:bt g i r=g:=by
     funext q;unfold bt;split
     ·rename_i h;rw[h,hg]
     ·rfl
    rw[e2]
    refine⟨undef,w,ι,.inl (lh ho (by rw[ex];simp only[Builtin.clear_,Sem.run_bind];simp[run_underlying ht,undef])),Step.refl _ _ _ _,S,cI.undef,fun _ _=>rfl⟩
   ·have C8:oo=off*B.sz:=by rcases h2 with h2|h2<;>omega
    have IQ:B.sz=m+1:=by rw[R.sz,c2,FG,jI]
    have yR:r.sz=m+1:=by rw[<-R.sz,IQ]
    have RY:zv.cells.size=m+1:=by rw[QA,jI]
    have yU:(Builtin.zeroCells zv.cells len).toList.length=len*(m+1):=by rw[Array.length_toList,size_zeroCells,RY]
    have RX:∀k,k<len*(m+1)->∃c,z[k % z.length]? =some c/\(Builtin.zeroCells zv.cells len).toList[k]? =some c.val:=fun k hk=>by
     obtain⟨c,qm,GA⟩:=pC (n:=len*zv.cells.size) hm (by rw[FG,jI];omega) k (by rw[RY];exact hk)
     exact⟨c,qm,by rw[Array.getElem?_toList];exact GA⟩
    have hbound:(off+len)*(m+1)<=r.rows.length*(m+1):=Nat.mul_le_mul_right _ c3
    have BU:=R.fits
    rw[yR]at BU
    have UK:(off+len)*(m+1)=off*(m+1)+len*(m+1):=Nat.add_mul _ _ _
    have dH:=run_storeCells_at P B.b oo T (Builtin.zeroCells zv.cells len).toList 0 cur w hblk (by rw[yU,hC,C8,IQ];omega) (by
     intro v hv
     obtain⟨k,hk,rfl⟩:=List.getElem_of_mem hv
     obtain⟨c,_,GA⟩:=RX k (by rw[<-yU];exact hk)
     rw[List.getElem?_eq_getElem hk]at GA
     injection GA with GA
     rw[GA];cases c<;>rfl)
    simp only[Nat.add_zero]at dH
    have nq:cur.toList.length=cur.size:=Array.length_toList
    obtain⟨P1,P2⟩:=S.put (r':={r with rows:=r.rows.take off++List.replicate len (z.map K.av)++r.rows.drop (off+len)}) hg c1 hB hblk (cur':=(cur.toList.take oo++(Builtin.zeroCells zv.cells len).toList++cur.toList.drop (oo+(Builtin.zeroCells zv.cells len).toList.length)).toArray)
     (by simp only[List.size_toArray,List.length_append,List.length_take,List.length_drop,nq,yU];rw[C8,IQ];omega) c1 rfl (by
      have:(r.rows.take off++List.replicate len (z.map K.av)++r.rows.drop (off+len)).length=r.rows.length:=by simp;omega
      dsimp only;rw[this];exact R.fits) (fun cs dt=>by
      rcases List.mem_append.1 dt with h|h
      ·rcases List.mem_append.1 h with h|h
       ·exact R.len cs (List.mem_of_mem_take h)
       ·rw[List.eq_of_mem_replicate h];simp[c2]
      ·exact R.len cs (List.mem_of_mem_drop h)) (fun cs dt b hb=>by
      rcases List.mem_append.1 dt with h|h
      ·rcases List.mem_append.1 h with h|h
       ·exact R.flat cs (List.mem_of_mem_take h) b hb
       ·rw[List.eq_of_mem_replicate h]at hb
        obtain⟨c,_,rfl⟩:=List.mem_map.1 hb;exact c.nj
      ·exact R.flat cs (List.mem_of_mem_drop h) b hb) (fun k j cs b hk hj=>by
      simp only[List.getElem?_toArray]
      rw[yR]
      rw[C8,IQ,yU]
      by_cases xM:k<off
      ·rw[List.append_assoc,List.getElem?_append_left (by simp;omega),List.getElem?_take,if_pos xM]at hk
       have ig:j<m+1:=by rw[<-yR,<-R.len cs (List.mem_of_getElem? hk)];exact(List.getElem?_eq_some_iff.1 hj).1
       have h2:=jY xM ig
       rw[List.append_assoc,List.getElem?_append_left (by simp only[List.length_take,nq];omega),List.getElem?_take,if_pos h2]
       have:=wE k j cs b hk hj
       rw[yR]at this;simpa using this
      ·by_cases wI:k<off+len
       ·rw[List.append_assoc,List.getElem?_append_right (by simp;omega),List.getElem?_append_left (by simp;omega)]at hk
        have gN:=List.eq_of_mem_replicate (List.mem_of_getElem? hk)
        subst gN
        simp only[List.getElem?_map,Option.map_eq_some_iff]at hj
        obtain⟨q,hq,rfl⟩:=hj
        have ig:=(List.getElem?_eq_some_iff.1 hq).1
        rw[FG,jI]at ig
        have qN:off*(m+1)<=k*(m+1):=Nat.mul_le_mul_right _ (by omega)
        have qP:k*(m+1)+j-off*(m+1)=(k-off)*(m+1)+j:=by rw[Nat.sub_mul];omega
        have BW:(k-off)*(m+1)+j<len*(m+1):=jY (by omega) ig
        rw[List.append_assoc,List.getElem?_append_right (by simp only[List.length_take,nq];omega),List.getElem?_append_left (by simp only[List.length_take,nq,yU];omega)]
        obtain⟨c,qm,GA⟩:=RX _ BW
        rw[FG,jI,Nat.mul_comm (k-off),Nat.mul_add_mod,Nat.mod_eq_of_lt ig,hq]at qm
        injection qm with qm;subst qm
        refine⟨q.val,?_,xg q⟩
        rw[<-GA]
        congr 1
        simp only[List.length_take,nq];omega
       ·rw[List.getElem?_append_right (by simp;omega)]at hk
        simp only[List.length_append,List.length_take,List.length_replicate,List.getElem?_drop]at hk
        rw[show off+len+(k-(min off r.rows.length+len))=k by omega]at hk
        have mh:=(List.getElem?_eq_some_iff.1 hk).1
        have qN:(off+len)*(m+1)<=k*(m+1):=Nat.mul_le_mul_right _ (by omega)
        rw[List.getElem?_append_right (by simp only[List.length_append,List.length_take,nq,yU];omega)]
        simp only[List.length_append,List.length_take,nq,yU,List.getElem?_drop]
        rw[show off*(m+1)+len*(m+1)+(k*(m+1)+j-(min (off*(m+1)) cur.size+len*(m+1)))=k*(m+1)+j by omega]
        have:=wE k j cs b hk hj
        rw[yR]at this;simpa using this)
    refine⟨undef,_,ι,.inl (lh ho ?_),P2,P1,cI.undef,fun _ _=>rfl⟩
    rw[ex]
    cases len with
    |zero=>exact(h0 rfl).elim
    |succ len=>
     simp only[Builtin.clear_,Sem.run_bind]
     simp[run_underlying ht,zeroValue,typeInfo,hi,qR,dH,undef]
  ·simp at hv
 ·simp at hv
theorem Hp {dT sT ty e:TypeId} {it:TypeInfo} (hu:P.underlying dT=some (.slice e)) (hi:P.info? e=some it) (A B:Option Addr) (sn EA Gl N2:Nat) (h0:Nat.min sn Gl=0):
  (Builtin.copy_ #[dT,sT] ty #[.slice A Gl N2,.slice B sn EA]).run P w=.ok (goInt 0) w:=by
 cases A<;>cases B<;>simp[Builtin.copy_,run_underlying hu,Builtin.lenOf,Builtin.firstCells,sizeOf,typeInfo,hi,h0,storeCells,loadCells,loadCellsFrom]
theorem Hq {dT sT ty e:TypeId} {it:TypeInfo} (hu:P.underlying dT=some (.slice e)) (hi:P.info? e=some it) (A B:Addr) (sn EA Gl N2:Nat) (cs:List Value) (hn:cs.length=Nat.min sn Gl*it.size) (hl:(loadCells B cs.length).run P w=.ok cs.toArray w) (hs:(storeCells A cs).run P w=.ok () w'):
  (Builtin.copy_ #[dT,sT] ty #[.slice (some A) Gl N2,.slice (some B) sn EA]).run P w=.ok (goInt (Nat.min sn Gl)) w':=by
 simp[Builtin.copy_,run_underlying hu,Builtin.lenOf,Builtin.firstCells,sizeOf,typeInfo,hi,<-hn,hl,hs]
theorem qp {x y:Operand} {t t2:TypeId} {u:Value} (ho:o.op=.call {callee:=.builtin .copy,args:= #[x,y],argTypes:= #[t,t2]}) (h:(Builtin.copy_ #[t,t2] o.type #[a.eval x,a.eval y]).run P w=.ok u w'):(execOp a.eval o).run P w=.ok (.value u) w':=by
 simp only[execOp,ho,resolve,Sem.run_bind,Sem.run_pure,Result.andThen_ok,invoke,builtin]
 simp only[List.map_toArray,List.map_cons,List.map_nil]
 rw[h];rfl
theorem N3 {x y:Operand} {x' y':O} {t t2 e:TypeId} {m:Nat} {ys:List (List AV)} {v:AV} {g':Rows} (S:gz P hs D ι g w) (E:cr P w D ι env a) (ho:o.op=.call {callee:=.builtin .copy,args:= #[x,y],argTypes:= #[t,t2]})
  (ht:P.underlying t=some (.slice e)) (fo:dZ P e=some (m+1)) (hx:cO P x=some x') (hy:cO P y=some y') (FF:bw g (cQ env y')=some ys) (hv:FZ g (m+1) (cQ env x') ys=some (v,g')):Dd P hs a o w D ι id v g':=by
 have rx:=dj E hx
 have ry:=dj E hy
 obtain⟨it,hi,jI⟩:∃it,P.info? e=some it/\it.size=m+1:=by
  cases hq:P.info? e with
  |none=>simp[dZ,hq]at fo
  |some it=>exact⟨it,rfl,by simpa[dZ,hq]using fo⟩
 unfold FZ at hv
 split at hv
 ·rename_i i off len hb
  rw[hb]at rx
  simp only[Option.bind_eq_some_iff]at hv
  obtain⟨r,hg,hv⟩:=hv
  split at hv
  ·rename_i hc
   obtain⟨c1,c2,c3,c4⟩:=hc
   simp only[Option.some.injEq,Prod.mk.injEq]at hv
   obtain⟨rfl,rfl⟩:=hv
   rw[List.all_eq_true]at c4
   have hl:∀c∈ys,c.length=m+1:=fun c hc=>by have:=c4 c hc;simp at this;exact this.1
   have hf:∀c∈ys,∀b∈c,b.cell=true:=fun c hc b hb=>by have:=c4 c hc;simp at this;exact this.2 b hb
   obtain⟨oo,cap,B,ex,hB,h1,h2,h3,h4,hk⟩:=iS rx
   obtain⟨B',dz,R,kq,mz⟩:=S.row _ _ hg
   rw[hB]at dz;injection dz with dz;subst dz
   replace R:=R.row hk
   obtain⟨cur,T,hblk,hC,wE⟩:=R.cur
   obtain⟨A,sc,hu,hA⟩:=si S ry FF hl hf
   by_cases h0:min ys.length len=0
   ·rw[h0]
    have e1:({r with rows:=r.rows.take off++ys.take 0++r.rows.drop (off+0)}:Row)=r:=by cases r;simp
    rw[e1]
    have e2:bt g i r=g:=by
     funext q;unfold bt;split
     ·rename_i h;rw[h,hg]
     ·rfl
    rw[e2]
    refine⟨goInt 0,w,ι,.inl (qp ho (by rw[ex,hu];exact Hp ht hi _ _ _ _ _ _ h0)),Step.refl _ _ _ _,S,.eO _ _ (.int _ _),fun _ _=>rfl⟩
   ·rcases hA with rfl|⟨b,o2,news,rfl,x7,hsrc,hR,h1c⟩
    ·simp at h0
    have Rv:Nat.min ys.length len=min ys.length len:=rfl
    have hky:min ys.length len<=ys.length:=Nat.min_le_left _ _
    have mh:min ys.length len<=len:=Nat.min_le_right _ _
    generalize UT:min ys.length len=kk at *
    have hlen0:len≠0:=by omega
    have C8:oo=off*B.sz:=by rcases h2 with h2|h2<;>omega
    have IQ:B.sz=m+1:=by rw[R.sz,c2]
    have yR:r.sz=m+1:=c2
    have Ti:kk*(m+1)<=ys.length*(m+1):=Nat.mul_le_mul_right _ hky
    have yU:(news.take (kk*(m+1))).length=kk*(m+1):=by rw[List.length_take,x7];omega
    have hbound:(off+kk)*(m+1)<=r.rows.length*(m+1):=Nat.mul_le_mul_right _ (by omega)
    have BU:=R.fits
    rw[yR]at BU
    have UK:(off+kk)*(m+1)=off*(m+1)+kk*(m+1):=Nat.add_mul _ _ _
    have dH:=run_storeCells_at P B.b oo T (news.take (kk*(m+1))) 0 cur w hblk (by rw[yU,hC,C8,IQ];omega) (fun v hv=>h1c v (List.mem_of_mem_take hv))
    have Tl:=run_loadCells_list (P:=P) w ⟨b,o2,none⟩ (news.take (kk*(m+1))) (fun j v hj=>by
     rw[List.getElem?_take]at hj
     split at hj
     ·have:=hsrc j v hj
      cases j with
      |zero=>simpa[Addr.add]using this
      |succ j=>simpa[Addr.add]using this
     ·cases hj)
    simp only[Nat.add_zero]at dH
    have nq:cur.toList.length=cur.size:=Array.length_toList
    have O8:(ys.take kk).length=kk:=by rw[List.length_take];omega
    obtain⟨P1,P2⟩:=S.put (r':={r with rows:=r.rows.take off++ys.take kk++r.rows.drop (off+kk)}) hg c1 hB hblk (cur':=(cur.toList.take oo++news.take (kk*(m+1))++cur.toList.drop (oo+(news.take (kk*(m+1))).length)).toArray)
     (by simp only[List.size_toArray,List.length_append,List.length_drop,nq,yU];rw[List.length_take,nq,C8,IQ];omega) c1 rfl (by
      have:(r.rows.take off++ys.take kk++r.rows.drop (off+kk)).length=r.rows.length:=by simp;omega
      dsimp only;rw[this];exact R.fits) (fun cs dt=>by
      rcases List.mem_append.1 dt with h|h
      ·rcases List.mem_append.1 h with h|h
       ·exact R.len cs (List.mem_of_mem_take h)
       ·rw[hl cs (List.mem_of_mem_take h)];exact c2.symm
      ·exact R.len cs (List.mem_of_mem_drop h)) (fun cs dt b hb=>by
      rcases List.mem_append.1 dt with h|h
      ·rcases List.mem_append.1 h with h|h
       ·exact R.flat cs (List.mem_of_mem_take h) b hb
       ·exact hf cs (List.mem_of_mem_take h) b hb
      ·exact R.flat cs (List.mem_of_mem_drop h) b hb) (fun k j cs b hk hj=>by
      simp only[List.getElem?_toArray]
      rw[yR]
      rw[C8,IQ,yU]
      by_cases xM:k<off
      ·rw[List.append_assoc,List.getElem?_append_left (by simp;omega),List.getElem?_take,if_pos xM]at hk
       have ig:j<m+1:=by rw[<-yR,<-R.len cs (List.mem_of_getElem? hk)];exact(List.getElem?_eq_some_iff.1 hj).1
       have h2:=jY xM ig
       rw[List.append_assoc,List.getElem?_append_left (by simp only[List.length_take,nq];omega),List.getElem?_take,if_pos h2]
       have:=wE k j cs b hk hj
       rw[yR]at this;simpa using this
      ·by_cases wI:k<off+kk
       ·rw[List.append_assoc,List.getElem?_append_right (by simp;omega),List.getElem?_append_left (by simp;omega)]at hk
        simp only[List.length_take]at hk
        rw[show k-min off r.rows.length=k-off by omega,List.getElem?_take,if_pos (by omega)]at hk
        have ig:j<m+1:=by rw[<-hl cs (List.mem_of_getElem? hk)];exact(List.getElem?_eq_some_iff.1 hj).1
        have qN:off*(m+1)<=k*(m+1):=Nat.mul_le_mul_right _ (by omega)
        have qP:k*(m+1)+j-off*(m+1)=(k-off)*(m+1)+j:=by rw[Nat.sub_mul];omega
        have BW:(k-off)*(m+1)+j<kk*(m+1):=jY (by omega) ig
        rw[List.append_assoc,List.getElem?_append_right (by simp only[List.length_take,nq];omega),List.getElem?_append_left (by rw[yU];simp only[List.length_take,nq];omega)]
        obtain⟨u,RM,hu2⟩:=hR.2 ((k-off)*(m+1)+j) b (flat_get hl hk hj)
        refine⟨u,?_,hu2⟩
        rw[List.getElem?_take]
        simp only[List.length_take,nq]
        rw[show k*(m+1)+j-min (off*(m+1)) cur.size=(k-off)*(m+1)+j by omega,if_pos BW]
        simpa using RM
       ·rw[List.getElem?_append_right (by simp;omega)]at hk
        simp only[List.length_append,List.length_take,List.getElem?_drop]at hk
        rw[show off+kk+(k-(min off r.rows.length+min kk ys.length))=k by omega]at hk
        have mh:=(List.getElem?_eq_some_iff.1 hk).1
        have qN:(off+kk)*(m+1)<=k*(m+1):=Nat.mul_le_mul_right _ (by omega)
        rw[List.getElem?_append_right (by rw[List.length_append,yU];simp only[List.length_take,nq];omega)]
        rw[List.getElem?_drop,List.length_append,yU]
        simp only[List.length_take,nq]
        rw[show off*(m+1)+kk*(m+1)+(k*(m+1)+j-(min (off*(m+1)) cur.size+kk*(m+1)))=k*(m+1)+j by omega]
        have:=wE k j cs b hk hj
        rw[yR]at this;simpa using this)
    refine⟨goInt kk,_,ι,.inl (qp ho ?_),P2,P1,.eO _ _ (.int _ _),fun _ _=>rfl⟩
    rw[ex,hu]
    have:=Hq (w:=w) (sT:=t2) (ty:=o.type) ht hi ⟨B.b,oo,none⟩ ⟨b,o2,none⟩ ys.length sc len cap _ (by rw[yU,Rv,jI]) Tl dH
    rw[Rv]at this
    exact this
  ·simp at hv
 ·simp at hv
end
end Go.Proofs.YtgoljkjaameagaaGreat.V

namespace Go.Proofs.YtgoljkjaameagaaGreat.V
open Go.RowKit
variable {P:Program} {w w':World} {D D' D2:Nat->Prop} {ι ι' ι2:Names}
section
variable {g:Rows} {hs:Nat}
theorem gI:∀{n:Nat} {l r:List AV},cJ g n l=some r->r.length=l.length/\∀(j:Nat) (b:AV),r[j]? =some b->∃a,l[j]? =some a/\fz g n a=some b
 |n,[],r,h=>by
  rw[cJ]at h;simp at h;subst h;simp
 |n,a::l,r,h=>by
  rw[cJ]at h
  split at h
  ·rename_i b hb
   simp only[Option.map_eq_some_iff]at h
   obtain⟨r',hr,rfl⟩:=h
   obtain⟨h1,h2⟩:=gI hr
   refine⟨by simp[h1],fun j c hj=>?_⟩
   cases j with
   |zero=>simp at hj;subst hj;exact⟨a,rfl,hb⟩
   |succ j=>simp at hj ⊢;exact h2 j c hj
  ·simp at h
theorem wq:∀{n:Nat} {l r:List (List AV)},eb g n l=some r->r.length=l.length/\∀(j:Nat) (b:List AV),r[j]? =some b->∃a,l[j]? =some a/\cJ g n a=some b
 |n,[],r,h=>by
  rw[eb]at h;simp at h;subst h;simp
 |n,a::l,r,h=>by
  rw[eb]at h
  split at h
  ·rename_i b hb
   simp only[Option.map_eq_some_iff]at h
   obtain⟨r',hr,rfl⟩:=h
   obtain⟨h1,h2⟩:=wq hr
   refine⟨by simp[h1],fun j c hj=>?_⟩
   cases j with
   |zero=>simp at hj;subst hj;exact⟨a,rfl,hb⟩
   |succ j=>simp at hj ⊢;exact h2 j c hj
  ·simp at h
theorem rQ (hD:∀b,D b->D2 b) (xR:∀id row,g id=some row->row.w=true->∃B,ι id=some B/\gO P w D ι B row/\D2 B.b):∀(n:Nat) (a:AV) (u:Value) (r:AV),cI P w D ι a u->fz g n a=some r->cI P w D2 ι2 r u/\(a.cell=true->jM P w D2 r u/\r.cell=true):=by
 intro n
 induction n with
 |zero=>intro a u r _ h;rw[fz]at h;simp at h
 |succ n ih=>
  intro a u r hr h
  have both:∀{r:AV},jM P w D2 r u->r.cell=true->cI P w D2 ι2 r u/\(a.cell=true->jM P w D2 r u/\r.cell=true):=fun h1 h2=>⟨.eO _ _ h1,fun _=>⟨h1,h2⟩⟩
  cases a with
  |map id m=>rw[fz]at h;cases h
  |rL id=>rw[fz]at h;cases h
  |own id off len=>
   rw[fz]at h
   split at h
   ·rename_i row hg
    split at h
    ·rename_i hw
     split at h
     ·rename_i hle
      simp only[Option.map_eq_some_iff]at h
      obtain⟨rows,oW,rfl⟩:=h
      obtain⟨B,hB,R,Oq⟩:=xR id row hg hw
      obtain⟨o,cap,B',rfl,dz,h1,h2,h3,h4,hk⟩:=iS hr
      rw[hB]at dz;injection dz with dz;subst dz
      replace R:=R.row hk
      obtain⟨l1,l2⟩:=wq oW
      have hlen:rows.length=len:=by rw[l1];simp;omega
      by_cases h0:rows=[]
      ·subst h0
       simp at hlen;subst hlen
       exact both (.Bg _ _ h4) rfl
      ·have hlp:0<len:=by rw[<-hlen];exact List.length_pos_iff.2 h0
       have ho:o=off*B.sz:=by rcases h2 with h2|h2<;>omega
       have src:∀i cs,rows[i]? =some cs->∃c0,row.rows[off+i]? =some c0/\cJ g n c0=some cs:=fun i cs hi=>by
        obtain⟨c0,jQ,hf⟩:=l2 i cs hi
        rw[List.getElem?_take]at jQ
        split at jQ
        ·rw[List.getElem?_drop]at jQ;exact⟨c0,jQ,hf⟩
        ·simp at jQ
       have cell:∀i j,i<len->j<row.sz->∃c0 a0 v,row.rows[off+i]? =some c0/\c0[j]? =some a0/\w.cell? ⟨B.b,o+(i*row.sz+j),none⟩=some v/\cI P w D ι a0 v:=fun i j hi hj=>by
        have rl:off+i<row.rows.length:=by omega
        have e1:=List.getElem?_eq_getElem rl
        have K2:j<row.rows[off+i].length:=by rw[R.len _ (List.getElem_mem rl)];exact hj
        obtain⟨v,hv,lN⟩:=R.at_ _ _ _ _ e1 (List.getElem?_eq_getElem K2)
        refine⟨_,_,v,e1,List.getElem?_eq_getElem K2,?_,lN⟩
        rw[ho,R.sz,<-hv]
        congr 2
        rw[Nat.add_mul];omega
       refine both (.sl rows B.b o len cap row.sz (fun i j=>(w.cell? ⟨B.b,o+(i*row.sz+j),none⟩).getD undef) hlen h1 h4 Oq (fun cs dt=>?_) (fun cs dt b hb=>?_) (fun i j hi hj=>?_) (fun i j cs b hi hj=>?_)) rfl
       ·obtain⟨i,hi,rfl⟩:=List.getElem_of_mem dt
        obtain⟨c0,jQ,hf⟩:=src i _ (List.getElem?_eq_getElem hi)
        rw[(gI hf).1];exact R.len c0 (List.mem_of_getElem? jQ)
       ·obtain⟨i,hi,rfl⟩:=List.getElem_of_mem dt
        obtain⟨c0,jQ,hf⟩:=src i _ (List.getElem?_eq_getElem hi)
        obtain⟨j,hj,rfl⟩:=List.getElem_of_mem hb
        obtain⟨a0,lq,I3⟩:=(gI hf).2 j _ (List.getElem?_eq_getElem hj)
        obtain⟨v,_,lN⟩:=R.at_ _ _ _ _ jQ lq
        exact((ih _ _ _ lN I3).2 (R.flat c0 (List.mem_of_getElem? jQ) a0 (List.mem_of_getElem? lq))).2
       ·obtain⟨c0,a0,v,_,_,hv,_⟩:=cell i j hi hj
        simp only[hv,Option.getD_some]
       ·obtain⟨c0,jQ,hf⟩:=src i cs hi
        obtain⟨a0,lq,I3⟩:=(gI hf).2 j b hj
        have lK:i<len:=by rw[<-hlen];exact(List.getElem?_eq_some_iff.1 hi).1
        have ig:j<row.sz:=by rw[<-R.len c0 (List.mem_of_getElem? jQ)];exact(List.getElem?_eq_some_iff.1 lq).1
        obtain⟨c1,a1,v,e1,e2,hv,lN⟩:=cell i j lK ig
        rw[jQ]at e1;injection e1 with e1;subst e1
        rw[lq]at e2;injection e2 with e2;subst e2
        simp only[hv,Option.getD_some]
        exact((ih _ _ _ lN I3).2 (R.flat c0 (List.mem_of_getElem? jQ) a0 (List.mem_of_getElem? lq))).1
     ·simp at h
    ·simp at h
   ·simp at h
  |ptr id i off=>
   rw[fz]at h
   split at h
   ·rename_i row hg
    split at h
    ·rename_i hw
     split at h
     ·rename_i c0 jQ
      simp only[Option.map_eq_some_iff]at h
      obtain⟨cs,dt,rfl⟩:=h
      obtain⟨B,hB,R,Oq⟩:=xR id row hg hw
      obtain⟨B',rfl,dz,hk⟩:=iE hr
      rw[hB]at dz;injection dz with dz;subst dz
      replace R:=R.row hk
      obtain⟨l1,l2⟩:=gI dt
      have at_:∀j b,cs[j]? =some b->∃a0 v,w.cell? ⟨B.b,i*B.sz+off+j,none⟩=some v/\cI P w D ι a0 v/\a0.cell=true/\fz g n a0=some b:=fun j b hj=>by
       obtain⟨a0,lq,hf⟩:=l2 j b hj
       rw[List.getElem?_drop]at lq
       obtain⟨v,hv,lN⟩:=R.at_ _ _ _ _ jQ lq
       refine⟨a0,v,?_,lN,R.flat c0 (List.mem_of_getElem? jQ) a0 (List.mem_of_getElem? lq),hf⟩
       rw[R.sz,Nat.add_assoc];exact hv
      refine both (.di cs B.b _ (fun j=>(w.cell? ⟨B.b,i*B.sz+off+j,none⟩).getD undef) Oq (fun b hb=>?_) (fun j hj=>?_) (fun j b hj=>?_)) rfl
      ·obtain⟨j,hj,rfl⟩:=List.getElem_of_mem hb
       obtain⟨a0,v,_,lN,hc,hf⟩:=at_ j _ (List.getElem?_eq_getElem hj)
       exact((ih _ _ _ lN hf).2 hc).2
      ·obtain⟨a0,v,hv,_⟩:=at_ j _ (List.getElem?_eq_getElem hj)
       simp only[hv,Option.getD_some]
      ·obtain⟨a0,v,hv,lN,hc,hf⟩:=at_ j b hj
       simp only[hv,Option.getD_some]
       exact((ih _ _ _ lN hf).2 hc).1
     ·simp at h
    ·simp at h
   ·simp at h
  |agg cs=>
   rw[fz]at h
   simp only[Option.map_eq_some_iff]at h
   obtain⟨r',om,rfl⟩:=h
   obtain⟨vs,f,rfl,h1,h2,h3,h4⟩:=iR hr
   obtain⟨l1,l2⟩:=gI om
   have hI:jM P w D2 (.agg r') (.agg vs):=.agg r' vs f (by rw[h1,l1]) (fun b hb=>by
    obtain⟨j,hj,rfl⟩:=List.getElem_of_mem hb
    obtain⟨a0,lq,hf⟩:=l2 j _ (List.getElem?_eq_getElem hj)
    exact((ih _ _ _ (h4 j a0 lq) hf).2 (h2 a0 (List.mem_of_getElem? lq))).2) (fun j hj=>h3 j (by rw[<-l1];exact hj)) (fun j b hj=>by
    obtain⟨a0,lq,hf⟩:=l2 j b hj
    exact((ih _ _ _ (h4 j a0 lq) hf).2 (h2 a0 (List.mem_of_getElem? lq))).1)
   exact⟨.eO _ _ hI,fun hc=>by simp[AV.cell]at hc⟩
  |gD cs=>
   rw[fz]at h
   simp only[Option.map_eq_some_iff]at h
   obtain⟨r',om,rfl⟩:=h
   obtain⟨vs,f,rfl,h1,h3,h4⟩:=vz hr
   obtain⟨l1,l2⟩:=gI om
   exact⟨.gD r' vs f (by rw[h1,l1]) (fun j hj=>h3 j (by rw[<-l1];exact hj)) (fun j b hj=>by
    obtain⟨a0,lq,hf⟩:=l2 j b hj
    exact(ih _ _ _ (h4 j a0 lq) hf).1),fun hc=>by simp[AV.cell]at hc⟩
  |fn f cN=>
   rw[fz]at h
   split at h
   ·rename_i dD
    simp only[Option.map_eq_some_iff]at h
    obtain⟨r',om,rfl⟩:=h
    obtain⟨vs,q,rfl,h0,h1,h3,h4⟩:=AD hr
    obtain⟨l1,l2⟩:=gI om
    exact both (.fn f r' vs q h0 (by rw[h1,l1]) (fun j hj=>h3 j (by rw[<-l1];exact hj)) (fun j b hj=>by
     obtain⟨a0,lq,hf⟩:=l2 j b hj
     exact((ih _ _ _ (h4 j a0 lq) hf).2 (List.all_eq_true.1 dD a0 (List.mem_of_getElem? lq))).1)) rfl
   ·simp at h
  |int k m=>rw[fz]at h<;>(try simp at h)<;>(try subst h)<;>(try(rw[dq hr];exact⟨.eO _ _ (.int _ _),fun _=>⟨.int _ _,rfl⟩⟩))<;>(try(intros;simp_all))
  |bool b=>rw[fz]at h<;>(try simp at h)<;>(try subst h)<;>(try(rw[e6 hr];exact⟨.eO _ _ (.bool _),fun _=>⟨.bool _,rfl⟩⟩))<;>(try(intros;simp_all))
  |str b=>rw[fz]at h<;>(try simp at h)<;>(try subst h)<;>(try(rw[fD hr];exact⟨.eO _ _ (.str _),fun _=>⟨.str _,rfl⟩⟩))<;>(try(intros;simp_all))
  |bl=>rw[fz]at h<;>(try simp at h)<;>(try subst h)<;>(try(rw[ki hr];exact⟨.eO _ _ .bl,fun _=>⟨.bl,rfl⟩⟩))<;>(try(intros;simp_all))
  |jd=>rw[fz]at h<;>(try simp at h)<;>(try subst h)<;>(try(rw[xh hr];exact⟨.eO _ _ .jd,fun _=>⟨.jd,rfl⟩⟩))<;>(try(intros;simp_all))
  |jo=>rw[fz]at h<;>(try simp at h)<;>(try subst h)<;>(try(rw[CG hr];exact⟨.eO _ _ .jo,fun _=>⟨.jo,rfl⟩⟩))<;>(try(intros;simp_all))
  |uj f cN=>rw[fz]at h<;>(try simp at h)<;>(try(intros;simp_all))
  |gT=>rw[fz]at h<;>(try simp at h)<;>(try subst h)<;>(try(cases hr with|eO _ _ hr=>exact both (hr.frame (fun _ _=>rfl) hD) rfl))<;>(try(intros;simp_all))
  |sl rows=>rw[fz]at h<;>(try simp at h)<;>(try subst h)<;>(try(cases hr with|eO _ _ hr=>exact both (hr.frame (fun _ _=>rfl) hD) rfl))<;>(try(intros;simp_all))
  |di cs=>rw[fz]at h<;>(try simp at h)<;>(try subst h)<;>(try(cases hr with|eO _ _ hr=>exact both (hr.frame (fun _ _=>rfl) hD) rfl))<;>(try(intros;simp_all))
theorem iW:∀{n:Nat} {l r:List AV},ez g n l=some r->r.length=l.length/\∀(j:Nat) (b:AV),r[j]? =some b->∃a,l[j]? =some a/\gC g n a=some b
 |n,[],r,h=>by
  rw[ez]at h;simp at h;subst h;simp
 |n,a::l,r,h=>by
  rw[ez]at h
  split at h
  ·rename_i b hb
   simp only[Option.map_eq_some_iff]at h
   obtain⟨r',hr,rfl⟩:=h
   obtain⟨h1,h2⟩:=iW hr
   refine⟨by simp[h1],fun j c hj=>?_⟩
   cases j with
   |zero=>simp at hj;subst hj;exact⟨a,rfl,hb⟩
   |succ j=>simp at hj ⊢;exact h2 j c hj
  ·simp at h
theorem tZ:∀{n:Nat} {l r:List (List AV)},il g n l=some r->r.length=l.length/\∀(j:Nat) (b:List AV),r[j]? =some b->∃a,l[j]? =some a/\ez g n a=some b
 |n,[],r,h=>by
  rw[il]at h;simp at h;subst h;simp
 |n,a::l,r,h=>by
  rw[il]at h
  split at h
  ·rename_i b hb
   simp only[Option.map_eq_some_iff]at h
   obtain⟨r',hr,rfl⟩:=h
   obtain⟨h1,h2⟩:=tZ hr
   refine⟨by simp[h1],fun j c hj=>?_⟩
   cases j with
   |zero=>simp at hj;subst hj;exact⟨a,rfl,hb⟩
   |succ j=>simp at hj ⊢;exact h2 j c hj
  ·simp at h
theorem Gv (xR:∀id row,g id=some row->row.w=true->∃B,ι id=some B/\gO P w D ι B row/\D2 B.b):∀(n:Nat) (a:AV) (u:Value) (r:AV),cI P w D ι a u->gC g n a=some r->cI P w D2 ι2 r u/\(a.cell=true->jM P w D2 r u/\r.cell=true):=by
 intro n
 induction n with
 |zero=>intro a u r _ h;rw[gC]at h;simp at h
 |succ n ih=>
  intro a u r hr h
  have both:∀{r:AV},jM P w D2 r u->r.cell=true->cI P w D2 ι2 r u/\(a.cell=true->jM P w D2 r u/\r.cell=true):=fun h1 h2=>⟨.eO _ _ h1,fun _=>⟨h1,h2⟩⟩
  cases a with
  |map id m=>rw[gC]at h<;>simp_all
  |rL id=>rw[gC]at h<;>simp_all
  |own id off len=>
   rw[gC]at h
   split at h
   ·rename_i row hg
    split at h
    ·rename_i hw
     split at h
     ·rename_i hle
      simp only[Option.map_eq_some_iff]at h
      obtain⟨rows,oW,rfl⟩:=h
      obtain⟨B,hB,R,Oq⟩:=xR id row hg hw
      obtain⟨o,cap,B',rfl,dz,h1,h2,h3,h4,hk⟩:=iS hr
      rw[hB]at dz;injection dz with dz;subst dz
      replace R:=R.row hk
      obtain⟨l1,l2⟩:=tZ oW
      have hlen:rows.length=len:=by rw[l1];simp;omega
      by_cases h0:rows=[]
      ·subst h0
       simp at hlen;subst hlen
       exact both (.Bg _ _ h4) rfl
      ·have hlp:0<len:=by rw[<-hlen];exact List.length_pos_iff.2 h0
       have ho:o=off*B.sz:=by rcases h2 with h2|h2<;>omega
       have src:∀i cs,rows[i]? =some cs->∃c0,row.rows[off+i]? =some c0/\ez g n c0=some cs:=fun i cs hi=>by
        obtain⟨c0,jQ,hf⟩:=l2 i cs hi
        rw[List.getElem?_take]at jQ
        split at jQ
        ·rw[List.getElem?_drop]at jQ;exact⟨c0,jQ,hf⟩
        ·simp at jQ
       have cell:∀i j,i<len->j<row.sz->∃c0 a0 v,row.rows[off+i]? =some c0/\c0[j]? =some a0/\w.cell? ⟨B.b,o+(i*row.sz+j),none⟩=some v/\cI P w D ι a0 v:=fun i j hi hj=>by
        have rl:off+i<row.rows.length:=by omega
        have e1:=List.getElem?_eq_getElem rl
        have K2:j<row.rows[off+i].length:=by rw[R.len _ (List.getElem_mem rl)];exact hj
        obtain⟨v,hv,lN⟩:=R.at_ _ _ _ _ e1 (List.getElem?_eq_getElem K2)
        refine⟨_,_,v,e1,List.getElem?_eq_getElem K2,?_,lN⟩
        rw[ho,R.sz,<-hv]
        congr 2
        rw[Nat.add_mul];omega
       refine both (.sl rows B.b o len cap row.sz (fun i j=>(w.cell? ⟨B.b,o+(i*row.sz+j),none⟩).getD undef) hlen h1 h4 Oq (fun cs dt=>?_) (fun cs dt b hb=>?_) (fun i j hi hj=>?_) (fun i j cs b hi hj=>?_)) rfl
       ·obtain⟨i,hi,rfl⟩:=List.getElem_of_mem dt
        obtain⟨c0,jQ,hf⟩:=src i _ (List.getElem?_eq_getElem hi)
        rw[(iW hf).1];exact R.len c0 (List.mem_of_getElem? jQ)
       ·obtain⟨i,hi,rfl⟩:=List.getElem_of_mem dt
        obtain⟨c0,jQ,hf⟩:=src i _ (List.getElem?_eq_getElem hi)
        obtain⟨j,hj,rfl⟩:=List.getElem_of_mem hb
        obtain⟨a0,lq,I3⟩:=(iW hf).2 j _ (List.getElem?_eq_getElem hj)
        obtain⟨v,_,lN⟩:=R.at_ _ _ _ _ jQ lq
        exact((ih _ _ _ lN I3).2 (R.flat c0 (List.mem_of_getElem? jQ) a0 (List.mem_of_getElem? lq))).2
       ·obtain⟨c0,a0,v,_,_,hv,_⟩:=cell i j hi hj
        simp only[hv,Option.getD_some]
       ·obtain⟨c0,jQ,hf⟩:=src i cs hi
        obtain⟨a0,lq,I3⟩:=(iW hf).2 j b hj
        have lK:i<len:=by rw[<-hlen];exact(List.getElem?_eq_some_iff.1 hi).1
        have ig:j<row.sz:=by rw[<-R.len c0 (List.mem_of_getElem? jQ)];exact(List.getElem?_eq_some_iff.1 lq).1
        obtain⟨c1,a1,v,e1,e2,hv,lN⟩:=cell i j lK ig
        rw[jQ]at e1;injection e1 with e1;subst e1
        rw[lq]at e2;injection e2 with e2;subst e2
        simp only[hv,Option.getD_some]
        exact((ih _ _ _ lN I3).2 (R.flat c0 (List.mem_of_getElem? jQ) a0 (List.mem_of_getElem? lq))).1
     ·simp at h
    ·simp at h
   ·simp at h
  |ptr id i off=>
   rw[gC]at h
   split at h
   ·rename_i row hg
    split at h
    ·rename_i hw
     split at h
     ·rename_i c0 jQ
      simp only[Option.map_eq_some_iff]at h
      obtain⟨cs,dt,rfl⟩:=h
      obtain⟨B,hB,R,Oq⟩:=xR id row hg hw
      obtain⟨B',rfl,dz,hk⟩:=iE hr
      rw[hB]at dz;injection dz with dz;subst dz
      replace R:=R.row hk
      obtain⟨l1,l2⟩:=iW dt
      have at_:∀j b,cs[j]? =some b->∃a0 v,w.cell? ⟨B.b,i*B.sz+off+j,none⟩=some v/\cI P w D ι a0 v/\a0.cell=true/\gC g n a0=some b:=fun j b hj=>by
       obtain⟨a0,lq,hf⟩:=l2 j b hj
       rw[List.getElem?_drop]at lq
       obtain⟨v,hv,lN⟩:=R.at_ _ _ _ _ jQ lq
       refine⟨a0,v,?_,lN,R.flat c0 (List.mem_of_getElem? jQ) a0 (List.mem_of_getElem? lq),hf⟩
       rw[R.sz,Nat.add_assoc];exact hv
      refine both (.di cs B.b _ (fun j=>(w.cell? ⟨B.b,i*B.sz+off+j,none⟩).getD undef) Oq (fun b hb=>?_) (fun j hj=>?_) (fun j b hj=>?_)) rfl
      ·obtain⟨j,hj,rfl⟩:=List.getElem_of_mem hb
       obtain⟨a0,v,_,lN,hc,hf⟩:=at_ j _ (List.getElem?_eq_getElem hj)
       exact((ih _ _ _ lN hf).2 hc).2
      ·obtain⟨a0,v,hv,_⟩:=at_ j _ (List.getElem?_eq_getElem hj)
       simp only[hv,Option.getD_some]
      ·obtain⟨a0,v,hv,lN,hc,hf⟩:=at_ j b hj
       simp only[hv,Option.getD_some]
       exact((ih _ _ _ lN hf).2 hc).1
     ·simp at h
    ·simp at h
   ·simp at h
  |agg cs=>
   rw[gC]at h
   simp only[Option.map_eq_some_iff]at h
   obtain⟨r',om,rfl⟩:=h
   obtain⟨vs,f,rfl,h1,h2,h3,h4⟩:=iR hr
   obtain⟨l1,l2⟩:=iW om
   have hI:jM P w D2 (.agg r') (.agg vs):=.agg r' vs f (by rw[h1,l1]) (fun b hb=>by
    obtain⟨j,hj,rfl⟩:=List.getElem_of_mem hb
    obtain⟨a0,lq,hf⟩:=l2 j _ (List.getElem?_eq_getElem hj)
    exact((ih _ _ _ (h4 j a0 lq) hf).2 (h2 a0 (List.mem_of_getElem? lq))).2) (fun j hj=>h3 j (by rw[<-l1];exact hj)) (fun j b hj=>by
    obtain⟨a0,lq,hf⟩:=l2 j b hj
    exact((ih _ _ _ (h4 j a0 lq) hf).2 (h2 a0 (List.mem_of_getElem? lq))).1)
   exact⟨.eO _ _ hI,fun hc=>by simp[AV.cell]at hc⟩
  |gD cs=>
   rw[gC]at h
   simp only[Option.map_eq_some_iff]at h
   obtain⟨r',om,rfl⟩:=h
   obtain⟨vs,f,rfl,h1,h3,h4⟩:=vz hr
   obtain⟨l1,l2⟩:=iW om
   exact⟨.gD r' vs f (by rw[h1,l1]) (fun j hj=>h3 j (by rw[<-l1];exact hj)) (fun j b hj=>by
    obtain⟨a0,lq,hf⟩:=l2 j b hj
    exact(ih _ _ _ (h4 j a0 lq) hf).1),fun hc=>by simp[AV.cell]at hc⟩
  |fn f cN=>rw[gC]at h<;>(try simp at h)<;>(try(intros;simp_all))
  |int k m=>rw[gC]at h<;>(try simp at h)<;>(try subst h)<;>(try(rw[dq hr];exact⟨.eO _ _ (.int _ _),fun _=>⟨.int _ _,rfl⟩⟩))<;>(try(intros;simp_all))
  |bool b=>rw[gC]at h<;>(try simp at h)<;>(try subst h)<;>(try(rw[e6 hr];exact⟨.eO _ _ (.bool _),fun _=>⟨.bool _,rfl⟩⟩))<;>(try(intros;simp_all))
  |str b=>rw[gC]at h<;>(try simp at h)<;>(try subst h)<;>(try(rw[fD hr];exact⟨.eO _ _ (.str _),fun _=>⟨.str _,rfl⟩⟩))<;>(try(intros;simp_all))
  |bl=>rw[gC]at h<;>(try simp at h)<;>(try subst h)<;>(try(rw[ki hr];exact⟨.eO _ _ .bl,fun _=>⟨.bl,rfl⟩⟩))<;>(try(intros;simp_all))
  |jd=>rw[gC]at h<;>(try simp at h)<;>(try subst h)<;>(try(rw[xh hr];exact⟨.eO _ _ .jd,fun _=>⟨.jd,rfl⟩⟩))<;>(try(intros;simp_all))
  |jo=>rw[gC]at h<;>(try simp at h)<;>(try subst h)<;>(try(rw[CG hr];exact⟨.eO _ _ .jo,fun _=>⟨.jo,rfl⟩⟩))<;>(try(intros;simp_all))
  |uj f cN=>rw[gC]at h<;>(try simp at h)<;>(try(intros;simp_all))
  |gT=>rw[gC]at h<;>(try simp at h)<;>(try subst h)<;>(try(cases hr with|eO _ _ hr=>cases hr;exact both .gT rfl))<;>(try(intros;simp_all))
  |sl rows=>rw[gC]at h<;>(try simp at h)<;>(try(intros;simp_all))
  |di cs=>rw[gC]at h<;>(try simp at h)<;>(try(intros;simp_all))
end
end Go.Proofs.YtgoljkjaameagaaGreat.V

namespace Go.Proofs.YtgoljkjaameagaaGreat.V
open Go.RowKit
variable {P:Program} {w w':World} {D D':Nat->Prop} {ι ι':Names}
section
variable {g:Rows} {hs:Nat} {env:Env} {a:Act} {o:Oper} {id:Id} {v:AV}
theorem gz.HG (S:gz P hs D ι g w) {i:Id} {r r':Row} {B:sL} {ob:Obj} (hid:g i=some r) (hw:r.w=true) (hB:ι i=some B)
  (hR:(∀a v,cI P w D ι a v->cI P {w with heap:=w.heap.setIfInBounds B.b ob} D ι a v)->(w.heap.setIfInBounds B.b ob)[B.b]? =some ob->gO P {w with heap:=w.heap.setIfInBounds B.b ob} D ι B r'):
  gz P hs D ι (bt g i r') {w with heap:=w.heap.setIfInBounds B.b ob}/\Step hs D ι w D ι {w with heap:=w.heap.setIfInBounds B.b ob}:=by
 obtain⟨B0,BR,R,kq,mz⟩:=S.row i r hid
 rw[hB]at BR;injection BR with BR;subst BR
 have other:∀b,b≠B.b->(w.heap.setIfInBounds B.b ob)[b]? =w.heap[b]? :=fun b hb=>by simp[Ne.symm hb]
 have hd:∀b,D b->(w.heap.setIfInBounds B.b ob)[b]? =w.heap[b]? :=fun b hb=>other b (by rintro rfl;exact mz hw hb)
 have hr:∀a v,cI P w D ι a v->cI P {w with heap:=w.heap.setIfInBounds B.b ob} D ι a v:=fun a v h=>h.frame hd (fun _ h=>h) (fun _ _ h=>h)
 refine⟨⟨by simpa using S.lo,fun b hb=>by simpa using S.dead b hb,fun j q h=>?_,fun j j' q q' C C' h h' Ji hC uF he=>?_⟩,⟨⟨rfl,rfl,rfl,by simp,fun k hk=>other k (by have:=kq hw;omega)⟩,hd,fun _ h=>h,fun _ _ h=>h,fun _ h=>.inl h⟩⟩
 ·unfold bt at h
  split at h
  ·rename_i e
   subst e
   injection h with h;subst h
   exact⟨B,hB,hR hr (by simp[R.lt]),fun _=>kq hw,fun _=>mz hw⟩
  ·rename_i e
   obtain⟨C,hC,RC,k1,k2⟩:=S.row j q h
   refine⟨C,hC,RC.frame (other C.b (fun Nb=>e ?_)) hr,k1,k2⟩
   exact(S.inj i j r q B C hid h hw hB hC Nb.symm).symm
 ·unfold bt at h h'
  have get:∀j p,(if j=i then some r' else g j)=some p->∃p0,g j=some p0/\(p.w=true->p0.w=true):=fun j p hp=>by
   split at hp
   ·rename_i e;subst e;injection hp with hp;subst hp;exact⟨r,hid,fun _=>hw⟩
   ·exact⟨p,hp,fun h=>h⟩
  obtain⟨p,hp,Qq⟩:=get _ _ h
  obtain⟨p',OU,_⟩:=get _ _ h'
  exact S.inj j j' p p' C C' hp OU (Qq Ji) hC uF he
theorem Fi {s:TS} {x y:AV} {u v:Value} (he:fX s x y=some true) (hx:cI P w D ι x u) (hy:cI P w D ι y v):u=v/\∀n,Instr.sameBits n u v=true:=by
 unfold fX at he
 split at he
 ·split at he
  ·rename_i hk
   subst hk
   simp at he;subst he
   rw[dq hx,dq hy]
   exact⟨rfl,fun n=>by cases n<;>simp[Instr.sameBits]⟩
  ·cases he
 ·simp at he;subst he
  rw[e6 hx,e6 hy]
  exact⟨rfl,fun n=>by cases n<;>simp[Instr.sameBits]⟩
 ·simp at he;subst he
  rw[fD hx,fD hy]
  exact⟨rfl,fun n=>by cases n<;>simp[Instr.sameBits,Ik]⟩
 ·cases he
theorem BF {n:Nat}:∀{ts:List TS} {xs ys:List AV} {vs us:List Value},eX ts xs ys=some true->vs.length=xs.length->us.length=ys.length->(∀(j:Nat) (a:AV),xs[j]? =some a->∃u,vs[j]? =some u/\cI P w D ι a u)->(∀(j:Nat) (a:AV),ys[j]? =some a->∃u,us[j]? =some u/\cI P w D ι a u)->
  us.length=vs.length/\(us.zip vs).all (fun p=>Instr.sameBits n p.1 p.2)=true
 |[],[],[],vs,us,_,h1,h2,_,_=>by
  cases vs<;>cases us<;>simp_all
 |[],x::xs,ys,vs,us,h,_,_,_,_=>by simp[eX]at h
 |[],[],y::ys,vs,us,h,_,_,_,_=>by simp[eX]at h
 |t::ts,[],ys,vs,us,h,_,_,_,_=>by simp[eX]at h
 |t::ts,x::xs,[],vs,us,h,_,_,_,_=>by simp[eX]at h
 |t::ts,x::xs,y::ys,[],us,h,h1,_,_,_=>by simp at h1
 |t::ts,x::xs,y::ys,v::vs,[],h,_,h2,_,_=>by simp at h2
 |t::ts,x::xs,y::ys,v::vs,u::us,h,h1,h2,hx,hy=>by
  unfold eX at h
  split at h
  ·rename_i a b ha hb
   simp only[Option.some.injEq,Bool.and_eq_true]at h
   obtain⟨rfl,rfl⟩:=h
   obtain⟨v',oi,rv⟩:=hx 0 x rfl
   obtain⟨u',FD,ru⟩:=hy 0 y rfl
   simp at oi FD;subst oi;subst FD
   obtain⟨e1,e2⟩:=Fi ha rv ru
   obtain⟨q1,q2⟩:=BF (n:=n) hb (by simpa using h1) (by simpa using h2) (fun j a hj=>by simpa using hx (j+1) a (by simpa using hj)) (fun j a hj=>by simpa using hy (j+1) a (by simpa using hj))
   refine⟨by simp[q1],?_⟩
   simp only[List.zip_cons_cons,List.all_cons,q2,Bool.and_true]
   rw[<-e1]
   have:=e2 n
   rw[<-e1]at this
   exact this
  ·cases h
theorem Cr {m:MK} {key:List AV}:∀{rows:List (List AV)} {i j:Nat},gm m key rows i=some (some j)->∃cs,i<=j/\rows[j-i]? =some cs/\eX m.ts key (cs.take m.ks)=some true
 |[],i,j,h=>by simp[gm]at h
 |cs::rows,i,j,h=>by
  unfold gm at h
  split at h
  ·rename_i hq
   simp at h;subst h
   exact⟨cs,Nat.le_refl _,by simp,hq⟩
  ·obtain⟨c,h1,h2,h3⟩:=Cr h
   exact⟨c,by omega,by rw[show j-i=(j-(i+1))+1 by omega];simpa using h2,h3⟩
  ·cases h
theorem wZ {m:MK} {k:AV} {rows:List (List AV)} {fi:Option Nat} (h:fP m k rows=some fi):k.isAgg=m.ka/\k.cells.length=m.ks/\(k.cells.all AV.cell=true)/\gm m k.cells rows 0=some fi:=by
 unfold fP at h
 split at h
 ·rename_i hc;exact⟨hc.1,hc.2.1,hc.2.2,h⟩
 ·cases h
theorem JX {m:MK} {k y:AV} (h1:k.isAgg=m.ka) (h2:k.cells.length=m.ks):part m.ka m.ks (k.cells++[y])=some k/\(k.cells++[y])[m.ks]? =some y:=by
 refine⟨?_,by rw[List.getElem?_append_right (by omega),h2,Nat.sub_self];rfl⟩
 cases hk:m.ka with
 |false=>
  rw[hk]at h1
  rw[wc h1];rfl
 |true=>
  rw[hk]at h1
  cases k<;>simp[AV.isAgg]at h1
  rename_i cs
  simp only[AV.cells]at h2 ⊢
  simp only[part,if_true]
  rw[if_pos (by simp;omega),<-h2,List.take_left']
  rfl
theorem stays {k:TypeId} {m:MK} (hK:E4 P k m) {key kv:AV} {u zf:Value} {cs:List AV} (h1:key.isAgg=m.ka) (hr:cI P w D ι key u) (hp:part m.ka m.ks cs=some kv) (ho:cI P w D ι kv zf) (he:eX m.ts key.cells (cs.take m.ks)=some true):(Instr.keyThatStays zf u).run P w=.ok u w:=by
 have hs:Instr.sameBits 10000 zf u=true:=by
  rcases hK with⟨s,rfl,hs⟩|⟨fs,ts,rfl,rR,ya,dH,dD⟩
  ·rw[wc h1]at he
   cases cs with
   |nil=>simp[part]at hp
   |cons c l=>
    simp[part]at hp;subst hp
    simp only[MK.ks,List.length_cons,List.length_nil,Nat.zero_add,List.take_succ_cons,List.take_zero,eX]at he
    cases hq:fX s key c with
    |none=>rw[hq]at he;simp at he
    |some b=>
     rw[hq]at he;simp at he;subst he
     obtain⟨e1,e2⟩:=Fi hq hr ho
     rw[<-e1]
     have:=e2 10000
     rwa [<-e1]at this
  ·cases key<;>simp[AV.isAgg]at h1
   rename_i ks
   simp only[part,if_true]at hp
   split at hp
   ·simp only[Option.some.injEq]at hp;subst hp
    obtain⟨vs,rfl,n1,r1⟩:=sf hr
    obtain⟨us,rfl,n2,r2⟩:=sf ho
    obtain⟨q1,q2⟩:=BF (n:=9999) (vs:=vs.toList) (us:=us.toList) he (by simpa[AV.cells]using n1) (by simpa using n2) (fun j a hj=>by simpa using r1 j a hj) (fun j a hj=>by simpa using r2 j a hj)
    simp only[Instr.sameBits,Bool.and_eq_true,beq_iff_eq]
    exact⟨by simpa using q1,q2⟩
   ·cases hp
 simp[Instr.keyThatStays,hs]
theorem Ki {es:Array MapEntry} {clock:Nat} (h:Li es clock) (k v:Value):Li (es.push ⟨k,v,clock⟩) (clock+1):=by
 refine⟨fun x hx=>?_,?_⟩
 ·simp only[Array.toList_push,List.mem_append,List.mem_singleton]at hx
  rcases hx with hx|rfl
  ·have:=h.1 x hx;omega
  ·exact Nat.lt_succ_self _
 ·simp only[Array.toList_push,List.map_append,List.map_cons,List.map_nil]
  refine List.nodup_append.2 ⟨h.2,by simp,fun a ha b hb=>?_⟩
  obtain⟨x,hx,rfl⟩:=List.mem_map.1 ha
  simp at hb;subst hb
  have:=h.1 x hx;omega
theorem EJ {es:Array MapEntry} {clock:Nat} (h:Li es clock) (j:Nat) (k v:Value):Li (es.modify j fun e=>{e with key:=k,val:=v}) clock:=by
 have e:(es.modify j fun e=>{e with key:=k,val:=v}).toList.map (·.born)=es.toList.map (·.born):=by
  refine List.ext_getElem? fun i=>?_
  simp only[List.getElem?_map,Array.getElem?_toList,Array.getElem?_modify]
  split
  ·cases es[i]? <;>rfl
  ·rfl
 refine⟨fun x hx=>?_,by rw[e];exact h.2⟩
 have hb:x.born∈(es.modify j fun e=>{e with key:=k,val:=v}).toList.map (·.born):=List.mem_map_of_mem hx
 rw[e]at hb
 obtain⟨y,hy,hyb⟩:=List.mem_map.1 hb
 rw[<-hyb];exact h.1 y hy
theorem Ht {es:Array MapEntry} {clock:Nat} (h:Li es clock) {j:Nat} (hj:j<es.size):Li (es.eraseIdxIfInBounds j) clock:=by
 have e:(es.eraseIdxIfInBounds j).toList=es.toList.eraseIdx j:=by
  unfold Array.eraseIdxIfInBounds
  rw[dif_pos hj,Array.toList_eraseIdx]
 refine⟨fun x hx=>h.1 x ((List.eraseIdx_sublist _ _).subset (by rwa [e]at hx)),?_⟩
 rw[e]
 exact((List.eraseIdx_sublist es.toList j).map (·.born)).nodup h.2
theorem BM {k y:AV} (h1:k.cells.all AV.cell=true) (h2:y.cell=true):∀a∈k.cells++[y],a.cell=true:=fun a ha=>by
 rcases List.mem_append.1 ha with ha|ha
 ·exact List.all_eq_true.1 h1 a ha
 ·rw[List.mem_singleton.1 ha];exact h2
theorem N5 {t:TypeId} {x k y:Operand} {m:MK} {z:K} {x' k' y':O} {g':Rows} (S:gz P hs D ι g w) (E:cr P w D ι env a) (ho:o.op=.mapUpdate t x k y∨o.op=.insert t x k y) (hc:sZ P t=some (m,z)) (hx:cO P x=some x') (hk:cO P k=some k') (hy:cO P y=some y')
  (hv:bI (.set m) [cQ env x',cQ env k',cQ env y'] g=some g'):Dd P hs a o w D ι id .undef g':=by
 obtain⟨kt,e,i,zv,ht,hi,qR,Tk,hK⟩:=rI hc
 simp only[bI,Option.bind_eq_some_iff]at hv
 obtain⟨p,hp,fi,GD,hv⟩:=hv
 split at hv
 ·rename_i hcond
  obtain⟨hw,hyc,_⟩:=hcond
  simp only[Option.some.injEq]at hv;subst hv
  obtain⟨B,hu,hg,hB,u9,es,clock,hb,fo,hlen,hM⟩:=Aq S (dj E hx) hp
  have rk:=dj E hk
  have ry:=dj E hy
  obtain⟨KY,res,hf,hF⟩:=wj (B:=B) hK rk fo hM GD
  obtain⟨k1,k2,k3,k4⟩:=wZ GD
  obtain⟨B',dz,R,_⟩:=S.row p.1 p.2 hg
  rw[hB]at dz;injection dz with dz;subst dz
  obtain⟨pk1,pk2⟩:=JX (y:=cQ env y') k1 k2
  have fc:(getObj B.b).run P w=.ok (.map es clock) w:=MapKept.run_getObj_map hb
  rcases hF with⟨rfl,rfl⟩|⟨j,en,rfl,he,rfl⟩
  ·have oe:=S.HG (ob:=.map (es.push ⟨a.eval k,a.eval y,clock⟩) (clock+1)) (r':={p.2 with rows:=dM p.2.rows ((cQ env k').cells++[cQ env y']) none}) hg hw hB fun hr kr=>⟨R.sz,fun cs dt=>?_,fun xL=>(by rw[u9]at xL;cases xL),fun m' BX=>?_,fun c hc=>(by rw[u9]at hc;cases hc)⟩
   ·refine⟨undef,_,ι,.inr ⟨?_,rfl⟩,oe.2,oe.1,cI.undef,fun _ _=>rfl⟩
    rcases ho with ho|ho<;>
    ·simp only[execOp,ho,Instr.mapUpdate,hu,Sem.run_bind,run_underlying ht,Result.andThen_ok,fc,KY,hf,MapKept.run_setObj_map _ hb,Sem.run_pure]
   ·rcases List.mem_append.1 dt with h|h
    ·exact R.flat cs h
    ·rw[List.mem_singleton.1 h];exact BM k3 hyc
   ·rw[u9]at BX;simp only[Option.some.injEq,BK.map.injEq]at BX;subst BX
    refine⟨(R.map m u9).1,_,_,kr,by simp[dM,fo],⟨fun cs dt=>?_,Ki hlen.2 _ _⟩,fun q cs hq=>?_⟩
    ·rcases List.mem_append.1 dt with h|h
     ·exact hlen.1 cs h
     ·rw[List.mem_singleton.1 h];simp[k2]
    ·rcases Nat.lt_or_ge q p.2.rows.length with dU|qN
     ·simp only[dM]at hq
      rw[List.getElem?_append_left dU]at hq
      obtain⟨en,kv,vv,q1,q2,q3,q4,q5⟩:=hM q cs hq
      exact⟨en,kv,vv,by rw[Array.getElem?_push_lt (by omega)];rw[Array.getElem?_eq_getElem (by omega)]at q1;simpa using q1,q2,q3,hr _ _ q4,hr _ _ q5⟩
     ·simp only[dM]at hq
      rw[List.getElem?_append_right qN]at hq
      have Nk:q=p.2.rows.length:=by
       have:=(List.getElem?_eq_some_iff.1 hq).1
       simp at this;omega
      subst Nk
      simp at hq;subst hq
      exact⟨⟨a.eval k,a.eval y,clock⟩,_,_,by rw[<-fo];simp,pk1,pk2,hr _ _ rk,hr _ _ ry⟩
  ·simp only[Nat.zero_add]at k4 GD hf ⊢
   obtain⟨Qe,_,LG,heq⟩:=Cr k4
   simp only[Nat.sub_zero]at LG
   obtain⟨QW,kv,vv,q1,q2,_,q4,_⟩:=hM j Qe LG
   have HM:QW=en:=by
    have h1:es.toList[j]? =some QW:=by simpa using q1
    rw[he]at h1;injection h1 with h1;exact h1.symm
   subst HM
   have dH:=stays (w:=w) hK k1 rk q2 q4 heq
   have oe:=S.HG (ob:=.map (es.modify j fun e=>{e with key:=a.eval k,val:=a.eval y}) clock) (r':={p.2 with rows:=dM p.2.rows ((cQ env k').cells++[cQ env y']) (some j)}) hg hw hB fun hr kr=>⟨R.sz,fun cs dt=>?_,fun xL=>(by rw[u9]at xL;cases xL),fun m' BX=>?_,fun c hc=>(by rw[u9]at hc;cases hc)⟩
   ·refine⟨undef,_,ι,.inr ⟨?_,rfl⟩,oe.2,oe.1,cI.undef,fun _ _=>rfl⟩
    rcases ho with ho|ho<;>
    ·simp only[execOp,ho,Instr.mapUpdate,hu,Sem.run_bind,run_underlying ht,Result.andThen_ok,fc,KY,hf,q1,Option.map_some,Option.getD_some,dH,MapKept.run_setObj_map _ hb,Sem.run_pure]
   ·rcases List.mem_or_eq_of_mem_set dt with h|h
    ·exact R.flat cs h
    ·rw[h];exact BM k3 hyc
   ·rw[u9]at BX;simp only[Option.some.injEq,BK.map.injEq]at BX;subst BX
    have ig:=(List.getElem?_eq_some_iff.1 LG).1
    refine⟨(R.map m u9).1,_,_,kr,by simp[dM,fo],⟨fun cs dt=>?_,EJ hlen.2 _ _ _⟩,fun q cs hq=>?_⟩
    ·rcases List.mem_or_eq_of_mem_set dt with h|h
     ·exact hlen.1 cs h
     ·rw[h];simp[k2]
    ·simp only[dM,List.getElem?_set]at hq
     split at hq
     ·rename_i Qk
      subst Qk
      (try rw[if_pos ig]at hq)
      injection hq with hq;subst hq
      exact⟨{QW with key:=a.eval k,val:=a.eval y},_,_,by rw[Array.getElem?_modify];simp[q1],pk1,pk2,hr _ _ rk,hr _ _ ry⟩
     ·rename_i Qk
      obtain⟨en,kv,vv,q1,q2,q3,q4,q5⟩:=hM q cs hq
      exact⟨en,kv,vv,by rw[Array.getElem?_modify];simp[Qk,q1],q2,q3,hr _ _ q4,hr _ _ q5⟩
 ·cases hv
theorem N4 {t t':TypeId} {x k:Operand} {m:MK} {z:K} {x' k':O} {g':Rows} (S:gz P hs D ι g w) (E:cr P w D ι env a) (ho:o.op=.call {callee:=.builtin .delete,args:= #[x,k],argTypes:= #[t,t']}) (hc:sZ P t=some (m,z)) (hx:cO P x=some x') (hk:cO P k=some k')
  (hv:bI (.del m) [cQ env x',cQ env k'] g=some g'):Dd P hs a o w D ι id .undef g':=by
 obtain⟨kt,e,i,zv,ht,hi,qR,Tk,hK⟩:=rI hc
 simp only[bI,Option.bind_eq_some_iff]at hv
 obtain⟨p,hp,fi,GD,hv⟩:=hv
 split at hv
 ·rename_i hw
  simp only[Option.some.injEq]at hv;subst hv
  obtain⟨B,hu,hg,hB,u9,es,clock,hb,fo,hlen,hM⟩:=Aq S (dj E hx) hp
  have rk:=dj E hk
  obtain⟨KY,res,hf,hF⟩:=wj (B:=B) hK rk fo hM GD
  obtain⟨k1,k2,k3,k4⟩:=wZ GD
  obtain⟨B',dz,R,_⟩:=S.row p.1 p.2 hg
  rw[hB]at dz;injection dz with dz;subst dz
  have fc:(getObj B.b).run P w=.ok (.map es clock) w:=MapKept.run_getObj_map hb
  have go:∀ob,(Builtin.delete_ #[t,t'] o.type #[a.eval x,a.eval k]).run P w=.ok (.tuple #[]) {w with heap:=w.heap.setIfInBounds B.b ob}->(execOp a.eval o).run P w=.ok (.value undef) {w with heap:=w.heap.setIfInBounds B.b ob}:=fun ob h=>by
   simp only[execOp,ho,resolve,Sem.run_bind,Sem.run_pure,Result.andThen_ok,invoke,builtin,Array.map]
   simp[h,undef]
  rcases hF with⟨rfl,rfl⟩|⟨j,en,rfl,he,rfl⟩
  ·have oe:=S.HG (ob:=.map es clock) (r':={p.2 with rows:=dK p.2.rows none}) hg hw hB fun hr kr=>⟨R.sz,R.flat,fun xL=>(by rw[u9]at xL;cases xL),fun m' BX=>?_,fun c hc=>(by rw[u9]at hc;cases hc)⟩
   ·refine⟨undef,_,ι,.inl (go _ ?_),oe.2,oe.1,cI.undef,fun _ _=>rfl⟩
    simp[Builtin.delete_,hu,run_underlying ht,fc,KY,hf,MapKept.run_setObj_map _ hb]
   ·rw[u9]at BX;simp only[Option.some.injEq,BK.map.injEq]at BX;subst BX
    exact⟨(R.map m u9).1,_,_,kr,fo,hlen,fun q cs hq=>by
     obtain⟨en,kv,vv,q1,q2,q3,q4,q5⟩:=hM q cs hq
     exact⟨en,kv,vv,q1,q2,q3,hr _ _ q4,hr _ _ q5⟩⟩
  ·simp only[Nat.zero_add]at hf ⊢
   have ig:j<es.size:=by have:=(List.getElem?_eq_some_iff.1 he).1;simpa using this
   have oe:=S.HG (ob:=.map (es.eraseIdxIfInBounds j) clock) (r':={p.2 with rows:=dK p.2.rows (some j)}) hg hw hB fun hr kr=>⟨R.sz,fun cs dt=>R.flat cs (List.mem_of_mem_eraseIdx dt),fun xL=>(by rw[u9]at xL;cases xL),fun m' BX=>?_,fun c hc=>(by rw[u9]at hc;cases hc)⟩
   ·refine⟨undef,_,ι,.inl (go _ ?_),oe.2,oe.1,cI.undef,fun _ _=>rfl⟩
    simp[Builtin.delete_,hu,run_underlying ht,fc,KY,hf,MapKept.run_setObj_map _ hb]
   ·rw[u9]at BX;simp only[Option.some.injEq,BK.map.injEq]at BX;subst BX
    have Fv:∀q,(es.eraseIdxIfInBounds j)[q]? =(es.toList.eraseIdx j)[q]? :=fun q=>by
     unfold Array.eraseIdxIfInBounds
     rw[dif_pos ig,<-Array.getElem?_toList,Array.toList_eraseIdx]
    refine⟨(R.map m u9).1,_,_,kr,by simp[dK,Array.eraseIdxIfInBounds,ig,List.length_eraseIdx,<-fo],⟨fun cs dt=>hlen.1 cs (List.mem_of_mem_eraseIdx dt),Ht hlen.2 ig⟩,fun q cs hq=>?_⟩
    simp only[dK,List.getElem?_eraseIdx]at hq
    split at hq
    ·rename_i dU
     obtain⟨en,kv,vv,q1,q2,q3,q4,q5⟩:=hM q cs hq
     exact⟨en,kv,vv,by rw[Fv,List.getElem?_eraseIdx,if_pos dU];simpa using q1,q2,q3,hr _ _ q4,hr _ _ q5⟩
    ·rename_i dU
     obtain⟨en,kv,vv,q1,q2,q3,q4,q5⟩:=hM (q+1) cs hq
     exact⟨en,kv,vv,by rw[Fv,List.getElem?_eraseIdx,if_neg dU];simpa using q1,q2,q3,hr _ _ q4,hr _ _ q5⟩
 ·cases hv
end
end Go.Proofs.YtgoljkjaameagaaGreat.V
