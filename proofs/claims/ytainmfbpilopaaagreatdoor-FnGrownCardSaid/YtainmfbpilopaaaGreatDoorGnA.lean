/- A small language in which the program's functions are read by value: its values, its operations, its code, and how the program's code is brought into it. -/
import Derived.WalkKit
import Derived.WalkSpells
import Derived.WalkLawsBesides
import Derived.Lib.Hide
import Derived.Great.BuildSlice
import Derived.Conc.LoneCalls
import Derived.MapKept
import Derived.WideKeyRuns
set_option linter.unusedVariables false
set_option linter.unusedSimpArgs false
set_option maxRecDepth 100000
set_option maxHeartbeats 16000000
namespace Go.Proofs.YtainmfbpilopaaaGreatDoor.V
open Go.RowKit
structure Id where
  site:Nat
  bq:Nat
  deriving DecidableEq,Repr
inductive TS where
  |tI|tB|tS
  deriving Repr,DecidableEq
structure MK where
  ka:Bool
  ts:List TS
  deriving Repr,DecidableEq
inductive AV where
  |int (k:IntKind) (n:Int)
  |bool (b:Bool)
  |str (s:ByteArray)
  |bj|iU|jV
  |sl (rows:List (List AV))
  |own (id:Id) (off len:Nat)
  |ptr (id:Id) (i off:Nat)
  |ef (cs:List AV)
  |agg (cs:List AV)
  |fP (vs:List AV)
  |fn (f:Nat) (dG:List AV)
  |map (id:Id) (m:MK)
  |j6
  |jB
  |err (g t:Nat) (s:ByteArray)
  |xh (f:Nat) (first:List AV)
  |tX (id:Id)
  deriving Inhabited
def AV.undef:AV:=.fP []
def AV.cell:AV->Bool
  | .agg _| .fP _=>false
  |_=>true
def AV.cells:AV->List AV
  | .agg cs=>cs
  |v=>[v]
inductive K where
  |int (k:IntKind) (n:Int)
  |bool (b:Bool)
  |str (l:List UInt8)
  |bj|iU|jV|j6|jB
  deriving Repr,DecidableEq
def K.val:K->Value
  | .int k n=>.int k n
  | .bool b=>.bool b
  | .str l=>.string ⟨l.toArray⟩
  | .bj=>.slice none 0 0
  | .iU=>.pointer none
  | .jV=>.nilFunc
  | .j6=>.map none
  | .jB=>.nilIface
def K.av:K->AV
  | .int k n=>.int k n
  | .bool b=>.bool b
  | .str l=>.str ⟨l.toArray⟩
  | .bj=>.bj
  | .iU=>.iU
  | .jV=>.jV
  | .j6=>.j6
  | .jB=>.jB
def Kz:Value->Option K
  | .int k n=>some (.int k n)
  | .bool b=>some (.bool b)
  | .string s=>some (.str s.data.toList)
  | .slice none 0 0=>some .bj
  | .pointer none=>some .iU
  | .nilFunc=>some .jV
  | .map none=>some .j6
  | .nilIface=>some .jB
  |_=>none
inductive O where
  |t (n:Nat)
  |k (c:K)
  |ka (cs:List K)
  |f (n:Nat)
  deriving Repr,DecidableEq
inductive MQ where
  |new (m:MK)
  |look (m:MK) (ok:Bool) (zero:K)
  |len (m:MK)
  deriving Repr,DecidableEq
inductive MW where
  |set (m:MK)
  |del (m:MK)
  deriving Repr,DecidableEq
inductive iA where
  |eW (x:O)
  |pick (c a b:O)
  |new (zero:List K)
  |box (x:O)
  |build (zero:List K) (parts:List (Nat×Nat×O))
  |fW (sz len:Nat) (parts:List O)
  |load (agg:Bool) (n:Nat) (a:O)
  |store (n:Nat) (a x:O)
  |LA (x:O)
  |bin (op:BinOp) (k:IntKind) (x y:O)
  |sh (left:Bool) (x y:O)
  |yG (op:BinOp) (x y:O)
  |Yz (neg:Bool) (t:TS) (x y:O)
  |Yx (neg:Bool) (ts:List TS) (x y:O)
  |Wy (neg Qk:Bool) (x:O)
  |Yy (neg:Bool) (x:O)
  |not (x:O)
  |neg (x:O)
  |conv (k:IntKind) (x:O)
  |IG (x:O)
  |slice (sz:Nat) (x:O) (lo hi:Option O)
  |DD (x:O) (lo hi:Option O)
  |fa (off:Nat) (x:O)
  |field (agg:Bool) (off n:Nat) (x:O)
  |kR (sz:Nat) (x i:O)
  |Qd (len sz:Nat) (x i:O)
  |Qf (x i:O)
  |dm (agg:Bool) (len n:Nat) (x i:O)
  |extract (i:Nat) (x:O)
  |len (x:O)
  |Qt (x:O)
  |append (sz:Nat) (x y:O)
  |copy (sz:Nat) (x y:O)
  |clear (zero:List K) (x:O)
  |Qv (f:Nat) (dG:List O)
  |Qw (f:Nat) (first:List O)
  |rf (zero:List K) (len cap:O)
  |call (f:Nat) (args:List O)
  |wR (x:O) (args:List O)
  |mq (q:MQ) (xs:List O)
  |mw (q:MW) (xs:List O)
  |NB (x:O)
  |Nw (x:O)
  |snd (x y:O)
  |Uo (x:O)
  |IV (g:Nat)
  |bad
  deriving Repr,DecidableEq
structure bD where
  dst:Option Nat
  op:iA
  guard:Option (Nat×Bool)
  site:Nat
  hid:List Nat
  deriving Repr,DecidableEq
def q (d:Nat) (op:iA) (s:Nat):bD:=⟨some d,op,none,s,[]⟩
inductive VC where
  |skip
  |fV (draw:Bool) (ops:List bD)
  |seq (a b:VC)
  |cond (c:O) (x y:VC)
  |block (id:Nat) (c:VC)
  |loop (c:VC)
  |exit (id:Nat)
  |ret
  |one (o:bD) (c:VC)
  |both (a b:VC)
  |loc (t s:Nat) (y:O) (c:VC)
  |SN (ops:List bD)
  deriving Repr,DecidableEq
inductive rL where
  |tmp (t:Nat)
  |cell (agg:Bool) (n:Nat) (t:Nat)
  deriving Repr,DecidableEq
structure Iz where
  ntmps:Nat
  BS:Nat
  body:VC
  res:List rL
  deriving Repr,DecidableEq
def gR (P:Program) (f:Nat):Bool:=
  match P.funcs[f]? with
  |some fn=>fn.body.isSome&& !(fn.name== "runtime.NumGoroutine")
  |none=>false
def cO (P:Program):Operand->Option O
  | .tmp t=>some (.t t)
  | .const (.agg cs)=>(cs.toList.mapM Kz).map O.ka
  | .const v=>(Kz v).map O.k
  | .global _=>none
  | .func f=>if gR P f then some (.f f)else none
def kP (P:Program) (t:TypeId):Option (List K):=
  match P.info? t with
  |some i=>match i.zero with
    |some v=>if v.cells.size=i.size then v.cells.toList.mapM Kz else none
    |none=>none
  |none=>none
def eO (P:Program) (t:TypeId):Option Nat:=(P.info? t).map (·.size)
def nM (P:Program) (t:TypeId):Option Bool:=
  match P.underlying t with
  |some (.struct _)|some (.array _ _)=>some true
  |some _=>some false
  |none=>none
inductive Zy where
  |sc (t:TS)|ag (ts:List TS)
  deriving Repr,DecidableEq
def gr (P:Program) (t:TypeId):Option TS:=
  match P.underlying t with
  |some .bool=>some .tB
  |some (.int _)=>some .tI
  |some .string=>some .tS
  |_=>none
def He (P:Program) (inner:List Field->Option (List TS)):Nat->List Field->Option (List TS)
  |_,[]=>some []
  |off,f::r=>
    if f.offset=off/\f.name≠ "_" then
      match gr P f.type with
      |some t=>if nM P f.type=some false then(He P inner (off+1) r).map (t::·)else none
      |none=>match P.underlying f.type with
        |some (.struct fs)=>if !P.stoodInHeld f.type then match inner fs.toList with
          |some ts=>if eO P f.type=some ts.length/\ts≠[]then(He P inner (off+ts.length) r).map (ts++·)else none
          |none=>none else none
        |_=>none
    else none
def fh (P:Program):Nat->Nat->List Field->Option (List TS)
  |0,_,[]=>some []
  |0,_,_::_=>none
  |d+1,off,fs=>He P (fh P d 0) off fs
def ZS (P:Program) (t:TypeId):Option Zy:=
  match gr P t with
  |some s=>some (.sc s)
  |none=>match P.underlying t with
    |some (.struct fs)=>if !P.stoodInHeld t&& !P.eqGuardType P.depth t then(fh P 4 0 fs.toList).map Zy.ag else none
    |_=>none
def vJ (P:Program) (fs:Array Field):List (Nat×O)->Option (List (Nat×Nat×O))
  |[]=>some []
  |(i,x)::r=>match fs[i]? with
    |some f=>match eO P f.type with
      |some n=>(vJ P fs r).map ((f.offset,n,x)::·)
      |none=>none
    |none=>none
def vM (P:Program) (ps:Array (Nat×Operand)):Option (List (Nat×O)):=ps.toList.mapM fun(i,x)=>(cO P x).map (i,·)
def tV (P:Program):Option Operand->Option (Option O)
  |none=>some none
  |some x=>(cO P x).map some
def vK (P:Program) (neg:Bool) (t:TypeId) (x y:Operand):Option iA:=
  match y with
  | .const (.slice none 0 0)=>match P.underlying t with
    |some (.slice _)=>(cO P x).map (iA.Wy neg false)
    |_=>none
  | .const .nilFunc=>match P.underlying t with
    |some (.func ..)=>(cO P x).map (iA.Wy neg true)
    |_=>none
  | .const (.pointer none)=>match P.underlying t with
    |some (.pointer _)=>(cO P x).map (iA.Yy neg)
    |_=>none
  |_=>match ZS P t with
    |some (.sc s)=>do pure (.Yz neg s (<-cO P x) (<-cO P y))
    |some (.ag ts)=>do pure (.Yx neg ts (<-cO P x) (<-cO P y))
    |_=>none
def yv (P:Program) (op:BinOp) (t:TypeId) (x y:Operand):Option iA:=
  match op with
  | .eql=>vK P false t x y
  | .neq=>vK P true t x y
  | .shl=>do pure (.sh true (<-cO P x) (<-cO P y))
  | .shr=>do pure (.sh false (<-cO P x) (<-cO P y))
  |op=>match P.underlying t with
    |some (.int k)=>do pure (.bin op k (<-cO P x) (<-cO P y))
    |some .string=>do pure (.yG op (<-cO P x) (<-cO P y))
    |_=>none
def vL (P:Program) (t:TypeId):Option (MK×K):=
  match P.underlying t with
  |some (.map k e)=>match nM P e,(P.info? e).bind (·.zero),gr P k,P.underlying k with
    |some false,some zv,some s,_=>(Kz zv).map fun z=>(⟨false,[s]⟩,z)
    |some false,some zv,none,some (.struct fs)=>match fh P 4 0 fs.toList,Kz zv with
      |some ts,some z=>if !P.stoodInHeld k/\fs.toList.all (fun f=>(gr P f.type).isSome)then some (⟨true,ts⟩,z)else none
      |_,_=>none
    |_,_,_,_=>none
  |_=>none
def ph (P:Program) (c:Call):Option iA:=
  match c.callee with
  | .builtin .len=>match c.args.toList,c.argTypes.toList with
    |[x],[t]=>match P.underlying t with
      |some (.slice _)=>(cO P x).map iA.len
      |some .string=>(cO P x).map iA.Qt
      |some (.map _ _)=>match vL P t,cO P x with
        |some (m,_),some x=>some (.mq (.len m) [x])
        |_,_=>none
      |some (.chan _ _)=>(cO P x).map iA.Nw
      |_=>none
    |_,_=>none
  | .builtin .append=>match c.args.toList,c.argTypes.toList with
    |[x,y],[t,u]=>match P.underlying t with
      |some (.slice e)=>match eO P e,kP P e,P.info? e with
        |some (sz+1),some _,some i=>if i.bytes<=32768/\t=u then do pure (.append (sz+1) (<-cO P x) (<-cO P y))else none
        |_,_,_=>none
      |_=>none
    |_,_=>none
  | .builtin .clear=>match c.args.toList,c.argTypes.toList with
    |[x],[t]=>match P.underlying t with
      |some (.slice e)=>match eO P e,kP P e with
        |some (_+1),some z=>(cO P x).map (iA.clear z)
        |_,_=>none
      |_=>none
    |_,_=>none
  | .value (.func f)=>if gR P f then(c.args.toList.mapM (cO P)).map (iA.call f)else none
  | .value (.tmp t)=>(c.args.toList.mapM (cO P)).map (iA.wR (.t t))
  | .builtin .delete=>match c.args.toList,c.argTypes.toList with
    |[x,k],[t,_]=>match vL P t,cO P x,cO P k with
      |some (m,_),some x,some k=>some (.mw (.del m) [x,k])
      |_,_,_=>none
    |_,_=>none
  | .builtin .copy=>match c.args.toList,c.argTypes.toList with
    |[x,y],[t,_]=>match P.underlying t with
      |some (.slice e)=>match eO P e with
        |some (sz+1)=>do pure (.copy (sz+1) (<-cO P x) (<-cO P y))
        |_=>none
      |_=>none
    |_,_=>none
  |_=>none
def tK (P:Program) (o:Op):Option iA:=
  match o with
  | .move x| .assign x=>(cO P x).map iA.eW
  | .pick c a b=>do pure (.pick (<-cO P c) (<-cO P a) (<-cO P b))
  | .alloc e=>(kP P e).map iA.new
  | .box _ x=>(cO P x).map iA.box
  | .load t (.global g)=>if eO P t=some 1/\nM P t=some false then some (.IV g)else none
  | .load t a=>do pure (.load (<-nM P t) (<-eO P t) (<-cO P a))
  | .store t a x=>do pure (.store (<-eO P t) (<-cO P a) (<-cO P x))
  | .nilCheck x=>(cO P x).map iA.LA
  | .binOp op t x y _=>yv P op t x y
  | .unOp .not _ x=>(cO P x).map iA.not
  | .unOp .neg _ x=>(cO P x).map iA.neg
  | .convert s d x=>match P.underlying s,P.underlying d with
    |some (.int _),some (.int k)=>(cO P x).map (iA.conv k)
    |some .string,some .string=>(cO P x).map iA.IG
    |_,_=>none
  | .slice t x lo hi none=>match P.underlying t with
    |some (.slice e)=>do
      pure (.slice (<-eO P e) (<-cO P x) (<-tV P lo) (<-tV P hi))
    |some .string=>do pure (.DD (<-cO P x) (<-tV P lo) (<-tV P hi))
    |_=>none
  | .fieldAddr s x i=>match P.underlying s with
    |some (.struct fs)=>match fs[i]? with
      |some f=>match eO P f.type with
        |some (_+1)=>(cO P x).map (iA.fa f.offset)
        |_=>none
      |none=>none
    |_=>none
  | .field s x i=>match P.underlying s with
    |some (.struct fs)=>match fs[i]? with
      |some f=>do pure (.field (<-nM P f.type) f.offset (<-eO P f.type) (<-cO P x))
      |none=>none
    |_=>none
  | .indexAddr t x i=>match P.underlying t with
    |some (.slice e)=>match eO P e with
      |some (m+1)=>do pure (.kR (m+1) (<-cO P x) (<-cO P i))
      |_=>none
    |some (.array len e)=>match eO P e with
      |some (m+1)=>do pure (.Qd len (m+1) (<-cO P x) (<-cO P i))
      |_=>none
    |_=>none
  | .index t x i=>match P.underlying t with
    |some .string=>do pure (.Qf (<-cO P x) (<-cO P i))
    |some (.array len e)=>do pure (.dm (<-nM P e) len (<-eO P e) (<-cO P x) (<-cO P i))
    |_=>none
  | .extract x i=>(cO P x).map (iA.extract i)
  | .build t ps=>match P.underlying t with
    |some (.struct fs)=>
      match kP P t,vM P ps with
      |some z,some l=>
        if fs.all (fun f=>(P.info? f.type).isSome)then(vJ P fs l).map (iA.build z)else none
      |_,_=>none
    |some (.array _ e)=>
      match kP P t,vM P ps,eO P e with
      |some z,some l,some n=>some (.build z (l.map fun(i,x)=>(i*n,n,x)))
      |_,_,_=>none
    |_=>none
  | .buildSlice t len ps=>match P.underlying t with
    |some (.slice e)=>match eO P e,kP P e,vM P ps with
      |some (sz+1),some _,some l=>
        if len*(sz+1)<=4096/\l.map (·.1)=List.range len then some (.fW (sz+1) len (l.map (·.2)))else none
      |_,_,_=>none
    |_=>none
  | .makeFunc (.func f) first dG=>
    if first= #[]/\gR P f then(dG.toList.mapM (cO P)).map (iA.Qv f)else if dG= #[]/\gR P f then(first.toList.mapM (cO P)).map (iA.Qw f)else none
  | .makeSlice t l c=>match P.underlying t with
    |some (.slice e)=>match eO P e,kP P e,P.info? e with
      |some (_+1),some z,some i=>if i.bytes<=32768 then do pure (.rf z (<-cO P l) (<-cO P c))else none
      |_,_,_=>none
    |_=>none
  | .call c=>ph P c
  | .makeChan t n=>match P.underlying t with
    |some (.chan _ e)=>match P.info? e with
      |some i=>if i.bytes<=32768 then(cO P n).map iA.NB else none
      |none=>none
    |_=>none
  | .send x y=>do pure (.snd (<-cO P x) (<-cO P y))
  | .recv t x false=>match P.underlying t with
    |some (.chan _ e)=>match (P.info? e).bind (·.zero)with
      |some _=>(cO P x).map iA.Uo
      |none=>none
    |_=>none
  | .makeMap t none=>match vL P t with
    |some (m,_)=>some (.mq (.new m) [])
    |none=>none
  | .lookup t x k ok=>match vL P t,cO P x,cO P k with
    |some (m,z),some x,some k=>some (.mq (.look m ok z) [x,k])
    |_,_,_=>none
  | .mapUpdate t x k v| .insert t x k v=>match vL P t,cO P x,cO P k,cO P v with
    |some (m,_),some x,some k,some v=>some (.mw (.set m) [x,k,v])
    |_,_,_,_=>none
  | .makeInterface _ _=>some .bad
  | .panic _=>some .bad
  |_=>none
inductive Zw where
  |pure|look|make|write
  deriving DecidableEq,Repr
def iA.cls:iA->Zw
  | .new _| .box _| .fW .. | .rf .. | .mq (.new _) _| .NB _=>.make
  | .IV _| .load .. | .kR .. | .slice .. | .call .. | .wR .. | .mq .. | .Nw _=>.look
  | .store .. | .append .. | .copy .. | .clear .. | .mw .. | .snd .. | .Uo _=>.write
  |_=>.pure
def clash:Zw->Zw->Bool
  | .pure,_|_,.pure=>false
  | .write,_|_,.write=>true
  |_,_=>false
def j5 (ops:Array Oper):Array Nat:=Region.before ops
def tn:iA->Bool:=fun o=>o.cls==.make||o.cls==.write
def iA.nz:iA->Bool
  | .call .. | .wR .. =>true
  |_=>false
def G3 (ops:Array Oper) (o:Oper):Option (Option (Nat×Bool)):=
  match o.guard with
  |none=>some none
  |some (i,b)=>match (ops[i]?).bind (·.dst)with
    |some t=>some (some (t,b))
    |none=>none
def mm (P:Program) (ops:Array Oper) (nt site0:Nat) (draw mk:Bool) (bs:Array Nat) (hidden:List (Nat×Bool)) (j:Nat) (o:Oper):Option bD:=do
  let v <-tK P o.op
  let g <-G3 ops o
  if (o.dst.all fun d=>decide (d<nt))then
    pure {dst:=o.dst,op:=v,guard:=g,site:=site0+j,hid:=if draw then(hidden.filter fun(i,m)=>m&& !(bs.getD j 0).testBit i&&(i !=j||mk&&v.nz)).map fun(i,_)=>site0+i else[]}
  else none
def allM {α:Type} (f:Nat->Oper->Option α):List Oper->Nat->Option (List α)
  |[],_=>some []
  |o::r,j=>do pure ((<-f j o)::(<-allM f r (j+1)))
def iR:O->List Nat
  | .t n=>[n]
  |_=>[]
def zG:Option O->List Nat
  |some x=>iR x
  |none=>[]
def iA.iH:iA->List Nat
  | .clear _ x| .eW x| .box x| .load _ _ x| .LA x| .Wy _ _ x| .Yy _ x| .not x| .neg x| .conv _ x| .IG x| .fa _ x| .field _ _ _ x| .extract _ x| .len x| .Qt x| .NB x| .Nw x| .Uo x=>iR x
  | .pick c a b=>iR c++iR a++iR b
  | .new _| .IV _| .bad=>[]
  | .build _ ps=>ps.flatMap fun(_,_,x)=>iR x
  | .fW _ _ ps=>ps.flatMap iR
  | .store _ a x| .snd a x=>iR a++iR x
  | .bin _ _ x y| .sh _ x y| .yG _ x y| .Yz _ _ x y| .Yx _ _ x y| .kR _ x y| .Qd _ _ x y| .Qf x y| .dm _ _ _ x y| .append _ x y| .copy _ x y| .rf _ x y=>iR x++iR y
  | .slice _ x lo hi| .DD x lo hi=>iR x++zG lo++zG hi
  | .Qv _ l| .Qw _ l| .call _ l| .mq _ l| .mw _ l=>l.flatMap iR
  | .wR x l=>iR x++l.flatMap iR
def bD.iH (v:bD):List Nat:=v.op.iH++(match v.guard with|some (t,_)=>[t]|none=>[])
def wN (x y:bD):Bool:=
  (match x.dst with
   |some d=> !y.iH.contains d&&y.dst !=some d
   |none=>true)&&
  (match y.dst with
   |some d=> !x.iH.contains d
   |none=>true)
def bD.makes (v:bD):Bool:=tn v.op||v.op.nz&&v.hid.contains v.site
def IS (x y:bD):Bool:=
  wN x y&& !clash x.op.cls y.op.cls&&(!x.makes||y.hid.contains x.site)&&(!y.makes||x.hid.contains y.site)&&x.site !=y.site
def IH (ops:Array Oper):Bool:=ops.toList.zipIdx.all fun(o,j)=>o.after.all fun e=> !Region.binds .any e||decide (e.on<j)
def qj (ops:Array Oper) (vl:List bD) (bs:Array Nat):Bool:=
  IH ops&&vl.zipIdx.all fun(y,j)=>vl.zipIdx.all fun(x,i)=> !(decide (i<j))||(bs.getD j 0).testBit i||IS x y
def tW (P:Program) (nt site0:Nat) (ops:Array Oper) (draw mk:Bool):Option (List bD):=
  let bs:=if draw then j5 ops else #[]
  let hidden:=if draw then ops.toList.zipIdx.map fun(o,i)=>(i,((tK P o.op).map fun v=>tn v||mk&&v.nz).getD false)else[]
  match allM (mm P ops nt site0 draw mk bs hidden) ops.toList 0 with
  |some vl=>if !draw||qj ops vl bs then some vl else none
  |none=>none
def mE (v:bD):Bool:= !v.op.nz&&v.op.cls !=.write
def Bu (x y:bD):Bool:=wN x y&&x.op.cls==.pure||IS x y&&mE x&&mE y
def sV (ops:Array Oper) (vl:List bD) (bs:Array Nat) (listed:Array Bool) (i:Nat):Bool:=
  match vl[i]? with
  |some x=>(List.range ops.size).all fun j=>listed.getD j false||j==i||(bs.getD j 0).testBit i||(match vl[j]? with|some y=>Bu x y|none=>false)
  |none=>false
def R0 (vl:List bD) (x:bD):Option (Nat×Nat×O):=
  match x.op,x.guard with
  | .append _ (.t t) y,none=>match vl.find? fun v=>v.dst==some t&&v.op.cls==.make with
    |some v=>some (t,v.site,y)
    |none=>none
  |_,_=>none
def IQ (s:Nat) (x y:bD):Bool:=wN x y&&mE y&&y.hid.contains s&&y.hid.contains x.site&&y.site !=s&&y.site !=x.site
def ql (ops:Array Oper) (vl:List bD) (bs:Array Nat) (listed:Array Bool) (i s:Nat):Bool:=
  match vl[i]? with
  |some x=>(List.range ops.size).all fun j=>listed.getD j false||j==i||(bs.getD j 0).testBit i||(match vl[j]? with|some y=>IQ s x y|none=>false)
  |none=>false
def Ue (ops:Array Oper) (vl:List bD) (bs:Array Nat) (listed:Array Bool) (i:Nat):Option (Nat×Nat×Nat×O×bD):=
  match vl[i]? with
  |some x=>match R0 vl x with
    |some (t,s,y)=>if ql ops vl bs listed i s then some (i,t,s,y,x)else none
    |none=>none
  |none=>none
def Et:List VC->Option VC
  |[]=>none
  |[c]=>some c
  |c::r=>(Et r).map (VC.both c)
def xn (ops:Array Oper) (vl:List bD) (bs:Array Nat):Nat->Array Bool->Option VC
  |0,listed=>
    match Region.ready .any ops listed with
    |[]=>some (.fV false [])
    |_::_=>none
  |n+1,listed=>
    match Region.ready .any ops listed with
    |[]=>some (.fV false [])
    |r::rs=>let rdy:=r::rs
      match rdy.find? (sV ops vl bs listed)with
      |some i=>match vl[i]? with
        |some vo=>(xn ops vl bs n (listed.setIfInBounds i true)).map (VC.one vo)
        |none=>none
      |none=>match rdy.findSome? (Ue ops vl bs listed)with
        |some (i,t,s,y,vo)=>(xn ops vl bs n (listed.setIfInBounds i true)).map fun c=>VC.loc t s y (.one vo c)
        |none=>match rdy.mapM fun i=>(vl[i]?).bind fun vo=>(xn ops vl bs n (listed.setIfInBounds i true)).map (VC.one vo)with
          |some l=>Et l
          |none=>none
def RY:Op->Bool
  | .send .. | .recv .. =>true
  |_=>false
def Wr (P:Program) (nt site0:Nat) (ops:Array Oper) (draw:Bool) (mode:Nat):Option VC:=
  if draw&&mode==2 then
    match allM (mm P ops nt site0 true false (j5 ops) (ops.toList.zipIdx.map fun(o,i)=>(i,((tK P o.op).map tn).getD false))) ops.toList 0 with
    |some vl=>xn ops vl (j5 ops) ops.size (Array.replicate ops.size false)
    |none=>none
  else if !draw&&ops.any (fun o=>RY o.op)then(tW P nt site0 ops false false).map VC.SN
  else(tW P nt site0 ops draw (mode==1)).map (VC.fV draw)
def wj (md:List (Nat×Nat)) (id:Nat):Nat:=
  match md with
  |[]=>0
  |(i,m)::r=>if i=id then m else wj r id
def js (P:Program) (md:List (Nat×Nat)) (nt fid:Nat):Code->Option VC
  | .skip=>some .skip
  | .region id ops draw=>Wr P nt ((fid*1000+id)*1000) ops draw (wj md id)
  | .seq a b=>do pure (.seq (<-js P md nt fid a) (<-js P md nt fid b))
  | .cond c x y=>do pure (.cond (<-cO P c) (<-js P md nt fid x) (<-js P md nt fid y))
  | .block id c=>(js P md nt fid c).map (VC.block id)
  | .loop c=>(js P md nt fid c).map VC.loop
  | .exit id=>some (.exit id)
  | .ret=>some .ret
  | .label _=>some .skip
  | .scope c=>js P md nt fid c
  |_=>none
def G4 (P:Program) (r:ResultVar):Option rL:=
  match r with
  | .tmp t=>some (.tmp t)
  | .cell a t=>do pure (.cell (<-nM P t) (<-eO P t) a)
def xu (P:Program) (f:Nat) (md:List (Nat×Nat)):Option Iz:=
  match P.funcs[f]? with
  |some fn=>match fn.body with
    |some c=>do
      let b <-js P md fn.ntmps f c
      let r <-fn.results.toList.mapM (G4 P)
      if fn.params.size+fn.nfree<=fn.ntmps then pure {ntmps:=fn.ntmps,BS:=fn.params.size+fn.nfree,body:=b,res:=r}else none
    |none=>none
  |none=>none
def CC (P:Program) (f:Nat):Option Iz:=xu P f []
theorem ae {P:Prop} (h:P:=by omega):P:=h
theorem aH {P:Prop} (h:P:=by(try dsimp only);omega):P:=h
structure Row where
 w:Bool
 sz:Nat
 rows:List (List AV)
abbrev Rows:=Id->Option Row
structure ax where
 get:Rows
 next:Nat
abbrev Env:=Nat->AV
def upd (env:Env):Option Nat->AV->Env
 |some d,v=>fun t=>if t=d then v else env t
 |none,_=>env
inductive Ex where
 |normal
 |exit (id:Nat)
 |ret
 deriving DecidableEq
def dj (env:Env):O->AV
 | .t n=>env n
 | .k c=>c.av
 | .ka cs=>.agg (cs.map K.av)
 | .f n=>.fn n []
def bI (g:Rows) (id:Id) (r:Row):Rows:=fun i=>if i=id then some r else g i
def bY (g:Rows) (id:Id):Rows:=fun i=>if i=id then none else g i
def fA:List Nat->Nat->Rows->Rows
 |[],_,g=>g
 |h::t,n,g=>fun id=>if (h::t).contains id.site=true/\id.bq=n then none else g id
def ro (g:Rows):Rows:=fun id=>(g id).map fun r=>{r with w:=false}
def part (agg:Bool) (n:Nat) (cs:List AV):Option AV:=
 if agg then(if n<=cs.length then some (.agg (cs.take n))else none)else cs.head?
def rowAt (g:Rows) (id:Id) (i:Nat):Option (List AV):=(g id).bind (·.rows[i]?)
def ld (g:Rows) (agg:Bool) (n:Nat):AV->Option AV
 | .ptr id i off=>(rowAt g id i).bind fun cs=>part agg n (cs.drop off)
 | .ef cs=>part agg n cs
 |_=>none
def dp:BinOp->IntKind->Int->Int->Option AV
 | .add,k,a,b=>some (.int k (k.wrap (a+b)))
 | .sub,k,a,b=>some (.int k (k.wrap (a-b)))
 | .mul,k,a,b=>some (.int k (k.wrap (a*b)))
 | .quo,k,a,b=>if b=0 then none else some (.int k (k.wrap (a.tdiv b)))
 | .rem,k,a,b=>if b=0 then none else some (.int k (a.tmod b))
 | .lss,_,a,b=>some (.bool (decide (a<b)))
 | .leq,_,a,b=>some (.bool (decide (a<=b)))
 | .gtr,_,a,b=>some (.bool (decide (b<a)))
 | .geq,_,a,b=>some (.bool (decide (b<=a)))
 | .and,k,a,b=>some (.int k (k.wrap (BitVec.ofInt k.bits a&&& BitVec.ofInt k.bits b).toNat))
 | .or,k,a,b=>some (.int k (k.wrap (BitVec.ofInt k.bits a|||BitVec.ofInt k.bits b).toNat))
 | .xor,k,a,b=>some (.int k (k.wrap (BitVec.ofInt k.bits a ^^^ BitVec.ofInt k.bits b).toNat))
 |_,_,_,_=>none
def dI (op:BinOp):AV->AV->Option AV
 | .int k a,.int k' b=>if k=k' then dp op k a b else none
 |_,_=>none
def fU (left:Bool):AV->AV->Option AV
 | .int k a,.int _ b=>if b<0 then none else some (.int k (if left then k.wrap (a*2 ^ min b.toNat k.bits)else a.fdiv (2 ^ min b.toNat k.bits)))
 |_,_=>none
def dS:BinOp->ByteArray->ByteArray->Option AV
 | .add,a,b=>if a.size+b.size<=9223372036854775807 then some (.str (a++b))else none
 | .lss,a,b=>some (.bool (Op.bytesLess a.toList b.toList))
 | .leq,a,b=>some (.bool (Op.bytesLess a.toList b.toList||(a.toList==b.toList)))
 | .gtr,a,b=>some (.bool !(Op.bytesLess a.toList b.toList||(a.toList==b.toList)))
 | .geq,a,b=>some (.bool !(Op.bytesLess a.toList b.toList))
 |_,_,_=>none
def cY (op:BinOp):AV->AV->Option AV
 | .str a,.str b=>dS op a b
 |_,_=>none
def fu:TS->AV->AV->Option Bool
 | .tI,.int k a,.int k' b=>if k=k' then some (decide (a=b))else none
 | .tB,.bool a,.bool b=>some (a==b)
 | .tS,.str a,.str b=>some (decide (a=b))
 |_,_,_=>none
def eP:List TS->List AV->List AV->Option Bool
 |[],[],[]=>some true
 |t::ts,a::r,b::s=>match fu t a b,eP ts r s with
  |some x,some y=>some (x&&y)
  |_,_=>none
 |_,_,_=>none
def dh (neg b:Bool):Bool:=if neg then !b else b
def cW:AV->Option Bool
 | .bj=>some true
 | .own _ _ _=>some false
 | .sl (_::_)=>some false
 |_=>none
def cV:AV->Option Bool
 | .jV=>some true
 | .fn _ _=>some false
 |_=>none
def Oy:AV->Option Bool
 | .iU=>some true
 | .ptr .. | .ef _=>some false
 |_=>none
def dL (Qk:Bool) (x:AV):Option Bool:=if Qk then cV x else cW x
def dy (len:Nat):Option AV->Option Nat
 |none=>some len
 |some (.int _ n)=>if 0<=n/\n<=len then some n.toNat else none
 |_=>none
def dz (h:Nat):Option AV->Option Nat
 |none=>some 0
 |some (.int _ n)=>if 0<=n/\n<=h then some n.toNat else none
 |_=>none
def bP (g:Rows) (sz:Nat) (x:AV) (lo hi:Option AV):Option AV:=
 match x with
 | .bj=>(dy 0 hi).bind fun h=>(dz h lo).map fun _=>.bj
 | .sl rows=>(dy rows.length hi).bind fun h=>(dz h lo).bind fun l=>if ∀cs∈rows,cs.length=sz then some (.sl ((rows.drop l).take (h-l)))else none
 | .own id off len=>(g id).bind fun r=>(dy len hi).bind fun h=>(dz h lo).bind fun l=>if r.sz=sz then some (.own id (off+l) (h-l))else none
 |_=>none
def aW (x:AV) (lo hi:Option AV):Option AV:=
 match x with
 | .str s=>(dy s.size hi).bind fun h=>(dz h lo).map fun l=>.str (s.extract l h)
 |_=>none
def Ij (off:Nat):AV->Option AV
 | .ptr id i o=>some (.ptr id i (o+off))
 | .ef cs=>some (.ef (cs.drop off))
 |_=>none
def bL (g:Rows) (sz:Nat):AV->AV->Option AV
 | .sl rows,.int _ n=>if 0<=n then(rows[n.toNat]?).bind fun cs=>if cs.length=sz then some (.ef cs)else none else none
 | .own id off len,.int _ n=>if 0<=n/\n<len then(g id).bind fun r=>if r.sz=sz then some (.ptr id (off+n.toNat) 0)else none else none
 |_,_=>none
def cK (len sz:Nat):AV->AV->Option AV
 | .ptr id r off,.int _ n=>if 0<=n/\n<len then some (.ptr id r (off+n.toNat*sz))else none
 | .ef cs,.int _ n=>if 0<=n/\n<len then some (.ef (cs.drop (n.toNat*sz)))else none
 |_,_=>none
def cP:AV->AV->Option AV
 | .str s,.int _ n=>if 0<=n then(s[n.toNat]?).map fun b=>.int .u8 b.toNat else none
 |_,_=>none
def cL (agg:Bool) (len n:Nat):AV->AV->Option AV
 | .agg cs,.int _ i=>if 0<=i/\i<len then part agg n (cs.drop (i.toNat*n))else none
 |_,_=>none
def dF:AV->Option Nat
 | .bj=>some 0
 | .sl rows=>some rows.length
 | .own _ _ n=>some n
 |_=>none
def dM:AV->Option AV
 | .bool b=>some (.bool !b)
 |_=>none
def dK:AV->Option AV
 | .int k n=>some (.int k (k.wrap (0-n)))
 |_=>none
def cJ (k:IntKind):AV->Option AV
 | .int _ n=>some (.int k (k.wrap n))
 |_=>none
def bU:AV->Option AV
 | .str s=>some (.str s)
 |_=>none
def cX:AV->AV->AV->Option AV
 | .bool c,a,b=>some (if c then a else b)
 |_,_,_=>none
def dJ:AV->Option AV
 | .ptr id i o=>some (.ptr id i o)
 | .ef cs=>some (.ef cs)
 |_=>none
def bK (agg:Bool) (off n:Nat):AV->Option AV
 | .agg cs=>if off+n<=cs.length then part agg n (cs.drop off)else none
 |_=>none
def aJ (i:Nat):AV->Option AV
 | .fP vs=>vs[i]?
 |_=>none
def cR:AV->Option AV
 | .str s=>some (.int .i64 s.size)
 |_=>none
def rowOf (sz:Nat) (v:AV):Option (List AV):=if v.cells.length=sz/\v.cells.all AV.cell then some v.cells else none
def cH (v:AV):Option (List AV):=if v.cells.all AV.cell then some v.cells else none
def rowsOf (sz:Nat):List AV->Option (List (List AV))
 |[]=>some []
 |v::r=>(rowOf sz v).bind fun c=>(rowsOf sz r).map fun cs=>c::cs
def cu:List AV->List (Nat×Nat×AV)->Option (List AV)
 |cs,[]=>some cs
 |cs,(off,n,v)::r=>if v.cells.length=n/\off+n<=cs.length/\v.cells.all AV.cell then cu (cs.take off++v.cells++cs.drop (off+n)) r else none
def dv:Nat:=16777216
def fS (zero:List K):AV->AV->Option (Nat×Row)
 | .int _ l,.int _ c=>if 0<=l/\l<=c/\c<=dv then some (l.toNat,⟨true,zero.length,List.replicate l.toNat (zero.map K.av)⟩)else none
 |_,_=>none
def xE:Nat:=1000000000
def MK.ks (m:MK):Nat:=m.ts.length
def MK.j4 (m:MK):Nat:=xE+m.ks
def AV.isAgg:AV->Bool
 | .agg _=>true
 |_=>false
def gG (m:MK) (key:List AV):List (List AV)->Nat->Option (Option Nat)
 |[],_=>some none
 |r::l,i=>match eP m.ts key (r.take m.ks)with
  |some true=>some (some i)
  |some false=>gG m key l (i+1)
  |none=>none
def dD (g:Rows) (m:MK):AV->Option (Id×Row)
 | .map id m'=>if m'=m then(g id).map fun r=>(id,r)else none
 |_=>none
def gC (m:MK) (k:AV) (rows:List (List AV)):Option (Option Nat):=if k.isAgg=m.ka/\k.cells.length=m.ks/\k.cells.all AV.cell then gG m k.cells rows 0 else none
def dH (m:MK) (z:K) (rows:List (List AV)):Option Nat->Option AV
 |some i=>(rows[i]?).bind fun cs=>cs[m.ks]?
 |none=>some z.av
def bt (q:MQ) (vs:List AV) (g:Rows) (id:Id):Option (AV×Option Row):=
 match q,vs with
 | .new m,[]=>some (.map id m,some ⟨true,m.j4,[]⟩)
 | .look m ok z,[x,k]=>(dD g m x).bind fun p=>(gC m k p.2.rows).bind fun fi=>(dH m z p.2.rows fi).map fun v=>(if ok then .fP [v,.bool fi.isSome]else v,none)
 | .len m,[x]=>(dD g m x).map fun p=>(.int .i64 p.2.rows.length,none)
 |_,_=>none
def ua:Nat:=2000000000
def cU:AV->Option Nat
 | .int _ n=>if 0<=n/\n<=1048576 then some n.toNat else none
 |_=>none
def cQ (g:Rows):AV->Option AV
 | .tX id=>(g id).map fun r=>.int .i64 r.rows.length
 |_=>none
def dQ (g:Rows):AV->AV->Option Rows
 | .tX id,v=>(g id).bind fun r=>if r.w/\ua+r.rows.length<r.sz/\v.cell then some (bI g id {r with rows:=r.rows++[[v]]})else none
 |_,_=>none
def dP (g:Rows):AV->Option (AV×Rows)
 | .tX id=>(g id).bind fun r=>match r.rows with
  |[v]::rest=>if r.w then some (v,bI g id {r with rows:=rest})else none
  |_=>none
 |_=>none
def dr (rows:List (List AV)) (e:List AV):Option Nat->List (List AV)
 |some i=>rows.set i e
 |none=>rows++[e]
def dq (rows:List (List AV)):Option Nat->List (List AV)
 |some i=>rows.eraseIdx i
 |none=>rows
def bF (q:MW) (vs:List AV) (g:Rows):Option Rows:=
 match q,vs with
 | .set m,[x,k,v]=>(dD g m x).bind fun p=>(gC m k p.2.rows).bind fun fi=>if p.2.w/\v.cell/\v.isAgg=false then some (bI g p.1 {p.2 with rows:=dr p.2.rows (k.cells++[v]) fi})else none
 | .del m,[x,k]=>(dD g m x).bind fun p=>(gC m k p.2.rows).bind fun fi=>if p.2.w then some (bI g p.1 {p.2 with rows:=dq p.2.rows fi})else none
 |_,_=>none
def rP (k:Nat):Id:=⟨999000000+k,0⟩
def fQ (g:Rows) (k:Nat):Option AV:=(rowAt g (rP k) 0).bind fun cs=>match cs with
 |[.err j t s]=>if j=k then some (.err k t s)else none
 |_=>none
def eB (o:iA) (ρ:O->AV) (g:Rows) (id:Id):Option (AV×Option Row):=
 match o with
 | .eW x=>some (ρ x,none)
 | .pick c a b=>(cX (ρ c) (ρ a) (ρ b)).map (·,none)
 | .new zero=>some (.ptr id 0 0,some ⟨true,zero.length,[zero.map K.av]⟩)
 | .box x=>(cH (ρ x)).map fun cs=>(.ptr id 0 0,some ⟨true,cs.length,[cs]⟩)
 | .build zero parts=>(cu (zero.map K.av) (parts.map fun(o,n,x)=>(o,n,ρ x))).map fun cs=>(.agg cs,none)
 | .fW sz len parts=>(rowsOf sz (parts.map ρ)).map fun rs=>(.own id 0 len,some ⟨true,sz,rs⟩)
 | .load agg n a=>(ld g agg n (ρ a)).map (·,none)
 | .LA x=>(dJ (ρ x)).map (·,none)
 | .bin op _ x y=>(dI op (ρ x) (ρ y)).map (·,none)
 | .sh left x y=>(fU left (ρ x) (ρ y)).map (·,none)
 | .yG op x y=>(cY op (ρ x) (ρ y)).map (·,none)
 | .Yz neg t x y=>(fu t (ρ x) (ρ y)).map fun b=>(.bool (dh neg b),none)
 | .Yx neg ts x y=>match ρ x,ρ y with
  | .agg xs,.agg ys=>(eP ts xs ys).map fun b=>(.bool (dh neg b),none)
  |_,_=>none
 | .Wy neg Qk x=>(dL Qk (ρ x)).map fun b=>(.bool (dh neg b),none)
 | .Yy neg x=>(Oy (ρ x)).map fun b=>(.bool (dh neg b),none)
 | .not x=>(dM (ρ x)).map (·,none)
 | .neg x=>(dK (ρ x)).map (·,none)
 | .conv k x=>(cJ k (ρ x)).map (·,none)
 | .IG x=>(bU (ρ x)).map (·,none)
 | .slice sz x lo hi=>(bP g sz (ρ x) (lo.map ρ) (hi.map ρ)).map (·,none)
 | .DD x lo hi=>(aW (ρ x) (lo.map ρ) (hi.map ρ)).map (·,none)
 | .fa off x=>(Ij off (ρ x)).map (·,none)
 | .field agg off n x=>(bK agg off n (ρ x)).map (·,none)
 | .kR sz x i=>(bL g sz (ρ x) (ρ i)).map (·,none)
 | .Qd len sz x i=>(cK len sz (ρ x) (ρ i)).map (·,none)
 | .Qf x i=>(cP (ρ x) (ρ i)).map (·,none)
 | .dm agg len n x i=>(cL agg len n (ρ x) (ρ i)).map (·,none)
 | .extract i x=>(aJ i (ρ x)).map (·,none)
 | .len x=>(dF (ρ x)).map fun(n:Nat)=>(AV.int .i64 (n:Int),none)
 | .Qt x=>(cR (ρ x)).map (·,none)
 | .Qv f dG=>some (.fn f (dG.map ρ),none)
 | .Qw f first=>some (.xh f (first.map ρ),none)
 | .rf zero l c=>(fS zero (ρ l) (ρ c)).map fun(n,r)=>(.own id 0 n,some r)
 | .mq q xs=>bt q (xs.map ρ) g id
 | .NB x=>(cU (ρ x)).map fun n=>(.tX id,some ⟨true,ua+n,[]⟩)
 | .Nw x=>(cQ g (ρ x)).map (·,none)
 | .IV k=>(fQ g k).map (·,none)
 |_=>none
def br (g:Rows):AV->Option (List (List AV))
 | .bj=>some []
 | .sl rows=>some rows
 | .own id off len=>(g id).bind fun r=>if off+len<=r.rows.length then some ((r.rows.drop off).take len)else none
 |_=>none
def cF (cs:List AV) (off:Nat) (xs:List AV):List AV:=cs.take off++xs++cs.drop (off+xs.length)
def bQ (g:Rows) (n:Nat) (v:AV):AV->Option Rows
 | .ptr id i off=>(g id).bind fun r=>(r.rows[i]?).bind fun cs=>
  if r.w/\v.cells.length=n/\v.cells.all AV.cell/\off+n<=cs.length then some (bI g id {r with rows:=r.rows.set i (cF cs off v.cells)})else none
 |_=>none
def aU (g:Rows) (id:Id) (sz:Nat) (x:AV) (ys:List (List AV)):Option (AV×Rows):=
 match x with
 | .bj=>match ys with
  |[]=>some (.bj,g)
  |y::r=>if (y::r).length<=dv/\(y::r).all (fun c=>c.length==sz&&c.all AV.cell)then some (.own id 0 (y::r).length,bI g id ⟨true,sz,y::r⟩)else none
 | .own i 0 len=>(g i).bind fun r=>
  if r.w/\r.sz=sz/\len=r.rows.length/\len+ys.length<=dv/\ys.all (fun c=>c.length==sz&&c.all AV.cell)then some (.own id 0 (len+ys.length),bI (bY g i) id ⟨true,sz,r.rows++ys⟩)else none
 |_=>none
def Jy (g:Rows) (sz:Nat) (x:AV) (ys:List (List AV)):Option (AV×Rows):=
 match x with
 | .own i off len=>(g i).bind fun r=>
  if r.w/\r.sz=sz/\off+len<=r.rows.length/\ys.all (fun c=>c.length==sz&&c.all AV.cell)then
   some (.int .i64 (min ys.length len:Nat),bI g i {r with rows:=r.rows.take off++ys.take (min ys.length len)++r.rows.drop (off+min ys.length len)})else none
 |_=>none
def bJ (g:Rows) (zero:List K) (x:AV):Option Rows:=
 match x with
 | .bj=>some g
 | .own i off len=>(g i).bind fun r=>
  if r.w/\r.sz=zero.length/\off+len<=r.rows.length then
   some (bI g i {r with rows:=r.rows.take off++List.replicate len (zero.map K.av)++r.rows.drop (off+len)})else none
 |_=>none
def fC (o:iA) (ρ:O->AV) (g:Rows) (id:Id):Option (AV×Rows):=
 match o with
 | .store n a x=>(bQ g n (ρ x) (ρ a)).map fun g'=>(.undef,g')
 | .append sz x y=>(br g (ρ y)).bind fun ys=>aU g id sz (ρ x) ys
 | .copy sz x y=>(br g (ρ y)).bind fun ys=>Jy g sz (ρ x) ys
 | .clear zero x=>(bJ g zero (ρ x)).map fun g'=>(.undef,g')
 | .mw q xs=>(bF q (xs.map ρ) g).map fun g'=>(.undef,g')
 |_=>none
def yy:AV->List AV->Option (Nat×List AV)
 | .fn f dG,l=>some (f,l++dG)
 | .xh f first,l=>some (f,first++l)
 |_,_=>none
abbrev gq:=Nat->List AV->ax->(AV->ax->Prop)->Prop
mutual
def fz (g:Rows):Nat->AV->Option AV
 |0,_=>none
 |n+1,a=>match a with
  | .own id off len=>match g id with
   |some r=>if r.w then(if off+len<=r.rows.length then(fF g n ((r.rows.drop off).take len)).map AV.sl else none)else none
   |none=>none
  | .ptr id i off=>match g id with
   |some r=>if r.w then(match r.rows[i]? with
    |some cs=>(eI g n (cs.drop off)).map AV.ef
    |none=>none)else none
   |none=>none
  | .agg cs=>(eI g n cs).map AV.agg
  | .fP vs=>(eI g n vs).map AV.fP
  | .fn f dG=>if dG.all AV.cell then(eI g n dG).map (AV.fn f)else none
  | .map _ _| .xh _ _| .tX _=>none
  |v=>some v
 termination_by n _=>(n,0)
def eI (g:Rows):Nat->List AV->Option (List AV)
 |n,[]=>some []
 |n,a::r=>match fz g n a with
  |some b=>(eI g n r).map (b::·)
  |none=>none
 termination_by n l=>(n,l.length+1)
def fF (g:Rows):Nat->List (List AV)->Option (List (List AV))
 |n,[]=>some []
 |n,c::r=>match eI g n c with
  |some b=>(fF g n r).map (b::·)
  |none=>none
 termination_by n l=>(n,(l.map (fun c=>c.length+2)).sum+1)
 decreasing_by all_goals simp_wf;try omega
end
mutual
def iu (g:Rows):Nat->AV->Option AV
 |0,_=>none
 |n+1,a=>match a with
  | .own id off len=>match g id with
   |some r=>if r.w then(if off+len<=r.rows.length then(gI g n ((r.rows.drop off).take len)).map AV.sl else none)else none
   |none=>none
  | .ptr id i off=>match g id with
   |some r=>if r.w then(match r.rows[i]? with
    |some cs=>(eY g n (cs.drop off)).map AV.ef
    |none=>none)else none
   |none=>none
  | .agg cs=>(eY g n cs).map AV.agg
  | .fP vs=>(eY g n vs).map AV.fP
  | .int k m=>some (.int k m)
  | .bool b=>some (.bool b)
  | .str s=>some (.str s)
  | .bj=>some .bj
  | .iU=>some .iU
  | .jV=>some .jV
  | .j6=>some .j6
  | .jB=>some .jB
  |_=>none
 termination_by n _=>(n,0)
def eY (g:Rows):Nat->List AV->Option (List AV)
 |n,[]=>some []
 |n,a::r=>match iu g n a with
  |some b=>(eY g n r).map (b::·)
  |none=>none
 termination_by n l=>(n,l.length+1)
def gI (g:Rows):Nat->List (List AV)->Option (List (List AV))
 |n,[]=>some []
 |n,c::r=>match eY g n c with
  |some b=>(gI g n r).map (b::·)
  |none=>none
 termination_by n l=>(n,(l.map (fun c=>c.length+2)).sum+1)
 decreasing_by all_goals simp_wf;try omega
end
def eD (g:Rows):Rows:=fun id=>(g id).map fun r=>{r with w:=true}
def PC (X:gq) (f:Nat) (args:List AV) (σ:ax) (K:AV->Prop):Prop:=
 X f args ⟨ro σ.get,σ.next⟩ fun r σ'=>∃r',fz σ'.get 6 r=some r'/\K r'
def PCv (X:gq) (f:Nat) (args:List AV) (σ:ax) (K:AV->Prop):Prop:=
 ∃args',eI (eD σ.get) 6 args=some args'/\X f args' ⟨fun _=>none,σ.next⟩ fun r σ'=>∃r',iu σ'.get 6 r=some r'/\K r'
def fB (X:gq) (f:Nat) (args:List AV) (σ:ax) (K:AV->Prop):Prop:=PC X f args σ K∨PCv X f args σ K
def aL (g:Option (Nat×Bool)) (env:Env):Bool:=
 match g with
 |none=>true
 |some (t,b)=>match env t with
  | .bool c=>c==b
  |_=>false
def AV.plain:AV->Bool
 | .int .. | .bool _| .str _| .bj| .iU| .jV| .j6| .jB=>true
 |_=>false
def CM (X:gq) (f:Nat) (args:List AV) (σ:ax) (sz:Nat) (rows:List (List AV)):Prop:=
 (∀c∈rows,∀a∈c,a.plain=true)/\∃args',eI (eD σ.get) 6 args=some args'/\X f args' ⟨fun _=>none,σ.next⟩ fun r σ'=>∃id,r=.own id 0 rows.length/\σ'.get id=some ⟨true,sz,rows⟩
def cD (X:gq) (draw:Bool) (hid:List Nat) (site:Nat) (f:Nat) (args:List AV) (σ:ax) (next:AV->ax->Prop):Prop:=
 (∃r,fB X f args ⟨fA hid σ.next σ.get,σ.next+1⟩ (fun r'=>r'=r)/\next r σ)∨
 (draw=false/\X f args ⟨σ.get,σ.next+1⟩ next)∨
 (hid.contains site=true/\∃sz rows,CM X f args ⟨fA hid σ.next σ.get,σ.next+1⟩ sz rows/\next (.own ⟨site,σ.next⟩ 0 rows.length) ⟨bI σ.get ⟨site,σ.next⟩ ⟨true,sz,rows⟩,σ.next⟩)
def fq (X:gq) (draw:Bool) (o:bD) (env:Env) (σ:ax) (next:AV->ax->Prop):Prop:=
 match o.op with
 | .call f args=>cD X draw o.hid o.site f (args.map (dj env)) σ next
 | .wR x args=>match dj env x with
  | .fn f dG=>cD X draw o.hid o.site f (args.map (dj env)++dG) σ next
  | .xh f first=>cD X draw o.hid o.site f (first++args.map (dj env)) σ next
  |_=>False
 | .store .. | .append .. | .copy .. | .clear .. | .mw .. =>match fC o.op (dj env) σ.get ⟨o.site,σ.next⟩with
  |some (v,g)=>next v ⟨g,σ.next⟩
  |none=>False
 |_=>match eB o.op (dj env) (fA o.hid σ.next σ.get) ⟨o.site,σ.next⟩with
  |some (v,some r)=>next v ⟨bI σ.get ⟨o.site,σ.next⟩ r,σ.next⟩
  |some (v,none)=>next v σ
  |none=>False
def wpOps (X:gq) (draw:Bool):List bD->(Env->ax->Prop)->Env->ax->Prop
 |[],K,env,σ=>K env ⟨σ.get,σ.next+1⟩
 |o::r,K,env,σ=>
  if aL o.guard env then fq X draw o env σ fun v σ'=>wpOps X draw r K (upd env o.dst v) σ'
  else wpOps X draw r K (upd env o.dst .undef) σ
def cq:List bD->(Env->ax->Prop)->Env->ax->Prop
 |[],K,env,σ=>K env ⟨σ.get,σ.next+1⟩
 |o::r,K,env,σ=>o.guard=none/\match o.op with
  | .snd x y=>match dQ σ.get (dj env x) (dj env y)with
   |some g=>cq r K (upd env o.dst .undef) ⟨g,σ.next⟩
   |none=>False
  | .Uo x=>match dP σ.get (dj env x)with
   |some (v,g)=>cq r K (upd env o.dst v) ⟨g,σ.next⟩
   |none=>False
  |op=>match eB op (dj env) σ.get ⟨o.site,σ.next⟩with
   |some (v,none)=>cq r K (upd env o.dst v) σ
   |_=>False
def de (next:Env->ax->Prop) (Q:Ex->Env->ax->Prop):Ex->Env->ax->Prop
 | .normal=>next
 |e=>Q e
def bd (id:Nat) (Q:Ex->Env->ax->Prop):Ex->Env->ax->Prop
 | .exit lG=>if lG=id then Q .normal else Q (.exit lG)
 |e=>Q e
def zq (W:(Ex->Env->ax->Prop)->Env->ax->Prop) (Q:Ex->Env->ax->Prop):Nat->Env->ax->Prop
 |0=>fun _ _=>False
 |n+1=>W (de (zq W Q n) Q)
def Qu (t s:Nat) (y:O) (env:Env) (n:Nat):Prop:=(∃len,env t=.own ⟨s,n⟩ 0 len)/\∀id o l,dj env y=.own id o l->id.bq≠n
def ea (X:gq):VC->(Ex->Env->ax->Prop)->Env->ax->Prop
 | .skip,Q=>Q .normal
 | .fV draw ops,Q=>wpOps X draw ops (Q .normal)
 | .seq a b,Q=>ea X a (de (ea X b Q) Q)
 | .cond c x y,Q=>fun env σ=>match dj env c with
  | .bool b=>if b then ea X x Q env σ else ea X y Q env σ
  |_=>False
 | .block id c,Q=>ea X c (bd id Q)
 | .loop c,Q=>fun env σ=>∃n,zq (ea X c) Q n env σ
 | .exit id,Q=>Q (.exit id)
 | .ret,Q=>Q .ret
 | .one o c,Q=>fun env σ=>if aL o.guard env then fq X false o env σ fun v σ'=>ea X c Q (upd env o.dst v) σ' else ea X c Q (upd env o.dst .undef) σ
 | .both a b,Q=>fun env σ=>ea X a Q env σ/\ea X b Q env σ
 | .loc t s y c,Q=>fun env σ=>Qu t s y env σ.next/\ea X c Q env σ
 | .SN ops,Q=>cq ops (Q .normal)
def jj (env:Env) (g:Rows):rL->Option AV
 | .tmp t=>some (env t)
 | .cell agg n t=>ld g agg n (env t)
def gU (env:Env) (g:Rows):List rL->Option (List AV)
 |[]=>some []
 |r::l=>(jj env g r).bind fun v=>(gU env g l).map (v::·)
def hZ:List AV->AV
 |[v]=>v
 |l=>.fP l
def cj (args:List AV):Env:=fun t=>args.getD t .undef
def oe (res:List rL) (K:AV->ax->Prop):Ex->Env->ax->Prop
 | .exit _,_,_=>False
 |_,env,σ=>∃vs,gU env σ.get res=some vs/\K (hZ vs) σ
inductive lr (P:Program) (w:World) (D:Nat->Prop):AV->Value->Prop
 |int (k n):lr P w D (.int k n) (.int k n)
 |bool (b):lr P w D (.bool b) (.bool b)
 |str (s):lr P w D (.str s) (.string s)
 |bj:lr P w D .bj (.slice none 0 0)
 |iU:lr P w D .iU (.pointer none)
 |jV:lr P w D .jV .nilFunc
 |D6 (a c):c<=maxLen->lr P w D (.sl []) (.slice a 0 c)
 |sl (rows b o n c sz) (vs:Nat->Nat->Value):rows.length=n->n<=c->c<=maxLen->D b->(∀cs∈rows,cs.length=sz)->(∀cs∈rows,∀a∈cs,a.cell=true)->
   (∀i j,i<n->j<sz->w.cell? ⟨b,o+(i*sz+j),none⟩=some (vs i j))->
   (∀i j cs a,rows[i]? =some cs->cs[j]? =some a->lr P w D a (vs i j))->lr P w D (.sl rows) (.slice (some ⟨b,o,none⟩) n c)
 |ef (cs b o) (vs:Nat->Value):D b->(∀a∈cs,a.cell=true)->(∀j,j<cs.length->w.cell? ⟨b,o+j,none⟩=some (vs j))->
   (∀j a,cs[j]? =some a->lr P w D a (vs j))->lr P w D (.ef cs) (.pointer (some ⟨b,o,none⟩))
 |agg (cs) (vs:Array Value) (f:Nat->Value):vs.size=cs.length->(∀a∈cs,a.cell=true)->(∀j,j<cs.length->vs[j]? =some (f j))->(∀j a,cs[j]? =some a->lr P w D a (f j))->lr P w D (.agg cs) (.agg vs)
 |fn (f dG) (vs:Array Value) (g:Nat->Value):gR P f=true->vs.size=dG.length->(∀j,j<dG.length->vs[j]? =some (g j))->(∀j a,dG[j]? =some a->lr P w D a (g j))->lr P w D (.fn f dG) (.func (.func f) #[] vs)
 |j6:lr P w D .j6 (.map none)
 |jB:lr P w D .jB .nilIface
 |err (g t s a c ty):D g->w.cell? ⟨g,0,none⟩=some (.iface t (.pointer (some a)))->D a.block->w.heap[a.block]? =some (.cells c ty (0,0))->w.cell? a=some (.string s)->lr P w D (.err g t s) (.iface t (.pointer (some a)))
inductive BK where
 |map (m:MK)
 |chan (cap:Nat)
structure vz where
 b:Nat
 sz:Nat
 C:Nat
 k:Option BK
abbrev Names:=Id->Option vz
inductive du (P:Program) (w:World) (D:Nat->Prop) (ι:Names):AV->Value->Prop
 |eX (a v):lr P w D a v->du P w D ι a v
 |own (id off len o cap B):ι id=some B->B.k=none->len<=cap->(cap=0∨o=off*B.sz)->(off+cap)*B.sz<=B.C->cap<=maxLen->du P w D ι (.own id off len) (.slice (some ⟨B.b,o,none⟩) len cap)
 |ptr (id i off B):ι id=some B->B.k=none->du P w D ι (.ptr id i off) (.pointer (some ⟨B.b,i*B.sz+off,none⟩))
 |agg (cs) (vs:Array Value) (f:Nat->Value):vs.size=cs.length->(∀a∈cs,a.cell=true)->(∀j,j<cs.length->vs[j]? =some (f j))->(∀j a,cs[j]? =some a->du P w D ι a (f j))->du P w D ι (.agg cs) (.agg vs)
 |fP (cs) (vs:Array Value) (f:Nat->Value):vs.size=cs.length->(∀j,j<cs.length->vs[j]? =some (f j))->(∀j a,cs[j]? =some a->du P w D ι a (f j))->du P w D ι (.fP cs) (.tuple vs)
 |fn (f dG) (vs:Array Value) (g:Nat->Value):gR P f=true->vs.size=dG.length->(∀j,j<dG.length->vs[j]? =some (g j))->(∀j a,dG[j]? =some a->du P w D ι a (g j))->du P w D ι (.fn f dG) (.func (.func f) #[] vs)
 |tX (id c B):ι id=some B->B.k=some (.chan c)->du P w D ι (.tX id) (.chan (some B.b))
 |map (id m B):ι id=some B->B.k=some (.map m)->du P w D ι (.map id m) (.map (some B.b))
 |xh (f dG) (vs:Array Value) (g:Nat->Value):gR P f=true->vs.size=dG.length->(∀j,j<dG.length->vs[j]? =some (g j))->(∀j a,dG[j]? =some a->du P w D ι a (g j))->du P w D ι (.xh f dG) (.func (.func f) vs #[])
variable {P:Program} {w w':World} {D D':Nat->Prop} {ι ι':Names}
theorem lr.frame (hD:∀b,D b->w'.heap[b]? =w.heap[b]?) (hs:∀b,D b->D' b) {a:AV} {v:Value} (h:lr P w D a v):lr P w' D' a v:=by
 induction h with
 |int k n=>exact .int k n
 |bool b=>exact .bool b
 |str s=>exact .str s
 |bj=>exact .bj
 |iU=>exact .iU
 |jV=>exact .jV
 |j6=>exact .j6
 |jB=>exact .jB
 |err g t s a c ty h1 h2 h3 h4 h5=>exact .err g t s a c ty (hs g h1) ((World.cell?_of_block (hD g h1)).trans h2) (hs _ h3) ((hD _ h3).trans h4) ((World.cell?_of_block (hD _ h3)).trans h5)
 |D6 a c h=>exact .D6 a c h
 |sl rows b o n c sz vs h1 h2 h3 h4 h5 h5' h6 _ ih=>exact .sl rows b o n c sz vs h1 h2 h3 (hs b h4) h5 h5' (fun i j hi hj=>(World.cell?_of_block (hD b h4)).trans (h6 i j hi hj)) ih
 |ef cs b o vs h1 h1' h2 _ ih=>exact .ef cs b o vs (hs b h1) h1' (fun j hj=>(World.cell?_of_block (hD b h1)).trans (h2 j hj)) ih
 |agg cs vs f h1 h2 h3 _ ih=>exact .agg cs vs f h1 h2 h3 ih
 |fn f dG vs g h1 h2 h3 _ ih=>exact .fn f dG vs g h1 h2 h3 ih
theorem du.frame (hD:∀b,D b->w'.heap[b]? =w.heap[b]?) (hs:∀b,D b->D' b) (hι:∀id B,ι id=some B->ι' id=some B) {a:AV} {v:Value} (h:du P w D ι a v):du P w' D' ι' a v:=by
 induction h with
 |eX a v h=>exact .eX a v (h.frame hD hs)
 |map id m B h1 h2=>exact .map id m B (hι _ _ h1) h2
 |tX id c B h1 h2=>exact .tX id c B (hι _ _ h1) h2
 |own id off len o cap B h1 h2 h3 h4 h5 h6=>exact .own id off len o cap B (hι _ _ h1) h2 h3 h4 h5 h6
 |ptr id i off B h1 h2=>exact .ptr id i off B (hι _ _ h1) h2
 |agg cs vs f h1 h2 h3 _ ih=>exact .agg cs vs f h1 h2 h3 ih
 |fP cs vs f h1 h2 _ ih=>exact .fP cs vs f h1 h2 ih
 |fn f dG vs g h1 h2 h3 _ ih=>exact .fn f dG vs g h1 h2 h3 ih
 |xh f dG vs g h1 h2 h3 _ ih=>exact .xh f dG vs g h1 h2 h3 ih
theorem du.undef:du P w D ι .undef Go.undef:=.fP [] #[] (fun _=>Go.undef) rfl (fun j hj=>by simp at hj) (fun j a h=>by simp at h)
theorem zW (c:K):du P w D ι c.av c.val:=by
 cases c with
 |int k n=>exact .eX _ _ (.int k n)
 |bool b=>exact .eX _ _ (.bool b)
 |str l=>exact .eX _ _ (.str _)
 |bj=>exact .eX _ _ .bj
 |iU=>exact .eX _ _ .iU
 |jV=>exact .eX _ _ .jV
 |j6=>exact .eX _ _ .j6
 |jB=>exact .eX _ _ .jB
theorem K.oI (c:K):c.av.cell=true:=by cases c<;>rfl
theorem Da {v:Value} {c:K} (h:Kz v=some c):v=c.val:=by
 unfold Kz at h
 split at h<;>simp at h<;>subst h<;>rfl
theorem du.EA {a:AV} {v:Value} (h:du P w D ι a v) (hc:a.cell=true):v.cells= #[v]/\(∀vs,v≠.agg vs)/\(∀vs,v≠.tuple vs):=by
 cases h with
 |eX a v h=>cases h<;>simp_all [AV.cell,Value.cells]
 |own=>simp[Value.cells]
 |map=>simp[Value.cells]
 |tX=>simp[Value.cells]
 |ptr=>simp[Value.cells]
 |agg=>simp[AV.cell]at hc
 |fP=>simp[AV.cell]at hc
 |fn=>simp[Value.cells]
 |xh=>simp[Value.cells]
theorem du.cells {a:AV} {v:Value} (h:du P w D ι a v) (ha:a.cells.all AV.cell=true):v.cells.size=a.cells.length/\∃f:Nat->Value,(∀j,j<a.cells.length->v.cells[j]? =some (f j))/\∀j x,a.cells[j]? =some x->du P w D ι x (f j):=by
 have one:∀(a:AV) (v:Value),a.cell=true->a.cells=[a]->du P w D ι a v->v.cells.size=a.cells.length/\∃f:Nat->Value,(∀j,j<a.cells.length->v.cells[j]? =some (f j))/\∀j x,a.cells[j]? =some x->du P w D ι x (f j):=by
  intro a v hc ek h
  obtain⟨h1,_,_⟩:=h.EA hc
  rw[h1,ek]
  refine⟨rfl,fun _=>v,fun j hj=>?_,fun j x hx=>?_⟩
  ·have:j=0:=by simp at hj;omega
   subst this;rfl
  ·cases j with
   |zero=>simp at hx;subst hx;exact h
   |succ j=>simp at hx
 cases h with
 |eX a v h=>
  cases h with
  |agg cs vs f h1 h2 h3 h4=>exact⟨h1,f,h3,fun j x hx=>.eX _ _ (h4 j x hx)⟩
  |_=>exact one _ _ rfl rfl (.eX _ _ (by constructor<;>assumption))
 |own id off len o cap B h1 h2 h3 h4 h5 h6=>exact one _ _ rfl rfl (.own id off len o cap B h1 h2 h3 h4 h5 h6)
 |ptr id i off B h1 h2=>exact one _ _ rfl rfl (.ptr id i off B h1 h2)
 |map id m B h1 h2=>exact one _ _ rfl rfl (.map id m B h1 h2)
 |tX id c B h1 h2=>exact one _ _ rfl rfl (.tX id c B h1 h2)
 |agg cs vs f h1 h2 h3 h4=>exact⟨h1,f,h3,h4⟩
 |fP cs vs f h1 h2 h3=>simp[AV.cells,AV.cell]at ha
 |fn f dG vs g h1 h2 h3 h4=>exact one _ _ rfl rfl (.fn f dG vs g h1 h2 h3 h4)
 |xh f dG vs g h1 h2 h3 h4=>exact one _ _ rfl rfl (.xh f dG vs g h1 h2 h3 h4)
structure lV (P:Program) (w:World) (D:Nat->Prop) (ι:Names) (B:vz) (r:Row):Prop where
 sz:B.sz=r.sz
 vd:∃cells T,w.heap[B.b]? =some (.cells cells T (0,0))/\cells.size=B.C
 fits:r.rows.length*r.sz<=B.C
 len:∀cs∈r.rows,cs.length=r.sz
 flat:∀cs∈r.rows,∀a∈cs,a.cell=true
 at_:∀i j cs a,r.rows[i]? =some cs->cs[j]? =some a->∃v,w.cell? ⟨B.b,i*r.sz+j,none⟩=some v/\du P w D ι a v
def Iy (es:Array MapEntry) (clock:Nat):Prop:=(∀x∈es.toList,x.born<clock)/\(es.toList.map (·.born)).Nodup
def Rn (P:Program) (w:World) (D:Nat->Prop) (ι:Names) (B:vz) (m:MK) (r:Row):Prop:=
 ∃(es:Array MapEntry) (clock:Nat),w.heap[B.b]? =some (.map es clock)/\es.size=r.rows.length/\((∀cs∈r.rows,cs.length=m.ks+1)/\Iy es clock)/\
  ∀(i:Nat) (cs:List AV),r.rows[i]? =some cs->∃(e:MapEntry) (kv vv:AV),es[i]? =some e/\part m.ka m.ks cs=some kv/\cs[m.ks]? =some vv/\du P w D ι kv e.key/\du P w D ι vv e.val
def LR (P:Program) (w:World) (D:Nat->Prop) (ι:Names) (B:vz) (c:Nat) (r:Row):Prop:=
 ∃(buf:Array Value) (s q:Nat),w.heap[B.b]? =some (.chan c buf false s q false)/\buf.size=r.rows.length/\
  ∀(i:Nat) (cs:List AV),r.rows[i]? =some cs->∃(a:AV) (u:Value),cs=[a]/\buf[i]? =some u/\du P w D ι a u
structure iM (P:Program) (w:World) (D:Nat->Prop) (ι:Names) (B:vz) (r:Row):Prop where
 sz:B.sz=r.sz
 flat:∀cs∈r.rows,∀a∈cs,a.cell=true
 row:B.k=none->lV P w D ι B r
 map:∀m,B.k=some (.map m)->r.sz=m.j4/\Rn P w D ι B m r
 chan:∀c,B.k=some (.chan c)->r.sz=ua+c/\LR P w D ι B c r
theorem lV.obj {B:vz} {r:Row} (R:lV P w D ι B r) (h:B.k=none):iM P w D ι B r:=⟨R.sz,R.flat,fun _=>R,fun m hm=>(by rw[h]at hm;cases hm),fun m hm=>by rw[h]at hm;cases hm⟩
theorem iM.flag {B:vz} {r:Row} (R:iM P w D ι B r) (b:Bool):iM P w D ι B {r with w:=b}:=⟨R.sz,R.flat,fun h=>⟨R.sz,(R.row h).vd,(R.row h).fits,(R.row h).len,R.flat,(R.row h).at_⟩,R.map,R.chan⟩
theorem iM.Qz {B:vz} {r:Row} (R:iM P w D ι B r) {c:Array Value} {T:TypeId} {z:Nat×Nat} (h:w.heap[B.b]? =some (.cells c T z)):B.k=none:=by
 cases hk:B.k with
 |none=>rfl
 |some m=>
  cases m with
  |map m=>obtain⟨_,es,c,h3,_⟩:=R.map m hk;rw[h]at h3;cases h3
  |chan c=>obtain⟨_,buf,s,q,h3,_⟩:=R.chan c hk;rw[h]at h3;cases h3
theorem iM.lt {B:vz} {r:Row} (R:iM P w D ι B r):B.b<w.heap.size:=by
 cases h:B.k with
 |none=>
  obtain⟨c,T,h3,_⟩:=(R.row h).vd
  exact(Array.getElem?_eq_some_iff.1 h3).1
 |some m=>
  cases m with
  |map m=>obtain⟨_,es,c,h3,_⟩:=R.map m h;exact(Array.getElem?_eq_some_iff.1 h3).1
  |chan c=>obtain⟨_,buf,s,q,h3,_⟩:=R.chan c h;exact(Array.getElem?_eq_some_iff.1 h3).1
structure ig (P:Program) (hs:Nat) (D:Nat->Prop) (ι:Names) (g:Rows) (w:World):Prop where
 lo:hs<=w.heap.size
 dead:∀b,D b->b<w.heap.size
 row:∀id r,g id=some r->∃B,ι id=some B/\iM P w D ι B r/\(r.w=true->hs<=B.b)/\(r.w=true->¬D B.b)
 inj:∀id lG r r' B B',g id=some r->g lG=some r'->r.w=true->ι id=some B->ι lG=some B'->B.b=B'.b->id=lG
def Used (ι:Names) (n:Nat) (U:Nat->Prop):Prop:=∀id,ι id≠none->id.bq<n∨(id.bq=n/\U id.site)
structure Step (hs:Nat) (D:Nat->Prop) (ι:Names) (w:World) (D':Nat->Prop) (ι':Names) (w':World):Prop where
 below:Below hs w w'
 Fy:∀b,D b->w'.heap[b]? =w.heap[b]?
 dead:∀b,D b->D' b
 names:∀id B,ι id=some B->ι' id=some B
 new:∀b,D' b->D b∨hs<=b
theorem Step.refl (hs:Nat) (D:Nat->Prop) (ι:Names) (w:World):Step hs D ι w D ι w:=⟨Below.refl _ _,fun _ _=>rfl,fun _ h=>h,fun _ _ h=>h,fun _ h=>.inl h⟩
theorem Step.trans {hs:Nat} {D D' D'':Nat->Prop} {ι ι' Yu:Names} {w w' Pg:World} (h:Step hs D ι w D' ι' w') (k:Step hs D' ι' w' D'' Yu Pg):Step hs D ι w D'' Yu Pg:=
 ⟨h.below.trans k.below,fun b hb=>(k.Fy b (h.dead b hb)).trans (h.Fy b hb),fun b hb=>k.dead b (h.dead b hb),fun id B hB=>k.names id B (h.names id B hB),fun b hb=>by
  rcases k.new b hb with hb|hb
  ·exact h.new b hb
  ·exact .inr hb⟩
theorem Step.rep {hs:Nat} {D D':Nat->Prop} {ι ι':Names} {w w':World} (h:Step hs D ι w D' ι' w') {a:AV} {v:Value} (hr:du P w D ι a v):du P w' D' ι' a v:=hr.frame h.Fy h.dead h.names
theorem eb {k n} {v:Value} (h:du P w D ι (.int k n) v):v=.int k n:=by
 cases h with
 |eX _ _ h=>cases h;rfl
theorem fR {b} {v:Value} (h:du P w D ι (.bool b) v):v=.bool b:=by
 cases h with
 |eX _ _ h=>cases h;rfl
theorem gK {s} {v:Value} (h:du P w D ι (.str s) v):v=.string s:=by
 cases h with
 |eX _ _ h=>cases h;rfl
theorem jM {v:Value} (h:du P w D ι .bj v):v=.slice none 0 0:=by
 cases h with
 |eX _ _ h=>cases h;rfl
theorem zY {v:Value} (h:du P w D ι .jV v):v=.nilFunc:=by
 cases h with
 |eX _ _ h=>cases h;rfl
theorem jo {cs} {v:Value} (h:du P w D ι (.agg cs) v):∃(vs:Array Value) (f:Nat->Value),v=.agg vs/\vs.size=cs.length/\(∀a∈cs,a.cell=true)/\(∀j,j<cs.length->vs[j]? =some (f j))/\∀j a,cs[j]? =some a->du P w D ι a (f j):=by
 cases h with
 |eX _ _ h=>
  cases h with
  |agg cs vs f h1 h2 h3 h4=>exact⟨vs,f,rfl,h1,h2,h3,fun j a h=>.eX _ _ (h4 j a h)⟩
 |agg cs vs f h1 h2 h3 h4=>exact⟨vs,f,rfl,h1,h2,h3,h4⟩
theorem xX {cs} {v:Value} (h:du P w D ι (.fP cs) v):∃(vs:Array Value) (f:Nat->Value),v=.tuple vs/\vs.size=cs.length/\(∀j,j<cs.length->vs[j]? =some (f j))/\∀j a,cs[j]? =some a->du P w D ι a (f j):=by
 cases h with
 |eX _ _ h=>cases h
 |fP cs vs f h1 h2 h3=>exact⟨vs,f,rfl,h1,h2,h3⟩
theorem wF {f dG} {v:Value} (h:du P w D ι (.fn f dG) v):∃(vs:Array Value) (g:Nat->Value),v=.func (.func f) #[] vs/\gR P f=true/\vs.size=dG.length/\(∀j,j<dG.length->vs[j]? =some (g j))/\∀j a,dG[j]? =some a->du P w D ι a (g j):=by
 cases h with
 |eX _ _ h=>
  cases h with
  |fn f dG vs g h1 h2 h3 h4=>exact⟨vs,g,rfl,h1,h2,h3,fun j a h=>.eX _ _ (h4 j a h)⟩
 |fn f dG vs g h1 h2 h3 h4=>exact⟨vs,g,rfl,h1,h2,h3,h4⟩
theorem NY {v:Value} (h:du P w D ι .iU v):v=.pointer none:=by
 cases h with
 |eX _ _ h=>cases h;rfl
theorem F4 {v:Value} (h:du P w D ι .j6 v):v=.map none:=by
 cases h with
 |eX _ _ h=>cases h;rfl
theorem zX {v:Value} (h:du P w D ι .jB v):v=.nilIface:=by
 cases h with
 |eX _ _ h=>cases h;rfl
theorem rm {g t s} {v:Value} (h:du P w D ι (.err g t s) v):∃a c ty,v=.iface t (.pointer (some a))/\D g/\w.cell? ⟨g,0,none⟩=some v/\D a.block/\w.heap[a.block]? =some (.cells c ty (0,0))/\w.cell? a=some (.string s):=by
 cases h with
 |eX _ _ h=>cases h with
  |err _ _ _ a c ty h1 h2 h3 h4 h5=>exact⟨a,c,ty,rfl,h1,h2,h3,h4,h5⟩
theorem QN {f dG} {v:Value} (h:du P w D ι (.xh f dG) v):∃(vs:Array Value) (g:Nat->Value),v=.func (.func f) vs #[]/\gR P f=true/\vs.size=dG.length/\(∀j,j<dG.length->vs[j]? =some (g j))/\∀j a,dG[j]? =some a->du P w D ι a (g j):=by
 cases h with
 |eX _ _ h=>cases h
 |xh f dG vs g h1 h2 h3 h4=>exact⟨vs,g,rfl,h1,h2,h3,h4⟩
theorem jq {id off len} {v:Value} (h:du P w D ι (.own id off len) v):∃o cap B,v=.slice (some ⟨B.b,o,none⟩) len cap/\ι id=some B/\len<=cap/\(cap=0∨o=off*B.sz)/\(off+cap)*B.sz<=B.C/\cap<=maxLen/\B.k=none:=by
 cases h with
 |eX _ _ h=>cases h
 |own id off len o cap B h1 h2 h3 h4 h5 h6=>exact⟨o,cap,B,rfl,h1,h3,h4,h5,h6,h2⟩
theorem jc {id i off} {v:Value} (h:du P w D ι (.ptr id i off) v):∃B,v=.pointer (some ⟨B.b,i*B.sz+off,none⟩)/\ι id=some B/\B.k=none:=by
 cases h with
 |eX _ _ h=>cases h
 |ptr id i off B h1 h2=>exact⟨B,rfl,h1,h2⟩
theorem QL {id} {v:Value} (h:du P w D ι (.tX id) v):∃B c,v=.chan (some B.b)/\ι id=some B/\B.k=some (.chan c):=by
 cases h with
 |eX _ _ h=>cases h
 |tX id c B h1 h2=>exact⟨B,c,rfl,h1,h2⟩
theorem Du {id m} {v:Value} (h:du P w D ι (.map id m) v):∃B,v=.map (some B.b)/\ι id=some B/\B.k=some (.map m):=by
 cases h with
 |eX _ _ h=>cases h
 |map id m B h1 h2=>exact⟨B,rfl,h1,h2⟩
theorem mH {cs} {v:Value} (h:du P w D ι (.ef cs) v):∃b o,∃vs:Nat->Value,v=.pointer (some ⟨b,o,none⟩)/\D b/\(∀a∈cs,a.cell=true)/\(∀j,j<cs.length->w.cell? ⟨b,o+j,none⟩=some (vs j))/\∀j a,cs[j]? =some a->lr P w D a (vs j):=by
 cases h with
 |eX _ _ h=>
  cases h with
  |ef cs b o vs h1 h2 h3 h4=>exact⟨b,o,vs,rfl,h1,h2,h3,h4⟩
theorem zZ {rows} {v:Value} (h:du P w D ι (.sl rows) v):∃A c,v=.slice A rows.length c/\rows.length<=c/\c<=maxLen/\
  (rows=[]∨∃b o sz,∃vs:Nat->Nat->Value,A=some ⟨b,o,none⟩/\D b/\(∀cs∈rows,cs.length=sz)/\(∀cs∈rows,∀a∈cs,a.cell=true)/\
   (∀i j,i<rows.length->j<sz->w.cell? ⟨b,o+(i*sz+j),none⟩=some (vs i j))/\∀i j cs a,rows[i]? =some cs->cs[j]? =some a->lr P w D a (vs i j)):=by
 cases h with
 |eX _ _ h=>
  cases h with
  |D6 a c h=>exact⟨a,c,rfl,Nat.zero_le _,h,.inl rfl⟩
  |sl rows b o n c sz vs h1 h2 h3 h4 h5 h5' h6 h7=>subst h1;exact⟨_,c,rfl,h2,h3,.inr ⟨b,o,sz,vs,rfl,h4,h5,h5',h6,h7⟩⟩
inductive ft:AV->Prop
 |int (k n):ft (.int k n)
 |bool (b):ft (.bool b)
 |str (s):ft (.str s)
 |bj:ft .bj
 |iU:ft .iU
 |jV:ft .jV
 |sl (rows):rows.length<=maxLen->(∀cs∈rows,∀a∈cs,ft a)->ft (.sl rows)
 |own (id off len):ft (.own id off len)
 |ptr (id i off):ft (.ptr id i off)
 |ef (cs):(∀a∈cs,ft a)->ft (.ef cs)
 |agg (cs):(∀a∈cs,ft a)->ft (.agg cs)
 |fP (cs):(∀a∈cs,ft a)->ft (.fP cs)
 |fn (f dG):(∀a∈dG,ft a)->ft (.fn f dG)
 |map (id m):ft (.map id m)
 |tX (id):ft (.tX id)
 |j6:ft .j6
 |jB:ft .jB
 |err (g t s):ft (.err g t s)
 |xh (f dG):(∀a∈dG,ft a)->ft (.xh f dG)
theorem ft.len {rows:List (List AV)} (h:ft (.sl rows)):rows.length<=9223372036854775807:=by
 cases h with
 |sl _ h _=>unfold maxLen at h;omega
theorem ft.Sy {cs:List AV} (h:ft (.agg cs)) {a:AV} (ha:a∈cs):ft a:=by
 cases h with
 |agg _ h=>exact h a ha
theorem ft.Fu {cs:List AV} (h:ft (.ef cs)) {a:AV} (ha:a∈cs):ft a:=by
 cases h with
 |ef _ h=>exact h a ha
theorem qz {l:List AV} {p:AV->Prop} (h:∀(j:Nat) (a:AV),l[j]? =some a->p a):∀a∈l,p a:=fun a ha=>by
 obtain⟨j,hj,rfl⟩:=List.getElem_of_mem ha
 exact h j _ (List.getElem?_eq_getElem hj)
theorem lr.Nv {a:AV} {v:Value} (h:lr P w D a v):ft a:=by
 induction h with
 |int k n=>exact .int k n
 |bool b=>exact .bool b
 |str s=>exact .str s
 |bj=>exact .bj
 |iU=>exact .iU
 |jV=>exact .jV
 |j6=>exact .j6
 |jB=>exact .jB
 |err g t s=>exact .err g t s
 |D6 a c h=>exact .sl [] (Nat.zero_le _) (fun cs h=>by cases h)
 |sl rows b o n c sz vs h1 h2 h3 h4 h5 h5' h6 _ ih=>
  exact .sl rows ae fun cs ek a ha=>by
   obtain⟨i,hi,rfl⟩:=List.getElem_of_mem ek
   obtain⟨j,hj,rfl⟩:=List.getElem_of_mem ha
   exact ih i j _ _ (List.getElem?_eq_getElem hi) (List.getElem?_eq_getElem hj)
 |ef cs b o vs h1 h1' h2 _ ih=>exact .ef cs (qz ih)
 |agg cs vs f h1 h2 h3 _ ih=>exact .agg cs (qz ih)
 |fn f dG vs g h1 h2 h3 _ ih=>exact .fn f dG (qz ih)
theorem du.Nv {a:AV} {v:Value} (h:du P w D ι a v):ft a:=by
 induction h with
 |eX a v h=>exact h.Nv
 |own id off len o cap B=>exact .own _ _ _
 |ptr id i off B=>exact .ptr _ _ _
 |map id m B=>exact .map _ _
 |tX id c B=>exact .tX _
 |agg cs vs f h1 h2 h3 _ ih=>exact .agg cs (qz ih)
 |fP cs vs f h1 h2 _ ih=>exact .fP cs (qz ih)
 |fn f dG vs g h1 h2 h3 _ ih=>exact .fn f dG (qz ih)
 |xh f dG vs g h1 h2 h3 _ ih=>exact .xh f dG (qz ih)
end Go.Proofs.YtainmfbpilopaaaGreatDoor.V

namespace Go.Proofs.YtainmfbpilopaaaGreatDoor.V
open Go.RowKit
variable {P:Program} {w w':World} {D D':Nat->Prop} {ι ι':Names}
def dc (P:Program) (w:World) (D:Nat->Prop) (ι:Names) (env:Env) (a:Act):Prop:=∀t,du P w D ι (env t) (a.tmps.getD t undef)
theorem uA {vs:List Value} {cs:List K} (h:vs.mapM Kz=some cs):cs.length=vs.length/\∀(j:Nat) (c:K),cs[j]? =some c->vs[j]? =some c.val:=by
 induction vs generalizing cs with
 |nil=>simp at h;subst h;simp
 |cons v r ih=>
  simp only[List.mapM_cons,Option.bind_eq_bind,Option.bind_eq_some_iff]at h
  obtain⟨c,hc,tZ,ek,h⟩:=h
  simp at h;subst h
  obtain⟨h1,h2⟩:=ih ek
  refine⟨by simp[h1],fun j d hd=>?_⟩
  cases j with
  |zero=>simp at hd ⊢;subst hd;exact Da hc
  |succ j=>simp at hd ⊢;exact h2 j d hd
theorem kAgg {vs:List Value} {cs:List K} (h:vs.mapM Kz=some cs):du P w D ι (.agg (cs.map K.av)) (.agg vs.toArray):=by
 obtain⟨h1,h2⟩:=uA h
 refine .agg _ _ (fun j=>vs.getD j undef) (by simp[h1]) (fun a ha=>?_) (fun j hj=>?_) (fun j a ha=>?_)
 ·obtain⟨c,_,rfl⟩:=List.mem_map.1 ha;exact c.oI
 ·simp at hj;simp[List.getElem?_eq_getElem (show j<vs.length by omega)]
 ·simp only[List.getElem?_map,Option.map_eq_some_iff]at ha
  obtain⟨c,hc,rfl⟩:=ha
  rw[List.getD_eq_getElem?_getD,h2 j c hc];exact zW c
theorem ec {env:Env} {a:Act} {x:Operand} {y:O} (E:dc P w D ι env a) (h:cO P x=some y):du P w D ι (dj env y) (a.eval x):=by
 unfold cO at h
 split at h
 ·simp at h;subst h;exact E _
 ·simp only[Option.map_eq_some_iff]at h
  obtain⟨cs,ek,rfl⟩:=h
  have:=kAgg (P:=P) (w:=w) (D:=D) (ι:=ι) ek
  simpa[Act.eval,dj]using this
 ·simp only[Option.map_eq_some_iff]at h
  obtain⟨c,hc,rfl⟩:=h
  simp only[Act.eval,dj]
  rw[Da hc];exact zW c
 ·simp at h
 ·split at h
  ·rename_i hc
   simp at h;subst h
   simp only[Act.eval,dj]
   exact .fn _ _ _ (fun _=>undef) hc rfl (fun j hj=>by simp at hj) (fun j a h=>by simp at h)
  ·simp at h
def pK (P:Program) (a:Act) (o:Oper) (w:World) (D:Nat->Prop) (ι:Names) (v:AV):Prop:=∃u,(execOp a.eval o).run P w=.ok (.value u) w/\du P w D ι v u
section
variable {g:Rows} {hs:Nat} {env:Env} {a:Act} {o:Oper} {id:Id} {v:AV}
theorem Sk {x:Operand} {y:O} (E:dc P w D ι env a) (ho:o.op=.move x∨o.op=.assign x) (hx:cO P x=some y):pK P a o w D ι (dj env y):=by
 refine⟨a.eval x,?_,ec E hx⟩
 rcases ho with h|h<;>simp[execOp,h,go_sem]
theorem U3 {c x y:Operand} {c' x' y':O} (E:dc P w D ι env a) (ho:o.op=.pick c x y) (hc:cO P c=some c') (hx:cO P x=some x') (hy:cO P y=some y') (hv:cX (dj env c') (dj env x') (dj env y')=some v):pK P a o w D ι v:=by
 unfold cX at hv
 split at hv
 ·rename_i b hb
  simp at hv;subst hv
  have h1:=fR (hb▸ec E hc)
  refine⟨if b then a.eval x else a.eval y,by simp only[execOp,ho,h1,asBool];rfl,?_⟩
  cases b
  ·exact ec E hy
  ·exact ec E hx
 ·simp at hv
theorem Yi {op:BinOp} {x y:Operand} {x' y':O} {t yt:TypeId} (E:dc P w D ι env a) (ho:o.op=.binOp op t x y yt) (he:op≠.eql) (hn:op≠.neq) (hx:cO P x=some x') (hy:cO P y=some y') (hv:dI op (dj env x') (dj env y')=some v):pK P a o w D ι v:=by
 unfold dI at hv
 split at hv
 ·rename_i k n k' m hb pH
  split at hv
  ·rename_i hk
   subst hk
   have h1:=eb (hb▸ec E hx)
   have h2:=eb (pH▸ec E hy)
   have key:∀u,(binOp op t (.int k n) (.int k m)).run P w=.ok u w->(execOp a.eval o).run P w=.ok (.value u) w:=fun u hu=>by
    have e0:eqGuard op t x y (.int k n) (.int k m)=pure ():=by unfold eqGuard;cases op<;>rfl
    simp only[execOp,ho,h1,h2,e0]
    simp[go_sem,hu]
   cases op<;>simp only[dp]at hv<;>(try(simp at hv;done))<;>(try split at hv)<;>(try(simp at hv;done))<;>simp only[Option.some.injEq]at hv<;>subst hv<;>
    (refine⟨_,key _ (by simp only[binOp,ne_eq,not_true_eq_false,if_false,Op.intArith,Op.intDiv,Op.intBits,Op.intCmp, *];rfl),?_⟩)<;>
    first
     |exact .eX _ _ (.int _ _)
     |exact .eX _ _ (.bool _)
  ·simp at hv
 ·simp at hv
theorem UM {op:BinOp} {x y:Operand} {x' y':O} {t yt:TypeId} (E:dc P w D ι env a) (ho:o.op=.binOp op t x y yt) (he:op≠.eql) (hn:op≠.neq) (hx:cO P x=some x') (hy:cO P y=some y') (hv:cY op (dj env x') (dj env y')=some v):pK P a o w D ι v:=by
 unfold cY at hv
 split at hv
 ·rename_i n m hb pH
  have h1:=gK (hb▸ec E hx)
  have h2:=gK (pH▸ec E hy)
  cases op<;>simp only[dS]at hv<;>(try(simp at hv;done))
  case add=>
   split at hv
   ·rename_i hl
    simp only[Option.some.injEq]at hv;subst hv
    exact⟨_,by simp only[execOp,ho,h1,h2];simp[eqGuard,binOp,go_sem];exact hl,.eX _ _ (.str _)⟩
   ·simp at hv
  all_goals
   simp only[Option.some.injEq]at hv;subst hv
   exact⟨_,by simp only[execOp,ho,h1,h2];simp[eqGuard,binOp,Op.stringOp,go_sem],.eX _ _ (.bool _)⟩
 ·simp at hv
theorem Jq (n m:ByteArray):(n.toList==m.toList)=decide (n=m):=by
 rw[ByteArray.toList_eq,ByteArray.toList_eq]
 by_cases h:n=m
 ·subst h;simp
 ·have:n.data.toList≠m.data.toList:=fun he=>h (ByteArray.ext (Array.ext' he))
  rw[decide_eq_false h];exact beq_eq_false_iff_ne.2 this
theorem rq {t:TypeId} (h:gr P t=some .tB):P.underlying t=some .bool:=by unfold gr at h;split at h<;>simp_all
theorem rz {t:TypeId} (h:gr P t=some .tI):∃k,P.underlying t=some (.int k):=by unfold gr at h;split at h<;>simp_all
theorem rD {t:TypeId} (h:gr P t=some .tS):P.underlying t=some .string:=by unfold gr at h;split at h<;>simp_all
theorem uM {d:Nat} {t:TypeId} {s:TS} {x y:AV} {u u':Value} {b:Bool} (hx:du P w D ι x u) (hy:du P w D ι y u') (hv:fu s x y=some b) (ht:gr P t=some s):(Op.equalIn (d+1) t u u').run P w=.ok b w:=by
 unfold fu at hv
 split at hv
 ·rename_i k n k' m
  split at hv
  ·rename_i hk
   subst hk
   simp at hv;subst hv
   obtain⟨q,hq⟩:=rz ht
   rw[eb hx,eb hy,run_equalIn_int _ _ _ _ _ _ _ hq];rfl
  ·simp at hv
 ·simp at hv;subst hv
  rw[fR hx,fR hy,run_equalIn_bool' _ _ _ _ _ (rq ht)]
 ·simp at hv;subst hv
  rw[gK hx,gK hy,run_equalIn_string _ _ _ _ _ (rD ht),Jq]
 ·simp at hv
def fY (P:Program) (w:World) (D:Nat->Prop) (ι:Names) (xs:List AV) (vs:Array Value):Prop:=vs.size=xs.length/\∀(j:Nat) (a:AV),xs[j]? =some a->∃u,vs[j]? =some u/\du P w D ι a u
theorem fY.part {xs:List AV} {vs:Array Value} (h:fY P w D ι xs vs) (off n:Nat) (hn:off+n<=xs.length):fY P w D ι ((xs.drop off).take n) (vs.extract off (off+n)):=by
 refine⟨by simp[h.1];omega,fun j a ha=>?_⟩
 rw[List.getElem?_take]at ha
 split at ha
 ·rename_i hj
  rw[List.getElem?_drop]at ha
  obtain⟨u,h1,h2⟩:=h.2 _ _ ha
  refine⟨u,?_,h2⟩
  rw[Array.getElem?_extract]
  rw[if_pos (by rw[h.1];omega),h1]
 ·simp at ha
theorem ue:∀{ts:List TS} {xs ys:List AV} {b:Bool},eP ts xs ys=some b->xs.length=ts.length/\ys.length=ts.length
 |[],[],[],_,_=>⟨rfl,rfl⟩
 |t::ts,x::xs,y::ys,b,h=>by
  unfold eP at h
  split at h
  ·rename_i c d h1 h2
   have:=ue h2
   simp[this.1,this.2]
  ·simp at h
 |[],[],_::_,_,h=>by simp[eP]at h
 |[],_::_,_,_,h=>by simp[eP]at h
 |_::_,[],_,_,h=>by simp[eP]at h
 |_::_,_::_,[],_,h=>by simp[eP]at h
theorem IL:∀{ts us:List TS} {xs ys:List AV} {b:Bool},eP (ts++us) xs ys=some b->∃c d,eP ts (xs.take ts.length) (ys.take ts.length)=some c/\eP us (xs.drop ts.length) (ys.drop ts.length)=some d/\b=(c&&d)
 |[],us,xs,ys,b,h=>⟨true,b,by simp[eP],by simpa using h,by simp⟩
 |t::ts,us,x::xs,y::ys,b,h=>by
  simp only[List.cons_append]at h
  unfold eP at h
  split at h
  ·rename_i c d h1 h2
   obtain⟨c',d',h3,h4,rfl⟩:=IL h2
   simp at h;subst h
   exact⟨c&&c',d',by simp[eP,h1,h3],by simpa using h4,by simp[Bool.and_assoc]⟩
  ·simp at h
 |t::ts,us,[],ys,b,h=>by simp[eP]at h
 |t::ts,us,x::xs,[],b,h=>by simp[eP]at h
theorem oh {t:TypeId} {vs:Array Value} {off:Nat} {u:Value} (ha:nM P t=some false) (hu:vs[off]? =some u):(Go.part t vs off).run P w=.ok u w:=by
 unfold nM at ha
 have hi:(isAgg t).run P w=.ok false w:=by
  split at ha<;>simp at ha
  rename_i d h1 h2 hd
  simp only[isAgg,Sem.run_bind,run_underlying hd,Result.andThen_ok]
  cases d<;>simp_all
 simp[Go.part,hi,hu]
theorem wG {t:TypeId} {b:Bool} (ha:nM P t=some b):(isAgg t).run P w=.ok b w:=by
 unfold nM at ha
 split at ha<;>simp at ha<;>subst ha<;>rename_i hd<;>simp only[isAgg,Sem.run_bind,run_underlying hd,Result.andThen_ok]<;>(try simp)
theorem run_sizeOf {t:TypeId} {n:Nat} (h:eO P t=some n):(sizeOf t).run P w=.ok n w:=by
 unfold eO at h
 simp only[Option.map_eq_some_iff]at h
 obtain⟨i,hi,rfl⟩:=h
 simp[sizeOf,typeInfo,hi]
theorem rn {t:TypeId} {vs:Array Value} {off n:Nat} (ha:nM P t=some true) (hn:eO P t=some n):(Go.part t vs off).run P w=.ok (.agg (vs.extract off (off+n))) w:=by
 simp[Go.part,wG ha,run_sizeOf hn]
theorem MC (d off:Nat):fh P (d+1) off []=some []:=rfl
theorem Bs (d off:Nat) (f:Field) (r:List Field):fh P (d+1) off (f::r)=(if f.offset=off/\f.name≠ "_" then
   match gr P f.type with
   |some t=>if nM P f.type=some false then(fh P (d+1) (off+1) r).map (t::·)else none
   |none=>match P.underlying f.type with
    |some (.struct fs)=>if !P.stoodInHeld f.type then match fh P d 0 fs.toList with
     |some ts=>if eO P f.type=some ts.length/\ts≠[]then(fh P (d+1) (off+ts.length) r).map (ts++·)else none
     |none=>none else none
    |_=>none
  else none):=rfl
theorem uL:∀(d:Nat) (fs:List Field) (off:Nat) (ts:List TS),fh P d off fs=some ts->∀(N:Nat) (_:d<=N) (xs ys:List AV) (vs us:Array Value) (b:Bool),fY P w D ι xs vs->fY P w D ι ys us->
  eP ts ((xs.drop off).take ts.length) ((ys.drop off).take ts.length)=some b->(Op.eqFields (N+1) vs us fs).run P w=.ok b w:=by
 intro d
 induction d with
 |zero=>
  intro fs off ts hf N _ xs ys vs us b _ _ he
  cases fs with
  |nil=>simp[fh]at hf;subst hf;simp[eP]at he;subst he;simp[Op.eqFields]
  |cons f r=>simp[fh]at hf
 |succ d ihd=>
  intro fs
  induction fs with
  |nil=>
   intro off ts hf N _ xs ys vs us b _ _ he
   rw[MC]at hf;simp at hf;subst hf;simp[eP]at he;subst he;simp[Op.eqFields]
  |cons f r ih=>
   intro off ts hf N hN xs ys vs us b hx hy he
   rw[Bs]at hf
   split at hf
   ·rename_i hcond
    obtain⟨ho,iI⟩:=hcond
    split at hf
    ·rename_i s hs
     split at hf
     ·rename_i w8
      simp only[Option.map_eq_some_iff]at hf
      obtain⟨Pf,hr,rfl⟩:=hf
      obtain⟨l1,l2⟩:=ue he
      simp only[List.length_cons,List.length_take,List.length_drop]at l1 l2
      have DX:off<xs.length:=ae
      have hyo:off<ys.length:=ae
      rw[List.drop_eq_getElem_cons DX,List.drop_eq_getElem_cons hyo,List.length_cons,List.take_succ_cons,List.take_succ_cons]at he
      unfold eP at he
      split at he
      ·rename_i c d' h1 h2
       simp at he;subst he
       obtain⟨u,hu,ru⟩:=hx.2 off _ (List.getElem?_eq_getElem DX)
       obtain⟨u',I7,ru'⟩:=hy.2 off _ (List.getElem?_eq_getElem hyo)
       have:=ih (off+1) Pf hr N hN xs ys vs us d' hx hy h2
       simp only[Op.eqFields,if_pos iI,Sem.run_bind,ho,oh w8 hu,oh w8 I7,Result.andThen_ok,uM ru ru' h1 hs,Sem.run_ite]
       cases c<;>simp[this]
      ·simp at he
     ·simp at hf
    ·split at hf
     ·rename_i fs' uk
      split at hf
      ·rename_i ed
       split at hf
       ·rename_i ts1 hts1
        split at hf
        ·rename_i ew
         simp only[Option.map_eq_some_iff]at hf
         obtain⟨Pf,hr,rfl⟩:=hf
         obtain⟨c,d',h1,h2,rfl⟩:=IL he
         obtain⟨l1,l2⟩:=ue he
         simp only[List.length_append,List.length_take,List.length_drop]at l1 l2
         have w8:nM P f.type=some true:=by simp[nM,uk]
         have kH:0<ts1.length:=List.length_pos_iff.2 ew.2
         have GC:off+ts1.length<=xs.length:=ae
         have hy1:off+ts1.length<=ys.length:=ae
         rw[List.drop_take,List.drop_drop,List.drop_take,List.drop_drop]at h2
         rw[List.take_take,List.take_take]at h1
         simp only[List.length_append]at h1 h2
         rw[Nat.min_eq_left ae]at h1
         have e2:ts1.length+Pf.length-ts1.length=Pf.length:=ae
         rw[e2]at h2
         have:=ih (off+ts1.length) Pf hr N hN xs ys vs us d' hx hy h2
         have gV:=ihd fs'.toList 0 ts1 hts1 (N-1) ae _ _ _ _ c (hx.part off ts1.length GC) (hy.part off ts1.length hy1) (by simpa[List.take_take]using h1)
         have hN':N-1+1=N:=ae
         rw[hN']at gV
         have I3:P.fieldsOf f.type=fs':=by simp[Program.fieldsOf,uk]
         simp only[Op.eqFields,if_pos iI,Sem.run_bind,ho,rn w8 ew.1,Result.andThen_ok,Sem.run_ite]
         rw[run_equalIn_struct w N f.type _ _ (by rw[I3];exact uk) (by simpa using ed),I3,gV]
         cases c<;>simp[this]
        ·simp at hf
       ·simp at hf
      ·simp at hf
     ·simp at hf
   ·simp at hf
theorem Ym {x y:Operand} {x' y':O} {t yt:TypeId} {neg:Bool} {s:TS} {b:Bool} (E:dc P w D ι env a) (ho:o.op=.binOp (if neg then .neq else .eql) t x y yt) (hs:gr P t=some s) (hx:cO P x=some x') (hy:cO P y=some y')
  (hv:fu s (dj env x') (dj env y')=some b):pK P a o w D ι (.bool (dh neg b)):=by
 have rx:=ec E hx
 have ry:=ec E hy
 refine⟨.bool (dh neg b),?_,.eX _ _ (.bool _)⟩
 have e0:(eqGuard (if neg then .neq else .eql) t x y (a.eval x) (a.eval y)).run P w=.ok () w:=by
  unfold fu at hv
  split at hv
  ·rename_i k n k' m h1 h2
   rw[h1]at rx;rw[h2]at ry
   rw[eb rx,eb ry];unfold eqGuard;cases neg<;>simp
  ·rename_i n m h1 h2
   rw[h1]at rx;rw[h2]at ry
   rw[fR rx,fR ry];unfold eqGuard;cases neg<;>simp
  ·rename_i n m h1 h2
   rw[h1]at rx;rw[h2]at ry
   rw[gK rx,gK ry];unfold eqGuard;cases neg<;>simp
  ·simp at hv
 have e1:(binOp (if neg then .neq else .eql) t (a.eval x) (a.eval y)).run P w=.ok (.bool (dh neg b)) w:=by
  have q:=uM (d:=9999) rx ry hv hs
  unfold fu at hv
  split at hv
  ·rename_i k n k' m h1 h2
   split at hv
   ·rename_i hk
    subst hk
    simp at hv;subst hv
    rw[h1]at rx;rw[h2]at ry
    rw[eb rx,eb ry]
    cases neg<;>simp only[binOp,ne_eq,not_true_eq_false,if_false,Op.intCmp,dh,if_true,Bool.false_eq_true]<;>simp[bne]<;>rfl
   ·simp at hv
  ·rename_i n m h1 h2
   rw[h1]at rx;rw[h2]at ry
   rw[fR rx,fR ry]at q ⊢
   cases neg<;>simp only[binOp,dh,if_true,Bool.false_eq_true,if_false,Sem.run_bind]<;>simp[Op.equal,Op.maxDepth,q]
  ·rename_i n m h1 h2
   simp at hv;subst hv
   rw[h1]at rx;rw[h2]at ry
   rw[gK rx,gK ry]
   cases neg<;>simp[binOp,Op.stringOp,dh,Jq]
  ·simp at hv
 simp only[execOp,ho,Sem.run_bind,e0,e1,Result.andThen_ok,Sem.run_pure]
theorem Yk {x y:Operand} {x' y':O} {t yt:TypeId} {neg:Bool} {ts:List TS} {fs:Array Field} {xs ys:List AV} {b:Bool} (E:dc P w D ι env a) (ho:o.op=.binOp (if neg then .neq else .eql) t x y yt) (uk:P.underlying t=some (.struct fs)) (ed:P.stoodInHeld t=false) (Xi:P.eqGuardType P.depth t=false)
  (AR:fh P 4 0 fs.toList=some ts) (hx:cO P x=some x') (hy:cO P y=some y') (h1:dj env x'=.agg xs) (h2:dj env y'=.agg ys)
  (hv:eP ts xs ys=some b):pK P a o w D ι (.bool (dh neg b)):=by
 obtain⟨vs,f,rx,n1,_,f1,r1⟩:=jo (h1▸ec E hx)
 obtain⟨us,f',ry,n2,_,f2,r2⟩:=jo (h2▸ec E hy)
 refine⟨.bool (dh neg b),?_,.eX _ _ (.bool _)⟩
 obtain⟨l1,l2⟩:=ue hv
 have L:∀(xs:List AV) (vs:Array Value) (f:Nat->Value),vs.size=xs.length->(∀j,j<xs.length->vs[j]? =some (f j))->(∀j a,xs[j]? =some a->du P w D ι a (f j))->fY P w D ι xs vs:=fun xs vs f h1 h2 h3=>
  ⟨h1,fun j a ha=>⟨f j,h2 j (List.getElem?_eq_some_iff.1 ha).1,h3 j a ha⟩⟩
 have q:=uL (w:=w) 4 fs.toList 0 ts AR 9998 ae xs ys vs us b (L _ _ _ n1 f1 r1) (L _ _ _ n2 f2 r2) (by simpa[List.take_of_length_le,l1,l2]using hv)
 have I3:P.fieldsOf t=fs:=by simp[Program.fieldsOf,uk]
 have q2:(Op.equal t (.agg vs) (.agg us)).run P w=.ok b w:=by
  unfold Op.equal
  rw[show Op.maxDepth=9999+1 from rfl,run_equalIn_struct w 9999 t _ _ (by rw[I3];exact uk) ed,I3,q]
 simp only[execOp,ho,Sem.run_bind,rx,ry,run_eqGuard_agg w _ _ _ _ _ _ Xi,Result.andThen_ok]
 cases neg<;>simp[binOp,q2,dh]
theorem UP {x:Operand} {x':O} {t yt e:TypeId} {neg:Bool} {b:Bool} (E:dc P w D ι env a) (ho:o.op=.binOp (if neg then .neq else .eql) t x (.const (.slice none 0 0)) yt) (ht:P.underlying t=some (.slice e)) (hx:cO P x=some x')
  (hv:cW (dj env x')=some b):pK P a o w D ι (.bool (dh neg b)):=by
 have hr:=ec E hx
 have rx:∃A n c,a.eval x=.slice A n c/\b=A.isNone:=by
  unfold cW at hv
  split at hv<;>simp at hv<;>subst hv<;>rename_i hh
  ·rw[hh]at hr;exact⟨_,_,_,jM hr,rfl⟩
  ·rw[hh]at hr;obtain⟨o,cap,B,h,_⟩:=jq hr
   exact⟨_,_,_,h,rfl⟩
  ·rw[hh]at hr
   obtain⟨A,c,h',_,_,h⟩:=zZ hr
   rcases h with h|⟨b,o,sz,vs,rfl,_⟩
   ·simp at h
   ·exact⟨_,_,_,h',rfl⟩
 refine⟨.bool (dh neg b),?_,.eX _ _ (.bool _)⟩
 obtain⟨A,n,c,h,rfl⟩:=rx
 have hq:(Op.equal t (.slice A n c) (.slice none 0 0)).run P w=.ok A.isNone w:=by
  unfold Op.equal
  rw[show Op.maxDepth=9999+1 from rfl,Op.equalIn]
  simp only[Sem.run_bind,run_underlying ht,Result.andThen_ok]
  cases A<;>rfl
 have hc:a.eval (.const (.slice none 0 0))=.slice none 0 0:=rfl
 simp only[execOp,ho,h,hc]
 cases neg<;>simp only[Bool.false_eq_true,if_false,if_true,Bool.not_true,Bool.not_false,eqGuard,binOp,dh,Sem.run_bind,hq,Result.andThen_ok,Sem.run_pure]
theorem Yl {x:Operand} {x':O} {t yt e:TypeId} {neg:Bool} {b:Bool} (E:dc P w D ι env a) (ho:o.op=.binOp (if neg then .neq else .eql) t x (.const (.pointer none)) yt) (ht:P.underlying t=some (.pointer e)) (hx:cO P x=some x')
  (hv:Oy (dj env x')=some b):pK P a o w D ι (.bool (dh neg b)):=by
 have hr:=ec E hx
 have rx:∃A,a.eval x=.pointer A/\b=A.isNone:=by
  unfold Oy at hv
  split at hv<;>simp at hv<;>subst hv<;>rename_i hh
  ·rw[hh]at hr;exact⟨_,NY hr,rfl⟩
  ·rw[hh]at hr;obtain⟨B,h,_⟩:=jc hr
   exact⟨_,h,rfl⟩
  ·rw[hh]at hr;obtain⟨_,_,_,h,_⟩:=mH hr
   exact⟨_,h,rfl⟩
 refine⟨.bool (dh neg b),?_,.eX _ _ (.bool _)⟩
 obtain⟨A,h,rfl⟩:=rx
 have hq:(Op.equal t (.pointer A) (.pointer none)).run P w=.ok A.isNone w:=by
  unfold Op.equal
  rw[show Op.maxDepth=9999+1 from rfl,Op.equalIn]
  simp only[Sem.run_bind,run_underlying ht,Result.andThen_ok]
  cases A<;>rfl
 have hc:a.eval (.const (.pointer none))=.pointer none:=rfl
 simp only[execOp,ho,h,hc]
 cases neg<;>simp only[Bool.false_eq_true,if_false,if_true,Bool.not_true,Bool.not_false,eqGuard,binOp,dh,Sem.run_bind,hq,Result.andThen_ok,Sem.run_pure]
theorem UO {x:Operand} {x':O} {t yt:TypeId} {p r:Array TypeId} {va:Bool} {neg:Bool} {b:Bool} (E:dc P w D ι env a) (ho:o.op=.binOp (if neg then .neq else .eql) t x (.const .nilFunc) yt) (ht:P.underlying t=some (.func p r va)) (hx:cO P x=some x')
  (hv:cV (dj env x')=some b):pK P a o w D ι (.bool (dh neg b)):=by
 have hr:=ec E hx
 have rx:a.eval x=.nilFunc/\b=true∨∃f c,a.eval x=.func f #[] c/\b=false:=by
  unfold cV at hv
  split at hv<;>simp at hv<;>subst hv<;>rename_i hh
  ·rw[hh]at hr;exact .inl ⟨zY hr,rfl⟩
  ·rw[hh]at hr;obtain⟨vs,g,h,_⟩:=wF hr
   exact .inr ⟨_,_,h,rfl⟩
 refine⟨.bool (dh neg b),?_,.eX _ _ (.bool _)⟩
 have hc:a.eval (.const .nilFunc)=.nilFunc:=rfl
 rcases rx with⟨h,rfl⟩|⟨f,c,h,rfl⟩
 ·have hq:(Op.equal t .nilFunc .nilFunc).run P w=.ok true w:=by
   unfold Op.equal
   rw[show Op.maxDepth=9999+1 from rfl,Op.equalIn]
   simp only[Sem.run_bind,run_underlying ht,Result.andThen_ok]
   rfl
  simp only[execOp,ho,h,hc]
  cases neg<;>simp only[Bool.false_eq_true,if_false,if_true,Bool.not_true,Bool.not_false,eqGuard,binOp,dh,Sem.run_bind,hq,Result.andThen_ok,Sem.run_pure]
 ·have hq:(Op.equal t (.func f #[] c) .nilFunc).run P w=.ok false w:=by
   unfold Op.equal
   rw[show Op.maxDepth=9999+1 from rfl,Op.equalIn]
   simp only[Sem.run_bind,run_underlying ht,Result.andThen_ok]
   rfl
  simp only[execOp,ho,h,hc]
  cases neg<;>simp only[Bool.false_eq_true,if_false,if_true,Bool.not_true,Bool.not_false,eqGuard,binOp,dh,Sem.run_bind,hq,Result.andThen_ok,Sem.run_pure]
theorem Yp {x:Operand} {x':O} {t:TypeId} (E:dc P w D ι env a) (ho:o.op=.unOp .not t x) (hx:cO P x=some x') (hv:dM (dj env x')=some v):pK P a o w D ι v:=by
 have hr:=ec E hx
 unfold dM at hv
 split at hv
 ·rename_i b hb
  simp at hv;subst hv
  rw[hb]at hr
  exact⟨_,by simp only[execOp,ho,fR hr];rfl,.eX _ _ (.bool _)⟩
 ·simp at hv
theorem Yo {x:Operand} {x':O} {t:TypeId} (E:dc P w D ι env a) (ho:o.op=.unOp .neg t x) (hx:cO P x=some x') (hv:dK (dj env x')=some v):pK P a o w D ι v:=by
 have hr:=ec E hx
 unfold dK at hv
 split at hv
 ·rename_i k n hb
  simp at hv;subst hv
  rw[hb]at hr
  refine⟨_,by simp only[execOp,ho,eb hr];rfl,?_⟩
  rw[Int.zero_sub];exact .eX _ _ (.int _ _)
 ·simp at hv
theorem UN {x:Operand} {x':O} {s d:TypeId} {k q:IntKind} (E:dc P w D ι env a) (ho:o.op=.convert s d x) (hs:P.underlying s=some (.int q)) (hd:P.underlying d=some (.int k)) (hx:cO P x=some x') (hv:cJ k (dj env x')=some v):pK P a o w D ι v:=by
 have hr:=ec E hx
 unfold cJ at hv
 split at hv
 ·rename_i k' n hb
  simp at hv;subst hv
  rw[hb]at hr
  refine⟨.int k (k.wrap n),?_,.eX _ _ (.int _ _)⟩
  simp only[execOp,ho,eb hr,convert,Sem.run_bind,run_underlying hs,run_underlying hd,Result.andThen_ok,Conv.intToInt,Sem.run_pure]
 ·simp at hv
theorem Q7 {x:Operand} {x':O} {s:TypeId} {i:Nat} {fs:Array Field} {f:Field} {m:Nat} (E:dc P w D ι env a) (ho:o.op=.fieldAddr s x i) (hs:P.underlying s=some (.struct fs)) (hf:fs[i]? =some f) (hm:eO P f.type=some (m+1)) (hx:cO P x=some x')
  (hv:Ij f.offset (dj env x')=some v):pK P a o w D ι v:=by
 have hr:=ec E hx
 have go:∀b oo,a.eval x=.pointer (some ⟨b,oo,none⟩)->(execOp a.eval o).run P w=.ok (.value (.pointer (some ⟨b,oo+f.offset,none⟩))) w:=fun b oo h=>by
  simp only[execOp,ho,h,Instr.fieldAt,Sem.run_bind,run_underlying hs,Result.andThen_ok,hf,Instr.sureAddr,Sem.run_pure,fieldPlace,run_sizeOf hm,Nat.add_eq_zero_iff,Nat.one_ne_zero,and_false,if_false,Addr.add]
  split
  ·rename_i h0;simp[h0]
  ·rfl
 unfold Ij at hv
 split at hv
 ·rename_i lG i' oo hb
  simp at hv;subst hv
  rw[hb]at hr
  obtain⟨B,h,hB,hk⟩:=jc hr
  refine⟨_,go _ _ h,?_⟩
  rw[Nat.add_assoc]
  exact .ptr _ _ _ _ hB hk
 ·rename_i cs hb
  simp at hv;subst hv
  rw[hb]at hr
  obtain⟨b,oo,vs,h,h1,h2,h3,h4⟩:=mH hr
  refine⟨_,go _ _ h,.eX _ _ (.ef _ _ _ (fun j=>vs (f.offset+j)) h1 (fun a ha=>h2 a (List.mem_of_mem_drop ha)) (fun j hj=>?_) (fun j a ha=>h4 _ _ (by simpa using ha)))⟩
  rw[Nat.add_assoc]
  exact h3 _ (by simp at hj;omega)
 ·simp at hv
theorem Q8 {x:Operand} {x':O} {s:TypeId} {i n:Nat} {ag:Bool} {fs:Array Field} {f:Field} (E:dc P w D ι env a) (ho:o.op=.field s x i) (hs:P.underlying s=some (.struct fs)) (hf:fs[i]? =some f) (w8:nM P f.type=some ag) (hm:eO P f.type=some n) (hx:cO P x=some x')
  (hv:bK ag f.offset n (dj env x')=some v):pK P a o w D ι v:=by
 have hr:=ec E hx
 unfold bK at hv
 split at hv
 ·rename_i cs hb
  split at hv
  ·rename_i hl
   rw[hb]at hr
   obtain⟨vs,g,h,n1,fl,f1,r1⟩:=jo hr
   unfold part at hv
   cases ag with
   |true=>
    simp only[if_true]at hv
    split at hv
    ·simp at hv;subst hv
     refine⟨.agg (vs.extract f.offset (f.offset+n)),?_,.agg _ _ (fun j=>g (f.offset+j)) (by simp[n1];omega) (fun a ha=>fl a (List.mem_of_mem_drop (List.mem_of_mem_take ha))) (fun j hj=>?_) (fun j a ha=>?_)⟩
     ·simp only[execOp,ho,h,Instr.field,Sem.run_bind,run_underlying hs,Result.andThen_ok,hf,asAgg,Sem.run_pure,rn w8 hm]
     ·simp at hj
      rw[Array.getElem?_extract,if_pos ae];exact f1 _ ae
     ·rw[List.getElem?_take]at ha
      split at ha
      ·exact r1 _ _ (by simpa using ha)
      ·simp at ha
    ·simp at hv
   |false=>
    simp only[Bool.false_eq_true,if_false]at hv
    have pJ:cs[f.offset]? =some v:=by simpa[List.head?_drop]using hv
    have eG:=(List.getElem?_eq_some_iff.1 pJ).1
    exact⟨g f.offset,by simp only[execOp,ho,h,Instr.field,Sem.run_bind,run_underlying hs,Result.andThen_ok,hf,asAgg,Sem.run_pure,oh w8 (f1 _ eG)],r1 _ _ pJ⟩
  ·simp at hv
 ·simp at hv
theorem Yq {left:Bool} {x y:Operand} {x' y':O} {t yt:TypeId} (E:dc P w D ι env a) (ho:o.op=.binOp (if left then .shl else .shr) t x y yt) (hx:cO P x=some x') (hy:cO P y=some y') (hv:fU left (dj env x') (dj env y')=some v):pK P a o w D ι v:=by
 unfold fU at hv
 split at hv
 ·rename_i k n k' m hb pH
  split at hv
  ·simp at hv
  ·rename_i hm
   simp at hv;subst hv
   have h1:=eb (hb▸ec E hx)
   have h2:=eb (pH▸ec E hy)
   refine⟨_,?_,.eX _ _ (.int _ _)⟩
   simp only[execOp,ho,h1,h2]
   cases left<;>simp only[Bool.false_eq_true,if_false,if_true,eqGuard,Bool.not_true,Bool.not_false,binOp,Op.shift,hm,Sem.run_bind,Sem.run_pure,Result.andThen_ok]<;>rfl
 ·simp at hv
end
end Go.Proofs.YtainmfbpilopaaaGreatDoor.V

namespace Go.Proofs.YtainmfbpilopaaaGreatDoor.V
open Go.RowKit
variable {P:Program} {w w':World} {D D':Nat->Prop} {ι ι':Names}
theorem lO (b o j:Nat):(⟨b,o,none⟩:Addr).add j=⟨b,o+j,none⟩:=by unfold Addr.add;split<;>simp_all
section
variable {g:Rows} {hs:Nat} {env:Env} {a:Act} {o:Oper} {id:Id} {v:AV}
theorem kq {t:TypeId} {ag:Bool} {n b oo:Nat} {cs:List AV} {v:AV} {f:Nat->Value} (w8:nM P t=some ag) (hn:eO P t=some n) (hp:part ag n cs=some v) (fl:∀a∈cs,a.cell=true)
  (hc:∀j,j<cs.length->w.cell? ⟨b,oo+j,none⟩=some (f j)) (hr:∀j a,cs[j]? =some a->du P w D ι a (f j)):∃u,(loadVar t ⟨b,oo,none⟩).run P w=.ok u w/\du P w D ι v u:=by
 unfold part at hp
 cases ag with
 |true=>
  simp only[if_true]at hp
  split at hp
  ·rename_i hl
   simp at hp;subst hp
   refine⟨.agg ((List.range n).map f).toArray,?_,.agg _ _ f (by simp;omega) (fun a ha=>fl a (List.mem_of_mem_take ha)) (fun j hj=>?_) (fun j a ha=>?_)⟩
   ·simp only[loadVar,Sem.run_bind,wG w8,Result.andThen_ok,if_true,run_sizeOf hn,Sem.run_pure]
    rw[run_loadCells w _ n f (fun j hj=>by rw[lO];exact hc j ae)]
    rfl
   ·simp at hj
    have:j<n:=ae
    simp[this]
   ·rw[List.getElem?_take]at ha
    split at ha
    ·exact hr _ _ ha
    ·simp at ha
  ·simp at hp
 |false=>
  simp only[Bool.false_eq_true,if_false]at hp
  cases cs with
  |nil=>simp at hp
  |cons c r=>
   simp at hp;subst hp
   refine⟨f 0,?_,hr 0 _ rfl⟩
   simp only[loadVar,Sem.run_bind,wG w8,Result.andThen_ok,Bool.false_eq_true,if_false]
   have:=hc 0 (by simp)
   simp at this
   rw[run_load,this]
theorem N8 {S:ig P hs D ι g w} {i:Nat} {cs:List AV} (h:rowAt g id i=some cs) (hk:∀B,ι id=some B->B.k=none):∃B r,g id=some r/\ι id=some B/\lV P w D ι B r/\r.rows[i]? =some cs/\(∀a∈cs,a.cell=true)/\∃f:Nat->Value,∀j,j<cs.length->w.cell? ⟨B.b,i*B.sz+j,none⟩=some (f j)/\∀a,cs[j]? =some a->du P w D ι a (f j):=by
 unfold rowAt at h
 simp only[Option.bind_eq_some_iff]at h
 obtain⟨r,hr,hi⟩:=h
 obtain⟨B,hB,R,_,_⟩:=S.row id r hr
 replace R:=R.row (hk B hB)
 refine⟨B,r,hr,hB,R,hi,R.flat cs (List.mem_of_getElem? hi),fun j=>(w.cell? ⟨B.b,i*B.sz+j,none⟩).getD undef,fun j hj=>?_⟩
 obtain⟨u,hu,AQ⟩:=R.at_ i j cs _ hi (List.getElem?_eq_getElem hj)
 rw[R.sz,hu]
 refine⟨by simp only[hu,Option.getD_some],fun a ha=>?_⟩
 rw[List.getElem?_eq_getElem hj]at ha
 injection ha with ha
 subst ha
 simpa only[hu,Option.getD_some]using AQ
theorem UW {x:Operand} {x':O} {t:TypeId} {ag:Bool} {n:Nat} (S:ig P hs D ι g w) (E:dc P w D ι env a) (ho:o.op=.load t x) (w8:nM P t=some ag) (hn:eO P t=some n) (hx:cO P x=some x') (hv:ld g ag n (dj env x')=some v):pK P a o w D ι v:=by
 have hr:=ec E hx
 have go:∀b oo u,a.eval x=.pointer (some ⟨b,oo,none⟩)->(loadVar t ⟨b,oo,none⟩).run P w=.ok u w->(execOp a.eval o).run P w=.ok (.value u) w:=fun b oo u h h2=>by
  simp only[execOp,ho,h,Instr.loadAt,Instr.sureAddr,Sem.run_bind,Sem.run_pure,Result.andThen_ok,h2]
 unfold ld at hv
 split at hv
 ·rename_i lG i' oo hb
  rw[hb]at hr
  obtain⟨B,h,hB,hk⟩:=jc hr
  simp only[Option.bind_eq_some_iff]at hv
  obtain⟨cs,ek,hp⟩:=hv
  obtain⟨B',r,LH,eA,R,hi,fl,f,hf⟩:=N8 (S:=S) ek (fun B2 h2=>by rw[hB]at h2;injection h2 with h2;subst h2;exact hk)
  rw[hB]at eA;injection eA with eA;subst eA
  obtain⟨u,h1,h2⟩:=kq (w:=w) (b:=B.b) (oo:=i'*B.sz+oo) (f:=fun j=>f (oo+j)) w8 hn hp (fun a ha=>fl a (List.mem_of_mem_drop ha)) (fun j hj=>by
   rw[Nat.add_assoc];exact(hf _ (by simp at hj;omega)).1) (fun j a ha=>by
   simp at ha;exact(hf _ ((List.getElem?_eq_some_iff.1 ha).1)).2 _ ha)
  exact⟨u,go _ _ _ h h1,h2⟩
 ·rename_i cs hb
  rw[hb]at hr
  obtain⟨b,oo,vs,h,h1,h2,h3,h4⟩:=mH hr
  obtain⟨u,k1,k2⟩:=kq (w:=w) (b:=b) (oo:=oo) (f:=vs) w8 hn hv h2 h3 (fun j a ha=>.eX _ _ (h4 j a ha))
  exact⟨u,go _ _ _ h k1,k2⟩
 ·simp at hv
theorem QP (S:ig P hs D ι g w) {id:Id} {i k t:Nat} {s:ByteArray} (h:rowAt g id i=some [.err k t s]):∃u,du P w D ι (.err k t s) u:=by
 unfold rowAt at h
 simp only[Option.bind_eq_some_iff]at h
 obtain⟨r,hr,hi⟩:=h
 obtain⟨B,hB,R,_⟩:=S.row id r hr
 cases hk:B.k with
 |none=>
  obtain⟨u,_,h2⟩:=(R.row hk).at_ i 0 _ _ hi rfl
  exact⟨u,h2⟩
 |some m=>
  cases m with
  |map m=>
   obtain⟨_,es,c,h3,h4,⟨h5,_⟩,h6⟩:=R.map m hk
   obtain⟨e,kv,vv,_,_,q3,_,q5⟩:=h6 i _ hi
   have h7:=h5 _ (List.mem_of_getElem? hi)
   have h8:m.ks=0:=by simp at h7;omega
   rw[h8]at q3
   simp at q3
   subst q3
   exact⟨_,q5⟩
  |chan c=>
   obtain⟨_,buf,s',q,h3,h4,h5⟩:=R.chan c hk
   obtain⟨x,u,q1,_,q3⟩:=h5 i _ hi
   injection q1 with q1
   subst q1
   exact⟨u,q3⟩
theorem Q9 {t:TypeId} {k:Nat} (S:ig P hs D ι g w) (ho:o.op=.load t (.global k)) (hn:eO P t=some 1) (w8:nM P t=some false) (hv:fQ g k=some v):pK P a o w D ι v:=by
 unfold fQ at hv
 simp only[Option.bind_eq_some_iff]at hv
 obtain⟨cs,ek,hv⟩:=hv
 split at hv
 ·rename_i j t1 s
  split at hv
  ·rename_i hj
   subst hj
   injection hv with hv
   subst hv
   obtain⟨u,hu⟩:=QP S ek
   obtain⟨_,_,_,tg,_,hc,_⟩:=rm hu
   obtain⟨u',k1,k2⟩:=kq (w:=w) (b:=j) (oo:=0) (f:=fun _=>u) w8 hn (show part false 1 [.err j t1 s]=some (.err j t1 s)from rfl) (fun a ha=>by simp at ha;subst ha;rfl) (fun i hi=>by
    have:i=0:=by simp at hi;omega
    subst this;exact hc) (fun i x hx=>by
    have hi:=(List.getElem?_eq_some_iff.1 hx).1
    have:i=0:=by simp at hi;omega
    subst this
    simp at hx
    subst hx
    exact hu)
   exact⟨u',by simp only[execOp,ho,Instr.loadAt,Instr.sureAddr,Act.eval,Sem.run_bind,Sem.run_pure,Result.andThen_ok,k1],k2⟩
  ·simp at hv
 ·simp at hv
theorem Yj {x:Operand} {x':O} (E:dc P w D ι env a) (ho:o.op=.nilCheck x) (hx:cO P x=some x') (hv:dJ (dj env x')=some v):pK P a o w D ι v:=by
 have hr:=ec E hx
 unfold dJ at hv
 split at hv
 ·rename_i lG i' oo hb
  simp at hv;subst hv
  rw[hb]at hr
  obtain⟨B,h,hB,hk⟩:=jc hr
  exact⟨_,by simp only[execOp,ho,h];rfl,.ptr _ _ _ _ hB hk⟩
 ·rename_i cs hb
  simp at hv;subst hv
  rw[hb]at hr
  obtain⟨b,oo,vs,h,_⟩:=mH hr
  exact⟨_,by simp only[execOp,ho,h];rfl,h▸hr⟩
 ·simp at hv
theorem Ra {x i:Operand} {x' i':O} {t e:TypeId} {m:Nat} (S:ig P hs D ι g w) (E:dc P w D ι env a) (ho:o.op=.indexAddr t x i) (ht:P.underlying t=some (.slice e)) (hm:eO P e=some (m+1)) (hx:cO P x=some x') (hi:cO P i=some i')
  (hv:bL g (m+1) (dj env x') (dj env i')=some v):pK P a o w D ι v:=by
 have hr:=ec E hx
 have Hx:=ec E hi
 have go:∀b oo n c k (q:Int),a.eval x=.slice (some ⟨b,oo,none⟩) n c->a.eval i=.int k q->0<=q->q<n->(execOp a.eval o).run P w=.ok (.value (.pointer (some ⟨b,oo+q.toNat*(m+1),none⟩))) w:=fun b oo n c k q h h2 h3 h4=>by
  simp only[execOp,ho,h,h2,Instr.indexAt,asIntOf,Sem.run_bind,Sem.run_pure,run_underlying ht,Result.andThen_ok,h3,h4,and_self,if_true,run_sizeOf hm,lO]
 unfold bL at hv
 split at hv
 ·rename_i rows k q hb pH
  split at hv
  ·rename_i hq
   simp only[Option.bind_eq_some_iff]at hv
   obtain⟨cs,ek,hv⟩:=hv
   split at hv
   ·rename_i hlen
    simp at hv;subst hv
    rw[hb]at hr;rw[pH]at Hx
    have eG:=(List.getElem?_eq_some_iff.1 ek).1
    obtain⟨A,c,h,h1,h2,h3⟩:=zZ hr
    rcases h3 with h3|⟨b,oo,sz,vs,rfl,hD,hl,fl,hc,hi⟩
    ·subst h3;simp at ek
    have ew:sz=m+1:=by rw[<-hlen,hl cs (List.mem_of_getElem? ek)]
    refine⟨_,go b oo _ _ k q h (eb Hx) hq ae,.eX _ _ (.ef cs b _ (vs q.toNat) hD (fl cs (List.mem_of_getElem? ek)) (fun j hj=>?_) (fun j a ha=>hi _ _ _ _ ek ha))⟩
    have:=hc q.toNat j eG (by rw[<-hl cs (List.mem_of_getElem? ek)];exact hj)
    rw[ew]at this
    rw[Nat.add_assoc];exact this
   ·simp at hv
  ·simp at hv
 ·rename_i lG off len k q hb pH
  split at hv
  ·rename_i hq
   simp only[Option.bind_eq_some_iff]at hv
   obtain⟨r,LH,hv⟩:=hv
   split at hv
   ·rename_i BE
    simp at hv;subst hv
    rw[hb]at hr;rw[pH]at Hx
    obtain⟨oo,cap,B,h,hB,h1,h2,h3,h4,hk⟩:=jq hr
    obtain⟨B',eA,R,_,_⟩:=S.row _ _ LH
    rw[hB]at eA;injection eA with eA;subst eA
    replace R:=R.row hk
    have ew:B.sz=m+1:=R.sz.trans BE
    refine⟨_,go _ _ _ _ k q h (eb Hx) hq.1 hq.2,?_⟩
    have DQ:oo=off*B.sz:=by rcases h2 with h2|h2<;>omega
    have:oo+q.toNat*(m+1)=(off+q.toNat)*B.sz+0:=by rw[DQ,<-ew,Nat.add_mul];rfl
    rw[this]
    exact .ptr _ _ _ _ hB hk
   ·simp at hv
  ·simp at hv
 ·simp at hv
theorem UQ {x i:Operand} {x' i':O} {t e:TypeId} {m len:Nat} (E:dc P w D ι env a) (ho:o.op=.indexAddr t x i) (ht:P.underlying t=some (.array len e)) (hm:eO P e=some (m+1)) (hx:cO P x=some x') (hi:cO P i=some i')
  (hv:cK len (m+1) (dj env x') (dj env i')=some v):pK P a o w D ι v:=by
 have hr:=ec E hx
 have Hx:=ec E hi
 have go:∀b oo k (q:Int),a.eval x=.pointer (some ⟨b,oo,none⟩)->a.eval i=.int k q->0<=q->q<len->(execOp a.eval o).run P w=.ok (.value (.pointer (some ⟨b,oo+q.toNat*(m+1),none⟩))) w:=fun b oo k q h h2 h3 h4=>by
  simp only[execOp,ho,h,h2,Instr.indexAt,asIntOf,Sem.run_bind,Sem.run_pure,run_underlying ht,Instr.sureAddr,Result.andThen_ok,h3,h4,and_self,if_true,run_sizeOf hm,lO]
 unfold cK at hv
 split at hv
 ·rename_i lG r oo k q hb pH
  split at hv
  ·rename_i hq
   simp at hv;subst hv
   rw[hb]at hr;rw[pH]at Hx
   obtain⟨B,h,hB,hk⟩:=jc hr
   refine⟨_,go _ _ k q h (eb Hx) hq.1 hq.2,?_⟩
   rw[Nat.add_assoc]
   exact .ptr _ _ _ _ hB hk
  ·simp at hv
 ·rename_i cs k q hb pH
  split at hv
  ·rename_i hq
   simp at hv;subst hv
   rw[hb]at hr;rw[pH]at Hx
   obtain⟨b,oo,vs,h,h1,h2,h3,h4⟩:=mH hr
   refine⟨_,go _ _ k q h (eb Hx) hq.1 hq.2,.eX _ _ (.ef _ _ _ (fun j=>vs (q.toNat*(m+1)+j)) h1 (fun a ha=>h2 a (List.mem_of_mem_drop ha)) (fun j hj=>?_) (fun j a ha=>h4 _ _ (by simpa using ha)))⟩
   rw[Nat.add_assoc]
   exact h3 _ (by simp at hj;omega)
  ·simp at hv
 ·simp at hv
theorem US {x i:Operand} {x' i':O} {t:TypeId} (E:dc P w D ι env a) (ho:o.op=.index t x i) (ht:P.underlying t=some .string) (hx:cO P x=some x') (hi:cO P i=some i')
  (hv:cP (dj env x') (dj env i')=some v):pK P a o w D ι v:=by
 have hr:=ec E hx
 have Hx:=ec E hi
 unfold cP at hv
 split at hv
 ·rename_i s k q hb pH
  split at hv
  ·rename_i hq
   simp only[Option.map_eq_some_iff]at hv
   obtain⟨c,hc,rfl⟩:=hv
   rw[hb]at hr;rw[pH]at Hx
   refine⟨_,?_,.eX _ _ (.int _ _)⟩
   simp only[execOp,ho,gK hr,eb Hx,Instr.index,asIntOf,Sem.run_bind,Sem.run_pure,run_underlying ht,Result.andThen_ok,hq,if_true,hc]
  ·simp at hv
 ·simp at hv
theorem UR {x i:Operand} {x' i':O} {t e:TypeId} {ag:Bool} {len n:Nat} (E:dc P w D ι env a) (ho:o.op=.index t x i) (ht:P.underlying t=some (.array len e)) (w8:nM P e=some ag) (hn:eO P e=some n) (hx:cO P x=some x') (hi:cO P i=some i')
  (hv:cL ag len n (dj env x') (dj env i')=some v):pK P a o w D ι v:=by
 have hr:=ec E hx
 have Hx:=ec E hi
 unfold cL at hv
 split at hv
 ·rename_i cs k q hb pH
  split at hv
  ·rename_i hq
   rw[hb]at hr;rw[pH]at Hx
   obtain⟨vs,f,h,n1,fl,f1,r1⟩:=jo hr
   have go:∀u,(Go.part e vs (q.toNat*n)).run P w=.ok u w->(execOp a.eval o).run P w=.ok (.value u) w:=fun u hu=>by
    simp only[execOp,ho,h,eb Hx,Instr.index,asIntOf,Sem.run_bind,Sem.run_pure,run_underlying ht,Result.andThen_ok,hq,and_self,if_true,run_sizeOf hn,hu]
   unfold part at hv
   cases ag with
   |true=>
    simp only[if_true]at hv
    split at hv
    ·rename_i hl
     simp at hv;subst hv
     simp only[List.length_drop]at hl
     by_cases LK:n=0
     ·subst LK
      refine⟨_,go _ (rn w8 hn),.agg _ _ (fun _=>undef) (by simp) (fun a ha=>by simp at ha) (fun j hj=>by simp at hj) (fun j a ha=>by simp at ha)⟩
     refine⟨_,go _ (rn w8 hn),.agg _ _ (fun j=>f (q.toNat*n+j)) (by simp[n1];omega) (fun a ha=>fl a (List.mem_of_mem_drop (List.mem_of_mem_take ha))) (fun j hj=>?_) (fun j a ha=>?_)⟩
     ·simp at hj
      rw[Array.getElem?_extract,if_pos ae];exact f1 _ ae
     ·rw[List.getElem?_take]at ha
      split at ha
      ·exact r1 _ _ (by simpa using ha)
      ·simp at ha
    ·simp at hv
   |false=>
    simp only[Bool.false_eq_true,if_false]at hv
    have pJ:cs[q.toNat*n]? =some v:=by simpa[List.head?_drop]using hv
    have eG:=(List.getElem?_eq_some_iff.1 pJ).1
    exact⟨_,go _ (oh w8 (f1 _ eG)),r1 _ _ pJ⟩
  ·simp at hv
 ·simp at hv
theorem Ls {x:Operand} {x':O} {i:Nat} (E:dc P w D ι env a) (ho:o.op=.extract x i) (hx:cO P x=some x') (hv:aJ i (dj env x')=some v):pK P a o w D ι v:=by
 have hr:=ec E hx
 unfold aJ at hv
 split at hv
 ·rename_i vs hb
  rw[hb]at hr
  obtain⟨us,f,h,h1,h2,h3⟩:=xX hr
  have eG:=(List.getElem?_eq_some_iff.1 hv).1
  exact⟨_,by simp only[execOp,ho,h,Instr.extract,h2 _ eG];rfl,h3 _ _ hv⟩
 ·simp at hv
theorem Yn {x:Operand} {x':O} {t:TypeId} {e:TypeId} {n:Nat} (E:dc P w D ι env a) (ho:o.op=.call {callee:=.builtin .len,args:= #[x],argTypes:= #[t]}) (ht:P.underlying t=some (.slice e)) (hx:cO P x=some x') (hv:dF (dj env x')=some n):pK P a o w D ι (.int .i64 n):=by
 have hr:=ec E hx
 have go:∀A c,a.eval x=.slice A n c->(execOp a.eval o).run P w=.ok (.value (.int .i64 n)) w:=fun A c h=>by
  simp only[execOp,ho,resolve,Sem.run_bind,Sem.run_pure,Result.andThen_ok,invoke,builtin,Array.map,h]
  simp[Builtin.len_,run_underlying ht,goInt,h]
 refine⟨.int .i64 n,?_,.eX _ _ (.int _ _)⟩
 unfold dF at hv
 split at hv<;>simp at hv<;>subst hv<;>rename_i hb<;>rw[hb]at hr
 ·exact go _ _ (jM hr)
 ·obtain⟨A,c,h,_⟩:=zZ hr;exact go _ _ h
 ·obtain⟨oo,cap,B,h,_⟩:=jq hr;exact go _ _ h
theorem UU {x:Operand} {x':O} {t:TypeId} (E:dc P w D ι env a) (ho:o.op=.call {callee:=.builtin .len,args:= #[x],argTypes:= #[t]}) (ht:P.underlying t=some .string) (hx:cO P x=some x') (hv:cR (dj env x')=some v):pK P a o w D ι v:=by
 have hr:=ec E hx
 unfold cR at hv
 split at hv
 ·rename_i s hb
  simp at hv;subst hv
  rw[hb]at hr
  have h:=gK hr
  refine⟨_,?_,.eX _ _ (.int _ _)⟩
  simp only[execOp,ho,resolve,Sem.run_bind,Sem.run_pure,Result.andThen_ok,invoke,builtin,Array.map,h]
  simp[Builtin.len_,run_underlying ht,goInt,h]
 ·simp at hv
theorem oZ {isS:Bool} {len cap h l:Nat} {lo hi:Option Operand} {RZ tL:Option O} (E:dc P w D ι env a) (lW:tV P lo=some RZ) (Gv:tV P hi=some tL) (hh:dy len (tL.map (dj env))=some h) (hl:dz h (RZ.map (dj env))=some l) (hc:len<=cap):
  (Instr.sliceBounds isS len cap (lo.map a.eval) (hi.map a.eval) none).run P w=.ok (l,h,cap) w/\l<=h/\h<=len:=by
 have bound:∀(x:Operand) (y:O) (k:IntKind) (n:Int) (m:Nat) (c:BoundsCode),cO P x=some y->dj env y=.int k n->0<=n->n<=m->(Instr.sliceBound (a.eval x) m c).run P w=.ok n.toNat w:=fun x y k n m c hx hy h0 h1=>by
  have hr:=ec E hx
  rw[hy]at hr
  simp only[Instr.sliceBound,eb hr,asIntOf,Sem.run_bind,Sem.run_pure,Result.andThen_ok,h0,h1,and_self,if_true]
 have H:h<=len/\((hi=none/\h=len)∨∃x,hi=some x/\∀c,(Instr.sliceBound (a.eval x) cap c).run P w=.ok h w):=by
  cases hi with
  |none=>
   simp[tV]at Gv;subst Gv
   simp[dy]at hh;subst hh
   exact⟨Nat.le_refl _,.inl ⟨rfl,rfl⟩⟩
  |some x=>
   simp only[tV,Option.map_eq_some_iff]at Gv
   obtain⟨y,hy,rfl⟩:=Gv
   simp only[Option.map_some,dy]at hh
   split at hh
   ·rename_i e;cases e
   ·rename_i k n e
    injection e with e
    split at hh
    ·rename_i hn
     simp at hh;subst hh
     exact⟨ae,.inr ⟨x,rfl,fun c=>bound x y k n _ _ hy e hn.1 ae⟩⟩
    ·simp at hh
   ·simp at hh
 have L:l<=h/\((lo=none/\l=0)∨∃x,lo=some x/\∀c,(Instr.sliceBound (a.eval x) h c).run P w=.ok l w):=by
  cases lo with
  |none=>
   simp[tV]at lW;subst lW
   simp[dz]at hl;subst hl
   exact⟨Nat.zero_le _,.inl ⟨rfl,rfl⟩⟩
  |some x=>
   simp only[tV,Option.map_eq_some_iff]at lW
   obtain⟨y,hy,rfl⟩:=lW
   simp only[Option.map_some,dz]at hl
   split at hl
   ·rename_i e;cases e
   ·rename_i k n e
    injection e with e
    split at hl
    ·rename_i hn
     simp at hl;subst hl
     exact⟨ae,.inr ⟨x,rfl,fun c=>bound x y k n h _ hy e hn.1 hn.2⟩⟩
    ·simp at hl
   ·simp at hl
 refine⟨?_,L.1,H.1⟩
 unfold Instr.sliceBounds
 rcases H.2 with⟨rfl,rfl⟩|⟨x,rfl,hx⟩<;>rcases L.2 with⟨rfl,rfl⟩|⟨y,rfl,hy⟩<;>
  simp only[Option.map_none,Option.map_some,Sem.run_bind,Sem.run_pure,Result.andThen_ok, *]
theorem Rb {x:Operand} {x':O} {lo hi:Option Operand} {RZ tL:Option O} {t e:TypeId} {m:Nat} (S:ig P hs D ι g w) (E:dc P w D ι env a) (ho:o.op=.slice t x lo hi none) (ht:P.underlying t=some (.slice e)) (hm:eO P e=some m) (hx:cO P x=some x') (lW:tV P lo=some RZ) (Gv:tV P hi=some tL)
  (hv:bP g m (dj env x') (RZ.map (dj env)) (tL.map (dj env))=some v):pK P a o w D ι v:=by
 have hr:=ec E hx
 have go:∀A len cap l h,a.eval x=.slice A len cap->(Instr.sliceBounds true len cap (lo.map a.eval) (hi.map a.eval) none).run P w=.ok (l,h,cap) w->(execOp a.eval o).run P w=.ok (.value (.slice (if cap=l then A else A.map (·.add (l*m))) (h-l) (cap-l))) w:=fun A len cap l h h1 h2=>by
  simp only[execOp,ho,h1,Instr.sliceAt,Instr.slice,Sem.run_bind,Sem.run_pure,run_underlying ht,Result.andThen_ok,Option.map_none,h2,run_sizeOf hm]
 unfold bP at hv
 split at hv
 ·rename_i hb
  rw[hb]at hr
  simp only[Option.bind_eq_some_iff,Option.map_eq_some_iff]at hv
  obtain⟨h,hh,l,hl,rfl⟩:=hv
  obtain⟨q,q1,q2⟩:=oZ (w:=w) (isS:=true) (cap:=0) E lW Gv hh hl (Nat.le_refl _)
  have h0:h=0:=ae
  have l0:l=0:=ae
  subst h0;subst l0
  refine⟨_,go _ _ _ _ _ (jM hr) q,?_⟩
  simp;exact .eX _ _ .bj
 ·rename_i rows hb
  rw[hb]at hr
  simp only[Option.bind_eq_some_iff,Option.map_eq_some_iff]at hv
  obtain⟨h,hh,l,hl,hv⟩:=hv
  split at hv
  ·rename_i eJ
   simp at hv;subst hv
   obtain⟨A,c,he,c1,c2,h3⟩:=zZ hr
   obtain⟨q,q1,q2⟩:=oZ (w:=w) (isS:=true) (cap:=c) E lW Gv hh hl c1
   refine⟨_,go _ _ _ _ _ he q,.eX _ _ ?_⟩
   have hlen:((rows.drop l).take (h-l)).length=h-l:=by simp;omega
   by_cases hz:h-l=0
   ·have:(rows.drop l).take (h-l)=[]:=by rw[hz];simp
    rw[this,hz]
    exact .D6 _ _ ae
   ·rcases h3 with h3|⟨b,oo,sz,vs,rfl,hD,TD,fl,hc,hi⟩
    ·subst h3;simp at q2;omega
    rw[if_neg ae]
    simp only[Option.map_some,lO]
    have E8:sz=m:=by
     have eG:l<rows.length:=ae
     have:=eJ rows[l] (List.getElem_mem eG)
     rw[<-this,TD _ (List.getElem_mem eG)]
    subst E8
    refine .sl _ b _ _ _ sz (fun i j=>vs (l+i) j) hlen ae ae hD (fun cs ek=>TD cs (List.mem_of_mem_drop (List.mem_of_mem_take ek))) (fun cs ek=>fl cs (List.mem_of_mem_drop (List.mem_of_mem_take ek))) (fun i j hi hj=>?_) (fun i j cs a ek ha=>?_)
    ·rw[<-hc (l+i) j ae hj,Nat.add_mul]
     congr 2;omega
    ·rw[List.getElem?_take]at ek
     split at ek
     ·exact hi _ _ _ _ (by simpa using ek) ha
     ·simp at ek
  ·simp at hv
 ·rename_i lG off len hb
  rw[hb]at hr
  simp only[Option.bind_eq_some_iff,Option.map_eq_some_iff]at hv
  obtain⟨r,LH,h,hh,l,hl,hv⟩:=hv
  split at hv
  ·rename_i BE
   simp at hv;subst hv
   obtain⟨oo,cap,B,he,hB,h1,h2,h3,h4,hk⟩:=jq hr
   obtain⟨B',eA,R,_,_⟩:=S.row _ _ LH
   rw[hB]at eA;injection eA with eA;subst eA
   replace R:=R.row hk
   have ew:B.sz=m:=R.sz.trans BE
   obtain⟨q,q1,q2⟩:=oZ (w:=w) (isS:=true) (cap:=cap) E lW Gv hh hl h1
   refine⟨_,go _ _ _ _ _ he q,?_⟩
   have e1:(off+l+(cap-l))*B.sz<=B.C:=by rw[show off+l+(cap-l)=off+cap by omega];exact h3
   by_cases pP:cap=l
   ·rw[if_pos pP]
    exact .own _ _ _ _ _ B hB hk ae (.inl ae) e1 ae
   ·rw[if_neg pP]
    simp only[Option.map_some,lO]
    have DQ:oo=off*B.sz:=by rcases h2 with h2|h2<;>omega
    exact .own _ _ _ _ _ B hB hk ae (.inr (by rw[DQ,ew,Nat.add_mul])) e1 ae
  ·simp at hv
 ·simp at hv
theorem OF {x:Operand} {x':O} {lo hi:Option Operand} {RZ tL:Option O} {t:TypeId} (E:dc P w D ι env a) (ho:o.op=.slice t x lo hi none) (ht:P.underlying t=some .string) (hx:cO P x=some x') (lW:tV P lo=some RZ) (Gv:tV P hi=some tL)
  (hv:aW (dj env x') (RZ.map (dj env)) (tL.map (dj env))=some v):pK P a o w D ι v:=by
 have hr:=ec E hx
 unfold aW at hv
 split at hv
 ·rename_i s hb
  rw[hb]at hr
  simp only[Option.bind_eq_some_iff,Option.map_eq_some_iff]at hv
  obtain⟨h,hh,l,hl,rfl⟩:=hv
  obtain⟨q,_,_⟩:=oZ (w:=w) (isS:=false) E lW Gv hh hl (Nat.le_refl _)
  refine⟨_,?_,.eX _ _ (.str _)⟩
  simp only[execOp,ho,gK hr,Instr.sliceAt,Instr.slice,Sem.run_bind,Sem.run_pure,run_underlying ht,Result.andThen_ok,Option.map_none,Option.isSome_none,Bool.false_eq_true,if_false,q]
 ·simp at hv
theorem HV {xs:List Operand} {ys:List O} (E:dc P w D ι env a) (h:xs.mapM (cO P)=some ys):(xs.map a.eval).length=ys.length/\∀j y,ys[j]? =some y->du P w D ι (dj env y) ((xs.map a.eval).getD j undef):=by
 induction xs generalizing ys with
 |nil=>simp at h;subst h;simp
 |cons x r ih=>
  simp only[List.mapM_cons,Option.bind_eq_bind,Option.bind_eq_some_iff]at h
  obtain⟨c,hc,tZ,ek,h⟩:=h
  simp at h;subst h
  obtain⟨h1,h2⟩:=ih ek
  refine⟨by simpa using h1,fun j d hd=>?_⟩
  cases j with
  |zero=>simp at hd ⊢;subst hd;exact ec E hc
  |succ j=>simp at hd ⊢;simpa using h2 j d hd
theorem UY {f:Nat} {first dG:Array Operand} {Ez:List O} (E:dc P w D ι env a) (ho:o.op=.makeFunc (.func f) first dG) (hf:first= #[]) (hc:gR P f=true) (hx:dG.toList.mapM (cO P)=some Ez):pK P a o w D ι (.fn f (Ez.map (dj env))):=by
 subst hf
 obtain⟨h1,h2⟩:=HV E hx
 refine⟨.func (.func f) #[] (dG.map a.eval),by simp only[execOp,ho,Instr.makeFunc,Sem.run_bind,Sem.run_pure,Result.andThen_ok];simp,.fn _ _ _ (fun j=>(dG.toList.map a.eval).getD j undef) hc (by simpa using h1) (fun j hj=>?_) (fun j x V4=>?_)⟩
 ·simp at hj h1
  have:j<dG.size:=ae
  simp[this]
 ·simp only[List.getElem?_map,Option.map_eq_some_iff]at V4
  obtain⟨y,hy,rfl⟩:=V4
  exact h2 j y hy
theorem UZ {f:Nat} {first dG:Array Operand} {Ez:List O} (E:dc P w D ι env a) (ho:o.op=.makeFunc (.func f) first dG) (hf:dG= #[]) (hc:gR P f=true) (hx:first.toList.mapM (cO P)=some Ez):pK P a o w D ι (.xh f (Ez.map (dj env))):=by
 subst hf
 obtain⟨h1,h2⟩:=HV E hx
 refine⟨.func (.func f) (first.map a.eval) #[],by simp only[execOp,ho,Instr.makeFunc,Sem.run_bind,Sem.run_pure,Result.andThen_ok];simp,.xh _ _ _ (fun j=>(first.toList.map a.eval).getD j undef) hc (by simpa using h1) (fun j hj=>?_) (fun j x V4=>?_)⟩
 ·simp at hj h1
  have:j<first.size:=ae
  simp[this]
 ·simp only[List.getElem?_map,Option.map_eq_some_iff]at V4
  obtain⟨y,hy,rfl⟩:=V4
  exact h2 j y hy
end
end Go.Proofs.YtainmfbpilopaaaGreatDoor.V

namespace Go.Proofs.YtainmfbpilopaaaGreatDoor.V
open Go.RowKit
variable {P:Program} {w w':World} {D D':Nat->Prop} {ι ι':Names}
def Mk (P:Program) (a:Act) (o:Oper) (w:World) (D:Nat->Prop) (ι:Names) (id:Id) (v:AV) (r:Row):Prop:=
 ∃u cells T,(execOp a.eval o).run P w=.ok (.value u) (w.alloc (.cells cells T))/\r.w=true/\r.rows.length*r.sz<=cells.size/\(∀cs∈r.rows,cs.length=r.sz)/\(∀cs∈r.rows,∀a∈cs,a.cell=true)/\
  (∀i j cs a,r.rows[i]? =some cs->cs[j]? =some a->∃x,cells[i*r.sz+j]? =some x/\du P w D ι a x)/\∀ι':Names,ι' id=some ⟨w.heap.size,r.sz,cells.size,none⟩->du P w D ι' v u
section
variable {g:Rows} {hs:Nat} {env:Env} {a:Act} {o:Oper} {id:Id} {v:AV}
theorem kL {vs:List Value} {cs:List K} (h:vs.mapM Kz=some cs):fY P w D ι (cs.map K.av) vs.toArray:=by
 obtain⟨h1,h2⟩:=uA h
 refine⟨by simp[h1],fun j a ha=>?_⟩
 simp only[List.getElem?_map,Option.map_eq_some_iff]at ha
 obtain⟨c,hc,rfl⟩:=ha
 exact⟨c.val,by simpa using h2 j c hc,zW c⟩
theorem lq {t:TypeId} {z:List K} (h:kP P t=some z):∃i v,P.info? t=some i/\i.zero=some v/\v.cells.size=i.size/\v.cells.toList.mapM Kz=some z/\z.length=i.size:=by
 unfold kP at h
 split at h
 ·rename_i i hi
  split at h
  ·rename_i v hv
   split at h
   ·rename_i hs
    exact⟨i,v,hi,hv,hs,h,by rw[(uA h).1];simpa using hs⟩
   ·simp at h
  ·simp at h
 ·simp at h
theorem Jg {cs:List AV} {cells:Array Value} (h:fY P w D ι cs cells):∀i j c a,[cs][i]? =some c->c[j]? =some a->∃x,cells[i*cs.length+j]? =some x/\du P w D ι a x:=by
 intro i j c a hi hj
 cases i with
 |zero=>simp at hi;subst hi;simpa using h.2 j a hj
 |succ i=>simp at hi
theorem XS {t:TypeId} {z:List K} (ho:o.op=.alloc t) (hz:kP P t=some z):Mk P a o w D ι id (.ptr id 0 0) ⟨true,z.length,[z.map K.av]⟩:=by
 obtain⟨i,v,hi,hv,hs,hm,hl⟩:=lq hz
 have hk:=kL (P:=P) (w:=w) (D:=D) (ι:=ι) hm
 refine⟨.pointer (some ⟨w.heap.size,0,none⟩),v.cells,t,?_,rfl,?_,?_,?_,?_,?_⟩
 ·simp only[execOp,ho,Instr.alloc,zeroValue,typeInfo,Sem.run_bind]
  simp[hi,hv,newVar,newRow]
 ·simp[hl,hs]
 ·intro cs ek;simp at ek;subst ek;simp
 ·intro cs ek x hx;simp at ek;subst ek
  obtain⟨c,_,rfl⟩:=List.mem_map.1 hx;exact c.oI
 ·have:=Jg hk;simpa using this
 ·intro ι' hι
  have:=du.ptr (P:=P) (w:=w) (D:=D) (ι:=ι') id 0 0 _ hι rfl
  simpa using this
theorem tF {x:AV} {u:Value} (h:du P w D ι x u) (hc:x.cells.all AV.cell=true):fY P w D ι x.cells u.cells:=by
 obtain⟨h1,f,h2,h3⟩:=h.cells hc
 exact⟨h1,fun j a ha=>⟨f j,h2 j (List.getElem?_eq_some_iff.1 ha).1,h3 j a ha⟩⟩
theorem XQ {t:TypeId} {x:Operand} {x':O} {cs:List AV} (E:dc P w D ι env a) (ho:o.op=.box t x) (hx:cO P x=some x') (hb:cH (dj env x')=some cs):Mk P a o w D ι id (.ptr id 0 0) ⟨true,cs.length,[cs]⟩:=by
 have hr:=ec E hx
 unfold cH at hb
 split at hb
 ·rename_i eJ
  simp at hb;subst hb
  have hk:=tF hr eJ
  refine⟨.pointer (some ⟨w.heap.size,0,none⟩),(a.eval x).cells,t,?_,rfl,?_,?_,?_,?_,?_⟩
  ·simp only[execOp,ho,Instr.box,Sem.run_bind]
   simp[newVar,newRow]
  ·simp[hk.1]
  ·intro cs ek;simp at ek;subst ek;rfl
  ·intro cs ek y hy;simp at ek;subst ek
   exact List.all_eq_true.1 eJ y hy
  ·exact Jg hk
  ·intro ι' hι
   have:=du.ptr (P:=P) (w:=w) (D:=D) (ι:=ι') id 0 0 _ hι rfl
   simpa using this
 ·simp at hb
theorem foldl_set:∀(vs:List Value) (n off:Nat) (cells:Array Value),off+n+vs.length<=cells.size->((vs.zipIdx n).foldl (fun cs (x:Value×Nat)=>cs.setIfInBounds (off+x.2) x.1) cells).size=cells.size/\
  ∀k,((vs.zipIdx n).foldl (fun cs (x:Value×Nat)=>cs.setIfInBounds (off+x.2) x.1) cells)[k]? =if off+n<=k/\k<off+n+vs.length then vs[k-(off+n)]? else cells[k]?
 |[],n,off,cells,_=>⟨rfl,fun k=>by simp;intro h1 h2;omega⟩
 |v::r,n,off,cells,h=>by
  simp only[List.length_cons]at h
  obtain⟨h1,h2⟩:=foldl_set r (n+1) off (cells.setIfInBounds (off+n) v) (by simp;omega)
  simp only[List.zipIdx_cons,List.foldl_cons]
  refine⟨by rw[h1];simp,fun k=>?_⟩
  rw[h2 k]
  simp only[List.length_cons]
  by_cases hk:k=off+n
  ·subst hk
   rw[if_neg ae,if_pos ae]
   simp[show off+n<cells.size by omega]
  ·by_cases sr:off+n<=k/\k<off+n+(r.length+1)
   ·rw[if_pos ae,if_pos sr]
    have:k-(off+n)=(k-(off+(n+1)))+1:=ae
    rw[this,List.getElem?_cons_succ]
   ·rw[if_neg ae,if_neg sr,Array.getElem?_setIfInBounds_ne ae]
theorem yO (place:Nat->Option (Nat×Nat)):∀(ps:List (Nat×Value)) (qs:List (Nat×Nat×AV)) (cells:Array Value) (cs res:List AV),fY P w D ι cs cells->(∀a∈cs,a.cell=true)->ps.length=qs.length->
  (∀(k:Nat) i u o' n x,ps[k]? =some (i,u)->qs[k]? =some (o',n,x)->place i=some (o',n)/\du P w D ι x u)->cu cs qs=some res->∃kf,Instr.fill place cells ps=some kf/\fY P w D ι res kf/\(∀a∈res,a.cell=true)/\res.length=cs.length:=by
 intro ps
 induction ps with
 |nil=>
  intro qs cells cs res hR hf hl _ hv
  cases qs with
  |nil=>simp[cu]at hv;subst hv;exact⟨cells,rfl,hR,hf,rfl⟩
  |cons q r=>simp at hl
 |cons p ps ih=>
  intro qs cells cs res hR hf hl hp hv
  cases qs with
  |nil=>simp at hl
  |cons q qs=>
   obtain⟨i,u⟩:=p
   obtain⟨oo,n,x⟩:=q
   obtain⟨lU,hr⟩:=hp 0 i u oo n x rfl rfl
   unfold cu at hv
   split at hv
   ·rename_i hc
    obtain⟨c1,c2,c3⟩:=hc
    have hk:=tF hr c3
    have hus:u.cells.size=n:=by rw[hk.1,c1]
    have ek:cells.size=cs.length:=hR.1
    unfold Instr.fill
    simp only[lU]
    rw[if_neg (by rw[hus,ek];simp;omega)]
    obtain⟨s1,s2⟩:=foldl_set u.cells.toList 0 oo cells (by simp;omega)
    have e0:(u.cells.zipIdx.foldl (fun cs (x:Value×Nat)=>cs.setIfInBounds (oo+x.2) x.1) cells)=(u.cells.toList.zipIdx 0).foldl (fun cs (x:Value×Nat)=>cs.setIfInBounds (oo+x.2) x.1) cells:=by
     rw[<-Array.foldl_toList];simp
    have As:=ih qs (u.cells.zipIdx.foldl (fun cs (x:Value×Nat)=>cs.setIfInBounds (oo+x.2) x.1) cells) (cs.take oo++x.cells++cs.drop (oo+n)) res ?_ ?_ (by simpa using hl) (fun k i u o' n x h1 h2=>hp (k+1) i u o' n x (by simpa using h1) (by simpa using h2)) hv
    ·obtain⟨kf,h1,h2,h3,h4⟩:=As
     refine⟨kf,h1,h2,h3,?_⟩
     rw[h4];simp;omega
    ·rw[e0]
     refine⟨by rw[s1,ek];simp;omega,fun j a ha=>?_⟩
     rw[s2 j]
     simp only[Nat.add_zero,Array.length_toList]
     by_cases hj:oo<=j/\j<oo+u.cells.size
     ·rw[if_pos hj]
      rw[List.append_assoc,List.getElem?_append_right (by simp;omega),List.getElem?_append_left (by simp;omega)]at ha
      simp only[List.length_take]at ha
      rw[show min oo cs.length=oo by omega]at ha
      simpa using hk.2 _ _ ha
     ·rw[if_neg hj]
      by_cases TB:j<oo
      ·rw[List.append_assoc,List.getElem?_append_left (by simp;omega),List.getElem?_take,if_pos TB]at ha
       exact hR.2 _ _ ha
      ·rw[List.getElem?_append_right (by simp;omega)]at ha
       simp only[List.length_append,List.length_take,List.getElem?_drop]at ha
       rw[show oo+n+(j-(min oo cs.length+x.cells.length))=j by omega]at ha
       exact hR.2 _ _ ha
    ·intro b hb
     rcases List.mem_append.1 hb with hb|hb
     ·rcases List.mem_append.1 hb with hb|hb
      ·exact hf b (List.mem_of_mem_take hb)
      ·exact List.all_eq_true.1 c3 b hb
     ·exact hf b (List.mem_of_mem_drop hb)
   ·simp at hv
theorem AK {fs:List Field} (h:∀f∈fs,(P.info? f.type).isSome=true):∃places,fs.mapM (fun f=>(P.info? f.type).map fun i=>(f.offset,i.size))=some places/\∀(i:Nat) (f:Field) (n:Nat),fs[i]? =some f->eO P f.type=some n->places[i]? =some (f.offset,n):=by
 induction fs with
 |nil=>exact⟨[],rfl,fun i f n h=>by simp at h⟩
 |cons f r ih=>
  obtain⟨q,h1,h2⟩:=ih (fun x hx=>h x (List.mem_cons_of_mem _ hx))
  obtain⟨i,hi⟩:=Option.isSome_iff_exists.1 (h f (by simp))
  refine⟨(f.offset,i.size)::q,by simp[hi,h1],fun k x n hk hn=>?_⟩
  cases k with
  |zero=>simp at hk;subst hk;simp[eO,hi]at hn;subst hn;rfl
  |succ k=>simp at hk ⊢;exact h2 k x n hk hn
theorem sP {ps:List (Nat×Operand)} {l:List (Nat×O)} (E:dc P w D ι env a) (h:ps.mapM (fun(x:Nat×Operand)=>(cO P x.2).map (x.1,·))=some l):l.length=ps.length/\∀(k i:Nat) (y:O),l[k]? =some (i,y)->∃x,ps[k]? =some (i,x)/\cO P x=some y:=by
 induction ps generalizing l with
 |nil=>simp at h;subst h;simp
 |cons p r ih=>
  simp only[List.mapM_cons,Option.bind_eq_bind,Option.bind_eq_some_iff]at h
  obtain⟨c,hc,tZ,ek,h⟩:=h
  simp at h;subst h
  obtain⟨h1,h2⟩:=ih ek
  simp only[Option.map_eq_some_iff]at hc
  obtain⟨y,hy,rfl⟩:=hc
  refine⟨by simp[h1],fun k i z hk=>?_⟩
  cases k with
  |zero=>simp at hk;obtain⟨rfl,rfl⟩:=hk;exact⟨p.2,rfl,hy⟩
  |succ k=>simp at hk ⊢;exact h2 k i z hk
theorem G2 {fs:Array Field} {l:List (Nat×O)} {q:List (Nat×Nat×O)} (h:vJ P fs l=some q):q.length=l.length/\∀(k oo n:Nat) (y:O),q[k]? =some (oo,n,y)->∃(i:Nat) (f:Field),l[k]? =some (i,y)/\fs[i]? =some f/\f.offset=oo/\eO P f.type=some n:=by
 induction l generalizing q with
 |nil=>simp[vJ]at h;subst h;simp
 |cons p r ih=>
  obtain⟨i,x⟩:=p
  unfold vJ at h
  split at h
  ·rename_i f hf
   split at h
   ·rename_i n hn
    simp only[Option.map_eq_some_iff]at h
    obtain⟨q',P7,rfl⟩:=h
    obtain⟨h1,h2⟩:=ih P7
    refine⟨by simp[h1],fun k oo m y hk=>?_⟩
    cases k with
    |zero=>simp at hk;obtain⟨rfl,rfl,rfl⟩:=hk;exact⟨i,f,rfl,hf,rfl,hn⟩
    |succ k=>simp only[List.getElem?_cons_succ]at hk ⊢;exact h2 k oo m y hk
   ·simp at h
  ·simp at h
theorem fY.agg {xs:List AV} {vs:Array Value} (h:fY P w D ι xs vs) (hf:∀a∈xs,a.cell=true):du P w D ι (.agg xs) (.agg vs):=
 .agg xs vs (fun j=>vs.getD j undef) h.1 hf (fun j hj=>by
  have:j<vs.size:=by rw[h.1];exact hj
  simp[this]) (fun j a ha=>by
  obtain⟨u,h1,h2⟩:=h.2 j a ha
  simpa[Array.getD_eq_getD_getElem?,h1]using h2)
theorem Q6 {t:TypeId} {ps:Array (Nat×Operand)} {fs:Array Field} {z:List K} {l:List (Nat×O)} {q:List (Nat×Nat×O)} {cs:List AV} (E:dc P w D ι env a) (ho:o.op=.build t ps) (ht:P.underlying t=some (.struct fs)) (hz:kP P t=some z) (hl:vM P ps=some l)
  (uk:∀f∈fs.toList,(P.info? f.type).isSome=true) (hq:vJ P fs l=some q) (hv:cu (z.map K.av) (q.map fun(o,n,x)=>(o,n,dj env x))=some cs):pK P a o w D ι (.agg cs):=by
 obtain⟨it,zv,hi,ze,hs,hm,I9⟩:=lq hz
 obtain⟨places,lU,hpl2⟩:=AK uk
 have hk:=kL (P:=P) (w:=w) (D:=D) (ι:=ι) hm
 obtain⟨n1,r1⟩:=sP E hl
 obtain⟨n2,r2⟩:=G2 hq
 obtain⟨kf,h1,h2,h3,_⟩:=yO (P:=P) (w:=w) (D:=D) (ι:=ι) (places.toArray[·]?) (ps.toList.map fun(i,x)=>(i,a.eval x)) (q.map fun(o,n,x)=>(o,n,dj env x)) zv.cells _ cs (by simpa using hk)
  (fun b hb=>by obtain⟨c,_,rfl⟩:=List.mem_map.1 hb;exact c.oI) (by simp[n2,n1]) (fun k i u o' n x uo sr=>by
   simp only[List.getElem?_map,Option.map_eq_some_iff]at uo sr
   obtain⟨⟨i',x'⟩,hp,e1⟩:=uo
   obtain⟨⟨o2,n',y⟩,P7,e2⟩:=sr
   simp only[Prod.mk.injEq]at e1 e2
   obtain⟨rfl,rfl⟩:=e1
   obtain⟨rfl,rfl,rfl⟩:=e2
   obtain⟨i2,f,M0,hf,rfl,hn⟩:=r2 _ _ _ _ P7
   obtain⟨x2,pU,hc⟩:=r1 _ _ _ M0
   rw[hp]at pU
   simp only[Option.some.injEq,Prod.mk.injEq]at pU
   obtain⟨rfl,rfl⟩:=pU
   exact⟨by simpa using hpl2 _ _ _ (by simpa using hf) hn,ec E hc⟩) hv
 refine⟨.agg kf,?_,h2.agg h3⟩
 have hb:P.built t ((ps.map fun(i,x)=>(i,a.eval x)).toList)=some kf:=by
  unfold Program.built
  simp only[hi,ht,ze,lU]
  simpa using h1
 simp only[execOp,ho,Sem.run_bind,run_build w t _ _ hb,Result.andThen_ok,Sem.run_pure]
theorem OE {t e:TypeId} {len n:Nat} {ps:Array (Nat×Operand)} {z:List K} {l:List (Nat×O)} {cs:List AV} (E:dc P w D ι env a) (ho:o.op=.build t ps) (ht:P.underlying t=some (.array len e)) (hz:kP P t=some z) (hl:vM P ps=some l) (hn:eO P e=some n)
  (hv:cu (z.map K.av) ((l.map fun(x:Nat×O)=>(x.1*n,n,x.2)).map fun(o,n,x)=>(o,n,dj env x))=some cs):pK P a o w D ι (.agg cs):=by
 obtain⟨it,zv,hi,ze,hs,hm,I9⟩:=lq hz
 have hk:=kL (P:=P) (w:=w) (D:=D) (ι:=ι) hm
 obtain⟨n1,r1⟩:=sP E hl
 obtain⟨ie,O4,ew⟩:∃ie,P.info? e=some ie/\ie.size=n:=by simpa[eO]using hn
 obtain⟨kf,h1,h2,h3,_⟩:=yO (P:=P) (w:=w) (D:=D) (ι:=ι) (fun i=>some (i*ie.size,ie.size)) (ps.toList.map fun(i,x)=>(i,a.eval x)) ((l.map fun(x:Nat×O)=>(x.1*n,n,x.2)).map fun(o,n,x)=>(o,n,dj env x)) zv.cells _ cs (by simpa using hk)
  (fun b hb=>by obtain⟨c,_,rfl⟩:=List.mem_map.1 hb;exact c.oI) (by simp[n1]) (fun k i u o' n' x uo sr=>by
   simp only[List.getElem?_map,Option.map_eq_some_iff]at uo sr
   obtain⟨⟨i',x'⟩,hp,e1⟩:=uo
   obtain⟨⟨o2,n2,y⟩,⟨⟨i2,y2⟩,M0,e3⟩,e2⟩:=sr
   simp only[Prod.mk.injEq]at e1 e2 e3
   obtain⟨rfl,rfl⟩:=e1
   obtain⟨rfl,rfl,rfl⟩:=e2
   obtain⟨rfl,rfl,rfl⟩:=e3
   obtain⟨x2,pU,hc⟩:=r1 _ _ _ M0
   rw[hp]at pU
   simp only[Option.some.injEq,Prod.mk.injEq]at pU
   obtain⟨rfl,rfl⟩:=pU
   exact⟨by rw[ew],ec E hc⟩) hv
 refine⟨.agg kf,?_,h2.agg h3⟩
 have hb:P.built t ((ps.map fun(i,x)=>(i,a.eval x)).toList)=some kf:=by
  unfold Program.built
  simp only[hi,ht,ze,O4]
  simpa using h1
 simp only[execOp,ho,Sem.run_bind,run_build w t _ _ hb,Result.andThen_ok,Sem.run_pure]
theorem yN:∀(vs:List AV) (sz i:Nat) (rs:List (List AV)) (cs:List AV),0<sz->cs.length=(i+vs.length)*sz->rowsOf sz vs=some rs->
  cu cs ((vs.zipIdx i).map fun(v,j)=>(j*sz,sz,v))=some (cs.take (i*sz)++rs.flatten)/\rs.length=vs.length/\(∀c∈rs,c.length=sz)/\∀c∈rs,∀x∈c,x.cell=true
 |[],sz,i,rs,cs,_,hl,h=>by
  simp[rowsOf]at h;subst h
  simp at hl
  simp[cu,List.take_of_length_le (show cs.length<=i*sz by omega)]
 |v::r,sz,i,rs,cs,ew,hl,h=>by
  simp only[rowsOf,Option.bind_eq_some_iff,Option.map_eq_some_iff]at h
  obtain⟨c,hc,rs',BE,rfl⟩:=h
  unfold rowOf at hc
  split at hc
  ·rename_i WV
   simp at hc;subst hc
   obtain⟨sq,Hr⟩:=WV
   simp only[List.length_cons]at hl
   have hmul:(i+(r.length+1))*sz=i*sz+sz+r.length*sz:=by rw[Nat.add_mul,Nat.add_mul];omega
   have ih:=yN r sz (i+1) rs' (cs.take (i*sz)++v.cells++cs.drop (i*sz+sz)) ew (by
    simp[sq];rw[Nat.add_mul,Nat.add_mul];omega) BE
   refine⟨?_,by simp[ih.2.1],?_,?_⟩
   ·simp only[List.zipIdx_cons,List.map_cons,cu]
    rw[if_pos ⟨sq,ae,Hr⟩,ih.1]
    congr 1
    rw[List.flatten_cons,<-List.append_assoc]
    congr 1
    rw[Nat.add_mul,Nat.one_mul,List.take_append_of_le_length (by simp[sq];omega)]
    rw[List.take_of_length_le (by simp[sq];omega)]
   ·intro c' lR;rcases List.mem_cons.1 lR with rfl|lR
    ·exact sq
    ·exact ih.2.2.1 c' lR
   ·intro c' lR;rcases List.mem_cons.1 lR with rfl|lR
    ·exact List.all_eq_true.1 Hr
    ·exact ih.2.2.2 c' lR
  ·simp at hc
theorem flat_get {α:Type} {qi:List (List α)} {sz:Nat} (h:∀cs∈qi,cs.length=sz) {i j:Nat} {cs:List α} {a:α} (hi:qi[i]? =some cs) (hj:cs[j]? =some a):qi.flatten[i*sz+j]? =some a:=by
 induction qi generalizing i with
 |nil=>simp at hi
 |cons c r ih=>
  have hc:c.length=sz:=h c (by simp)
  cases i with
  |zero=>
   simp at hi;subst hi
   have eG:=(List.getElem?_eq_some_iff.1 hj).1
   rw[List.flatten_cons,List.getElem?_append_left ae];simpa using hj
  |succ i=>
   rw[List.flatten_cons,List.getElem?_append_right (by rw[hc,Nat.succ_mul];omega)]
   have:(i+1)*sz+j-c.length=i*sz+j:=by rw[hc,Nat.succ_mul];omega
   rw[this]
   exact ih (fun cs ek=>h cs (List.mem_cons_of_mem _ ek)) (by simpa using hi)
theorem MA {α:Type} {qi:List (List α)} {sz:Nat} (h:∀cs∈qi,cs.length=sz):qi.flatten.length=qi.length*sz:=by
 induction qi with
 |nil=>simp
 |cons c r ih=>
  rw[List.flatten_cons,List.length_append,h c (by simp),ih (fun cs ek=>h cs (List.mem_cons_of_mem _ ek)),List.length_cons,Nat.succ_mul];omega
theorem qL {zv:Value} {z:List K} {n:Nat} (hm:zv.cells.toList.mapM Kz=some z) (kH:0<z.length):∀k,k<n->∃c,z[k % z.length]? =some c/\((Array.range n).map (zv.cells[· % zv.cells.size]!))[k]? =some c.val:=by
 intro k hk
 obtain⟨h1,h2⟩:=uA hm
 have ew:zv.cells.size=z.length:=by simpa using h1.symm
 have eG:k % z.length<z.length:=Nat.mod_lt _ kH
 refine⟨z[k % z.length],List.getElem?_eq_getElem eG,?_⟩
 have h3:=h2 _ _ (List.getElem?_eq_getElem eG)
 simp only[Array.getElem?_toList]at h3
 have E7:k % z.length<zv.cells.size:=by rw[ew];exact eG
 rw[Array.getElem?_map,Array.getElem?_range,if_pos hk]
 simp only[Option.map_some]
 rw[ew,getElem!_pos zv.cells (k % z.length) E7]
 rw[Array.getElem?_eq_getElem E7]at h3
 exact h3
theorem Nz {t e:TypeId} {len sz:Nat} {ps:Array (Nat×Operand)} {z:List K} {l:List (Nat×O)} {rs:List (List AV)} (E:dc P w D ι env a) (ho:o.op=.buildSlice t len ps) (ht:P.underlying t=some (.slice e)) (ew:eO P e=some (sz+1)) (hz:kP P e=some z)
  (hl:vM P ps=some l) (Y8:len*(sz+1)<=4096) (XA:l.map (·.1)=List.range len) (hv:rowsOf (sz+1) (l.map fun x=>dj env x.2)=some rs):Mk P a o w D ι id (.own id 0 len) ⟨true,sz+1,rs⟩:=by
 obtain⟨it,zv,hi,ze,hs,hm,I9⟩:=lq hz
 have kG:it.size=sz+1:=by simpa[eO,hi]using ew
 obtain⟨n1,r1⟩:=sP E hl
 have RJ:l.length=len:=by have:=congrArg List.length XA;simpa using this
 by_cases h0:len=0
 ·subst h0
  have O9:l=[]:=List.length_eq_zero_iff.1 RJ
  subst O9
  simp[rowsOf]at hv;subst hv
  have Xv:ps= #[]:=by
   apply Array.ext';apply List.eq_nil_of_length_eq_zero;rw[<-n1];rfl
  subst Xv
  refine⟨.slice (some ⟨w.heap.size,0,none⟩) 0 0, #[],e,?_,rfl,by simp,by simp,by simp,fun i j cs x hi=>by simp at hi,fun ι' hι=>?_⟩
  ·simp[execOp,ho,Instr.buildSlice,run_underlying ht,sizeOf,typeInfo,hi,Instr.fill,newRow,Array.range_zero']
  ·exact .own _ 0 0 0 0 _ hι rfl (Nat.le_refl _) (.inl rfl) (by simp) (by simp[maxLen])
 ·have Az:fY P w D ι ((List.range (len*(sz+1))).map fun k=>(z.getD (k % z.length) .bj).av) ((Array.range (len*(sz+1))).map (zv.cells[· % zv.cells.size]!)):=by
   refine⟨by simp,fun j x hx=>?_⟩
   simp only[List.getElem?_map,Option.map_eq_some_iff]at hx
   obtain⟨k,hk,rfl⟩:=hx
   have oy:=(List.getElem?_eq_some_iff.1 hk).1
   simp at oy
   rw[List.getElem?_range oy]at hk
   injection hk with hk
   subst hk
   obtain⟨c,hc,MR⟩:=qL hm (by rw[I9,kG];omega) j oy
   exact⟨c.val,MR,by rw[List.getD_eq_getElem?_getD,hc];exact zW c⟩
  obtain⟨f1,f2,f3,f4⟩:=yN (l.map fun x=>dj env x.2) (sz+1) 0 rs ((List.range (len*(sz+1))).map fun k=>(z.getD (k % z.length) .bj).av) ae (by simp[RJ]) hv
  obtain⟨kf,h1,h2,h3,h4⟩:=yO (P:=P) (w:=w) (D:=D) (ι:=ι) (fun i=>some (i*it.size,it.size)) (ps.toList.map fun(i,x)=>(i,a.eval x)) _ _ _ _ Az
   (fun b hb=>by obtain⟨c,_,rfl⟩:=List.mem_map.1 hb;exact K.oI _) (by simp[n1]) (fun k i u o' n x uo sr=>by
   simp only[List.getElem?_map,Option.map_eq_some_iff]at uo sr
   obtain⟨⟨i',x'⟩,hp,e1⟩:=uo
   obtain⟨⟨v2,j2⟩,P7,e2⟩:=sr
   simp only[Prod.mk.injEq]at e1 e2
   obtain⟨rfl,rfl⟩:=e1
   obtain⟨rfl,rfl,rfl⟩:=e2
   rw[List.getElem?_zipIdx]at P7
   simp only[List.getElem?_map,Option.map_map,Option.map_eq_some_iff,Function.comp_apply,Prod.mk.injEq,Nat.zero_add]at P7
   obtain⟨⟨i2,y⟩,M0,rfl,rfl⟩:=P7
   obtain⟨x2,pU,hc⟩:=r1 _ _ _ M0
   rw[hp]at pU
   simp only[Option.some.injEq,Prod.mk.injEq]at pU
   obtain⟨rfl,rfl⟩:=pU
   have Gw:(l.map (·.1))[k]? =some i':=by rw[List.getElem?_map,M0];rfl
   have oy:=(List.getElem?_eq_some_iff.1 Gw).1
   rw[XA]at Gw
   simp at oy
   rw[List.getElem?_range ae]at Gw
   injection Gw with Gw
   subst Gw
   exact⟨by rw[kG],ec E hc⟩) f1
  simp only[Nat.zero_mul,List.take_zero,List.nil_append,List.length_map]at h2 h3 h4 f2
  have ek:kf.size=len*(sz+1):=by rw[h2.1,h4];simp
  refine⟨.slice (some ⟨w.heap.size,0,none⟩) len len,kf,e,?_,rfl,?_,f3,f4,fun i j cs x tL hj=>h2.2 _ _ (flat_get f3 tL hj),fun ι' hι=>?_⟩
  ·have gz:=run_buildSlice (P:=P) w t e len (ps.map fun(i,x)=>(i,a.eval x)) kf it zv ht hi ze (by rw[kG];omega) (by rw[kG];exact Nat.mul_ne_zero h0 ae) (by rw[<-kG]at h1;simpa using h1)
   simp only[execOp,ho,Sem.run_bind,gz,Result.andThen_ok,Sem.run_pure]
  ·dsimp only;rw[f2,RJ,ek];exact Nat.le_refl _
  ·refine .own _ 0 len 0 len _ hι rfl (Nat.le_refl _) (.inr (by simp)) ?_ (by simp only[maxLen];have:=Nat.le_mul_of_pos_right len (show 0<sz+1 by omega);omega)
   dsimp only;rw[ek];simp
theorem KQ {t e:TypeId} {it:TypeInfo} {m:Nat} {z:List K} {l c:Operand} {l' c':O} {n:Nat} {r:Row} (E:dc P w D ι env a) (ho:o.op=.makeSlice t l c) (ht:P.underlying t=some (.slice e)) (ew:eO P e=some (m+1)) (hz:kP P e=some z) (LI:P.info? e=some it) (hby:it.bytes<=32768)
  (hl:cO P l=some l') (hc:cO P c=some c') (hv:fS z (dj env l') (dj env c')=some (n,r)):Mk P a o w D ι id (.own id 0 n) r:=by
 obtain⟨it',zv,hi,ze,hs,hm,I9⟩:=lq hz
 rw[LI]at hi;injection hi with hi;subst hi
 have kG:it.size=m+1:=by simpa[eO,LI]using ew
 unfold fS at hv
 split at hv
 ·rename_i k1 ln k2 cn e1 e2
  split at hv
  ·rename_i hb
   obtain⟨b1,b2,b3⟩:=hb
   simp at hv
   obtain⟨rfl,rfl⟩:=hv
   have r1:=eb (e1▸ec E hl)
   have r2:=eb (e2▸ec E hc)
   unfold dv at b3
   have Gu:(it.bytes:Int)*cn<=281474976710656:=by
    have h1:(it.bytes:Int)<=32768:=ae
    have h2:(it.bytes:Int)*cn<=32768*16777216:=Int.mul_le_mul h1 ae ae ae
    omega
   have gz:=run_make (P:=P) w t e it zv ht LI ze k1 k2 ln cn b1 b2 Gu ae
   have nf:∀k,k<cn.toNat*it.size->∃x,z[k % z.length]? =some x/\(madeCells zv.cells (cn.toNat*it.size))[k]? =some x.val:=fun k hk=>qL hm (by rw[I9,kG];omega) k hk
   refine⟨.slice (some ⟨w.heap.size,0,none⟩) ln.toNat cn.toNat,madeCells zv.cells (cn.toNat*it.size),e,by simp only[execOp,ho,r1,r2,Sem.run_bind,gz,Result.andThen_ok,Sem.run_pure],rfl,?_,?_,?_,?_,fun ι' hι=>?_⟩
   ·simp only[List.length_replicate,size_madeCells,I9]
    exact Nat.mul_le_mul_right _ ae
   ·intro cs ek
    have:=List.eq_of_mem_replicate ek
    subst this;simp
   ·intro cs ek x hx
    have:=List.eq_of_mem_replicate ek
    subst this
    obtain⟨c,_,rfl⟩:=List.mem_map.1 hx;exact c.oI
   ·intro i j cs x tL hj
    have nR:=(List.getElem?_eq_some_iff.1 tL).1
    have:=List.eq_of_mem_replicate (List.mem_of_getElem? tL)
    subst this
    simp only[List.length_replicate]at nR
    simp only[List.getElem?_map,Option.map_eq_some_iff]at hj
    obtain⟨q,hq,rfl⟩:=hj
    have iX:=(List.getElem?_eq_some_iff.1 hq).1
    dsimp only
    obtain⟨x,hx,pU⟩:=nf (i*z.length+j) (by
     rw[<-I9]
     calc i*z.length+j<i*z.length+z.length:=ae
      _=(i+1)*z.length:=by rw[Nat.add_mul,Nat.one_mul]
      _<=cn.toNat*z.length:=Nat.mul_le_mul_right _ ae)
    rw[Nat.mul_comm i,Nat.mul_add_mod,Nat.mod_eq_of_lt iX,hq]at hx
    injection hx with hx;subst hx
    exact⟨_,by rw[Nat.mul_comm i]at pU ⊢;exact pU,zW q⟩
   ·refine .own _ 0 _ 0 _ _ hι rfl ae (.inr (by simp)) ?_ (by simp only[maxLen];omega)
    dsimp only;rw[size_madeCells,I9];simp
  ·simp at hv
 ·simp at hv
end
end Go.Proofs.YtainmfbpilopaaaGreatDoor.V

namespace Go.Proofs.YtainmfbpilopaaaGreatDoor.V
open Go.RowKit
variable {P:Program} {w w':World} {D D':Nat->Prop} {ι ι':Names}
def Iv (P:Program) (k:TypeId) (m:MK):Prop:=
 (∃s,m=⟨false,[s]⟩/\gr P k=some s)∨
 (∃fs ts,m=⟨true,ts⟩/\P.underlying k=some (.struct fs)/\fh P 4 0 fs.toList=some ts/\P.stoodInHeld k=false/\∀f∈fs.toList,(gr P f.type).isSome=true)
theorem tU {t:TypeId} {m:MK} {z:K} (h:vL P t=some (m,z)):∃k e i zv,P.underlying t=some (.map k e)/\P.info? e=some i/\i.zero=some zv/\Kz zv=some z/\Iv P k m:=by
 unfold vL at h
 split at h
 ·rename_i k e ht
  split at h
  ·rename_i zv s h1 h2 h3
   simp only[Option.map_eq_some_iff,Prod.mk.injEq]at h
   obtain⟨z',hz,rfl,rfl⟩:=h
   simp only[Option.bind_eq_some_iff]at h2
   obtain⟨i,hi,ze⟩:=h2
   exact⟨k,e,i,zv,ht,hi,ze,hz,.inl ⟨s,rfl,h3⟩⟩
  ·rename_i zv fs h1 h2 h3 h4
   split at h
   ·rename_i ts z' AR hz
    split at h
    ·rename_i hc
     simp only[Option.some.injEq,Prod.mk.injEq]at h
     obtain⟨rfl,rfl⟩:=h
     simp only[Option.bind_eq_some_iff]at h2
     obtain⟨i,hi,ze⟩:=h2
     simp only[Bool.not_eq_true',List.all_eq_true]at hc
     exact⟨k,e,i,zv,ht,hi,ze,hz,.inr ⟨fs,ts,rfl,h4,AR,hc.1,hc.2⟩⟩
    ·cases h
   ·cases h
  ·cases h
 ·cases h
theorem z7 {t:TypeId} {s:TS} (ht:gr P t=some s) (em:Bool) (n:Nat) (v:Value):(Instr.checkKey em (n+1) t v).run P w=.ok () w:=by
 unfold Instr.checkKey
 cases s with
 |tB=>simp[run_underlying (rq ht)]
 |tS=>simp[run_underlying (rD ht)]
 |tI=>
  obtain⟨q,hq⟩:=rz ht
  simp[run_underlying hq]
theorem z8 (em:Bool) (n:Nat) (vs:Array Value):∀(d:Nat) (fs:List Field) (off:Nat) (ts:List TS),fh P (d+1) off fs=some ts->(∀f∈fs,(gr P f.type).isSome=true)->off+ts.length<=vs.size->
  Sem.run P (forIn fs PUnit.unit fun f (_:PUnit)=>if f.name≠ "_" then do
    let x <-Go.part f.type vs f.offset
    Instr.checkKey em (n+1) f.type x
    pure (ForInStep.yield PUnit.unit)
   else pure (ForInStep.yield PUnit.unit)) w=Result.ok PUnit.unit w
 |d,[],off,ts,_,_,_=>by simp
 |d,f::r,off,ts,hf,hs,hl=>by
  rw[Bs]at hf
  split at hf
  ·rename_i hcond
   obtain⟨ho,iI⟩:=hcond
   split at hf
   ·rename_i s C7
    split at hf
    ·rename_i w8
     simp only[Option.map_eq_some_iff]at hf
     obtain⟨Pf,hr,rfl⟩:=hf
     simp only[List.length_cons]at hl
     have ih:=z8 em n vs d r (off+1) Pf hr (fun f hf=>hs f (List.mem_cons_of_mem _ hf)) ae
     have hu:vs[off]? =some vs[off]:=by simp
     simp only[List.forIn_cons,Sem.run_bind,if_pos iI,ho,oh w8 hu,Result.andThen_ok,z7 C7,Sem.run_pure]
     exact ih
    ·cases hf
   ·rename_i hn
    have:=hs f (by simp)
    rw[hn]at this;cases this
  ·cases hf
theorem H3 {k:TypeId} {m:MK} (hk:Iv P k m) (em:Bool) (key:AV) (u:Value) (w8:key.isAgg=m.ka) (hlen:key.cells.length=m.ks) (hr:du P w D ι key u):(Instr.checkKey em 10000 k u).run P w=.ok () w:=by
 rcases hk with⟨s,rfl,hs⟩|⟨fs,ts,rfl,uk,AR,ed,eJ⟩
 ·exact z7 hs em 9999 u
 ·cases key<;>simp[AV.isAgg]at w8
  rename_i cs
  obtain⟨vs,f,rfl,h1,_⟩:=jo hr
  unfold Instr.checkKey
  simp only[Sem.run_bind,run_underlying uk,Result.andThen_ok]
  rw[<-Array.forIn_toList]
  have h:=z8 (P:=P) (w:=w) em 9998 vs 3 fs.toList 0 ts AR eJ (by simp[AV.cells,MK.ks]at hlen;omega)
  rw[h]
  rfl
theorem Md (a b:ByteArray):(a==b)=decide (a=b):=by
 by_cases h:a=b
 ·subst h;rw[decide_eq_true rfl]
  obtain⟨x⟩:=a
  show(x==x)=true
  simp
 ·rw[decide_eq_false h,Bool.eq_false_iff]
  intro hc
  obtain⟨x⟩:=a
  obtain⟨y⟩:=b
  exact h (by rw[show x=y by simpa using(show(x==y)=true from hc)])
theorem N9 {t:TypeId} {s:TS} {x y:AV} {u v:Value} {b:Bool} {d:TypeDesc} (ht:gr P t=some s) (hd:P.underlying t=some d) (he:fu s x y=some b) (hx:du P w D ι x u) (hy:du P w D ι y v):Instr.sameNow d u v=some b:=by
 unfold fu at he
 split at he
 ·rename_i k n k' n'
  split at he
  ·rename_i hk
   subst hk
   simp at he;subst he
   obtain⟨q,hq⟩:=rz ht
   rw[hd]at hq;injection hq with hq;subst hq
   rw[eb hx,eb hy]
   simp[Instr.sameNow]
   rfl
  ·cases he
 ·simp at he;subst he
  have hq:=rq ht
  rw[hd]at hq;injection hq with hq;subst hq
  rw[fR hx,fR hy];rfl
 ·rename_i a c
  simp at he;subst he
  have hq:=rD ht
  rw[hd]at hq;injection hq with hq;subst hq
  rw[gK hx,gK hy]
  simp only[Instr.sameNow,Md]
 ·cases he
def Found (es:List MapEntry) (i:Nat) (r:Option Nat) (res:Option (Nat×Value)):Prop:=(r=none/\res=none)∨∃j e,r=some (i+j)/\es[j]? =some e/\res=some (i+j,e.val)
theorem yR {e:MapEntry} {es:List MapEntry} {i:Nat} {r:Option Nat} {res:Option (Nat×Value)} (h:Found es (i+1) r res):Found (e::es) i r res:=by
 rcases h with h|⟨j,x,h1,h2,h3⟩
 ·exact .inl h
 ·exact .inr ⟨j+1,x,by rw[h1];congr 1;omega,by simpa using h2,by rw[h3];congr 2;omega⟩
theorem EJ {t:TypeId} {s:TS} {d:TypeDesc} {x:AV} {u:Value} (ht:gr P t=some s) (hd:P.underlying t=some d) (hx:du P w D ι x u):∀(rows:List (List AV)) (es:List MapEntry) (i:Nat) (r:Option Nat),es.length=rows.length->
  (∀(j:Nat) (cs:List AV),rows[j]? =some cs->∃(e:MapEntry) (kv:AV),es[j]? =some e/\cs.head? =some kv/\du P w D ι kv e.key)->gG ⟨false,[s]⟩ [x] rows i=some r->∃res,Instr.findNow d u es i=some res/\Found es i r res
 |[],[],i,r,_,_,h=>by
  simp[gG]at h;subst h
  exact⟨none,rfl,.inl ⟨rfl,rfl⟩⟩
 |[],e::es,i,r,hl,_,h=>by simp at hl
 |cs::rows,[],i,r,hl,_,h=>by simp at hl
 |cs::rows,e::es,i,r,hl,hr,h=>by
  obtain⟨e',kv,EY,hk,jd⟩:=hr 0 cs rfl
  simp at EY;subst EY
  have ek:cs.take (MK.ks ⟨false,[s]⟩)=[kv]:=by
   cases cs with
   |nil=>simp at hk
   |cons a l=>simp at hk;subst hk;simp[MK.ks]
  unfold gG at h
  rw[ek]at h
  cases hq:fu s x kv with
  |none=>simp[eP,hq]at h
  |some b=>
   have hs:=N9 ht hd hq hx jd
   cases b with
   |true=>
    simp[eP,hq]at h;subst h
    exact⟨some (i,e.val),by simp[Instr.findNow,hs],.inr ⟨0,e,rfl,rfl,rfl⟩⟩
   |false=>
    simp[eP,hq]at h
    obtain⟨res,h1,h2⟩:=EJ ht hd hx rows es (i+1) r (by simpa using hl) (fun j cs hj=>hr (j+1) cs (by simpa using hj)) h
    exact⟨res,by simp[Instr.findNow,hs,h1],yR h2⟩
theorem sG {t:TypeId} {fs:Array Field} {ts:List TS} {xs ys:List AV} {vs us:Array Value} {b:Bool} (uk:P.underlying t=some (.struct fs)) (ed:P.stoodInHeld t=false) (AR:fh P 4 0 fs.toList=some ts) (hx:fY P w D ι xs vs) (hy:fY P w D ι ys us) (hv:eP ts xs ys=some b):(Op.equal t (.agg vs) (.agg us)).run P w=.ok b w:=by
 obtain⟨l1,l2⟩:=ue hv
 have q:=uL (w:=w) 4 fs.toList 0 ts AR 9998 ae xs ys vs us b hx hy (by simpa[List.take_of_length_le,l1,l2]using hv)
 have I3:P.fieldsOf t=fs:=by simp[Program.fieldsOf,uk]
 unfold Op.equal
 rw[show Op.maxDepth=9999+1 from rfl,run_equalIn_struct w 9999 t _ _ (by rw[I3];exact uk) ed,I3,q]
theorem uJ {cs:List AV} {v:Value} (h:du P w D ι (.agg cs) v):∃vs,v=.agg vs/\fY P w D ι cs vs:=by
 obtain⟨vs,f,rfl,n1,_,f1,r1⟩:=jo h
 exact⟨vs,rfl,n1,fun j a ha=>⟨f j,f1 j (List.getElem?_eq_some_iff.1 ha).1,r1 j a ha⟩⟩
theorem EI {t:TypeId} {fs:Array Field} {ts:List TS} {xs:List AV} {vs:Array Value} (uk:P.underlying t=some (.struct fs)) (ed:P.stoodInHeld t=false) (AR:fh P 4 0 fs.toList=some ts) (hx:fY P w D ι xs vs):∀(rows:List (List AV)) (es:List MapEntry) (i:Nat) (r:Option Nat),es.length=rows.length->
  (∀(j:Nat) (cs:List AV),rows[j]? =some cs->∃e:MapEntry,es[j]? =some e/\du P w D ι (.agg (cs.take ts.length)) e.key)->gG ⟨true,ts⟩ xs rows i=some r->∃res,(Instr.findAsking t (.agg vs) es i).run P w=.ok res w/\Found es i r res
 |[],[],i,r,_,_,h=>by
  simp[gG]at h;subst h
  exact⟨none,by simp[Instr.findAsking],.inl ⟨rfl,rfl⟩⟩
 |[],e::es,i,r,hl,_,h=>by simp at hl
 |cs::rows,[],i,r,hl,_,h=>by simp at hl
 |cs::rows,e::es,i,r,hl,hr,h=>by
  obtain⟨e',EY,jd⟩:=hr 0 cs rfl
  simp at EY;subst EY
  obtain⟨us,hk,hy⟩:=uJ jd
  unfold gG at h
  simp only[MK.ks]at h
  split at h
  ·rename_i hq
   simp at h;subst h
   have q:=sG uk ed AR hx hy hq
   exact⟨some (i,e.val),by simp[Instr.findAsking,hk,q],.inr ⟨0,e,rfl,rfl,rfl⟩⟩
  ·rename_i hq
   have q:=sG uk ed AR hx hy hq
   obtain⟨res,h1,h2⟩:=EI uk ed AR hx rows es (i+1) r (by simpa using hl) (fun j cs hj=>hr (j+1) cs (by simpa using hj)) h
   exact⟨res,by simp[Instr.findAsking,hk,q,h1],yR h2⟩
  ·cases h
theorem yF {a:AV} (h:a.isAgg=false):a.cells=[a]:=by cases a<;>simp_all [AV.isAgg,AV.cells]
theorem yP {k:TypeId} {m:MK} {B:vz} {r:Row} (hk:Iv P k m) {key:AV} {u:Value} (hr:du P w D ι key u) {es:Array MapEntry} (ew:es.size=r.rows.length)
  (hM:∀(i:Nat) (cs:List AV),r.rows[i]? =some cs->∃(e:MapEntry) (kv vv:AV),es[i]? =some e/\part m.ka m.ks cs=some kv/\cs[m.ks]? =some vv/\du P w D ι kv e.key/\du P w D ι vv e.val) {fi:Option Nat} (h:gC m key r.rows=some fi):
  (∀em,(Instr.checkKey em 10000 k u).run P w=.ok () w)/\∃res,(Instr.findKey k u es.toList).run P w=.ok res w/\Found es.toList 0 fi res:=by
 unfold gC at h
 split at h
 ·rename_i hc
  obtain⟨c1,c2,c3⟩:=hc
  refine⟨fun em=>H3 hk em key u c1 c2 hr,?_⟩
  rcases hk with⟨s,rfl,hs⟩|⟨fs,ts,rfl,uk,AR,ed,eJ⟩
  ·rw[yF c1]at h
   have hd:∃d,P.underlying k=some d:=by
    cases s with
    |tB=>exact⟨_,rq hs⟩
    |tS=>exact⟨_,rD hs⟩
    |tI=>obtain⟨q,hq⟩:=rz hs;exact⟨_,hq⟩
   obtain⟨d,hd⟩:=hd
   obtain⟨res,h1,h2⟩:=EJ hs hd hr r.rows es.toList 0 fi (by simpa using ew) (fun j cs hj=>by
    obtain⟨e,kv,vv,q1,q2,_,q4,_⟩:=hM j cs hj
    exact⟨e,kv,by simpa using q1,by simpa[part]using q2,q4⟩) h
   exact⟨res,by simp[Instr.findKey,run_underlying hd,h1],h2⟩
  ·cases key<;>simp[AV.isAgg]at c1
   rename_i cs
   obtain⟨vs,rfl,hL⟩:=uJ hr
   obtain⟨res,h1,h2⟩:=EI uk ed AR hL r.rows es.toList 0 fi (by simpa using ew) (fun j cs hj=>by
    obtain⟨e,kv,vv,q1,q2,_,q4,_⟩:=hM j cs hj
    unfold part at q2
    simp only[if_true]at q2
    split at q2
    ·simp only[Option.some.injEq]at q2;subst q2
     exact⟨e,by simpa using q1,q4⟩
    ·cases q2) h
   exact⟨res,(run_findKey_eq w (by simp[uk]) _ _).trans h1,h2⟩
 ·cases h
section
variable {g:Rows} {hs:Nat} {env:Env} {a:Act} {o:Oper} {id:Id} {v:AV}
theorem Di {m:MK} {x:AV} {u:Value} {p:Id×Row} (S:ig P hs D ι g w) (hr:du P w D ι x u) (h:dD g m x=some p):∃B,u=.map (some B.b)/\g p.1=some p.2/\ι p.1=some B/\B.k=some (.map m)/\Rn P w D ι B m p.2:=by
 unfold dD at h
 split at h
 ·rename_i i m'
  split at h
  ·rename_i hm
   subst hm
   simp only[Option.map_eq_some_iff]at h
   obtain⟨r,hg,rfl⟩:=h
   obtain⟨B,rfl,hB,hk⟩:=Du hr
   obtain⟨B',eA,R,_⟩:=S.row i r hg
   rw[hB]at eA;injection eA with eA;subst eA
   exact⟨B,rfl,hg,hB,hk,(R.map _ hk).2⟩
  ·cases h
 ·cases h
theorem UX {t:TypeId} {x k:Operand} {ok:Bool} {m:MK} {z:K} {x' k':O} {mr:Option Row} (S:ig P hs D ι g w) (E:dc P w D ι env a) (ho:o.op=.lookup t x k ok) (hc:vL P t=some (m,z)) (hx:cO P x=some x') (hk:cO P k=some k')
  (hv:bt (.look m ok z) [dj env x',dj env k'] g id=some (v,mr)):mr=none/\pK P a o w D ι v:=by
 obtain⟨kt,e,i,zv,ht,hi,ze,YY,hK⟩:=tU hc
 simp only[bt,Option.bind_eq_some_iff,Option.map_eq_some_iff,Prod.mk.injEq]at hv
 obtain⟨p,hp,fi,Aq,y,hy,rfl,rfl⟩:=hv
 obtain⟨B,hu,hg,hB,xR,es,clock,hb,ew,hlen,hM⟩:=Di S (ec E hx) hp
 obtain⟨Ts,res,hf,hF⟩:=yP (B:=B) hK (ec E hk) ew hM Aq
 have key:∃val,(match res with|some (_,v)=>(v,true)|none=>(zv,false))=(val,fi.isSome)/\du P w D ι y val:=by
  rcases hF with⟨rfl,rfl⟩|⟨j,en,rfl,he,rfl⟩
  ·simp only[dH,Option.some.injEq]at hy;subst hy
   refine⟨zv,rfl,?_⟩
   rw[Da YY];exact zW z
  ·simp only[dH,Option.bind_eq_some_iff,Nat.zero_add]at hy
   obtain⟨cs,ek,hy⟩:=hy
   obtain⟨e',kv,vv,q1,_,q3,_,q5⟩:=hM _ cs ek
   rw[hy]at q3;injection q3 with q3;subst q3
   have:e'=en:=by
    have h1:es.toList[j]? =some e':=by simpa using q1
    rw[he]at h1;injection h1 with h1;exact h1.symm
   subst this
   exact⟨_,rfl,q5⟩
 obtain⟨val,y9,pS⟩:=key
 have iK:(getObj B.b).run P w=.ok (.map es clock) w:=MapKept.run_getObj_map hb
 have hz:(zeroValue e).run P w=.ok zv w:=by simp[zeroValue,typeInfo,hi,ze]
 refine⟨rfl,if ok then .tuple #[val,.bool fi.isSome]else val,?_,?_⟩
 ·simp only[execOp,ho,hu,Instr.lookup,Sem.run_bind,run_underlying ht,Result.andThen_ok,iK,Sem.run_pure,Ts,hf]
  rcases hF with⟨rfl,rfl⟩|⟨j,en,rfl,he,rfl⟩
  ·simp only[Prod.mk.injEq]at y9
   simp[hz,y9.1]
  ·simp only[Prod.mk.injEq]at y9
   simp[y9.1]
 ·cases ok with
  |false=>exact pS
  |true=>
   refine .fP _ _ (fun j=>if j=0 then val else .bool fi.isSome) rfl (fun j hj=>?_) (fun j b hj=>?_)
   ·have:j=0∨j=1:=by simp at hj;omega
    rcases this with rfl|rfl<;>rfl
   ·match j,hj with
    |0,hj=>simp at hj;subst hj;exact pS
    |1,hj=>simp at hj;subst hj;exact .eX _ _ (.bool _)
    |j+2,hj=>simp at hj
theorem U0 {t:TypeId} {x:Operand} {m:MK} {z:K} {x':O} {mr:Option Row} (S:ig P hs D ι g w) (E:dc P w D ι env a) (ho:o.op=.call {callee:=.builtin .len,args:= #[x],argTypes:= #[t]}) (hc:vL P t=some (m,z)) (hx:cO P x=some x')
  (hv:bt (.len m) [dj env x'] g id=some (v,mr)):mr=none/\pK P a o w D ι v:=by
 obtain⟨kt,e,i,zv,ht,hi,ze,YY,hK⟩:=tU hc
 simp only[bt,Option.map_eq_some_iff,Prod.mk.injEq]at hv
 obtain⟨p,hp,rfl,rfl⟩:=hv
 obtain⟨B,hu,hg,hB,xR,es,clock,hb,ew,hlen,hM⟩:=Di S (ec E hx) hp
 have iK:(getObj B.b).run P w=.ok (.map es clock) w:=MapKept.run_getObj_map hb
 refine⟨rfl,.int .i64 (es.size:Int),?_,by rw[ew];exact .eX _ _ (.int _ _)⟩
 simp only[execOp,ho,resolve,Sem.run_bind,Sem.run_pure,Result.andThen_ok,invoke,builtin,Array.map,hu]
 simp[Builtin.len_,run_underlying ht,goInt,hu,iK]
def MkM (P:Program) (a:Act) (o:Oper) (w:World) (id:Id) (v:AV) (r:Row):Prop:=
 ∃m,(execOp a.eval o).run P w=.ok (.value (.map (some w.heap.size))) (w.alloc (.map #[] 0))/\v=.map id m/\r=⟨true,m.j4,[]⟩
theorem XR {t:TypeId} {m:MK} (ho:o.op=.makeMap t none):MkM P a o w id (.map id m) ⟨true,m.j4,[]⟩:=by
 refine⟨m,?_,rfl,rfl⟩
 simp[execOp,ho,Instr.makeMap,go_sem]
def MkC (P:Program) (a:Act) (o:Oper) (w:World) (id:Id) (v:AV) (r:Row):Prop:=
 ∃n,(execOp a.eval o).run P w=.ok (.value (.chan (some w.heap.size))) (w.alloc (.chan n #[] false 0 0 false))/\v=.tX id/\r=⟨true,ua+n,[]⟩
theorem Ug {t e:TypeId} {x:Operand} {x':O} {dir:ChanDir} {i:TypeInfo} {n:Nat} (E:dc P w D ι env a) (ho:o.op=.makeChan t x) (ht:P.underlying t=some (.chan dir e)) (hi:P.info? e=some i) (hb:i.bytes<=32768) (hx:cO P x=some x') (hn:cU (dj env x')=some n):MkC P a o w id (.tX id) ⟨true,ua+n,[]⟩:=by
 refine⟨n,?_,rfl,rfl⟩
 have hr:=ec E hx
 unfold cU at hn
 split at hn
 ·rename_i k m hm
  rw[hm]at hr
  split at hn
  ·rename_i hc
   simp only[Option.some.injEq]at hn
   subst hn
   have Hw:((m.toNat:Nat):Int)=m:=ae
   have eG:(i.bytes:Int)*(m.toNat:Nat)<=281474976710544:=by
    have h1:i.bytes*m.toNat<=32768*1048576:=Nat.mul_le_mul hb ae
    have h2:((i.bytes*m.toNat:Nat):Int)<=281474976710544:=ae
    rwa [Int.natCast_mul]at h2
   have h:=Conc.run_makeChan (P:=P) (w:=w) ht hi k m.toNat ae eG
   rw[Hw]at h
   simp only[execOp,ho,eb hr,Sem.run_bind,h,Result.andThen_ok,Sem.run_pure]
  ·cases hn
 ·cases hn
theorem CE {x:AV} {u:Value} {i:Id} {r:Row} (S:ig P hs D ι g w) (hr:du P w D ι x u) (hx:x=.tX i) (hg:g i=some r):∃B c,u=.chan (some B.b)/\ι i=some B/\B.k=some (.chan c)/\r.sz=ua+c/\LR P w D ι B c r:=by
 subst hx
 obtain⟨B,c,rfl,hB,hk⟩:=QL hr
 obtain⟨B',eA,R,_⟩:=S.row i r hg
 rw[hB]at eA;injection eA with eA;subst eA
 exact⟨B,c,rfl,hB,hk,R.chan c hk⟩
theorem UT {t e:TypeId} {dir:ChanDir} {x:Operand} {x':O} (S:ig P hs D ι g w) (E:dc P w D ι env a) (ho:o.op=.call {callee:=.builtin .len,args:= #[x],argTypes:= #[t]}) (ht:P.underlying t=some (.chan dir e)) (hx:cO P x=some x') (hv:cQ g (dj env x')=some v):pK P a o w D ι v:=by
 have hr:=ec E hx
 unfold cQ at hv
 split at hv
 ·rename_i i he
  simp only[Option.map_eq_some_iff]at hv
  obtain⟨r,hg,rfl⟩:=hv
  obtain⟨B,c,hu,hB,hk,ew,buf,s,q,hb,O0,_⟩:=CE S hr he hg
  have iK:(getObj B.b).run P w=.ok (.chan c buf false s q false) w:=by simp[getObj,Sem.run,hb]
  refine⟨.int .i64 (buf.size:Int),?_,by rw[O0];exact .eX _ _ (.int _ _)⟩
  simp only[execOp,ho,resolve,Sem.run_bind,Sem.run_pure,Result.andThen_ok,invoke,builtin,Array.map,hu]
  simp[Builtin.len_,run_underlying ht,goInt,hu,iK]
 ·cases hv
end
end Go.Proofs.YtainmfbpilopaaaGreatDoor.V

namespace Go.Proofs.YtainmfbpilopaaaGreatDoor.V
open Go.RowKit
variable {P:Program} {w w':World} {D D':Nat->Prop} {ι ι':Names}
def Pk (P:Program) (a:Act) (o:Oper) (w:World) (D:Nat->Prop) (ι:Names) (id:Id) (v:AV):Option Row->Prop
 |none=>pK P a o w D ι v
 |some r=>Mk P a o w D ι id v r∨MkM P a o w id v r∨MkC P a o w id v r
section
variable {g:Rows} {hs:Nat} {env:Env} {a:Act} {o:Oper} {id:Id} {v:AV}
theorem mD {x:Option AV} {mr:Option Row} (h:x.map (·,(none:Option Row))=some (v,mr)) (H:x=some v->pK P a o w D ι v):Pk P a o w D ι id v mr:=by
 cases x with
 |none=>simp at h
 |some y=>simp at h;obtain⟨rfl,rfl⟩:=h;exact H rfl
theorem X3 {neg:Bool} {t yt:TypeId} {x y:Operand} {vo:iA} {mr:Option Row} (ho:o.op=.binOp (if neg then .neq else .eql) t x y yt) (hc:vK P neg t x y=some vo) (hq:eB vo (dj env) g id=some (v,mr)) (E:dc P w D ι env a):Pk P a o w D ι id v mr:=by
 unfold vK at hc
 split at hc
 ·split at hc
  ·rename_i e ht
   simp only[Option.map_eq_some_iff]at hc
   obtain⟨x',hx,rfl⟩:=hc
   simp only[eB,dL,Bool.false_eq_true,if_false,Option.map_eq_some_iff,Prod.mk.injEq]at hq
   obtain⟨b,hb,rfl,rfl⟩:=hq
   exact UP E ho ht hx hb
  ·simp at hc
 ·split at hc
  ·rename_i ht
   simp only[Option.map_eq_some_iff]at hc
   obtain⟨x',hx,rfl⟩:=hc
   simp only[eB,dL,if_true,Option.map_eq_some_iff,Prod.mk.injEq]at hq
   obtain⟨b,hb,rfl,rfl⟩:=hq
   exact UO E ho ht hx hb
  ·simp at hc
 ·split at hc
  ·rename_i ht
   simp only[Option.map_eq_some_iff]at hc
   obtain⟨x',hx,rfl⟩:=hc
   simp only[eB,Option.map_eq_some_iff,Prod.mk.injEq]at hq
   obtain⟨b,hb,rfl,rfl⟩:=hq
   exact Yl E ho ht hx hb
  ·simp at hc
 ·split at hc
  ·rename_i s hs
   simp only[Option.bind_eq_bind,Option.bind_eq_some_iff,Option.pure_def,Option.some.injEq]at hc
   obtain⟨x',hx,y',hy,rfl⟩:=hc
   simp only[eB,Option.map_eq_some_iff,Prod.mk.injEq]at hq
   obtain⟨b,hb,rfl,rfl⟩:=hq
   have Fe:gr P t=some s:=by
    unfold ZS at hs
    split at hs
    ·rename_i s' h;simp at hs;subst hs;exact h
    ·split at hs
     ·split at hs
      ·simp at hs
      ·simp at hs
     ·simp at hs
   exact Ym E ho Fe hx hy hb
  ·rename_i ts hs
   simp only[Option.bind_eq_bind,Option.bind_eq_some_iff,Option.pure_def,Option.some.injEq]at hc
   obtain⟨x',hx,y',hy,rfl⟩:=hc
   simp only[eB]at hq
   split at hq
   ·rename_i xs ys h1 h2
    simp only[Option.map_eq_some_iff,Prod.mk.injEq]at hq
    obtain⟨b,hb,rfl,rfl⟩:=hq
    unfold ZS at hs
    split at hs
    ·simp at hs
    ·split at hs
     ·rename_i fs uk
      split at hs
      ·rename_i hg
       simp only[Option.map_eq_some_iff,Zy.ag.injEq]at hs
       obtain⟨Pf,AR,rfl⟩:=hs
       simp only[Bool.and_eq_true,Bool.not_eq_true']at hg
       exact Yk E ho uk hg.1 hg.2 AR hx hy h1 h2 hb
      ·simp at hs
     ·simp at hs
   ·simp at hq
  ·simp at hc
theorem Un {c:Call} {vo:iA} {mr:Option Row} (ho:o.op=.call c) (hc:ph P c=some vo) (hq:eB vo (dj env) g id=some (v,mr)) (S:ig P hs D ι g w) (E:dc P w D ι env a):Pk P a o w D ι id v mr:=by
 unfold ph at hc
 split at hc
 ·rename_i l6
  split at hc
  ·rename_i x t h1 h2
   have hce:c={callee:=.builtin .len,args:= #[x],argTypes:= #[t]}:=by
    obtain⟨a,b,c⟩:=c
    simp only at h1 h2 l6
    subst l6
    congr
    ·exact Array.ext' h1
    ·exact Array.ext' h2
   rw[hce]at ho
   split at hc
   ·rename_i e ht
    simp only[Option.map_eq_some_iff]at hc
    obtain⟨x',hx,rfl⟩:=hc
    simp only[eB,Option.map_eq_some_iff,Prod.mk.injEq]at hq
    obtain⟨n,hn,rfl,rfl⟩:=hq
    exact Yn E ho ht hx hn
   ·rename_i ht
    simp only[Option.map_eq_some_iff]at hc
    obtain⟨x',hx,rfl⟩:=hc
    exact mD hq fun h=>UU E ho ht hx h
   ·split at hc
    ·rename_i m z x' hm hx
     simp only[Option.some.injEq]at hc
     subst hc
     obtain⟨rfl,h⟩:=U0 (id:=id) S E ho hm hx hq
     exact h
    ·cases hc
   ·rename_i ht
    simp only[Option.map_eq_some_iff]at hc
    obtain⟨x',hx,rfl⟩:=hc
    exact mD hq fun h=>UT S E ho ht hx h
   ·simp at hc
  ·simp at hc
 ·split at hc
  ·split at hc
   ·split at hc
    ·split at hc
     ·simp only[Option.bind_eq_bind,Option.bind_eq_some_iff,Option.pure_def,Option.some.injEq]at hc
      obtain⟨x',hx,y',hy,rfl⟩:=hc
      simp[eB]at hq
     ·simp at hc
    ·simp at hc
   ·simp at hc
  ·simp at hc
 ·split at hc
  ·split at hc
   ·split at hc
    ·simp only[Option.map_eq_some_iff]at hc
     obtain⟨x',hx,rfl⟩:=hc
     simp[eB]at hq
    ·simp at hc
   ·simp at hc
  ·simp at hc
 ·split at hc
  ·simp only[Option.map_eq_some_iff]at hc
   obtain⟨x',hx,rfl⟩:=hc
   simp[eB]at hq
  ·simp at hc
 ·simp only[Option.map_eq_some_iff]at hc
  obtain⟨x',hx,rfl⟩:=hc
  simp[eB]at hq
 ·split at hc
  ·split at hc
   ·simp only[Option.some.injEq]at hc
    subst hc
    simp[eB]at hq
   ·cases hc
  ·cases hc
 ·split at hc
  ·split at hc
   ·split at hc
    ·simp only[Option.bind_eq_bind,Option.bind_eq_some_iff,Option.pure_def,Option.some.injEq]at hc
     obtain⟨x',hx,y',hy,rfl⟩:=hc
     simp[eB]at hq
    ·simp at hc
   ·simp at hc
  ·simp at hc
 ·simp at hc
theorem B9 {vo:iA} {mr:Option Row} (hc:tK P o.op=some vo) (hq:eB vo (dj env) g id=some (v,mr)) (S:ig P hs D ι g w) (E:dc P w D ι env a):Pk P a o w D ι id v mr:=by
 unfold tK at hc
 split at hc
 ·rename_i ho
  simp only[Option.map_eq_some_iff]at hc
  obtain⟨x',hx,rfl⟩:=hc
  simp[eB]at hq;obtain⟨rfl,rfl⟩:=hq
  exact Sk E (.inl ho) hx
 ·rename_i ho
  simp only[Option.map_eq_some_iff]at hc
  obtain⟨x',hx,rfl⟩:=hc
  simp[eB]at hq;obtain⟨rfl,rfl⟩:=hq
  exact Sk E (.inr ho) hx
 ·rename_i ho
  simp only[Option.bind_eq_bind,Option.bind_eq_some_iff,Option.pure_def,Option.some.injEq]at hc
  obtain⟨c',h1,x',h2,y',h3,rfl⟩:=hc
  exact mD hq fun h=>U3 E ho h1 h2 h3 h
 ·rename_i ho
  simp only[Option.map_eq_some_iff]at hc
  obtain⟨z,hz,rfl⟩:=hc
  simp only[eB,Option.some.injEq,Prod.mk.injEq]at hq
  obtain⟨rfl,rfl⟩:=hq
  exact .inl (XS ho hz)
 ·rename_i ho
  simp only[Option.map_eq_some_iff]at hc
  obtain⟨x',hx,rfl⟩:=hc
  simp only[eB,Option.map_eq_some_iff,Prod.mk.injEq]at hq
  obtain⟨cs,ek,rfl,rfl⟩:=hq
  exact .inl (XQ E ho hx ek)
 ·rename_i ho
  split at hc
  ·rename_i hh
   simp only[Option.some.injEq]at hc
   subst hc
   exact mD hq fun h=>Q9 S ho hh.1 hh.2 h
  ·simp at hc
 ·rename_i ho
  simp only[Option.bind_eq_bind,Option.bind_eq_some_iff,Option.pure_def,Option.some.injEq]at hc
  obtain⟨ag,h1,n,h2,x',h3,rfl⟩:=hc
  exact mD hq fun h=>UW S E ho h1 h2 h3 h
 ·rename_i ho
  simp only[Option.bind_eq_bind,Option.bind_eq_some_iff,Option.pure_def,Option.some.injEq]at hc
  obtain⟨n,h2,x',h3,y',h4,rfl⟩:=hc
  simp[eB]at hq
 ·rename_i ho
  simp only[Option.map_eq_some_iff]at hc
  obtain⟨x',hx,rfl⟩:=hc
  exact mD hq fun h=>Yj E ho hx h
 ·rename_i op t x y yt ho
  unfold yv at hc
  split at hc
  ·exact X3 (neg:=false) ho hc hq E
  ·exact X3 (neg:=true) ho hc hq E
  ·simp only[Option.bind_eq_bind,Option.bind_eq_some_iff,Option.pure_def,Option.some.injEq]at hc
   obtain⟨x',h3,y',h4,rfl⟩:=hc
   exact mD hq fun h=>Yq (left:=true) E ho h3 h4 h
  ·simp only[Option.bind_eq_bind,Option.bind_eq_some_iff,Option.pure_def,Option.some.injEq]at hc
   obtain⟨x',h3,y',h4,rfl⟩:=hc
   exact mD hq fun h=>Yq (left:=false) E ho h3 h4 h
  ·rename_i n1 n2 n3 n4
   split at hc
   ·simp only[Option.bind_eq_bind,Option.bind_eq_some_iff,Option.pure_def,Option.some.injEq]at hc
    obtain⟨x',h3,y',h4,rfl⟩:=hc
    exact mD hq fun h=>Yi E ho n1 n2 h3 h4 h
   ·simp only[Option.bind_eq_bind,Option.bind_eq_some_iff,Option.pure_def,Option.some.injEq]at hc
    obtain⟨x',h3,y',h4,rfl⟩:=hc
    exact mD hq fun h=>UM E ho n1 n2 h3 h4 h
   ·simp at hc
 ·rename_i ho
  simp only[Option.map_eq_some_iff]at hc
  obtain⟨x',hx,rfl⟩:=hc
  exact mD hq fun h=>Yp E ho hx h
 ·rename_i ho
  simp only[Option.map_eq_some_iff]at hc
  obtain⟨x',hx,rfl⟩:=hc
  exact mD hq fun h=>Yo E ho hx h
 ·rename_i ho
  split at hc
  ·rename_i q k h1 h2
   simp only[Option.map_eq_some_iff]at hc
   obtain⟨x',hx,rfl⟩:=hc
   exact mD hq fun h=>UN E ho h1 h2 hx h
  ·rename_i h1 h2
   simp only[Option.map_eq_some_iff]at hc
   obtain⟨x',hx,rfl⟩:=hc
   exact mD hq fun h=>by
    have hr:=ec E hx
    unfold bU at h
    split at h
    ·rename_i s hb
     simp at h;subst h
     rw[hb]at hr
     exact⟨.string s,by simp only[execOp,ho,gK hr,convert,Sem.run_bind,run_underlying h1,run_underlying h2,Result.andThen_ok,Sem.run_pure],.eX _ _ (.str _)⟩
    ·simp at h
  ·simp at hc
 ·rename_i ho
  split at hc
  ·rename_i e ht
   simp only[Option.bind_eq_bind,Option.bind_eq_some_iff,Option.pure_def,Option.some.injEq]at hc
   obtain⟨n,h1,x',h2,lo,h3,hi,h4,rfl⟩:=hc
   exact mD hq fun h=>Rb S E ho ht h1 h2 h3 h4 h
  ·rename_i ht
   simp only[Option.bind_eq_bind,Option.bind_eq_some_iff,Option.pure_def,Option.some.injEq]at hc
   obtain⟨x',h2,lo,h3,hi,h4,rfl⟩:=hc
   exact mD hq fun h=>OF E ho ht h2 h3 h4 h
  ·simp at hc
 ·rename_i ho
  split at hc
  ·rename_i fs uk
   split at hc
   ·rename_i f hf
    split at hc
    ·rename_i m hm
     simp only[Option.map_eq_some_iff]at hc
     obtain⟨x',hx,rfl⟩:=hc
     exact mD hq fun h=>Q7 E ho uk hf hm hx h
    ·simp at hc
   ·simp at hc
  ·simp at hc
 ·rename_i ho
  split at hc
  ·rename_i fs uk
   split at hc
   ·rename_i f hf
    simp only[Option.bind_eq_bind,Option.bind_eq_some_iff,Option.pure_def,Option.some.injEq]at hc
    obtain⟨ag,h1,n,h2,x',h3,rfl⟩:=hc
    exact mD hq fun h=>Q8 E ho uk hf h1 h2 h3 h
   ·simp at hc
  ·simp at hc
 ·rename_i ho
  split at hc
  ·rename_i e ht
   split at hc
   ·rename_i m hm
    simp only[Option.bind_eq_bind,Option.bind_eq_some_iff,Option.pure_def,Option.some.injEq]at hc
    obtain⟨x',h1,i',h2,rfl⟩:=hc
    exact mD hq fun h=>Ra S E ho ht hm h1 h2 h
   ·simp at hc
  ·rename_i len e ht
   split at hc
   ·rename_i m hm
    simp only[Option.bind_eq_bind,Option.bind_eq_some_iff,Option.pure_def,Option.some.injEq]at hc
    obtain⟨x',h1,i',h2,rfl⟩:=hc
    exact mD hq fun h=>UQ E ho ht hm h1 h2 h
   ·simp at hc
  ·simp at hc
 ·rename_i ho
  split at hc
  ·rename_i ht
   simp only[Option.bind_eq_bind,Option.bind_eq_some_iff,Option.pure_def,Option.some.injEq]at hc
   obtain⟨x',h1,i',h2,rfl⟩:=hc
   exact mD hq fun h=>US E ho ht h1 h2 h
  ·rename_i len e ht
   simp only[Option.bind_eq_bind,Option.bind_eq_some_iff,Option.pure_def,Option.some.injEq]at hc
   obtain⟨ag,h0,n,h1,x',h2,i',h3,rfl⟩:=hc
   exact mD hq fun h=>UR E ho ht h0 h1 h2 h3 h
  ·simp at hc
 ·rename_i ho
  simp only[Option.map_eq_some_iff]at hc
  obtain⟨x',hx,rfl⟩:=hc
  exact mD hq fun h=>Ls E ho hx h
 ·rename_i ho
  split at hc
  ·rename_i fs uk
   split at hc
   ·rename_i z l hz hl
    split at hc
    ·rename_i eJ
     simp only[Option.map_eq_some_iff]at hc
     obtain⟨q,P7,rfl⟩:=hc
     simp only[eB,Option.map_eq_some_iff,Prod.mk.injEq]at hq
     obtain⟨cs,ek,rfl,rfl⟩:=hq
     exact Q6 E ho uk hz hl (fun f hf=>by
      rw[Array.all_eq_true_iff_forall_mem]at eJ
      exact eJ f (Array.mem_toList_iff.1 hf)) P7 ek
    ·simp at hc
   ·simp at hc
  ·rename_i len e ht
   split at hc
   ·rename_i z l n hz hl hn
    simp only[Option.some.injEq]at hc
    subst hc
    simp only[eB,Option.map_eq_some_iff,Prod.mk.injEq]at hq
    obtain⟨cs,ek,rfl,rfl⟩:=hq
    exact OE E ho ht hz hl hn ek
   ·simp at hc
  ·simp at hc
 ·rename_i ho
  split at hc
  ·rename_i e ht
   split at hc
   ·rename_i sz z l h1 h2 h3
    split at hc
    ·rename_i hh
     simp only[Option.some.injEq]at hc
     subst hc
     simp only[eB,Option.map_eq_some_iff,Prod.mk.injEq]at hq
     obtain⟨rs,BE,rfl,rfl⟩:=hq
     exact .inl (Nz E ho ht h1 h2 h3 hh.1 hh.2 (by rw[List.map_map]at BE;exact BE))
    ·simp at hc
   ·simp at hc
  ·simp at hc
 ·rename_i ho
  split at hc
  ·rename_i hh
   simp only[Option.map_eq_some_iff]at hc
   obtain⟨l,hl,rfl⟩:=hc
   simp[eB]at hq;obtain⟨rfl,rfl⟩:=hq
   exact UY E ho hh.1 hh.2 hl
  ·split at hc
   ·rename_i hh
    simp only[Option.map_eq_some_iff]at hc
    obtain⟨l,hl,rfl⟩:=hc
    simp[eB]at hq;obtain⟨rfl,rfl⟩:=hq
    exact UZ E ho hh.1 hh.2 hl
   ·simp at hc
 ·rename_i ho
  split at hc
  ·rename_i e ht
   split at hc
   ·rename_i m z i h1 h2 h3
    split at hc
    ·rename_i hb
     simp only[Option.bind_eq_bind,Option.bind_eq_some_iff,Option.pure_def,Option.some.injEq]at hc
     obtain⟨l',h4,c',h5,rfl⟩:=hc
     simp only[eB,Option.map_eq_some_iff,Prod.mk.injEq]at hq
     obtain⟨⟨n,r⟩,hr,rfl,rfl⟩:=hq
     exact .inl (KQ E ho ht h1 h2 h3 hb h4 h5 hr)
    ·simp at hc
   ·simp at hc
  ·simp at hc
 ·rename_i ho
  exact Un ho hc hq S E
 ·rename_i ho
  split at hc
  ·rename_i dir e ht
   split at hc
   ·rename_i i hi
    split at hc
    ·rename_i hb
     simp only[Option.map_eq_some_iff]at hc
     obtain⟨x',hx,rfl⟩:=hc
     simp only[eB,Option.map_eq_some_iff,Prod.mk.injEq]at hq
     obtain⟨n,hn,rfl,rfl⟩:=hq
     exact .inr (.inr (Ug E ho ht hi hb hx hn))
    ·cases hc
   ·cases hc
  ·cases hc
 ·simp only[Option.bind_eq_bind,Option.bind_eq_some_iff,Option.pure_def,Option.some.injEq]at hc
  obtain⟨x',_,y',_,rfl⟩:=hc
  simp[eB]at hq
 ·split at hc
  ·split at hc
   ·simp only[Option.map_eq_some_iff]at hc
    obtain⟨x',_,rfl⟩:=hc
    simp[eB]at hq
   ·cases hc
  ·cases hc
 ·rename_i ho
  split at hc
  ·rename_i m z hm
   simp only[Option.some.injEq]at hc
   subst hc
   simp only[eB,List.map_nil,bt,Option.some.injEq,Prod.mk.injEq]at hq
   obtain⟨rfl,rfl⟩:=hq
   exact .inr (.inl (XR ho))
  ·cases hc
 ·rename_i ho
  split at hc
  ·rename_i m z x' k' hm hx hk
   simp only[Option.some.injEq]at hc
   subst hc
   obtain⟨rfl,h⟩:=UX (id:=id) S E ho hm hx hk hq
   exact h
  ·cases hc
 ·split at hc
  ·simp only[Option.some.injEq]at hc
   subst hc
   simp[eB]at hq
  ·cases hc
 ·split at hc
  ·simp only[Option.some.injEq]at hc
   subst hc
   simp[eB]at hq
  ·cases hc
 ·simp only[Option.some.injEq]at hc
  subst hc
  simp[eB]at hq
 ·simp only[Option.some.injEq]at hc
  subst hc
  simp[eB]at hq
 ·simp at hc
end
end Go.Proofs.YtainmfbpilopaaaGreatDoor.V

namespace Go.Proofs.YtainmfbpilopaaaGreatDoor.V
open Go.RowKit
variable {P:Program} {w w':World} {D D':Nat->Prop} {ι ι':Names}
def lJ (ι:Names) (id:Id) (B:vz):Names:=fun i=>if i=id then some B else ι i
theorem eK (ι:Names) (id:Id) (B:vz):lJ ι id B id=some B:=if_pos rfl
theorem fJ {ι:Names} {id:Id} {B:vz} (h:ι id=none):∀i B',ι i=some B'->lJ ι id B i=some B':=fun i B' hi=>by
 have:i≠id:=by rintro rfl;rw[h]at hi;cases hi
 rw[lJ,if_neg this];exact hi
theorem iq {ι:Names} {id i:Id} {B:vz} (h:i≠id):lJ ι id B i=ι i:=if_neg h
section
variable {g:Rows} {hs:Nat} {env:Env} {a:Act} {o:Oper} {id:Id} {v:AV}
theorem lV.frame {B:vz} {r:Row} (h:lV P w D ι B r) (hb:w'.heap[B.b]? =w.heap[B.b]?) (hr:∀a v,du P w D ι a v->du P w' D' ι' a v):lV P w' D' ι' B r:=
 ⟨h.sz,by obtain⟨c,T,h1,h2⟩:=h.vd;exact⟨c,T,hb.trans h1,h2⟩,h.fits,h.len,h.flat,fun i j cs a hi hj=>by
  obtain⟨v,h1,h2⟩:=h.at_ i j cs a hi hj
  exact⟨v,(World.cell?_of_block (a:=⟨B.b,i*r.sz+j,none⟩) hb).trans h1,hr _ _ h2⟩⟩
theorem iM.frame {B:vz} {r:Row} (h:iM P w D ι B r) (hb:w'.heap[B.b]? =w.heap[B.b]?) (hr:∀a v,du P w D ι a v->du P w' D' ι' a v):iM P w' D' ι' B r:=
 ⟨h.sz,h.flat,fun hk=>(h.row hk).frame hb hr,fun m hm=>by
  obtain⟨h1,es,c,h2,h3,h5,h4⟩:=h.map m hm
  refine⟨h1,es,c,hb.trans h2,h3,h5,fun i cs hi=>?_⟩
  obtain⟨e,kv,vv,q1,q2,q3,q4,q5⟩:=h4 i cs hi
  exact⟨e,kv,vv,q1,q2,q3,hr _ _ q4,hr _ _ q5⟩,fun c hc=>by
  obtain⟨h1,buf,s,q,h2,h3,h4⟩:=h.chan c hc
  refine⟨h1,buf,s,q,hb.trans h2,h3,fun i cs hi=>?_⟩
  obtain⟨a,u,q1,q2,q3⟩:=h4 i cs hi
  exact⟨a,u,q1,q2,hr _ _ q3⟩⟩
theorem ig.kill (S:ig P hs D ι g w) (i:Id):ig P hs D ι (bY g i) w:=by
 refine⟨S.lo,S.dead,fun id r h=>?_,fun id lG r r' B B' h h' hw hB eA hb=>?_⟩
 ·unfold bY at h;split at h
  ·cases h
  ·exact S.row id r h
 ·unfold bY at h h'
  split at h
  ·cases h
  ·split at h'
   ·cases h'
   ·exact S.inj id lG r r' B B' h h' hw hB eA hb
theorem ig.sub {g':Rows} (S:ig P hs D ι g w) (h:∀id r,g' id=some r->g id=some r):ig P hs D ι g' w:=
 ⟨S.lo,S.dead,fun id r hr=>S.row id r (h id r hr),fun id lG r r' B B' h1 h2=>S.inj id lG r r' B B' (h _ _ h1) (h _ _ h2)⟩
theorem DJ {hid:List Nat} {n:Nat} {g:Rows}:∀id r,fA hid n g id=some r->g id=some r:=fun id r h=>by
 cases hid with
 |nil=>exact h
 |cons a l=>
  have e:fA (a::l) n g id=if (a::l).contains id.site=true/\id.bq=n then none else g id:=rfl
  rw[e]at h
  by_cases hc:(a::l).contains id.site=true/\id.bq=n
  ·rw[if_pos hc]at h;cases h
  ·rw[if_neg hc]at h;exact h
theorem ig.stay (S:ig P hs D ι g w) (hb:∀b,b<w.heap.size->w'.heap[b]? =w.heap[b]?) (hz:w.heap.size<=w'.heap.size) (hD:∀b,D b->D' b) (hD':∀b,D' b->b<w'.heap.size) (lS:∀b,D' b->D b∨w.heap.size<=b) (hι:∀id B,ι id=some B->ι' id=some B):ig P hs D' ι' g w':=by
 have hr:∀a v,du P w D ι a v->du P w' D' ι' a v:=fun a v h=>h.frame (fun b hd=>hb b (S.dead b hd)) hD hι
 have lt:∀{id r B},g id=some r->ι id=some B->B.b<w.heap.size:=fun {id r B} h hB=>by
  obtain⟨B',eA,R,_⟩:=S.row id r h
  rw[hB]at eA;injection eA with eA;subst eA
  exact R.lt
 refine⟨Nat.le_trans S.lo hz,hD',fun id r h=>?_,fun id lG r r' B B' h h' hw hB eA he=>?_⟩
 ·obtain⟨B,hB,R,h1,h2⟩:=S.row id r h
  exact⟨B,hι _ _ hB,R.frame (hb _ (lt h hB)) hr,h1,fun hw hd=>by
   rcases lS _ hd with hd|hd
   ·exact h2 hw hd
   ·have:=lt h hB;omega⟩
 ·obtain⟨C,hC,_⟩:=S.row id r h
  obtain⟨C',xC,_⟩:=S.row lG r' h'
  have e1:=hι _ _ hC
  have e2:=hι _ _ xC
  rw[hB]at e1;injection e1 with e1;subst e1
  rw[eA]at e2;injection e2 with e2;subst e2
  exact S.inj id lG r r' _ _ h h' hw hC xC he
theorem Step.stay (S:ig P hs D ι g w) (hb:∀b,b<w.heap.size->w'.heap[b]? =w.heap[b]?) (hz:w.heap.size<=w'.heap.size) (e1:w'.os=w.os) (e2:w'.tape=w.tape) (e3:w'.output=w.output) (hD:∀b,D b->D' b) (lS:∀b,D' b->D b∨w.heap.size<=b) (hι:∀id B,ι id=some B->ι' id=some B):Step hs D ι w D' ι' w':=
 ⟨⟨e1,e2,e3,hz,fun k hk=>hb k (Nat.lt_of_lt_of_le hk S.lo)⟩,fun b hd=>hb b (S.dead b hd),hD,hι,fun b h=>(lS b h).imp_right (Nat.le_trans S.lo)⟩
theorem ig.alloc (S:ig P hs D ι g w) {cells:Array Value} {T:TypeId} {r:Row} (hh:w'.heap=w.heap.push (.cells cells T (0,0))) (hn:ι id=none) (hw:r.w=true) (h1:r.rows.length*r.sz<=cells.size) (h2:∀cs∈r.rows,cs.length=r.sz) (h3:∀cs∈r.rows,∀a∈cs,a.cell=true)
  (h4:∀i j cs a,r.rows[i]? =some cs->cs[j]? =some a->∃x,cells[i*r.sz+j]? =some x/\du P w D ι a x):ig P hs D (lJ ι id ⟨w.heap.size,r.sz,cells.size,none⟩) (bI g id r) w':=by
 have hb:∀b,b<w.heap.size->w'.heap[b]? =w.heap[b]? :=fun b eG=>by rw[hh,Array.getElem?_push,if_neg ae]
 have hz:w.heap.size<=w'.heap.size:=by rw[hh];simp
 have S':=S.stay (D':=D) (ι':=lJ ι id ⟨w.heap.size,r.sz,cells.size,none⟩) hb hz (fun _ h=>h) (fun b hd=>Nat.lt_of_lt_of_le (S.dead b hd) hz) (fun _ h=>.inl h) (fJ hn)
 have hr:∀a v,du P w D ι a v->du P w' D (lJ ι id ⟨w.heap.size,r.sz,cells.size,none⟩) a v:=fun a v h=>h.frame (fun b hd=>hb b (S.dead b hd)) (fun _ h=>h) (fJ hn)
 have lS:w'.heap[w.heap.size]? =some (.cells cells T (0,0)):=by rw[hh];simp
 have gone:g id=none:=by
  cases hg:g id with
  |none=>rfl
  |some q=>
   obtain⟨B,hB,_⟩:=S.row id q hg
   rw[hn]at hB;cases hB
 have lt:∀{i q B},g i=some q->ι i=some B->B.b<w.heap.size:=fun {i q B} h hB=>by
  obtain⟨B',eA,R,_⟩:=S.row i q h
  rw[hB]at eA;injection eA with eA;subst eA
  exact R.lt
 refine⟨S'.lo,S'.dead,fun i q h=>?_,fun i i' q q' B B' h h' M8 hB eA he=>?_⟩
 ·unfold bI at h
  split at h
  ·rename_i e
   subst e
   injection h with h;subst h
   refine⟨_,eK _ _ _,lV.obj ⟨rfl,⟨cells,T,lS,rfl⟩,h1,h2,h3,fun k j cs a hk hj=>?_⟩ rfl,fun _=>S.lo,fun _ hd=>?_⟩
   ·obtain⟨x,hx,hrx⟩:=h4 k j cs a hk hj
    exact⟨x,by simp[World.cell?,lS,hx],hr _ _ hrx⟩
   ·have:=S.dead _ hd;simp at this
  ·exact S'.row i q h
 ·unfold bI at h h'
  split at h
  ·rename_i e
   split at h'
   ·rename_i e';exact e.trans e'.symm
   ·exfalso
    rename_i e'
    subst e
    rw[eK]at hB;injection hB with hB;subst hB
    rw[iq e']at eA
    have:=lt h' eA
    simp at he;omega
  ·rename_i e
   split at h'
   ·exfalso
    rename_i e'
    subst e'
    rw[eK]at eA;injection eA with eA;subst eA
    rw[iq e]at hB
    have:=lt h hB
    simp at he;omega
   ·exact S'.inj i i' q q' B B' h h' M8 hB eA he
theorem ig.put (S:ig P hs D ι g w) {r r':Row} {B:vz} {cur cur':Array Value} {T:TypeId} (hid:g id=some r) (hw:r.w=true) (hB:ι id=some B) (hblk:w.heap[B.b]? =some (.cells cur T (0,0))) (ew:cur'.size=cur.size)
  (h0:r'.w=true) (h1:r'.sz=r.sz) (h2:r'.rows.length*r'.sz<=B.C) (h3:∀cs∈r'.rows,cs.length=r'.sz) (h4:∀cs∈r'.rows,∀a∈cs,a.cell=true)
  (h5:∀i j cs a,r'.rows[i]? =some cs->cs[j]? =some a->∃v,cur'[i*r.sz+j]? =some v/\du P w D ι a v):ig P hs D ι (bI g id r') (w.setRow B.b cur')/\Step hs D ι w D ι (w.setRow B.b cur'):=by
 obtain⟨B0,EV,RO,lW,sD⟩:=S.row id r hid
 rw[hB]at EV;injection EV with EV;subst EV
 have xS:=RO.Qz hblk
 have R:=RO.row xS
 have hd:∀b,D b->(w.setRow B.b cur').heap[b]? =w.heap[b]? :=fun b hb=>setRow_other w B.b b cur' (by rintro rfl;exact sD hw hb)
 have hr:∀a v,du P w D ι a v->du P (w.setRow B.b cur') D ι a v:=fun a v h=>h.frame hd (fun _ h=>h) (fun _ _ h=>h)
 have hC:cur.size=B.C:=by
  obtain⟨c,T',h1,h2⟩:=R.vd
  rw[hblk]at h1;injection h1 with h1;injection h1 with h1 h1';subst h1;exact h2
 refine⟨⟨by simpa using S.lo,fun b hb=>by simpa using S.dead b hb,fun i q h=>?_,fun i i' q q' C C' h h' M8 hC xC he=>?_⟩,⟨⟨by simp,by simp,by simp,by simp,fun k hk=>setRow_other w B.b k cur' (by have:=lW hw;omega)⟩,hd,fun _ h=>h,fun _ _ h=>h,fun _ h=>.inl h⟩⟩
 ·unfold bI at h
  split at h
  ·rename_i e
   subst e
   injection h with h;subst h
   refine⟨B,hB,lV.obj ⟨by rw[h1];exact R.sz,⟨cur',T,setRow_heap w B.b cur cur' T _ hblk,by rw[ew];exact hC⟩,h2,h3,h4,fun k j cs a hk hj=>?_⟩ xS,fun _=>lW hw,fun _=>sD hw⟩
   obtain⟨v,hv,pS⟩:=h5 k j cs a hk hj
   exact⟨v,by rw[cell_setRow_same w B.b _ cur cur' T _ hblk,h1];exact hv,hr _ _ pS⟩
  ·rename_i e
   obtain⟨C,hC,RC,k1,k2⟩:=S.row i q h
   refine⟨C,hC,RC.frame (setRow_other w B.b C.b cur' (fun Gu=>e ?_)) hr,k1,k2⟩
   exact(S.inj id i r q B C hid h hw hB hC Gu.symm).symm
 ·unfold bI at h h'
  have get:∀j p,(if j=id then some r' else g j)=some p->∃p0,g j=some p0/\(p.w=true->p0.w=true):=fun j p hp=>by
   split at hp
   ·rename_i e;subst e;injection hp with hp;subst hp;exact⟨r,hid,fun _=>hw⟩
   ·exact⟨p,hp,fun h=>h⟩
  obtain⟨p,hp,V0⟩:=get _ _ h
  obtain⟨p',TI,_⟩:=get _ _ h'
  exact S.inj i i' p p' C C' hp TI (V0 M8) hC xC he
theorem ig.rename (S:ig P hs D ι g w) {i:Id} {r:Row} {B:vz} (hi:g i=some r) (hw:r.w=true) (hB:ι i=some B) (hn:ι id=none):ig P hs D (lJ ι id B) (bI (bY g i) id r) w:=by
 have S':=S.stay (w':=w) (D':=D) (ι':=lJ ι id B) (fun _ _=>rfl) (Nat.le_refl _) (fun _ h=>h) S.dead (fun _ h=>.inl h) (fJ hn)
 have iI:i≠id:=by rintro rfl;rw[hn]at hB;cases hB
 obtain⟨B1,DR,R,k1,k2⟩:=S'.row i r hi
 rw[iq iI,hB]at DR;injection DR with DR;subst DR
 have get:∀j p,bI (bY g i) id r j=some p->(j=id/\p=r)∨(j≠id/\j≠i/\g j=some p):=fun j p hp=>by
  unfold bI bY at hp
  split at hp
  ·rename_i e;injection hp with hp;exact .inl ⟨e,hp.symm⟩
  ·rename_i e
   split at hp
   ·cases hp
   ·rename_i e';exact .inr ⟨e,e',hp⟩
 refine⟨S.lo,S.dead,fun j p h=>?_,fun j j' p p' C C' h h' V0 hC xC he=>?_⟩
 ·rcases get j p h with⟨rfl,rfl⟩|⟨_,_,hp⟩
  ·exact⟨B,eK _ _ _,R,k1,k2⟩
  ·exact S'.row j p hp
 ·rcases get j p h with⟨rfl,rfl⟩|⟨q1,q2,hp⟩
  ·rcases get j' p' h' with⟨rfl,rfl⟩|⟨q1',q2',TI⟩
   ·rfl
   ·exfalso
    rw[eK]at hC;injection hC with hC;subst hC
    rw[iq q1']at xC
    exact q2' (S.inj i j' p p' B C' hi TI hw hB xC he).symm
  ·rcases get j' p' h' with⟨rfl,rfl⟩|⟨q1',q2',TI⟩
   ·exfalso
    rw[eK]at xC;injection xC with xC;subst xC
    rw[iq q1]at hC
    exact q2 (S.inj j i p p' C B hp hi V0 hC hB he)
   ·rw[iq q1]at hC
    rw[iq q1']at xC
    exact S.inj j j' p p' C C' hp TI V0 hC xC he
def GG (P:Program) (hs:Nat) (a:Act) (o:Oper) (w:World) (D:Nat->Prop) (ι:Names) (id:Id) (v:AV) (g':Rows):Prop:=
 ∃u w' ι',((execOp a.eval o).run P w=.ok (.value u) w'∨(execOp a.eval o).run P w=.ok .skip w'/\u=undef)/\Step hs D ι w D ι' w'/\ig P hs D ι' g' w'/\du P w' D ι' v u/\∀i,i≠id->ι' i=ι i
theorem F2 {xs:List AV} {vs:Array Value} (h:fY P w D ι xs vs) (hf:∀a∈xs,a.cell=true):∀v∈vs.toList,v.oneCell'=true:=by
 intro v hv
 obtain⟨j,hj,rfl⟩:=List.getElem_of_mem hv
 have O5:j<xs.length:=by rw[<-h.1];simpa using hj
 obtain⟨u,hu,hr⟩:=h.2 j _ (List.getElem?_eq_getElem O5)
 have hc:=hr.EA (hf _ (List.getElem_mem O5))
 have:vs.toList[j]=u:=by
  have:vs.toList[j]? =some u:=by simpa using hu
  rw[List.getElem?_eq_getElem hj]at this;injection this
 rw[this]
 cases u<;>simp_all [Value.oneCell']
theorem lf {i j n m:Nat} (h:i<n) (hj:j<m):i*m+j<n*m:=by
 have:(i+1)*m<=n*m:=Nat.mul_le_mul_right _ h
 rw[Nat.add_mul,Nat.one_mul]at this;omega
theorem lV.cur {B:vz} {r:Row} (R:lV P w D ι B r):∃cur T,w.heap[B.b]? =some (.cells cur T (0,0))/\cur.size=B.C/\∀i j cs a,r.rows[i]? =some cs->cs[j]? =some a->∃v,cur[i*r.sz+j]? =some v/\du P w D ι a v:=by
 obtain⟨cur,T,h1,h2⟩:=R.vd
 refine⟨cur,T,h1,h2,fun i j cs a hi hj=>?_⟩
 obtain⟨v,hv,hr⟩:=R.at_ i j cs a hi hj
 exact⟨v,by simpa[World.cell?,h1]using hv,hr⟩
theorem PI {t:TypeId} {n:Nat} {x y:Operand} {x' y':O} {g':Rows} (S:ig P hs D ι g w) (E:dc P w D ι env a) (ho:o.op=.store t x y) (hn:eO P t=some n) (hx:cO P x=some x') (hy:cO P y=some y')
  (hv:bQ g n (dj env y') (dj env x')=some g'):GG P hs a o w D ι id .undef g':=by
 have rx:=ec E hx
 have ry:=ec E hy
 unfold bQ at hv
 split at hv
 ·rename_i i k off hp
  rw[hp]at rx
  simp only[Option.bind_eq_some_iff]at hv
  obtain⟨r,hg,cs,ek,hv⟩:=hv
  split at hv
  ·rename_i hc
   obtain⟨c1,c2,c3,c4⟩:=hc
   simp at hv;subst hv
   obtain⟨B,he,hB,hk⟩:=jc rx
   obtain⟨B',eA,R,lW,sD⟩:=S.row i r hg
   rw[hB]at eA;injection eA with eA;subst eA
   replace R:=R.row hk
   obtain⟨cur,T,hblk,hC,yZ⟩:=R.cur
   have hL:=tF ry c3
   have h1:=F2 hL (List.all_eq_true.1 c3)
   have Qa:(a.eval y).cells.size=n:=by rw[hL.1,c2]
   have oy:=(List.getElem?_eq_some_iff.1 ek).1
   have hlen:=R.len cs (List.mem_of_getElem? ek)
   have hbound:k*r.sz+r.sz<=r.rows.length*r.sz:=by
    have:(k+1)*r.sz<=r.rows.length*r.sz:=Nat.mul_le_mul_right _ oy
    rwa [Nat.add_mul,Nat.one_mul]at this
   have hf:=R.fits
   have ed:=run_storeCells_at P B.b (k*B.sz+off) T (a.eval y).cells.toList 0 cur w hblk (by rw[R.sz];simp only[Array.length_toList];omega) h1
   simp only[Nat.add_zero,Array.length_toList]at ed
   have uq:=S.put (r':={r with rows:=r.rows.set k (cF cs off (dj env y').cells)}) hg c1 hB hblk (cur':=(cur.toList.take (k*B.sz+off)++(a.eval y).cells.toList++cur.toList.drop (k*B.sz+off+(a.eval y).cells.size)).toArray)
    (by rw[R.sz];simp;omega) c1 rfl (by simpa using R.fits) (fun c WW=>by
     rcases List.mem_or_eq_of_mem_set WW with h|rfl
     ·exact R.len c h
     ·simp[cF];omega) (fun c WW b hb=>by
     rcases List.mem_or_eq_of_mem_set WW with h|rfl
     ·exact R.flat c h b hb
     ·unfold cF at hb
      rcases List.mem_append.1 hb with hb|hb
      ·rcases List.mem_append.1 hb with hb|hb
       ·exact R.flat cs (List.mem_of_getElem? ek) b (List.mem_of_mem_take hb)
       ·exact List.all_eq_true.1 c3 b hb
      ·exact R.flat cs (List.mem_of_getElem? ek) b (List.mem_of_mem_drop hb)) (fun i2 j c b xD hj=>by
     rw[R.sz]
     simp only[List.getElem?_toArray]
     by_cases Gw:i2=k
     ·subst Gw
      rw[List.getElem?_set_self oy]at xD
      injection xD with xD;subst xD
      unfold cF at hj
      by_cases hjo:j<off
      ·rw[List.append_assoc,List.getElem?_append_left (by simp;omega),List.getElem?_take,if_pos hjo]at hj
       rw[List.append_assoc,List.getElem?_append_left (by simp;omega),List.getElem?_take,if_pos ae]
       simpa using yZ _ _ _ _ ek hj
      ·by_cases pQ:j<off+n
       ·rw[List.append_assoc,List.getElem?_append_right (by simp;omega),List.getElem?_append_left (by simp;omega)]at hj
        rw[List.append_assoc,List.getElem?_append_right (by simp;omega),List.getElem?_append_left (by simp;omega)]
        simp only[List.length_take]at hj ⊢
        rw[show j-min off cs.length=j-off by omega]at hj
        rw[show i2*r.sz+j-min (i2*r.sz+off) cur.toList.length=j-off by simp;omega]
        simpa using hL.2 _ _ hj
       ·rw[List.getElem?_append_right (by simp;omega)]at hj
        rw[List.getElem?_append_right (by simp;omega)]
        simp only[List.length_append,List.length_take,List.getElem?_drop,Array.length_toList]at hj ⊢
        rw[show off+(dj env y').cells.length+(j-(min off cs.length+(dj env y').cells.length))=j by omega]at hj
        rw[show i2*r.sz+off+(a.eval y).cells.size+(i2*r.sz+j-(min (i2*r.sz+off) cur.size+(a.eval y).cells.size))=i2*r.sz+j by omega]
        simpa using yZ _ _ _ _ ek hj
     ·rw[List.getElem?_set_ne (fun e=>Gw e.symm)]at xD
      have hi2l:=(List.getElem?_eq_some_iff.1 xD).1
      have iX:j<r.sz:=by rw[<-R.len c (List.mem_of_getElem? xD)];exact(List.getElem?_eq_some_iff.1 hj).1
      have:=yZ _ _ _ _ xD hj
      rcases Nat.lt_or_gt_of_ne Gw with eG|Xi
      ·have h2:i2*r.sz+j<k*r.sz:=lf eG iX
       rw[List.append_assoc,List.getElem?_append_left (by simp;omega),List.getElem?_take,if_pos ae]
       simpa using this
      ·have h2:k*r.sz+r.sz<=i2*r.sz:=by
        have:(k+1)*r.sz<=i2*r.sz:=Nat.mul_le_mul_right _ Xi
        rwa [Nat.add_mul,Nat.one_mul]at this
       rw[List.getElem?_append_right (by simp;omega)]
       simp only[List.length_append,List.length_take,List.getElem?_drop,Array.length_toList]
       rw[show k*r.sz+off+(a.eval y).cells.size+(i2*r.sz+j-(min (k*r.sz+off) cur.size+(a.eval y).cells.size))=i2*r.sz+j by omega]
       simpa using this)
   refine⟨undef,_,ι,.inr ⟨?_,rfl⟩,uq.2,uq.1,du.undef,fun _ _=>rfl⟩
   simp only[execOp,ho,he,Instr.storeAt,Instr.sureAddr,storeVar,Sem.run_bind,Sem.run_pure,Result.andThen_ok,run_sizeOf hn,Qa,ne_eq,not_true_eq_false,if_false,ed]
  ·simp at hv
 ·simp at hv
end
end Go.Proofs.YtainmfbpilopaaaGreatDoor.V

namespace Go.Proofs.YtainmfbpilopaaaGreatDoor.V
open Go.RowKit
variable {P:Program} {w w':World} {D D':Nat->Prop} {ι ι':Names}
section
variable {g:Rows} {hs:Nat} {env:Env} {a:Act} {o:Oper} {id:Id} {v:AV}
theorem uK (S:ig P hs D ι g w) {y:AV} {u:Value} {ys:List (List AV)} {sz:Nat} (hr:du P w D ι y u) (hy:br g y=some ys) (hl:∀c∈ys,c.length=sz) (hf:∀c∈ys,∀b∈c,b.cell=true):
  ∃A c,u=.slice A ys.length c/\(ys=[]∨∃b o,∃news:List Value,A=some ⟨b,o,none⟩/\news.length=ys.length*sz/\(∀j v,news[j]? =some v->w.cell? ⟨b,o+j,none⟩=some v)/\fY P w D ι ys.flatten news.toArray/\∀v∈news,v.oneCell'=true):=by
 have fin:∀b o,ys≠[]->(∀i j cs x,ys[i]? =some cs->cs[j]? =some x->∃v,w.cell? ⟨b,o+(i*sz+j),none⟩=some v/\du P w D ι x v)->
   ∃news:List Value,news.length=ys.length*sz/\(∀j v,news[j]? =some v->w.cell? ⟨b,o+j,none⟩=some v)/\fY P w D ι ys.flatten news.toArray/\∀v∈news,v.oneCell'=true:=by
  intro b o _ h
  have hlen:=MA hl
  have at_:∀k,k<ys.length*sz->∃x,ys.flatten[k]? =some x/\∃v,w.cell? ⟨b,o+k,none⟩=some v/\du P w D ι x v:=by
   intro k hk
   have kH:0<sz:=by
    rcases Nat.eq_zero_or_pos sz with h0|h0
    ·subst h0;simp at hk
    ·exact h0
   have hi:k / sz<ys.length:=Nat.div_lt_of_lt_mul (by rw[Nat.mul_comm];exact hk)
   have hj:k % sz<sz:=Nat.mod_lt _ kH
   have ek:=List.getElem?_eq_getElem hi
   have iX:k % sz<ys[k / sz].length:=by rw[hl _ (List.getElem_mem hi)];exact hj
   have hx:=List.getElem?_eq_getElem iX
   have e:k / sz*sz+k % sz=k:=by rw[Nat.mul_comm];exact Nat.div_add_mod _ _
   refine⟨_,by rw[<-flat_get hl ek hx,e],?_⟩
   obtain⟨v,hv,pS⟩:=h _ _ _ _ ek hx
   rw[e]at hv
   exact⟨v,hv,pS⟩
  let news:=(List.range (ys.length*sz)).map fun k=>(w.cell? ⟨b,o+k,none⟩).getD undef
  have hn:∀k,k<ys.length*sz->∀v,w.cell? ⟨b,o+k,none⟩=some v->news[k]? =some v:=fun k hk v hv=>by
   simp only[news,List.getElem?_map,List.getElem?_range hk,Option.map_some,hv,Option.getD_some]
  have hR:fY P w D ι ys.flatten news.toArray:=⟨by simp[news,hlen],fun j x hx=>by
   have iX:=(List.getElem?_eq_some_iff.1 hx).1
   rw[hlen]at iX
   obtain⟨x',vp,v,hv,pS⟩:=at_ j iX
   rw[hx]at vp;injection vp with vp;subst vp
   exact⟨v,by simpa using hn j iX v hv,pS⟩⟩
  refine⟨news,by simp[news],fun j v hj=>?_,hR,?_⟩
  ·have iX:j<ys.length*sz:=by have:=(List.getElem?_eq_some_iff.1 hj).1;simpa[news]using this
   obtain⟨x,_,v',pJ,_⟩:=at_ j iX
   rw[hn j iX v' pJ]at hj
   injection hj with hj
   rw[<-hj];exact pJ
  ·have:=F2 hR (fun x hx=>by
    obtain⟨c,hc,hxc⟩:=List.mem_flatten.1 hx
    exact hf c hc x hxc)
   simpa using this
 unfold br at hy
 split at hy
 ·simp at hy;subst hy
  exact⟨none,0,jM hr,.inl rfl⟩
 ·rename_i rows
  simp at hy;subst hy
  obtain⟨A,c,he,_,_,h3⟩:=zZ hr
  refine⟨A,c,he,?_⟩
  rcases h3 with h3|⟨b,oo,sz',vs,rfl,hD,TD,_,hc,hi⟩
  ·exact .inl h3
  ·by_cases h0:rows=[]
   ·exact .inl h0
   ·have Fe:sz'=sz:=by
     cases rows with
     |nil=>exact(h0 rfl).elim
     |cons c r=>rw[<-TD c (by simp),hl c (by simp)]
    subst Fe
    obtain⟨news,q1,q2,q3,q4⟩:=fin b oo h0 (fun i j cs x ek hx=>⟨_,hc i j (List.getElem?_eq_some_iff.1 ek).1 (by rw[<-TD cs (List.mem_of_getElem? ek)];exact(List.getElem?_eq_some_iff.1 hx).1),.eX _ _ (hi i j cs x ek hx)⟩)
    exact .inr ⟨b,oo,news,rfl,q1,q2,q3,q4⟩
 ·rename_i i off len
  simp only[Option.bind_eq_some_iff]at hy
  obtain⟨r,hg,hy⟩:=hy
  split at hy
  ·rename_i hle
   simp at hy;subst hy
   obtain⟨oo,cap,B,he,hB,h1,h2,h3,h4,hk⟩:=jq hr
   obtain⟨B',eA,R,_,_⟩:=S.row i r hg
   rw[hB]at eA;injection eA with eA;subst eA
   replace R:=R.row hk
   have hlen:((r.rows.drop off).take len).length=len:=by simp;omega
   refine⟨some ⟨B.b,oo,none⟩,cap,by rw[hlen];exact he,?_⟩
   by_cases h0:(r.rows.drop off).take len=[]
   ·exact .inl h0
   ·have Fe:r.sz=sz:=by
     cases hq:(r.rows.drop off).take len with
     |nil=>exact(h0 hq).elim
     |cons c q=>
      have hm:c∈(r.rows.drop off).take len:=by rw[hq];simp
      rw[<-hl c hm,R.len c (List.mem_of_mem_drop (List.mem_of_mem_take hm))]
    have hlp:0<len:=by rw[<-hlen];exact List.length_pos_iff.2 h0
    have DQ:oo=off*B.sz:=by rcases h2 with h2|h2<;>omega
    obtain⟨news,q1,q2,q3,q4⟩:=fin B.b oo h0 (fun i2 j cs x ek hx=>by
     rw[List.getElem?_take]at ek
     split at ek
     ·rw[List.getElem?_drop]at ek
      obtain⟨v,hv,pS⟩:=R.at_ _ _ _ _ ek hx
      refine⟨v,?_,pS⟩
      rw[DQ,R.sz,<-Fe]
      rw[Nat.add_mul]at hv
      rw[<-Nat.add_assoc]
      exact hv
     ·simp at ek)
    exact .inr ⟨B.b,oo,news,rfl,q1,q2,q3,q4⟩
  ·simp at hy
 ·simp at hy
theorem qF {t ty e:TypeId} {i:TypeInfo} (ht:P.underlying t=some (.slice e)) (hi:P.info? e=some i) (A:Option Addr) (n c:Nat) (hn:n<=c) (B:Option Addr) (d:Nat):
  (Builtin.append_ #[t,t] ty #[.slice A n c,.slice B 0 d]).run P w=.ok (.slice A n c) w:=by
 have hf:(Builtin.firstCells i.size 0 (.slice B 0 d)).run P w=.ok #[] w:=by
  cases B<;>simp[Builtin.firstCells,loadCells,loadCellsFrom]
 cases A with
 |none=>simp[Builtin.append_,run_underlying ht,sizeOf,typeInfo,hi,Builtin.lenOf,hn,hf]
 |some A=>simp[Builtin.append_,run_underlying ht,sizeOf,typeInfo,hi,Builtin.lenOf,hn,hf,storeCells]
theorem A3 {t ty e T:TypeId} {i:TypeInfo} (ht:P.underlying t=some (.slice e)) (hi:P.info? e=some i) (b uN H4:Nat) (cur:Array Value) (hg:w.heap[b]? =some (.cells cur T (0,0)))
  (x:Addr) (m c:Nat) (news:List Value) (hl:news.length=m*i.size) (Xp:∀j u,news[j]? =some u->w.cell? (x.add j)=some u) (h1:∀u∈news,u.oneCell'=true)
  (iT:uN+m<=H4) (kF:uN*i.size+news.length<=cur.size):
  (Builtin.append_ #[t,t] ty #[.slice (some ⟨b,0,none⟩) uN H4,.slice (some x) m c]).run P w=
   .ok (.slice (some ⟨b,0,none⟩) (uN+m) H4) (w.setRow b (cur.toList.take (uN*i.size)++news++cur.toList.drop (uN*i.size+news.length)).toArray):=by
 have hf:=run_firstCells_some (P:=P) w i.size m x m c news hl Xp
 have ed:=run_storeCells_at P b (uN*i.size) T news 0 cur w hg (by simpa using kF) h1
 simp only[Nat.add_zero]at ed
 simp[Builtin.append_,run_underlying ht,sizeOf,typeInfo,hi,Builtin.lenOf,iT,hf,lO,ed]
theorem EU (w:World) (KS DZ:Nat) (e:TypeId) (h:KS<=dv):KS<=grownCap w KS DZ e/\grownCap w KS DZ e<=maxLen:=by
 unfold dv at h
 simp only[grownCap,Question.cut,maxLen]
 have:=Nat.mod_lt (w.tape w.drawn (.appendCap KS DZ e)) (show 0<2 ^ 63-KS by omega)
 omega
theorem il {x y:Operand} {t:TypeId} {u:Value} (ho:o.op=.call {callee:=.builtin .append,args:= #[x,y],argTypes:= #[t,t]}) (h:(Builtin.append_ #[t,t] o.type #[a.eval x,a.eval y]).run P w=.ok u w'):(execOp a.eval o).run P w=.ok (.value u) w':=by
 simp only[execOp,ho,resolve,Sem.run_bind,Sem.run_pure,Result.andThen_ok,invoke,builtin]
 simp only[List.map_toArray,List.map_cons,List.map_nil]
 rw[h];rfl
theorem Gd {T:TypeId} (S:ig P hs D ι g w) (cells:Array Value) (hn:ι id=none) (B:vz):Step hs D ι w D (lJ ι id B) (w.drew.alloc (.cells cells T)):=
 Step.stay S (fun k hk=>by show(w.heap.push _)[k]? = _;rw[Array.getElem?_push,if_neg ae]) (by show _<=(w.heap.push _).size;simp) rfl rfl rfl (fun _ h=>h) (fun _ h=>.inl h) (fJ hn)
theorem Mq {x y:Operand} {x' y':O} {t e:TypeId} {m:Nat} {z:List K} {i:TypeInfo} {ys:List (List AV)} {g':Rows} (S:ig P hs D ι g w) (E:dc P w D ι env a) (hn:ι id=none) (ho:o.op=.call {callee:=.builtin .append,args:= #[x,y],argTypes:= #[t,t]})
  (ht:P.underlying t=some (.slice e)) (ew:eO P e=some (m+1)) (hz:kP P e=some z) (hi:P.info? e=some i) (hby:i.bytes<=32768) (hx:cO P x=some x') (hy:cO P y=some y') (GD:br g (dj env y')=some ys)
  (hv:aU g id (m+1) (dj env x') ys=some (v,g')):GG P hs a o w D ι id v g':=by
 have rx:=ec E hx
 have ry:=ec E hy
 obtain⟨it,zv,tL,ze,V5,hm,I9⟩:=lq hz
 rw[hi]at tL;injection tL with tL;subst tL
 have kG:i.size=m+1:=by simpa[eO,hi]using ew
 have fits:∀n,n<=dv->n*i.bytes<=140737488355328:=fun n h=>by
  unfold dv at h
  have:=Nat.mul_le_mul h hby
  omega
 have e63:∀n,n<=dv->(n:Int)<=9223372036854775807:=fun n h=>by unfold dv at h;omega
 have same:∀(w1:World) (cells:Array Value),w1=w.drew.alloc (.cells cells e)->w1.heap=w.heap.push (.cells cells e (0,0)):=fun w1 cells h=>by subst h;rfl
 have Wm:∀l:List (List AV),(l.all fun c=>c.length==m+1&&c.all AV.cell)=true->(∀c∈l,c.length=m+1)/\∀c∈l,∀b∈c,b.cell=true:=fun l h=>by
  rw[List.all_eq_true]at h
  refine⟨fun c hc=>?_,fun c hc b hb=>?_⟩
  ·have:=h c hc;simp at this;exact this.1
  ·have:=h c hc;simp at this;exact this.2 b hb
 unfold aU at hv
 split at hv
 ·rename_i hb
  rw[hb]at rx
  have ex:=jM rx
  split at hv
  ·simp at hv
   obtain⟨rfl,rfl⟩:=hv
   obtain⟨A,c,ey,_⟩:=uK (sz:=m+1) S ry GD (fun c h=>by cases h) (fun c h=>by cases h)
   refine⟨_,w,ι,.inl (il ho (by rw[ex,ey];exact qF ht hi none 0 0 (Nat.le_refl _) A c)),Step.refl _ _ _ _,S,.eX _ _ .bj,fun _ _=>rfl⟩
  ·rename_i y0 yr
   split at hv
   ·rename_i hc
    simp only[Option.some.injEq,Prod.mk.injEq]at hv
    obtain⟨rfl,rfl⟩:=hv
    obtain⟨hl,hf⟩:=Wm _ hc.2
    obtain⟨A,c,ey,h2⟩:=uK (sz:=m+1) S ry GD hl hf
    rcases h2 with h2|⟨b,oo,news,rfl,q1,q2,q3,q4⟩
    ·cases h2
    have gz:=run_append_nil (P:=P) w t o.type e i zv ht hi ze ⟨b,oo,none⟩ (y0::yr).length c news (by rw[kG];exact q1) (fun j v hj=>by rw[lO];exact q2 j v hj) (by simp) (e63 _ hc.1) (by have:=fits _ hc.1;omega)
    obtain⟨g1,g2⟩:=EU w (y0::yr).length 0 e hc.1
    have ek:(news.toArray++Builtin.zeroCells zv.cells (grownCap w (y0::yr).length 0 e-(y0::yr).length)).size=grownCap w (y0::yr).length 0 e*(m+1):=by
     rw[Array.size_append,size_zeroCells,V5,kG]
     simp only[List.size_toArray,q1]
     rw[<-Nat.add_mul];congr 1;omega
    have S1:=S.alloc (w':=w.drew.alloc (.cells (news.toArray++Builtin.zeroCells zv.cells (grownCap w (y0::yr).length 0 e-(y0::yr).length)) e)) (r:=⟨true,m+1,y0::yr⟩) rfl hn rfl (by rw[ek];exact Nat.mul_le_mul_right _ g1) hl hf
     (fun k j cs b2 hk hj=>by
      obtain⟨u,hu,AQ⟩:=q3.2 _ _ (flat_get hl hk hj)
      refine⟨u,?_,AQ⟩
      have eG:=(Array.getElem?_eq_some_iff.1 hu).1
      dsimp only
      rw[Array.getElem?_append_left eG];exact hu)
    have ed:=Gd (T:=e) S (news.toArray++Builtin.zeroCells zv.cells (grownCap w (y0::yr).length 0 e-(y0::yr).length)) hn ⟨w.heap.size,m+1,(news.toArray++Builtin.zeroCells zv.cells (grownCap w (y0::yr).length 0 e-(y0::yr).length)).size,none⟩
    refine⟨_,_,_,.inl (il ho (by rw[ex,ey];exact gz)),ed,S1,?_,fun _ h=>iq h⟩
    refine .own _ _ _ _ _ _ (eK _ _ _) rfl g1 (.inr (by simp)) ?_ g2
    dsimp only;rw[ek];simp
   ·simp at hv
 ·rename_i i0 len hb
  rw[hb]at rx
  simp only[Option.bind_eq_some_iff]at hv
  obtain⟨r,hg,hv⟩:=hv
  split at hv
  ·rename_i hc
   obtain⟨c1,c2,c3,c4,c5⟩:=hc
   simp only[Option.some.injEq,Prod.mk.injEq]at hv
   obtain⟨rfl,rfl⟩:=hv
   obtain⟨hl,hf⟩:=Wm _ c5
   obtain⟨A,c,ey,h2⟩:=uK (sz:=m+1) S ry GD hl hf
   obtain⟨oo,cap,B,ex,hB,h1,DQ,h3,h4,hk⟩:=jq rx
   obtain⟨B',eA,R,lW,sD⟩:=S.row _ _ hg
   rw[hB]at eA;injection eA with eA;subst eA
   replace R:=R.row hk
   have ML:B.sz=m+1:=R.sz.trans c2
   have Dd:∀cs∈r.rows++ys,cs.length=m+1:=fun cs ek=>by
    rcases List.mem_append.1 ek with h|h
    ·rw[<-c2];exact R.len cs h
    ·exact hl cs h
   have Rw:∀cs∈r.rows++ys,∀b∈cs,b.cell=true:=fun cs ek=>by
    rcases List.mem_append.1 ek with h|h
    ·exact R.flat cs h
    ·exact hf cs h
   rcases h2 with rfl|⟨yb,yo,news,rfl,q1,q2,q3,q4⟩
   ·have Kq:=S.rename hg c1 hB hn
    refine⟨_,w,lJ ι id B,.inl (il ho (by rw[ex,ey];exact qF ht hi _ _ _ h1 A c)),⟨Below.refl _ _,fun _ _=>rfl,fun _ h=>h,fJ hn,fun _ h=>.inl h⟩,?_,?_,fun _ h=>iq h⟩
    ·have:(⟨true,m+1,r.rows++[]⟩:Row)=r:=by cases r;simp_all
     rw[this];exact Kq
    ·simp only[List.length_nil,Nat.add_zero]
     exact .own _ _ _ _ _ B (eK _ _ _) hk h1 DQ h3 h4
   ·obtain⟨cur,T,hblk,hC,yZ⟩:=R.cur
    by_cases iT:len+ys.length<=cap
    ·have hoo:ys≠[]->oo=0:=fun h=>by
      rcases DQ with DQ|DQ
      ·have:=List.length_pos_iff.2 h;omega
      ·simpa using DQ
     by_cases hy0:ys=[]
     ·subst hy0
      have Kq:=S.rename hg c1 hB hn
      refine⟨_,w,lJ ι id B,.inl (il ho (by rw[ex,ey];exact qF ht hi _ _ _ h1 _ c)),⟨Below.refl _ _,fun _ _=>rfl,fun _ h=>h,fJ hn,fun _ h=>.inl h⟩,?_,?_,fun _ h=>iq h⟩
      ·have:(⟨true,m+1,r.rows++[]⟩:Row)=r:=by cases r;simp_all
       rw[this];exact Kq
      ·simp only[List.length_nil,Nat.add_zero]
       exact .own _ _ _ _ _ B (eK _ _ _) hk h1 DQ h3 h4
     have ho0:=hoo hy0
     subst ho0
     have kF:len*i.size+news.length<=cur.size:=by
      rw[kG,q1,hC,<-Nat.add_mul]
      refine Nat.le_trans ?_ h3
      rw[ML,Nat.zero_add]
      exact Nat.mul_le_mul_right _ iT
     have gz:=A3 (ty:=o.type) ht hi B.b len cap cur hblk ⟨yb,yo,none⟩ ys.length c news (by rw[kG];exact q1) (fun j v hj=>by rw[lO];exact q2 j v hj) q4 iT kF
     have pP:cur.toList.length=cur.size:=Array.length_toList
     simp only[kG]at gz kF
     obtain⟨P1,P2⟩:=S.put (r':=⟨true,m+1,r.rows++ys⟩) hg c1 hB hblk (cur':=(cur.toList.take (len*(m+1))++news++cur.toList.drop (len*(m+1)+news.length)).toArray) (by simp only[List.size_toArray,List.length_append,List.length_take,List.length_drop,pP];omega) rfl c2.symm
      (by dsimp only;rw[List.length_append,<-c3,<-ML];refine Nat.le_trans (Nat.mul_le_mul_right _ iT) (Nat.le_trans (by simp) h3)) Dd Rw (fun k j cs b2 hk hj=>by
       simp only[List.getElem?_toArray]
       have iX:j<m+1:=by rw[<-Dd cs (List.mem_of_getElem? hk)];exact(List.getElem?_eq_some_iff.1 hj).1
       rw[c2]
       by_cases oy:k<r.rows.length
       ·rw[List.getElem?_append_left oy]at hk
        have h2:k*(m+1)+j<len*(m+1):=lf ae iX
        rw[List.append_assoc,List.getElem?_append_left (by simp only[List.length_take,pP];omega),List.getElem?_take,if_pos h2]
        have:=yZ k j cs b2 hk hj
        rw[c2]at this;simpa using this
       ·rw[List.getElem?_append_right ae]at hk
        have sr:=(List.getElem?_eq_some_iff.1 hk).1
        have l7:len*(m+1)<=k*(m+1):=Nat.mul_le_mul_right _ ae
        have nS:k*(m+1)+j-len*(m+1)=(k-r.rows.length)*(m+1)+j:=by
         rw[<-c3,Nat.sub_mul];omega
        obtain⟨u,hu,AQ⟩:=q3.2 _ _ (flat_get hl hk hj)
        refine⟨u,?_,AQ⟩
        have I7:news[(k-r.rows.length)*(m+1)+j]? =some u:=by simpa using hu
        have eG:=(List.getElem?_eq_some_iff.1 I7).1
        rw[List.append_assoc,List.getElem?_append_right (by simp only[List.length_take,pP];omega),List.getElem?_append_left (by simp only[List.length_take,pP];omega)]
        rw[<-I7]
        congr 1
        simp only[List.length_take,pP]
        omega)
     have gF:bI (bY (bI g i0 ⟨true,m+1,r.rows++ys⟩) i0) id ⟨true,m+1,r.rows++ys⟩=bI (bY g i0) id ⟨true,m+1,r.rows++ys⟩:=by
      funext q;simp only[bI,bY]
      by_cases h:q=id<;>by_cases h':q=i0<;>simp[h,h']
     have Kq:=P1.rename (i:=i0) (id:=id) (r:=⟨true,m+1,r.rows++ys⟩) (by simp[bI]) rfl hB hn
     rw[gF]at Kq
     refine⟨_,_,_,.inl (il ho (by rw[ex,ey];exact gz)),P2.trans ⟨Below.refl _ _,fun _ _=>rfl,fun _ h=>h,fJ hn,fun _ h=>.inl h⟩,Kq,?_,fun _ h=>iq h⟩
     exact .own _ _ _ _ _ B (eK _ _ _) hk iT (.inr (by simp)) h3 h4
    ·
     have holds:∃xF:List Value,xF.length=len*(m+1)/\(∀j v,xF[j]? =some v->w.cell? ⟨B.b,oo+j,none⟩=some v)/\fY P w D ι r.rows.flatten xF.toArray:=by
      obtain⟨A2,c2',e2,h2⟩:=uK (sz:=m+1) (u:=.slice (some ⟨B.b,oo,none⟩) len cap) S (.own i0 0 len oo cap B hB hk h1 DQ h3 h4) (ys:=r.rows) (by simp[br,hg,c3]) (fun cs h=>by rw[<-c2];exact R.len cs h) R.flat
      rcases h2 with h2|⟨b2,o2,xF,rfl,p1,p2,p3,_⟩
      ·refine⟨[],by simp[c3,h2],fun j v h=>by simp at h,by rw[h2];exact⟨rfl,fun j a h=>by simp at h⟩⟩
      ·injection e2 with e2 _ _
       injection e2 with e2
       injection e2 with e21 e22 _
       subst e21;subst e22
       exact⟨xF,by rw[p1,c3],p2,p3⟩
     obtain⟨xF,p1,p2,p3⟩:=holds
     have gz:=run_append_grow (P:=P) w t o.type e i zv ht hi ze ⟨B.b,oo,none⟩ len cap xF (by rw[kG];exact p1) (fun j v hj=>by rw[lO];exact p2 j v hj) ⟨yb,yo,none⟩ ys.length c news (by rw[kG];exact q1) (fun j v hj=>by rw[lO];exact q2 j v hj) ae (e63 _ c4) (growslice_fits ae (fits _ c4))
     obtain⟨g1,g2⟩:=EU w (len+ys.length) cap e c4
     have ek:(xF.toArray++news.toArray++Builtin.zeroCells zv.cells (grownCap w (len+ys.length) cap e-(len+ys.length))).size=grownCap w (len+ys.length) cap e*(m+1):=by
      rw[Array.size_append,Array.size_append,size_zeroCells,V5,kG]
      simp only[List.size_toArray,q1,p1]
      rw[<-Nat.add_mul,<-Nat.add_mul];congr 1;omega
     have S1:=(S.kill i0).alloc (id:=id) (w':=w.drew.alloc (.cells (xF.toArray++news.toArray++Builtin.zeroCells zv.cells (grownCap w (len+ys.length) cap e-(len+ys.length))) e)) (r:=⟨true,m+1,r.rows++ys⟩) rfl hn rfl (by dsimp only;rw[ek,List.length_append,<-c3];exact Nat.mul_le_mul_right _ g1) Dd Rw
      (fun k j cs b2 hk hj=>by
       have Kj:=flat_get Dd hk hj
       rw[List.flatten_append]at Kj
       have M4:xF.length=r.rows.flatten.length:=by have:=p3.1;simpa using this
       dsimp only
       by_cases eG:k*(m+1)+j<r.rows.flatten.length
       ·rw[List.getElem?_append_left eG]at Kj
        obtain⟨u,hu,AQ⟩:=p3.2 _ _ Kj
        refine⟨u,?_,AQ⟩
        rw[Array.getElem?_append_left (by simp;omega),Array.getElem?_append_left (by simp;omega)];exact hu
       ·rw[List.getElem?_append_right ae]at Kj
        obtain⟨u,hu,AQ⟩:=q3.2 _ _ Kj
        refine⟨u,?_,AQ⟩
        have E7:=(Array.getElem?_eq_some_iff.1 hu).1
        simp only[List.size_toArray]at E7
        rw[Array.getElem?_append_left (by simp;omega),Array.getElem?_append_right (by simp;omega)]
        simp only[List.size_toArray,M4];exact hu)
     have ed:=Gd (T:=e) S (xF.toArray++news.toArray++Builtin.zeroCells zv.cells (grownCap w (len+ys.length) cap e-(len+ys.length))) hn ⟨w.heap.size,m+1,(xF.toArray++news.toArray++Builtin.zeroCells zv.cells (grownCap w (len+ys.length) cap e-(len+ys.length))).size,none⟩
     refine⟨_,_,_,.inl (il ho (by rw[ex,ey];exact gz)),ed,S1,?_,fun _ h=>iq h⟩
     refine .own _ _ _ _ _ _ (eK _ _ _) rfl g1 (.inr (by simp)) ?_ g2
     dsimp only;rw[ek];simp
  ·simp at hv
 ·simp at hv
theorem mL {x:Operand} {t:TypeId} {u:Value} (ho:o.op=.call {callee:=.builtin .clear,args:= #[x],argTypes:= #[t]}) (h:(Builtin.clear_ #[t] o.type #[a.eval x]).run P w=.ok u w'):(execOp a.eval o).run P w=.ok (.value u) w':=by
 simp only[execOp,ho,resolve,Sem.run_bind,Sem.run_pure,Result.andThen_ok,invoke,builtin]
 simp only[List.map_toArray,List.map_cons,List.map_nil]
 rw[h];rfl
theorem PH {x:Operand} {x':O} {t e:TypeId} {m:Nat} {z:List K} {g':Rows} (S:ig P hs D ι g w) (E:dc P w D ι env a) (ho:o.op=.call {callee:=.builtin .clear,args:= #[x],argTypes:= #[t]})
  (ht:P.underlying t=some (.slice e)) (ew:eO P e=some (m+1)) (hz:kP P e=some z) (hx:cO P x=some x') (hv:bJ g z (dj env x')=some g'):GG P hs a o w D ι id .undef g':=by
 have rx:=ec E hx
 obtain⟨it,zv,hi,ze,V5,hm,I9⟩:=lq hz
 have kG:it.size=m+1:=by simpa[eO,hi]using ew
 unfold bJ at hv
 split at hv
 ·rename_i hb
  rw[hb]at rx
  simp at hv;subst hv
  refine⟨undef,w,ι,.inl (mL ho (by rw[jM rx];simp only[Builtin.clear_,Sem.run_bind];simp[run_underlying ht,undef])),Step.refl _ _ _ _,S,du.undef,fun _ _=>rfl⟩
 ·rename_i i off len hb
  rw[hb]at rx
  simp only[Option.bind_eq_some_iff]at hv
  obtain⟨r,hg,hv⟩:=hv
  split at hv
  ·rename_i hc
   obtain⟨c1,c2,c3⟩:=hc
   simp only[Option.some.injEq]at hv;subst hv
   obtain⟨oo,cap,B,ex,hB,h1,h2,h3,h4,hk⟩:=jq rx
   obtain⟨B',eA,R,lW,sD⟩:=S.row _ _ hg
   rw[hB]at eA;injection eA with eA;subst eA
   replace R:=R.row hk
   obtain⟨cur,T,hblk,hC,yZ⟩:=R.cur
   by_cases h0:len=0
   ·subst h0
    have e1:({r with rows:=r.rows.take off++List.replicate 0 (z.map K.av)++r.rows.drop (off+0)}:Row)=r:=by cases r;simp
    rw[e1]
    have e2:bI g i r=g:=by
     funext q;unfold bI;split
     ·rename_i h;rw[h,hg]
     ·rfl
    rw[e2]
    refine⟨undef,w,ι,.inl (mL ho (by rw[ex];simp only[Builtin.clear_,Sem.run_bind];simp[run_underlying ht,undef])),Step.refl _ _ _ _,S,du.undef,fun _ _=>rfl⟩
   ·have DW:oo=off*B.sz:=by rcases h2 with h2|h2<;>omega
    have ML:B.sz=m+1:=by rw[R.sz,c2,I9,kG]
    have BE:r.sz=m+1:=by rw[<-R.sz,ML]
    have XK:zv.cells.size=m+1:=by rw[V5,kG]
    have Az:(Builtin.zeroCells zv.cells len).toList.length=len*(m+1):=by rw[Array.length_toList,size_zeroCells,XK]
    have XJ:∀k,k<len*(m+1)->∃c,z[k % z.length]? =some c/\(Builtin.zeroCells zv.cells len).toList[k]? =some c.val:=fun k hk=>by
     obtain⟨c,sq,Hr⟩:=qL (n:=len*zv.cells.size) hm (by rw[I9,kG];omega) k (by rw[XK];exact hk)
     exact⟨c,sq,by rw[Array.getElem?_toList];exact Hr⟩
    have hbound:(off+len)*(m+1)<=r.rows.length*(m+1):=Nat.mul_le_mul_right _ c3
    have y4:=R.fits
    rw[BE]at y4
    have hexp:(off+len)*(m+1)=off*(m+1)+len*(m+1):=Nat.add_mul _ _ _
    have ed:=run_storeCells_at P B.b oo T (Builtin.zeroCells zv.cells len).toList 0 cur w hblk (by rw[Az,hC,DW,ML];omega) (by
     intro v hv
     obtain⟨k,hk,rfl⟩:=List.getElem_of_mem hv
     obtain⟨c,_,Hr⟩:=XJ k (by rw[<-Az];exact hk)
     rw[List.getElem?_eq_getElem hk]at Hr
     injection Hr with Hr
     rw[Hr];cases c<;>rfl)
    simp only[Nat.add_zero]at ed
    have pP:cur.toList.length=cur.size:=Array.length_toList
    obtain⟨P1,P2⟩:=S.put (r':={r with rows:=r.rows.take off++List.replicate len (z.map K.av)++r.rows.drop (off+len)}) hg c1 hB hblk (cur':=(cur.toList.take oo++(Builtin.zeroCells zv.cells len).toList++cur.toList.drop (oo+(Builtin.zeroCells zv.cells len).toList.length)).toArray)
     (by simp only[List.size_toArray,List.length_append,List.length_take,List.length_drop,pP,Az];rw[DW,ML];omega) c1 rfl (by
      have:(r.rows.take off++List.replicate len (z.map K.av)++r.rows.drop (off+len)).length=r.rows.length:=by simp;omega
      dsimp only;rw[this];exact R.fits) (fun cs ek=>by
      rcases List.mem_append.1 ek with h|h
      ·rcases List.mem_append.1 h with h|h
       ·exact R.len cs (List.mem_of_mem_take h)
       ·rw[List.eq_of_mem_replicate h];simp[c2]
      ·exact R.len cs (List.mem_of_mem_drop h)) (fun cs ek b hb=>by
      rcases List.mem_append.1 ek with h|h
      ·rcases List.mem_append.1 h with h|h
       ·exact R.flat cs (List.mem_of_mem_take h) b hb
       ·rw[List.eq_of_mem_replicate h]at hb
        obtain⟨c,_,rfl⟩:=List.mem_map.1 hb;exact c.oI
      ·exact R.flat cs (List.mem_of_mem_drop h) b hb) (fun k j cs b hk hj=>by
      simp only[List.getElem?_toArray]
      rw[BE]
      rw[DW,ML,Az]
      by_cases uo:k<off
      ·rw[List.append_assoc,List.getElem?_append_left (by simp;omega),List.getElem?_take,if_pos uo]at hk
       have iX:j<m+1:=by rw[<-BE,<-R.len cs (List.mem_of_getElem? hk)];exact(List.getElem?_eq_some_iff.1 hj).1
       have h2:=lf uo iX
       rw[List.append_assoc,List.getElem?_append_left (by simp only[List.length_take,pP];omega),List.getElem?_take,if_pos h2]
       have:=yZ k j cs b hk hj
       rw[BE]at this;simpa using this
      ·by_cases sr:k<off+len
       ·rw[List.append_assoc,List.getElem?_append_right (by simp;omega),List.getElem?_append_left (by simp;omega)]at hk
        have jd:=List.eq_of_mem_replicate (List.mem_of_getElem? hk)
        subst jd
        simp only[List.getElem?_map,Option.map_eq_some_iff]at hj
        obtain⟨q,hq,rfl⟩:=hj
        have iX:=(List.getElem?_eq_some_iff.1 hq).1
        rw[I9,kG]at iX
        have l7:off*(m+1)<=k*(m+1):=Nat.mul_le_mul_right _ ae
        have nS:k*(m+1)+j-off*(m+1)=(k-off)*(m+1)+j:=by rw[Nat.sub_mul];omega
        have E7:(k-off)*(m+1)+j<len*(m+1):=lf ae iX
        rw[List.append_assoc,List.getElem?_append_right (by simp only[List.length_take,pP];omega),List.getElem?_append_left (by simp only[List.length_take,pP,Az];omega)]
        obtain⟨c,sq,Hr⟩:=XJ _ E7
        rw[I9,kG,Nat.mul_comm (k-off),Nat.mul_add_mod,Nat.mod_eq_of_lt iX,hq]at sq
        injection sq with sq;subst sq
        refine⟨q.val,?_,zW q⟩
        rw[<-Hr]
        congr 1
        simp only[List.length_take,pP];omega
       ·rw[List.getElem?_append_right (by simp;omega)]at hk
        simp only[List.length_append,List.length_take,List.length_replicate,List.getElem?_drop]at hk
        rw[show off+len+(k-(min off r.rows.length+len))=k by omega]at hk
        have oy:=(List.getElem?_eq_some_iff.1 hk).1
        have l7:(off+len)*(m+1)<=k*(m+1):=Nat.mul_le_mul_right _ ae
        rw[List.getElem?_append_right (by simp only[List.length_append,List.length_take,pP,Az];omega)]
        simp only[List.length_append,List.length_take,pP,Az,List.getElem?_drop]
        rw[show off*(m+1)+len*(m+1)+(k*(m+1)+j-(min (off*(m+1)) cur.size+len*(m+1)))=k*(m+1)+j by omega]
        have:=yZ k j cs b hk hj
        rw[BE]at this;simpa using this)
    refine⟨undef,_,ι,.inl (mL ho ?_),P2,P1,du.undef,fun _ _=>rfl⟩
    rw[ex]
    cases len with
    |zero=>exact(h0 rfl).elim
    |succ len=>
     simp only[Builtin.clear_,Sem.run_bind]
     simp[run_underlying ht,zeroValue,typeInfo,hi,ze,ed,undef]
  ·simp at hv
 ·simp at hv
theorem K9 {dT sT ty e:TypeId} {it:TypeInfo} (hu:P.underlying dT=some (.slice e)) (hi:P.info? e=some it) (A B:Option Addr) (uN H4 JW SO:Nat) (h0:Nat.min uN JW=0):
  (Builtin.copy_ #[dT,sT] ty #[.slice A JW SO,.slice B uN H4]).run P w=.ok (goInt 0) w:=by
 cases A<;>cases B<;>simp[Builtin.copy_,run_underlying hu,Builtin.lenOf,Builtin.firstCells,sizeOf,typeInfo,hi,h0,storeCells,loadCells,loadCellsFrom]
theorem Lb {dT sT ty e:TypeId} {it:TypeInfo} (hu:P.underlying dT=some (.slice e)) (hi:P.info? e=some it) (A B:Addr) (uN H4 JW SO:Nat) (cs:List Value) (hn:cs.length=Nat.min uN JW*it.size) (hl:(loadCells B cs.length).run P w=.ok cs.toArray w) (hs:(storeCells A cs).run P w=.ok () w'):
  (Builtin.copy_ #[dT,sT] ty #[.slice (some A) JW SO,.slice (some B) uN H4]).run P w=.ok (goInt (Nat.min uN JW)) w':=by
 simp[Builtin.copy_,run_underlying hu,Builtin.lenOf,Builtin.firstCells,sizeOf,typeInfo,hi,<-hn,hl,hs]
theorem sH {x y:Operand} {t t2:TypeId} {u:Value} (ho:o.op=.call {callee:=.builtin .copy,args:= #[x,y],argTypes:= #[t,t2]}) (h:(Builtin.copy_ #[t,t2] o.type #[a.eval x,a.eval y]).run P w=.ok u w'):(execOp a.eval o).run P w=.ok (.value u) w':=by
 simp only[execOp,ho,resolve,Sem.run_bind,Sem.run_pure,Result.andThen_ok,invoke,builtin]
 simp only[List.map_toArray,List.map_cons,List.map_nil]
 rw[h];rfl
theorem SP {x y:Operand} {x' y':O} {t t2 e:TypeId} {m:Nat} {ys:List (List AV)} {v:AV} {g':Rows} (S:ig P hs D ι g w) (E:dc P w D ι env a) (ho:o.op=.call {callee:=.builtin .copy,args:= #[x,y],argTypes:= #[t,t2]})
  (ht:P.underlying t=some (.slice e)) (ew:eO P e=some (m+1)) (hx:cO P x=some x') (hy:cO P y=some y') (GD:br g (dj env y')=some ys) (hv:Jy g (m+1) (dj env x') ys=some (v,g')):GG P hs a o w D ι id v g':=by
 have rx:=ec E hx
 have ry:=ec E hy
 obtain⟨it,hi,kG⟩:∃it,P.info? e=some it/\it.size=m+1:=by
  cases hq:P.info? e with
  |none=>simp[eO,hq]at ew
  |some it=>exact⟨it,rfl,by simpa[eO,hq]using ew⟩
 unfold Jy at hv
 split at hv
 ·rename_i i off len hb
  rw[hb]at rx
  simp only[Option.bind_eq_some_iff]at hv
  obtain⟨r,hg,hv⟩:=hv
  split at hv
  ·rename_i hc
   obtain⟨c1,c2,c3,c4⟩:=hc
   simp only[Option.some.injEq,Prod.mk.injEq]at hv
   obtain⟨rfl,rfl⟩:=hv
   rw[List.all_eq_true]at c4
   have hl:∀c∈ys,c.length=m+1:=fun c hc=>by have:=c4 c hc;simp at this;exact this.1
   have hf:∀c∈ys,∀b∈c,b.cell=true:=fun c hc b hb=>by have:=c4 c hc;simp at this;exact this.2 b hb
   obtain⟨oo,cap,B,ex,hB,h1,h2,h3,h4,hk⟩:=jq rx
   obtain⟨B',eA,R,lW,sD⟩:=S.row _ _ hg
   rw[hB]at eA;injection eA with eA;subst eA
   replace R:=R.row hk
   obtain⟨cur,T,hblk,hC,yZ⟩:=R.cur
   obtain⟨A,sc,hu,hA⟩:=uK S ry GD hl hf
   by_cases h0:min ys.length len=0
   ·rw[h0]
    have e1:({r with rows:=r.rows.take off++ys.take 0++r.rows.drop (off+0)}:Row)=r:=by cases r;simp
    rw[e1]
    have e2:bI g i r=g:=by
     funext q;unfold bI;split
     ·rename_i h;rw[h,hg]
     ·rfl
    rw[e2]
    refine⟨goInt 0,w,ι,.inl (sH ho (by rw[ex,hu];exact K9 ht hi _ _ _ _ _ _ h0)),Step.refl _ _ _ _,S,.eX _ _ (.int _ _),fun _ _=>rfl⟩
   ·rcases hA with rfl|⟨b,o2,news,rfl,qY,hsrc,hR,h1c⟩
    ·simp at h0
    have Xm:Nat.min ys.length len=min ys.length len:=rfl
    have hky:min ys.length len<=ys.length:=Nat.min_le_left _ _
    have oy:min ys.length len<=len:=Nat.min_le_right _ _
    generalize PZ:min ys.length len=kk at *
    have hlen0:len≠0:=ae
    have DW:oo=off*B.sz:=by rcases h2 with h2|h2<;>omega
    have ML:B.sz=m+1:=by rw[R.sz,c2]
    have BE:r.sz=m+1:=c2
    have hkm:kk*(m+1)<=ys.length*(m+1):=Nat.mul_le_mul_right _ hky
    have Az:(news.take (kk*(m+1))).length=kk*(m+1):=by rw[List.length_take,qY];omega
    have hbound:(off+kk)*(m+1)<=r.rows.length*(m+1):=Nat.mul_le_mul_right _ ae
    have y4:=R.fits
    rw[BE]at y4
    have hexp:(off+kk)*(m+1)=off*(m+1)+kk*(m+1):=Nat.add_mul _ _ _
    have ed:=run_storeCells_at P B.b oo T (news.take (kk*(m+1))) 0 cur w hblk (by rw[Az,hC,DW,ML];omega) (fun v hv=>h1c v (List.mem_of_mem_take hv))
    have hld:=run_loadCells_list (P:=P) w ⟨b,o2,none⟩ (news.take (kk*(m+1))) (fun j v hj=>by
     rw[List.getElem?_take]at hj
     split at hj
     ·have:=hsrc j v hj
      cases j with
      |zero=>simpa[Addr.add]using this
      |succ j=>simpa[Addr.add]using this
     ·cases hj)
    simp only[Nat.add_zero]at ed
    have pP:cur.toList.length=cur.size:=Array.length_toList
    have GB:(ys.take kk).length=kk:=by rw[List.length_take];omega
    obtain⟨P1,P2⟩:=S.put (r':={r with rows:=r.rows.take off++ys.take kk++r.rows.drop (off+kk)}) hg c1 hB hblk (cur':=(cur.toList.take oo++news.take (kk*(m+1))++cur.toList.drop (oo+(news.take (kk*(m+1))).length)).toArray)
     (by simp only[List.size_toArray,List.length_append,List.length_drop,pP,Az];rw[List.length_take,pP,DW,ML];omega) c1 rfl (by
      have:(r.rows.take off++ys.take kk++r.rows.drop (off+kk)).length=r.rows.length:=by simp;omega
      dsimp only;rw[this];exact R.fits) (fun cs ek=>by
      rcases List.mem_append.1 ek with h|h
      ·rcases List.mem_append.1 h with h|h
       ·exact R.len cs (List.mem_of_mem_take h)
       ·rw[hl cs (List.mem_of_mem_take h)];exact c2.symm
      ·exact R.len cs (List.mem_of_mem_drop h)) (fun cs ek b hb=>by
      rcases List.mem_append.1 ek with h|h
      ·rcases List.mem_append.1 h with h|h
       ·exact R.flat cs (List.mem_of_mem_take h) b hb
       ·exact hf cs (List.mem_of_mem_take h) b hb
      ·exact R.flat cs (List.mem_of_mem_drop h) b hb) (fun k j cs b hk hj=>by
      simp only[List.getElem?_toArray]
      rw[BE]
      rw[DW,ML,Az]
      by_cases uo:k<off
      ·rw[List.append_assoc,List.getElem?_append_left (by simp;omega),List.getElem?_take,if_pos uo]at hk
       have iX:j<m+1:=by rw[<-BE,<-R.len cs (List.mem_of_getElem? hk)];exact(List.getElem?_eq_some_iff.1 hj).1
       have h2:=lf uo iX
       rw[List.append_assoc,List.getElem?_append_left (by simp only[List.length_take,pP];omega),List.getElem?_take,if_pos h2]
       have:=yZ k j cs b hk hj
       rw[BE]at this;simpa using this
      ·by_cases sr:k<off+kk
       ·rw[List.append_assoc,List.getElem?_append_right (by simp;omega),List.getElem?_append_left (by simp;omega)]at hk
        simp only[List.length_take]at hk
        rw[show k-min off r.rows.length=k-off by omega,List.getElem?_take,if_pos ae]at hk
        have iX:j<m+1:=by rw[<-hl cs (List.mem_of_getElem? hk)];exact(List.getElem?_eq_some_iff.1 hj).1
        have l7:off*(m+1)<=k*(m+1):=Nat.mul_le_mul_right _ ae
        have nS:k*(m+1)+j-off*(m+1)=(k-off)*(m+1)+j:=by rw[Nat.sub_mul];omega
        have E7:(k-off)*(m+1)+j<kk*(m+1):=lf ae iX
        rw[List.append_assoc,List.getElem?_append_right (by simp only[List.length_take,pP];omega),List.getElem?_append_left (by rw[Az];simp only[List.length_take,pP];omega)]
        obtain⟨u,XC,hu2⟩:=hR.2 ((k-off)*(m+1)+j) b (flat_get hl hk hj)
        refine⟨u,?_,hu2⟩
        rw[List.getElem?_take]
        simp only[List.length_take,pP]
        rw[show k*(m+1)+j-min (off*(m+1)) cur.size=(k-off)*(m+1)+j by omega,if_pos E7]
        simpa using XC
       ·rw[List.getElem?_append_right (by simp;omega)]at hk
        simp only[List.length_append,List.length_take,List.getElem?_drop]at hk
        rw[show off+kk+(k-(min off r.rows.length+min kk ys.length))=k by omega]at hk
        have oy:=(List.getElem?_eq_some_iff.1 hk).1
        have l7:(off+kk)*(m+1)<=k*(m+1):=Nat.mul_le_mul_right _ ae
        rw[List.getElem?_append_right (by rw[List.length_append,Az];simp only[List.length_take,pP];omega)]
        rw[List.getElem?_drop,List.length_append,Az]
        simp only[List.length_take,pP]
        rw[show off*(m+1)+kk*(m+1)+(k*(m+1)+j-(min (off*(m+1)) cur.size+kk*(m+1)))=k*(m+1)+j by omega]
        have:=yZ k j cs b hk hj
        rw[BE]at this;simpa using this)
    refine⟨goInt kk,_,ι,.inl (sH ho ?_),P2,P1,.eX _ _ (.int _ _),fun _ _=>rfl⟩
    rw[ex,hu]
    have:=Lb (w:=w) (sT:=t2) (ty:=o.type) ht hi ⟨B.b,oo,none⟩ ⟨b,o2,none⟩ ys.length sc len cap _ (by rw[Az,Xm,kG]) hld ed
    rw[Xm]at this
    exact this
  ·simp at hv
 ·simp at hv
end
end Go.Proofs.YtainmfbpilopaaaGreatDoor.V

namespace Go.Proofs.YtainmfbpilopaaaGreatDoor.V
open Go.RowKit
variable {P:Program} {w w':World} {D D' D2:Nat->Prop} {ι ι' ι2:Names}
section
variable {g:Rows} {hs:Nat}
theorem iE:∀{n:Nat} {l r:List AV},eI g n l=some r->r.length=l.length/\∀(j:Nat) (b:AV),r[j]? =some b->∃a,l[j]? =some a/\fz g n a=some b
 |n,[],r,h=>by
  rw[eI]at h;simp at h;subst h;simp
 |n,a::l,r,h=>by
  rw[eI]at h
  split at h
  ·rename_i b hb
   simp only[Option.map_eq_some_iff]at h
   obtain⟨r',hr,rfl⟩:=h
   obtain⟨h1,h2⟩:=iE hr
   refine⟨by simp[h1],fun j c hj=>?_⟩
   cases j with
   |zero=>simp at hj;subst hj;exact⟨a,rfl,hb⟩
   |succ j=>simp at hj ⊢;exact h2 j c hj
  ·simp at h
theorem yT:∀{n:Nat} {l r:List (List AV)},fF g n l=some r->r.length=l.length/\∀(j:Nat) (b:List AV),r[j]? =some b->∃a,l[j]? =some a/\eI g n a=some b
 |n,[],r,h=>by
  rw[fF]at h;simp at h;subst h;simp
 |n,a::l,r,h=>by
  rw[fF]at h
  split at h
  ·rename_i b hb
   simp only[Option.map_eq_some_iff]at h
   obtain⟨r',hr,rfl⟩:=h
   obtain⟨h1,h2⟩:=yT hr
   refine⟨by simp[h1],fun j c hj=>?_⟩
   cases j with
   |zero=>simp at hj;subst hj;exact⟨a,rfl,hb⟩
   |succ j=>simp at hj ⊢;exact h2 j c hj
  ·simp at h
theorem ug (hD:∀b,D b->D2 b) (vd:∀id row,g id=some row->row.w=true->∃B,ι id=some B/\iM P w D ι B row/\D2 B.b):∀(n:Nat) (a:AV) (u:Value) (r:AV),du P w D ι a u->fz g n a=some r->du P w D2 ι2 r u/\(a.cell=true->lr P w D2 r u/\r.cell=true):=by
 intro n
 induction n with
 |zero=>intro a u r _ h;rw[fz]at h;simp at h
 |succ n ih=>
  intro a u r hr h
  have both:∀{r:AV},lr P w D2 r u->r.cell=true->du P w D2 ι2 r u/\(a.cell=true->lr P w D2 r u/\r.cell=true):=fun h1 h2=>⟨.eX _ _ h1,fun _=>⟨h1,h2⟩⟩
  cases a with
  |map id m=>rw[fz]at h;cases h
  |tX id=>rw[fz]at h;cases h
  |own id off len=>
   rw[fz]at h
   split at h
   ·rename_i row hg
    split at h
    ·rename_i hw
     split at h
     ·rename_i hle
      simp only[Option.map_eq_some_iff]at h
      obtain⟨rows,kQ,rfl⟩:=h
      obtain⟨B,hB,R,Tg⟩:=vd id row hg hw
      obtain⟨o,cap,B',rfl,eA,h1,h2,h3,h4,hk⟩:=jq hr
      rw[hB]at eA;injection eA with eA;subst eA
      replace R:=R.row hk
      obtain⟨l1,l2⟩:=yT kQ
      have hlen:rows.length=len:=by rw[l1];simp;omega
      by_cases h0:rows=[]
      ·subst h0
       simp at hlen;subst hlen
       exact both (.D6 _ _ h4) rfl
      ·have hlp:0<len:=by rw[<-hlen];exact List.length_pos_iff.2 h0
       have ho:o=off*B.sz:=by rcases h2 with h2|h2<;>omega
       have src:∀i cs,rows[i]? =some cs->∃c0,row.rows[off+i]? =some c0/\eI g n c0=some cs:=fun i cs hi=>by
        obtain⟨c0,kZ,hf⟩:=l2 i cs hi
        rw[List.getElem?_take]at kZ
        split at kZ
        ·rw[List.getElem?_drop]at kZ;exact⟨c0,kZ,hf⟩
        ·simp at kZ
       have cell:∀i j,i<len->j<row.sz->∃c0 a0 v,row.rows[off+i]? =some c0/\c0[j]? =some a0/\w.cell? ⟨B.b,o+(i*row.sz+j),none⟩=some v/\du P w D ι a0 v:=fun i j hi hj=>by
        have tL:off+i<row.rows.length:=ae
        have e1:=List.getElem?_eq_getElem tL
        have O5:j<row.rows[off+i].length:=by rw[R.len _ (List.getElem_mem tL)];exact hj
        obtain⟨v,hv,pS⟩:=R.at_ _ _ _ _ e1 (List.getElem?_eq_getElem O5)
        refine⟨_,_,v,e1,List.getElem?_eq_getElem O5,?_,pS⟩
        rw[ho,R.sz,<-hv]
        congr 2
        rw[Nat.add_mul];omega
       refine both (.sl rows B.b o len cap row.sz (fun i j=>(w.cell? ⟨B.b,o+(i*row.sz+j),none⟩).getD undef) hlen h1 h4 Tg (fun cs ek=>?_) (fun cs ek b hb=>?_) (fun i j hi hj=>?_) (fun i j cs b hi hj=>?_)) rfl
       ·obtain⟨i,hi,rfl⟩:=List.getElem_of_mem ek
        obtain⟨c0,kZ,hf⟩:=src i _ (List.getElem?_eq_getElem hi)
        rw[(iE hf).1];exact R.len c0 (List.mem_of_getElem? kZ)
       ·obtain⟨i,hi,rfl⟩:=List.getElem_of_mem ek
        obtain⟨c0,kZ,hf⟩:=src i _ (List.getElem?_eq_getElem hi)
        obtain⟨j,hj,rfl⟩:=List.getElem_of_mem hb
        obtain⟨a0,mT,MT⟩:=(iE hf).2 j _ (List.getElem?_eq_getElem hj)
        obtain⟨v,_,pS⟩:=R.at_ _ _ _ _ kZ mT
        exact((ih _ _ _ pS MT).2 (R.flat c0 (List.mem_of_getElem? kZ) a0 (List.mem_of_getElem? mT))).2
       ·obtain⟨c0,a0,v,_,_,hv,_⟩:=cell i j hi hj
        simp only[hv,Option.getD_some]
       ·obtain⟨c0,kZ,hf⟩:=src i cs hi
        obtain⟨a0,mT,MT⟩:=(iE hf).2 j b hj
        have nR:i<len:=by rw[<-hlen];exact(List.getElem?_eq_some_iff.1 hi).1
        have iX:j<row.sz:=by rw[<-R.len c0 (List.mem_of_getElem? kZ)];exact(List.getElem?_eq_some_iff.1 mT).1
        obtain⟨c1,a1,v,e1,e2,hv,pS⟩:=cell i j nR iX
        rw[kZ]at e1;injection e1 with e1;subst e1
        rw[mT]at e2;injection e2 with e2;subst e2
        simp only[hv,Option.getD_some]
        exact((ih _ _ _ pS MT).2 (R.flat c0 (List.mem_of_getElem? kZ) a0 (List.mem_of_getElem? mT))).1
     ·simp at h
    ·simp at h
   ·simp at h
  |ptr id i off=>
   rw[fz]at h
   split at h
   ·rename_i row hg
    split at h
    ·rename_i hw
     split at h
     ·rename_i c0 kZ
      simp only[Option.map_eq_some_iff]at h
      obtain⟨cs,ek,rfl⟩:=h
      obtain⟨B,hB,R,Tg⟩:=vd id row hg hw
      obtain⟨B',rfl,eA,hk⟩:=jc hr
      rw[hB]at eA;injection eA with eA;subst eA
      replace R:=R.row hk
      obtain⟨l1,l2⟩:=iE ek
      have at_:∀j b,cs[j]? =some b->∃a0 v,w.cell? ⟨B.b,i*B.sz+off+j,none⟩=some v/\du P w D ι a0 v/\a0.cell=true/\fz g n a0=some b:=fun j b hj=>by
       obtain⟨a0,mT,hf⟩:=l2 j b hj
       rw[List.getElem?_drop]at mT
       obtain⟨v,hv,pS⟩:=R.at_ _ _ _ _ kZ mT
       refine⟨a0,v,?_,pS,R.flat c0 (List.mem_of_getElem? kZ) a0 (List.mem_of_getElem? mT),hf⟩
       rw[R.sz,Nat.add_assoc];exact hv
      refine both (.ef cs B.b _ (fun j=>(w.cell? ⟨B.b,i*B.sz+off+j,none⟩).getD undef) Tg (fun b hb=>?_) (fun j hj=>?_) (fun j b hj=>?_)) rfl
      ·obtain⟨j,hj,rfl⟩:=List.getElem_of_mem hb
       obtain⟨a0,v,_,pS,hc,hf⟩:=at_ j _ (List.getElem?_eq_getElem hj)
       exact((ih _ _ _ pS hf).2 hc).2
      ·obtain⟨a0,v,hv,_⟩:=at_ j _ (List.getElem?_eq_getElem hj)
       simp only[hv,Option.getD_some]
      ·obtain⟨a0,v,hv,pS,hc,hf⟩:=at_ j b hj
       simp only[hv,Option.getD_some]
       exact((ih _ _ _ pS hf).2 hc).1
     ·simp at h
    ·simp at h
   ·simp at h
  |agg cs=>
   rw[fz]at h
   simp only[Option.map_eq_some_iff]at h
   obtain⟨r',pR,rfl⟩:=h
   obtain⟨vs,f,rfl,h1,h2,h3,h4⟩:=jo hr
   obtain⟨l1,l2⟩:=iE pR
   have hI:lr P w D2 (.agg r') (.agg vs):=.agg r' vs f (by rw[h1,l1]) (fun b hb=>by
    obtain⟨j,hj,rfl⟩:=List.getElem_of_mem hb
    obtain⟨a0,mT,hf⟩:=l2 j _ (List.getElem?_eq_getElem hj)
    exact((ih _ _ _ (h4 j a0 mT) hf).2 (h2 a0 (List.mem_of_getElem? mT))).2) (fun j hj=>h3 j (by rw[<-l1];exact hj)) (fun j b hj=>by
    obtain⟨a0,mT,hf⟩:=l2 j b hj
    exact((ih _ _ _ (h4 j a0 mT) hf).2 (h2 a0 (List.mem_of_getElem? mT))).1)
   exact⟨.eX _ _ hI,fun hc=>by simp[AV.cell]at hc⟩
  |fP cs=>
   rw[fz]at h
   simp only[Option.map_eq_some_iff]at h
   obtain⟨r',pR,rfl⟩:=h
   obtain⟨vs,f,rfl,h1,h3,h4⟩:=xX hr
   obtain⟨l1,l2⟩:=iE pR
   exact⟨.fP r' vs f (by rw[h1,l1]) (fun j hj=>h3 j (by rw[<-l1];exact hj)) (fun j b hj=>by
    obtain⟨a0,mT,hf⟩:=l2 j b hj
    exact(ih _ _ _ (h4 j a0 mT) hf).1),fun hc=>by simp[AV.cell]at hc⟩
  |fn f dG=>
   rw[fz]at h
   split at h
   ·rename_i eJ
    simp only[Option.map_eq_some_iff]at h
    obtain⟨r',pR,rfl⟩:=h
    obtain⟨vs,q,rfl,h0,h1,h3,h4⟩:=wF hr
    obtain⟨l1,l2⟩:=iE pR
    exact both (.fn f r' vs q h0 (by rw[h1,l1]) (fun j hj=>h3 j (by rw[<-l1];exact hj)) (fun j b hj=>by
     obtain⟨a0,mT,hf⟩:=l2 j b hj
     exact((ih _ _ _ (h4 j a0 mT) hf).2 (List.all_eq_true.1 eJ a0 (List.mem_of_getElem? mT))).1)) rfl
   ·simp at h
  |int k m=>rw[fz]at h<;>(try simp at h)<;>(try subst h)<;>(try(rw[eb hr];exact⟨.eX _ _ (.int _ _),fun _=>⟨.int _ _,rfl⟩⟩))<;>(try(intros;simp_all))
  |bool b=>rw[fz]at h<;>(try simp at h)<;>(try subst h)<;>(try(rw[fR hr];exact⟨.eX _ _ (.bool _),fun _=>⟨.bool _,rfl⟩⟩))<;>(try(intros;simp_all))
  |str b=>rw[fz]at h<;>(try simp at h)<;>(try subst h)<;>(try(rw[gK hr];exact⟨.eX _ _ (.str _),fun _=>⟨.str _,rfl⟩⟩))<;>(try(intros;simp_all))
  |bj=>rw[fz]at h<;>(try simp at h)<;>(try subst h)<;>(try(rw[jM hr];exact⟨.eX _ _ .bj,fun _=>⟨.bj,rfl⟩⟩))<;>(try(intros;simp_all))
  |jV=>rw[fz]at h<;>(try simp at h)<;>(try subst h)<;>(try(rw[zY hr];exact⟨.eX _ _ .jV,fun _=>⟨.jV,rfl⟩⟩))<;>(try(intros;simp_all))
  |j6=>rw[fz]at h<;>(try simp at h)<;>(try subst h)<;>(try(rw[F4 hr];exact⟨.eX _ _ .j6,fun _=>⟨.j6,rfl⟩⟩))<;>(try(intros;simp_all))
  |jB=>rw[fz]at h<;>(try simp at h)<;>(try subst h)<;>(try(rw[zX hr];exact⟨.eX _ _ .jB,fun _=>⟨.jB,rfl⟩⟩))<;>(try(intros;simp_all))
  |err g t s=>rw[fz]at h<;>(try simp at h)<;>(try subst h)<;>(try(cases hr with|eX _ _ hr=>exact both (hr.frame (fun _ _=>rfl) hD) rfl))<;>(try(intros;simp_all))
  |xh f dG=>rw[fz]at h<;>(try simp at h)<;>(try(intros;simp_all))
  |iU=>rw[fz]at h<;>(try simp at h)<;>(try subst h)<;>(try(cases hr with|eX _ _ hr=>exact both (hr.frame (fun _ _=>rfl) hD) rfl))<;>(try(intros;simp_all))
  |sl rows=>rw[fz]at h<;>(try simp at h)<;>(try subst h)<;>(try(cases hr with|eX _ _ hr=>exact both (hr.frame (fun _ _=>rfl) hD) rfl))<;>(try(intros;simp_all))
  |ef cs=>rw[fz]at h<;>(try simp at h)<;>(try subst h)<;>(try(cases hr with|eX _ _ hr=>exact both (hr.frame (fun _ _=>rfl) hD) rfl))<;>(try(intros;simp_all))
theorem jS:∀{n:Nat} {l r:List AV},eY g n l=some r->r.length=l.length/\∀(j:Nat) (b:AV),r[j]? =some b->∃a,l[j]? =some a/\iu g n a=some b
 |n,[],r,h=>by
  rw[eY]at h;simp at h;subst h;simp
 |n,a::l,r,h=>by
  rw[eY]at h
  split at h
  ·rename_i b hb
   simp only[Option.map_eq_some_iff]at h
   obtain⟨r',hr,rfl⟩:=h
   obtain⟨h1,h2⟩:=jS hr
   refine⟨by simp[h1],fun j c hj=>?_⟩
   cases j with
   |zero=>simp at hj;subst hj;exact⟨a,rfl,hb⟩
   |succ j=>simp at hj ⊢;exact h2 j c hj
  ·simp at h
theorem wZ:∀{n:Nat} {l r:List (List AV)},gI g n l=some r->r.length=l.length/\∀(j:Nat) (b:List AV),r[j]? =some b->∃a,l[j]? =some a/\eY g n a=some b
 |n,[],r,h=>by
  rw[gI]at h;simp at h;subst h;simp
 |n,a::l,r,h=>by
  rw[gI]at h
  split at h
  ·rename_i b hb
   simp only[Option.map_eq_some_iff]at h
   obtain⟨r',hr,rfl⟩:=h
   obtain⟨h1,h2⟩:=wZ hr
   refine⟨by simp[h1],fun j c hj=>?_⟩
   cases j with
   |zero=>simp at hj;subst hj;exact⟨a,rfl,hb⟩
   |succ j=>simp at hj ⊢;exact h2 j c hj
  ·simp at h
theorem J7 (vd:∀id row,g id=some row->row.w=true->∃B,ι id=some B/\iM P w D ι B row/\D2 B.b):∀(n:Nat) (a:AV) (u:Value) (r:AV),du P w D ι a u->iu g n a=some r->du P w D2 ι2 r u/\(a.cell=true->lr P w D2 r u/\r.cell=true):=by
 intro n
 induction n with
 |zero=>intro a u r _ h;rw[iu]at h;simp at h
 |succ n ih=>
  intro a u r hr h
  have both:∀{r:AV},lr P w D2 r u->r.cell=true->du P w D2 ι2 r u/\(a.cell=true->lr P w D2 r u/\r.cell=true):=fun h1 h2=>⟨.eX _ _ h1,fun _=>⟨h1,h2⟩⟩
  cases a with
  |map id m=>rw[iu]at h<;>simp_all
  |tX id=>rw[iu]at h<;>simp_all
  |own id off len=>
   rw[iu]at h
   split at h
   ·rename_i row hg
    split at h
    ·rename_i hw
     split at h
     ·rename_i hle
      simp only[Option.map_eq_some_iff]at h
      obtain⟨rows,kQ,rfl⟩:=h
      obtain⟨B,hB,R,Tg⟩:=vd id row hg hw
      obtain⟨o,cap,B',rfl,eA,h1,h2,h3,h4,hk⟩:=jq hr
      rw[hB]at eA;injection eA with eA;subst eA
      replace R:=R.row hk
      obtain⟨l1,l2⟩:=wZ kQ
      have hlen:rows.length=len:=by rw[l1];simp;omega
      by_cases h0:rows=[]
      ·subst h0
       simp at hlen;subst hlen
       exact both (.D6 _ _ h4) rfl
      ·have hlp:0<len:=by rw[<-hlen];exact List.length_pos_iff.2 h0
       have ho:o=off*B.sz:=by rcases h2 with h2|h2<;>omega
       have src:∀i cs,rows[i]? =some cs->∃c0,row.rows[off+i]? =some c0/\eY g n c0=some cs:=fun i cs hi=>by
        obtain⟨c0,kZ,hf⟩:=l2 i cs hi
        rw[List.getElem?_take]at kZ
        split at kZ
        ·rw[List.getElem?_drop]at kZ;exact⟨c0,kZ,hf⟩
        ·simp at kZ
       have cell:∀i j,i<len->j<row.sz->∃c0 a0 v,row.rows[off+i]? =some c0/\c0[j]? =some a0/\w.cell? ⟨B.b,o+(i*row.sz+j),none⟩=some v/\du P w D ι a0 v:=fun i j hi hj=>by
        have tL:off+i<row.rows.length:=ae
        have e1:=List.getElem?_eq_getElem tL
        have O5:j<row.rows[off+i].length:=by rw[R.len _ (List.getElem_mem tL)];exact hj
        obtain⟨v,hv,pS⟩:=R.at_ _ _ _ _ e1 (List.getElem?_eq_getElem O5)
        refine⟨_,_,v,e1,List.getElem?_eq_getElem O5,?_,pS⟩
        rw[ho,R.sz,<-hv]
        congr 2
        rw[Nat.add_mul];omega
       refine both (.sl rows B.b o len cap row.sz (fun i j=>(w.cell? ⟨B.b,o+(i*row.sz+j),none⟩).getD undef) hlen h1 h4 Tg (fun cs ek=>?_) (fun cs ek b hb=>?_) (fun i j hi hj=>?_) (fun i j cs b hi hj=>?_)) rfl
       ·obtain⟨i,hi,rfl⟩:=List.getElem_of_mem ek
        obtain⟨c0,kZ,hf⟩:=src i _ (List.getElem?_eq_getElem hi)
        rw[(jS hf).1];exact R.len c0 (List.mem_of_getElem? kZ)
       ·obtain⟨i,hi,rfl⟩:=List.getElem_of_mem ek
        obtain⟨c0,kZ,hf⟩:=src i _ (List.getElem?_eq_getElem hi)
        obtain⟨j,hj,rfl⟩:=List.getElem_of_mem hb
        obtain⟨a0,mT,MT⟩:=(jS hf).2 j _ (List.getElem?_eq_getElem hj)
        obtain⟨v,_,pS⟩:=R.at_ _ _ _ _ kZ mT
        exact((ih _ _ _ pS MT).2 (R.flat c0 (List.mem_of_getElem? kZ) a0 (List.mem_of_getElem? mT))).2
       ·obtain⟨c0,a0,v,_,_,hv,_⟩:=cell i j hi hj
        simp only[hv,Option.getD_some]
       ·obtain⟨c0,kZ,hf⟩:=src i cs hi
        obtain⟨a0,mT,MT⟩:=(jS hf).2 j b hj
        have nR:i<len:=by rw[<-hlen];exact(List.getElem?_eq_some_iff.1 hi).1
        have iX:j<row.sz:=by rw[<-R.len c0 (List.mem_of_getElem? kZ)];exact(List.getElem?_eq_some_iff.1 mT).1
        obtain⟨c1,a1,v,e1,e2,hv,pS⟩:=cell i j nR iX
        rw[kZ]at e1;injection e1 with e1;subst e1
        rw[mT]at e2;injection e2 with e2;subst e2
        simp only[hv,Option.getD_some]
        exact((ih _ _ _ pS MT).2 (R.flat c0 (List.mem_of_getElem? kZ) a0 (List.mem_of_getElem? mT))).1
     ·simp at h
    ·simp at h
   ·simp at h
  |ptr id i off=>
   rw[iu]at h
   split at h
   ·rename_i row hg
    split at h
    ·rename_i hw
     split at h
     ·rename_i c0 kZ
      simp only[Option.map_eq_some_iff]at h
      obtain⟨cs,ek,rfl⟩:=h
      obtain⟨B,hB,R,Tg⟩:=vd id row hg hw
      obtain⟨B',rfl,eA,hk⟩:=jc hr
      rw[hB]at eA;injection eA with eA;subst eA
      replace R:=R.row hk
      obtain⟨l1,l2⟩:=jS ek
      have at_:∀j b,cs[j]? =some b->∃a0 v,w.cell? ⟨B.b,i*B.sz+off+j,none⟩=some v/\du P w D ι a0 v/\a0.cell=true/\iu g n a0=some b:=fun j b hj=>by
       obtain⟨a0,mT,hf⟩:=l2 j b hj
       rw[List.getElem?_drop]at mT
       obtain⟨v,hv,pS⟩:=R.at_ _ _ _ _ kZ mT
       refine⟨a0,v,?_,pS,R.flat c0 (List.mem_of_getElem? kZ) a0 (List.mem_of_getElem? mT),hf⟩
       rw[R.sz,Nat.add_assoc];exact hv
      refine both (.ef cs B.b _ (fun j=>(w.cell? ⟨B.b,i*B.sz+off+j,none⟩).getD undef) Tg (fun b hb=>?_) (fun j hj=>?_) (fun j b hj=>?_)) rfl
      ·obtain⟨j,hj,rfl⟩:=List.getElem_of_mem hb
       obtain⟨a0,v,_,pS,hc,hf⟩:=at_ j _ (List.getElem?_eq_getElem hj)
       exact((ih _ _ _ pS hf).2 hc).2
      ·obtain⟨a0,v,hv,_⟩:=at_ j _ (List.getElem?_eq_getElem hj)
       simp only[hv,Option.getD_some]
      ·obtain⟨a0,v,hv,pS,hc,hf⟩:=at_ j b hj
       simp only[hv,Option.getD_some]
       exact((ih _ _ _ pS hf).2 hc).1
     ·simp at h
    ·simp at h
   ·simp at h
  |agg cs=>
   rw[iu]at h
   simp only[Option.map_eq_some_iff]at h
   obtain⟨r',pR,rfl⟩:=h
   obtain⟨vs,f,rfl,h1,h2,h3,h4⟩:=jo hr
   obtain⟨l1,l2⟩:=jS pR
   have hI:lr P w D2 (.agg r') (.agg vs):=.agg r' vs f (by rw[h1,l1]) (fun b hb=>by
    obtain⟨j,hj,rfl⟩:=List.getElem_of_mem hb
    obtain⟨a0,mT,hf⟩:=l2 j _ (List.getElem?_eq_getElem hj)
    exact((ih _ _ _ (h4 j a0 mT) hf).2 (h2 a0 (List.mem_of_getElem? mT))).2) (fun j hj=>h3 j (by rw[<-l1];exact hj)) (fun j b hj=>by
    obtain⟨a0,mT,hf⟩:=l2 j b hj
    exact((ih _ _ _ (h4 j a0 mT) hf).2 (h2 a0 (List.mem_of_getElem? mT))).1)
   exact⟨.eX _ _ hI,fun hc=>by simp[AV.cell]at hc⟩
  |fP cs=>
   rw[iu]at h
   simp only[Option.map_eq_some_iff]at h
   obtain⟨r',pR,rfl⟩:=h
   obtain⟨vs,f,rfl,h1,h3,h4⟩:=xX hr
   obtain⟨l1,l2⟩:=jS pR
   exact⟨.fP r' vs f (by rw[h1,l1]) (fun j hj=>h3 j (by rw[<-l1];exact hj)) (fun j b hj=>by
    obtain⟨a0,mT,hf⟩:=l2 j b hj
    exact(ih _ _ _ (h4 j a0 mT) hf).1),fun hc=>by simp[AV.cell]at hc⟩
  |fn f dG=>rw[iu]at h<;>(try simp at h)<;>(try(intros;simp_all))
  |int k m=>rw[iu]at h<;>(try simp at h)<;>(try subst h)<;>(try(rw[eb hr];exact⟨.eX _ _ (.int _ _),fun _=>⟨.int _ _,rfl⟩⟩))<;>(try(intros;simp_all))
  |bool b=>rw[iu]at h<;>(try simp at h)<;>(try subst h)<;>(try(rw[fR hr];exact⟨.eX _ _ (.bool _),fun _=>⟨.bool _,rfl⟩⟩))<;>(try(intros;simp_all))
  |str b=>rw[iu]at h<;>(try simp at h)<;>(try subst h)<;>(try(rw[gK hr];exact⟨.eX _ _ (.str _),fun _=>⟨.str _,rfl⟩⟩))<;>(try(intros;simp_all))
  |bj=>rw[iu]at h<;>(try simp at h)<;>(try subst h)<;>(try(rw[jM hr];exact⟨.eX _ _ .bj,fun _=>⟨.bj,rfl⟩⟩))<;>(try(intros;simp_all))
  |jV=>rw[iu]at h<;>(try simp at h)<;>(try subst h)<;>(try(rw[zY hr];exact⟨.eX _ _ .jV,fun _=>⟨.jV,rfl⟩⟩))<;>(try(intros;simp_all))
  |j6=>rw[iu]at h<;>(try simp at h)<;>(try subst h)<;>(try(rw[F4 hr];exact⟨.eX _ _ .j6,fun _=>⟨.j6,rfl⟩⟩))<;>(try(intros;simp_all))
  |jB=>rw[iu]at h<;>(try simp at h)<;>(try subst h)<;>(try(rw[zX hr];exact⟨.eX _ _ .jB,fun _=>⟨.jB,rfl⟩⟩))<;>(try(intros;simp_all))
  |err g t s=>rw[iu]at h<;>(try simp at h)<;>(try(intros;simp_all))
  |xh f dG=>rw[iu]at h<;>(try simp at h)<;>(try(intros;simp_all))
  |iU=>rw[iu]at h<;>(try simp at h)<;>(try subst h)<;>(try(cases hr with|eX _ _ hr=>cases hr;exact both .iU rfl))<;>(try(intros;simp_all))
  |sl rows=>rw[iu]at h<;>(try simp at h)<;>(try(intros;simp_all))
  |ef cs=>rw[iu]at h<;>(try simp at h)<;>(try(intros;simp_all))
end
end Go.Proofs.YtainmfbpilopaaaGreatDoor.V

namespace Go.Proofs.YtainmfbpilopaaaGreatDoor.V
open Go.RowKit
variable {P:Program} {w w':World} {D D':Nat->Prop} {ι ι':Names}
section
variable {g:Rows} {hs:Nat} {env:Env} {a:Act} {o:Oper} {id:Id} {v:AV}
theorem ig.Lm (S:ig P hs D ι g w) {i:Id} {r r':Row} {B:vz} {ob:Obj} (hid:g i=some r) (hw:r.w=true) (hB:ι i=some B)
  (hR:(∀a v,du P w D ι a v->du P {w with heap:=w.heap.setIfInBounds B.b ob} D ι a v)->(w.heap.setIfInBounds B.b ob)[B.b]? =some ob->iM P {w with heap:=w.heap.setIfInBounds B.b ob} D ι B r'):
  ig P hs D ι (bI g i r') {w with heap:=w.heap.setIfInBounds B.b ob}/\Step hs D ι w D ι {w with heap:=w.heap.setIfInBounds B.b ob}:=by
 obtain⟨B0,EV,R,lW,sD⟩:=S.row i r hid
 rw[hB]at EV;injection EV with EV;subst EV
 have other:∀b,b≠B.b->(w.heap.setIfInBounds B.b ob)[b]? =w.heap[b]? :=fun b hb=>by simp[Ne.symm hb]
 have hd:∀b,D b->(w.heap.setIfInBounds B.b ob)[b]? =w.heap[b]? :=fun b hb=>other b (by rintro rfl;exact sD hw hb)
 have hr:∀a v,du P w D ι a v->du P {w with heap:=w.heap.setIfInBounds B.b ob} D ι a v:=fun a v h=>h.frame hd (fun _ h=>h) (fun _ _ h=>h)
 refine⟨⟨by simpa using S.lo,fun b hb=>by simpa using S.dead b hb,fun j q h=>?_,fun j j' q q' C C' h h' M8 hC xC he=>?_⟩,⟨⟨rfl,rfl,rfl,by simp,fun k hk=>other k (by have:=lW hw;omega)⟩,hd,fun _ h=>h,fun _ _ h=>h,fun _ h=>.inl h⟩⟩
 ·unfold bI at h
  split at h
  ·rename_i e
   subst e
   injection h with h;subst h
   exact⟨B,hB,hR hr (by simp[R.lt]),fun _=>lW hw,fun _=>sD hw⟩
  ·rename_i e
   obtain⟨C,hC,RC,k1,k2⟩:=S.row j q h
   refine⟨C,hC,RC.frame (other C.b (fun Gu=>e ?_)) hr,k1,k2⟩
   exact(S.inj i j r q B C hid h hw hB hC Gu.symm).symm
 ·unfold bI at h h'
  have get:∀j p,(if j=i then some r' else g j)=some p->∃p0,g j=some p0/\(p.w=true->p0.w=true):=fun j p hp=>by
   split at hp
   ·rename_i e;subst e;injection hp with hp;subst hp;exact⟨r,hid,fun _=>hw⟩
   ·exact⟨p,hp,fun h=>h⟩
  obtain⟨p,hp,V0⟩:=get _ _ h
  obtain⟨p',TI,_⟩:=get _ _ h'
  exact S.inj j j' p p' C C' hp TI (V0 M8) hC xC he
theorem IK {s:TS} {x y:AV} {u v:Value} (he:fu s x y=some true) (hx:du P w D ι x u) (hy:du P w D ι y v):u=v/\∀n,Instr.sameBits n u v=true:=by
 unfold fu at he
 split at he
 ·split at he
  ·rename_i hk
   subst hk
   simp at he;subst he
   rw[eb hx,eb hy]
   exact⟨rfl,fun n=>by cases n<;>simp[Instr.sameBits]⟩
  ·cases he
 ·simp at he;subst he
  rw[fR hx,fR hy]
  exact⟨rfl,fun n=>by cases n<;>simp[Instr.sameBits]⟩
 ·simp at he;subst he
  rw[gK hx,gK hy]
  exact⟨rfl,fun n=>by cases n<;>simp[Instr.sameBits,Md]⟩
 ·cases he
theorem EH {n:Nat}:∀{ts:List TS} {xs ys:List AV} {vs us:List Value},eP ts xs ys=some true->vs.length=xs.length->us.length=ys.length->(∀(j:Nat) (a:AV),xs[j]? =some a->∃u,vs[j]? =some u/\du P w D ι a u)->(∀(j:Nat) (a:AV),ys[j]? =some a->∃u,us[j]? =some u/\du P w D ι a u)->
  us.length=vs.length/\(us.zip vs).all (fun p=>Instr.sameBits n p.1 p.2)=true
 |[],[],[],vs,us,_,h1,h2,_,_=>by
  cases vs<;>cases us<;>simp_all
 |[],x::xs,ys,vs,us,h,_,_,_,_=>by simp[eP]at h
 |[],[],y::ys,vs,us,h,_,_,_,_=>by simp[eP]at h
 |t::ts,[],ys,vs,us,h,_,_,_,_=>by simp[eP]at h
 |t::ts,x::xs,[],vs,us,h,_,_,_,_=>by simp[eP]at h
 |t::ts,x::xs,y::ys,[],us,h,h1,_,_,_=>by simp at h1
 |t::ts,x::xs,y::ys,v::vs,[],h,_,h2,_,_=>by simp at h2
 |t::ts,x::xs,y::ys,v::vs,u::us,h,h1,h2,hx,hy=>by
  unfold eP at h
  split at h
  ·rename_i a b ha hb
   simp only[Option.some.injEq,Bool.and_eq_true]at h
   obtain⟨rfl,rfl⟩:=h
   obtain⟨v',pJ,rv⟩:=hx 0 x rfl
   obtain⟨u',I7,ru⟩:=hy 0 y rfl
   simp at pJ I7;subst pJ;subst I7
   obtain⟨e1,e2⟩:=IK ha rv ru
   obtain⟨q1,q2⟩:=EH (n:=n) hb (by simpa using h1) (by simpa using h2) (fun j a hj=>by simpa using hx (j+1) a (by simpa using hj)) (fun j a hj=>by simpa using hy (j+1) a (by simpa using hj))
   refine⟨by simp[q1],?_⟩
   simp only[List.zip_cons_cons,List.all_cons,q2,Bool.and_true]
   rw[<-e1]
   have:=e2 n
   rw[<-e1]at this
   exact this
  ·cases h
theorem FN {m:MK} {key:List AV}:∀{rows:List (List AV)} {i j:Nat},gG m key rows i=some (some j)->∃cs,i<=j/\rows[j-i]? =some cs/\eP m.ts key (cs.take m.ks)=some true
 |[],i,j,h=>by simp[gG]at h
 |cs::rows,i,j,h=>by
  unfold gG at h
  split at h
  ·rename_i hq
   simp at h;subst h
   exact⟨cs,Nat.le_refl _,by simp,hq⟩
  ·obtain⟨c,h1,h2,h3⟩:=FN h
   exact⟨c,ae,by rw[show j-i=(j-(i+1))+1 by omega];simpa using h2,h3⟩
  ·cases h
theorem zB {m:MK} {k:AV} {rows:List (List AV)} {fi:Option Nat} (h:gC m k rows=some fi):k.isAgg=m.ka/\k.cells.length=m.ks/\(k.cells.all AV.cell=true)/\gG m k.cells rows 0=some fi:=by
 unfold gC at h
 split at h
 ·rename_i hc;exact⟨hc.1,hc.2.1,hc.2.2,h⟩
 ·cases h
theorem NS {m:MK} {k y:AV} (h1:k.isAgg=m.ka) (h2:k.cells.length=m.ks):part m.ka m.ks (k.cells++[y])=some k/\(k.cells++[y])[m.ks]? =some y:=by
 refine⟨?_,by rw[List.getElem?_append_right ae,h2,Nat.sub_self];rfl⟩
 cases hk:m.ka with
 |false=>
  rw[hk]at h1
  rw[yF h1];rfl
 |true=>
  rw[hk]at h1
  cases k<;>simp[AV.isAgg]at h1
  rename_i cs
  simp only[AV.cells]at h2 ⊢
  simp only[part,if_true]
  rw[if_pos (by simp;omega),<-h2,List.take_left']
  rfl
theorem stays {k:TypeId} {m:MK} (hK:Iv P k m) {key kv:AV} {u DZ:Value} {cs:List AV} (h1:key.isAgg=m.ka) (hr:du P w D ι key u) (hp:part m.ka m.ks cs=some kv) (ho:du P w D ι kv DZ) (he:eP m.ts key.cells (cs.take m.ks)=some true):(Instr.keyThatStays DZ u).run P w=.ok u w:=by
 have hs:Instr.sameBits 10000 DZ u=true:=by
  rcases hK with⟨s,rfl,hs⟩|⟨fs,ts,rfl,uk,AR,ed,eJ⟩
  ·rw[yF h1]at he
   cases cs with
   |nil=>simp[part]at hp
   |cons c l=>
    simp[part]at hp;subst hp
    simp only[MK.ks,List.length_cons,List.length_nil,Nat.zero_add,List.take_succ_cons,List.take_zero,eP]at he
    cases hq:fu s key c with
    |none=>rw[hq]at he;simp at he
    |some b=>
     rw[hq]at he;simp at he;subst he
     obtain⟨e1,e2⟩:=IK hq hr ho
     rw[<-e1]
     have:=e2 10000
     rwa [<-e1]at this
  ·cases key<;>simp[AV.isAgg]at h1
   rename_i ks
   simp only[part,if_true]at hp
   split at hp
   ·simp only[Option.some.injEq]at hp;subst hp
    obtain⟨vs,rfl,n1,r1⟩:=uJ hr
    obtain⟨us,rfl,n2,r2⟩:=uJ ho
    obtain⟨q1,q2⟩:=EH (n:=9999) (vs:=vs.toList) (us:=us.toList) he (by simpa[AV.cells]using n1) (by simpa using n2) (fun j a hj=>by simpa using r1 j a hj) (fun j a hj=>by simpa using r2 j a hj)
    simp only[Instr.sameBits,Bool.and_eq_true,beq_iff_eq]
    exact⟨by simpa using q1,q2⟩
   ·cases hp
 simp[Instr.keyThatStays,hs]
theorem Ol {es:Array MapEntry} {clock:Nat} (h:Iy es clock) (k v:Value):Iy (es.push ⟨k,v,clock⟩) (clock+1):=by
 refine⟨fun x hx=>?_,?_⟩
 ·simp only[Array.toList_push,List.mem_append,List.mem_singleton]at hx
  rcases hx with hx|rfl
  ·have:=h.1 x hx;omega
  ·exact Nat.lt_succ_self _
 ·simp only[Array.toList_push,List.map_append,List.map_cons,List.map_nil]
  refine List.nodup_append.2 ⟨h.2,by simp,fun a ha b hb=>?_⟩
  obtain⟨x,hx,rfl⟩:=List.mem_map.1 ha
  simp at hb;subst hb
  have:=h.1 x hx;omega
theorem Ib {es:Array MapEntry} {clock:Nat} (h:Iy es clock) (j:Nat) (k v:Value):Iy (es.modify j fun e=>{e with key:=k,val:=v}) clock:=by
 have e:(es.modify j fun e=>{e with key:=k,val:=v}).toList.map (·.born)=es.toList.map (·.born):=by
  refine List.ext_getElem? fun i=>?_
  simp only[List.getElem?_map,Array.getElem?_toList,Array.getElem?_modify]
  split
  ·cases es[i]? <;>rfl
  ·rfl
 refine⟨fun x hx=>?_,by rw[e];exact h.2⟩
 have hb:x.born∈(es.modify j fun e=>{e with key:=k,val:=v}).toList.map (·.born):=List.mem_map_of_mem hx
 rw[e]at hb
 obtain⟨y,hy,hyb⟩:=List.mem_map.1 hb
 rw[<-hyb];exact h.1 y hy
theorem Lh {es:Array MapEntry} {clock:Nat} (h:Iy es clock) {j:Nat} (hj:j<es.size):Iy (es.eraseIdxIfInBounds j) clock:=by
 have e:(es.eraseIdxIfInBounds j).toList=es.toList.eraseIdx j:=by
  unfold Array.eraseIdxIfInBounds
  rw[dif_pos hj,Array.toList_eraseIdx]
 refine⟨fun x hx=>h.1 x ((List.eraseIdx_sublist _ _).subset (by rwa [e]at hx)),?_⟩
 rw[e]
 exact((List.eraseIdx_sublist es.toList j).map (·.born)).nodup h.2
theorem EM {k y:AV} (h1:k.cells.all AV.cell=true) (h2:y.cell=true):∀a∈k.cells++[y],a.cell=true:=fun a ha=>by
 rcases List.mem_append.1 ha with ha|ha
 ·exact List.all_eq_true.1 h1 a ha
 ·rw[List.mem_singleton.1 ha];exact h2
theorem SR {t:TypeId} {x k y:Operand} {m:MK} {z:K} {x' k' y':O} {g':Rows} (S:ig P hs D ι g w) (E:dc P w D ι env a) (ho:o.op=.mapUpdate t x k y∨o.op=.insert t x k y) (hc:vL P t=some (m,z)) (hx:cO P x=some x') (hk:cO P k=some k') (hy:cO P y=some y')
  (hv:bF (.set m) [dj env x',dj env k',dj env y'] g=some g'):GG P hs a o w D ι id .undef g':=by
 obtain⟨kt,e,i,zv,ht,hi,ze,YY,hK⟩:=tU hc
 simp only[bF,Option.bind_eq_some_iff]at hv
 obtain⟨p,hp,fi,Aq,hv⟩:=hv
 split at hv
 ·rename_i hcond
  obtain⟨hw,hyc,_⟩:=hcond
  simp only[Option.some.injEq]at hv;subst hv
  obtain⟨B,hu,hg,hB,xR,es,clock,hb,ew,hlen,hM⟩:=Di S (ec E hx) hp
  have rk:=ec E hk
  have ry:=ec E hy
  obtain⟨Ts,res,hf,hF⟩:=yP (B:=B) hK rk ew hM Aq
  obtain⟨k1,k2,k3,k4⟩:=zB Aq
  obtain⟨B',eA,R,_⟩:=S.row p.1 p.2 hg
  rw[hB]at eA;injection eA with eA;subst eA
  obtain⟨pk1,pk2⟩:=NS (y:=dj env y') k1 k2
  have iK:(getObj B.b).run P w=.ok (.map es clock) w:=MapKept.run_getObj_map hb
  rcases hF with⟨rfl,rfl⟩|⟨j,en,rfl,he,rfl⟩
  ·have pI:=S.Lm (ob:=.map (es.push ⟨a.eval k,a.eval y,clock⟩) (clock+1)) (r':={p.2 with rows:=dr p.2.rows ((dj env k').cells++[dj env y']) none}) hg hw hB fun hr lS=>⟨R.sz,fun cs ek=>?_,fun xS=>(by rw[xR]at xS;cases xS),fun m' E8=>?_,fun c hc=>(by rw[xR]at hc;cases hc)⟩
   ·refine⟨undef,_,ι,.inr ⟨?_,rfl⟩,pI.2,pI.1,du.undef,fun _ _=>rfl⟩
    rcases ho with ho|ho<;>
    ·simp only[execOp,ho,Instr.mapUpdate,hu,Sem.run_bind,run_underlying ht,Result.andThen_ok,iK,Ts,hf,MapKept.run_setObj_map _ hb,Sem.run_pure]
   ·rcases List.mem_append.1 ek with h|h
    ·exact R.flat cs h
    ·rw[List.mem_singleton.1 h];exact EM k3 hyc
   ·rw[xR]at E8;simp only[Option.some.injEq,BK.map.injEq]at E8;subst E8
    refine⟨(R.map m xR).1,_,_,lS,by simp[dr,ew],⟨fun cs ek=>?_,Ol hlen.2 _ _⟩,fun q cs hq=>?_⟩
    ·rcases List.mem_append.1 ek with h|h
     ·exact hlen.1 cs h
     ·rw[List.mem_singleton.1 h];simp[k2]
    ·rcases Nat.lt_or_ge q p.2.rows.length with eG|l7
     ·simp only[dr]at hq
      rw[List.getElem?_append_left eG]at hq
      obtain⟨en,kv,vv,q1,q2,q3,q4,q5⟩:=hM q cs hq
      exact⟨en,kv,vv,by rw[Array.getElem?_push_lt ae];rw[Array.getElem?_eq_getElem ae]at q1;simpa using q1,q2,q3,hr _ _ q4,hr _ _ q5⟩
     ·simp only[dr]at hq
      rw[List.getElem?_append_right l7]at hq
      have RM:q=p.2.rows.length:=by
       have:=(List.getElem?_eq_some_iff.1 hq).1
       simp at this;omega
      subst RM
      simp at hq;subst hq
      exact⟨⟨a.eval k,a.eval y,clock⟩,_,_,by rw[<-ew];simp,pk1,pk2,hr _ _ rk,hr _ _ ry⟩
  ·simp only[Nat.zero_add]at k4 Aq hf ⊢
   obtain⟨Yw,_,PX,heq⟩:=FN k4
   simp only[Nat.sub_zero]at PX
   obtain⟨Wx,kv,vv,q1,q2,_,q4,_⟩:=hM j Yw PX
   have RE:Wx=en:=by
    have h1:es.toList[j]? =some Wx:=by simpa using q1
    rw[he]at h1;injection h1 with h1;exact h1.symm
   subst RE
   have ed:=stays (w:=w) hK k1 rk q2 q4 heq
   have pI:=S.Lm (ob:=.map (es.modify j fun e=>{e with key:=a.eval k,val:=a.eval y}) clock) (r':={p.2 with rows:=dr p.2.rows ((dj env k').cells++[dj env y']) (some j)}) hg hw hB fun hr lS=>⟨R.sz,fun cs ek=>?_,fun xS=>(by rw[xR]at xS;cases xS),fun m' E8=>?_,fun c hc=>(by rw[xR]at hc;cases hc)⟩
   ·refine⟨undef,_,ι,.inr ⟨?_,rfl⟩,pI.2,pI.1,du.undef,fun _ _=>rfl⟩
    rcases ho with ho|ho<;>
    ·simp only[execOp,ho,Instr.mapUpdate,hu,Sem.run_bind,run_underlying ht,Result.andThen_ok,iK,Ts,hf,q1,Option.map_some,Option.getD_some,ed,MapKept.run_setObj_map _ hb,Sem.run_pure]
   ·rcases List.mem_or_eq_of_mem_set ek with h|h
    ·exact R.flat cs h
    ·rw[h];exact EM k3 hyc
   ·rw[xR]at E8;simp only[Option.some.injEq,BK.map.injEq]at E8;subst E8
    have iX:=(List.getElem?_eq_some_iff.1 PX).1
    refine⟨(R.map m xR).1,_,_,lS,by simp[dr,ew],⟨fun cs ek=>?_,Ib hlen.2 _ _ _⟩,fun q cs hq=>?_⟩
    ·rcases List.mem_or_eq_of_mem_set ek with h|h
     ·exact hlen.1 cs h
     ·rw[h];simp[k2]
    ·simp only[dr,List.getElem?_set]at hq
     split at hq
     ·rename_i hjq
      subst hjq
      (try rw[if_pos iX]at hq)
      injection hq with hq;subst hq
      exact⟨{Wx with key:=a.eval k,val:=a.eval y},_,_,by rw[Array.getElem?_modify];simp[q1],pk1,pk2,hr _ _ rk,hr _ _ ry⟩
     ·rename_i hjq
      obtain⟨en,kv,vv,q1,q2,q3,q4,q5⟩:=hM q cs hq
      exact⟨en,kv,vv,by rw[Array.getElem?_modify];simp[hjq,q1],q2,q3,hr _ _ q4,hr _ _ q5⟩
 ·cases hv
theorem SQ {t t':TypeId} {x k:Operand} {m:MK} {z:K} {x' k':O} {g':Rows} (S:ig P hs D ι g w) (E:dc P w D ι env a) (ho:o.op=.call {callee:=.builtin .delete,args:= #[x,k],argTypes:= #[t,t']}) (hc:vL P t=some (m,z)) (hx:cO P x=some x') (hk:cO P k=some k')
  (hv:bF (.del m) [dj env x',dj env k'] g=some g'):GG P hs a o w D ι id .undef g':=by
 obtain⟨kt,e,i,zv,ht,hi,ze,YY,hK⟩:=tU hc
 simp only[bF,Option.bind_eq_some_iff]at hv
 obtain⟨p,hp,fi,Aq,hv⟩:=hv
 split at hv
 ·rename_i hw
  simp only[Option.some.injEq]at hv;subst hv
  obtain⟨B,hu,hg,hB,xR,es,clock,hb,ew,hlen,hM⟩:=Di S (ec E hx) hp
  have rk:=ec E hk
  obtain⟨Ts,res,hf,hF⟩:=yP (B:=B) hK rk ew hM Aq
  obtain⟨k1,k2,k3,k4⟩:=zB Aq
  obtain⟨B',eA,R,_⟩:=S.row p.1 p.2 hg
  rw[hB]at eA;injection eA with eA;subst eA
  have iK:(getObj B.b).run P w=.ok (.map es clock) w:=MapKept.run_getObj_map hb
  have go:∀ob,(Builtin.delete_ #[t,t'] o.type #[a.eval x,a.eval k]).run P w=.ok (.tuple #[]) {w with heap:=w.heap.setIfInBounds B.b ob}->(execOp a.eval o).run P w=.ok (.value undef) {w with heap:=w.heap.setIfInBounds B.b ob}:=fun ob h=>by
   simp only[execOp,ho,resolve,Sem.run_bind,Sem.run_pure,Result.andThen_ok,invoke,builtin,Array.map]
   simp[h,undef]
  rcases hF with⟨rfl,rfl⟩|⟨j,en,rfl,he,rfl⟩
  ·have pI:=S.Lm (ob:=.map es clock) (r':={p.2 with rows:=dq p.2.rows none}) hg hw hB fun hr lS=>⟨R.sz,R.flat,fun xS=>(by rw[xR]at xS;cases xS),fun m' E8=>?_,fun c hc=>(by rw[xR]at hc;cases hc)⟩
   ·refine⟨undef,_,ι,.inl (go _ ?_),pI.2,pI.1,du.undef,fun _ _=>rfl⟩
    simp[Builtin.delete_,hu,run_underlying ht,iK,Ts,hf,MapKept.run_setObj_map _ hb]
   ·rw[xR]at E8;simp only[Option.some.injEq,BK.map.injEq]at E8;subst E8
    exact⟨(R.map m xR).1,_,_,lS,ew,hlen,fun q cs hq=>by
     obtain⟨en,kv,vv,q1,q2,q3,q4,q5⟩:=hM q cs hq
     exact⟨en,kv,vv,q1,q2,q3,hr _ _ q4,hr _ _ q5⟩⟩
  ·simp only[Nat.zero_add]at hf ⊢
   have iX:j<es.size:=by have:=(List.getElem?_eq_some_iff.1 he).1;simpa using this
   have pI:=S.Lm (ob:=.map (es.eraseIdxIfInBounds j) clock) (r':={p.2 with rows:=dq p.2.rows (some j)}) hg hw hB fun hr lS=>⟨R.sz,fun cs ek=>R.flat cs (List.mem_of_mem_eraseIdx ek),fun xS=>(by rw[xR]at xS;cases xS),fun m' E8=>?_,fun c hc=>(by rw[xR]at hc;cases hc)⟩
   ·refine⟨undef,_,ι,.inl (go _ ?_),pI.2,pI.1,du.undef,fun _ _=>rfl⟩
    simp[Builtin.delete_,hu,run_underlying ht,iK,Ts,hf,MapKept.run_setObj_map _ hb]
   ·rw[xR]at E8;simp only[Option.some.injEq,BK.map.injEq]at E8;subst E8
    have VT:∀q,(es.eraseIdxIfInBounds j)[q]? =(es.toList.eraseIdx j)[q]? :=fun q=>by
     unfold Array.eraseIdxIfInBounds
     rw[dif_pos iX,<-Array.getElem?_toList,Array.toList_eraseIdx]
    refine⟨(R.map m xR).1,_,_,lS,by simp[dq,Array.eraseIdxIfInBounds,iX,List.length_eraseIdx,<-ew],⟨fun cs ek=>hlen.1 cs (List.mem_of_mem_eraseIdx ek),Lh hlen.2 iX⟩,fun q cs hq=>?_⟩
    simp only[dq,List.getElem?_eraseIdx]at hq
    split at hq
    ·rename_i eG
     obtain⟨en,kv,vv,q1,q2,q3,q4,q5⟩:=hM q cs hq
     exact⟨en,kv,vv,by rw[VT,List.getElem?_eraseIdx,if_pos eG];simpa using q1,q2,q3,hr _ _ q4,hr _ _ q5⟩
    ·rename_i eG
     obtain⟨en,kv,vv,q1,q2,q3,q4,q5⟩:=hM (q+1) cs hq
     exact⟨en,kv,vv,by rw[VT,List.getElem?_eraseIdx,if_neg eG];simpa using q1,q2,q3,hr _ _ q4,hr _ _ q5⟩
 ·cases hv
end
end Go.Proofs.YtainmfbpilopaaaGreatDoor.V
