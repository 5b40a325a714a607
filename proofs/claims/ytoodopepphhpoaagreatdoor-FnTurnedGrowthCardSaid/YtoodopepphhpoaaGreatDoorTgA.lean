/- A small language in which the program's functions are read by value: its values, its operations, its code, and how the program's code is brought into it. -/
import Derived.WalkKit
import Derived.WalkSpells
import Derived.WalkLawsBesides
import Derived.Lib.Hide
import Derived.Great.BuildSlice
import Derived.Conc.LoneCalls
import Derived.MapKept
import Derived.WideKeyRuns
set_option linter.unusedVariables false
set_option linter.unusedSimpArgs false
set_option maxRecDepth 100000
set_option maxHeartbeats 16000000
namespace Go.Proofs.YtoodopepphhpoaaGreatDoor.V
open Go.RowKit
structure Id where
  site:Nat
  bt:Nat
  deriving DecidableEq,Repr
inductive TS where
  |tI|tB|tS
  deriving Repr,DecidableEq
structure MK where
  ka:Bool
  ts:List TS
  deriving Repr,DecidableEq
inductive AV where
  |int (k:IntKind) (n:Int)
  |bool (b:Bool)
  |str (s:ByteArray)
  |cr|jn|j9
  |sl (rows:List (List AV))
  |own (id:Id) (off len:Nat)
  |ptr (id:Id) (i off:Nat)
  |er (cs:List AV)
  |agg (cs:List AV)
  |fX (vs:List AV)
  |fn (f:Nat) (ek:List AV)
  |map (id:Id) (m:MK)
  |kC
  |jS
  |err (g t:Nat) (s:ByteArray)
  |yh (f:Nat) (first:List AV)
  |uQ (id:Id)
  deriving Inhabited
def AV.undef:AV:=.fX []
def AV.cell:AV->Bool
  | .agg _| .fX _=>false
  |_=>true
def AV.cells:AV->List AV
  | .agg cs=>cs
  |v=>[v]
inductive K where
  |int (k:IntKind) (n:Int)
  |bool (b:Bool)
  |str (l:List UInt8)
  |cr|jn|j9|kC|jS
  deriving Repr,DecidableEq
def K.val:K->Value
  | .int k n=>.int k n
  | .bool b=>.bool b
  | .str l=>.string ⟨l.toArray⟩
  | .cr=>.slice none 0 0
  | .jn=>.pointer none
  | .j9=>.nilFunc
  | .kC=>.map none
  | .jS=>.nilIface
def K.av:K->AV
  | .int k n=>.int k n
  | .bool b=>.bool b
  | .str l=>.str ⟨l.toArray⟩
  | .cr=>.cr
  | .jn=>.jn
  | .j9=>.j9
  | .kC=>.kC
  | .jS=>.jS
def Lh:Value->Option K
  | .int k n=>some (.int k n)
  | .bool b=>some (.bool b)
  | .string s=>some (.str s.data.toList)
  | .slice none 0 0=>some .cr
  | .pointer none=>some .jn
  | .nilFunc=>some .j9
  | .map none=>some .kC
  | .nilIface=>some .jS
  |_=>none
inductive O where
  |t (n:Nat)
  |k (c:K)
  |ka (cs:List K)
  |f (n:Nat)
  deriving Repr,DecidableEq
inductive MQ where
  |new (m:MK)
  |look (m:MK) (ok:Bool) (zero:K)
  |len (m:MK)
  deriving Repr,DecidableEq
inductive MW where
  |set (m:MK)
  |del (m:MK)
  deriving Repr,DecidableEq
inductive iT where
  |fe (x:O)
  |pick (c a b:O)
  |new (zero:List K)
  |box (x:O)
  |build (zero:List K) (parts:List (Nat×Nat×O))
  |ij (sz len:Nat) (parts:List O)
  |load (agg:Bool) (n:Nat) (a:O)
  |store (n:Nat) (a x:O)
  |EH (x:O)
  |bin (op:BinOp) (k:IntKind) (x y:O)
  |sh (left:Bool) (x y:O)
  |Dl (op:BinOp) (x y:O)
  |eqS (neg:Bool) (t:TS) (x y:O)
  |eqA (neg:Bool) (ts:List TS) (x y:O)
  |Yr (neg Rq:Bool) (x:O)
  |eqP (neg:Bool) (x:O)
  |not (x:O)
  |neg (x:O)
  |conv (k:IntKind) (x:O)
  |JA (x:O)
  |slice (sz:Nat) (x:O) (lo hi:Option O)
  |Ep (x:O) (lo hi:Option O)
  |ft (off:Nat) (x:O)
  |field (agg:Bool) (off n:Nat) (x:O)
  |jj (sz:Nat) (x i:O)
  |Rj (len sz:Nat) (x i:O)
  |Rm (x i:O)
  |eO (agg:Bool) (len n:Nat) (x i:O)
  |extract (i:Nat) (x:O)
  |len (x:O)
  |Rz (x:O)
  |append (sz:Nat) (x y:O)
  |copy (sz:Nat) (x y:O)
  |clear (zero:List K) (x:O)
  |RD (f:Nat) (ek:List O)
  |RE (f:Nat) (first:List O)
  |oD (zero:List K) (len cap:O)
  |call (f:Nat) (args:List O)
  |xQ (x:O) (args:List O)
  |mq (q:MQ) (xs:List O)
  |mw (q:MW) (xs:List O)
  |OE (x:O)
  |Ox (x:O)
  |snd (x y:O)
  |V1 (x:O)
  |JJ (g:Nat)
  |bad
  deriving Repr,DecidableEq
structure bY where
  dst:Option Nat
  op:iT
  guard:Option (Nat×Bool)
  site:Nat
  hid:List Nat
  deriving Repr,DecidableEq
def q (d:Nat) (op:iT) (s:Nat):bY:=⟨some d,op,none,s,[]⟩
inductive VC where
  |skip
  |ib (draw:Bool) (ops:List bY)
  |seq (a b:VC)
  |cond (c:O) (x y:VC)
  |block (id:Nat) (c:VC)
  |loop (c:VC)
  |exit (id:Nat)
  |ret
  |one (o:bY) (c:VC)
  |both (a b:VC)
  |loc (t s:Nat) (y:O) (c:VC)
  |Ui (ops:List bY)
  deriving Repr,DecidableEq
inductive sV where
  |tmp (t:Nat)
  |cell (agg:Bool) (n:Nat) (t:Nat)
  deriving Repr,DecidableEq
structure Kx where
  ntmps:Nat
  CH:Nat
  body:VC
  res:List sV
  deriving Repr,DecidableEq
def iw (P:Program) (f:Nat):Bool:=
  match P.funcs[f]? with
  |some fn=>fn.body.isSome&& !(fn.name== "runtime.NumGoroutine")
  |none=>false
def cO (P:Program):Operand->Option O
  | .tmp t=>some (.t t)
  | .const (.agg cs)=>(cs.toList.mapM Lh).map O.ka
  | .const v=>(Lh v).map O.k
  | .global _=>none
  | .func f=>if iw P f then some (.f f)else none
def lu (P:Program) (t:TypeId):Option (List K):=
  match P.info? t with
  |some i=>match i.zero with
    |some v=>if v.cells.size=i.size then v.cells.toList.mapM Lh else none
    |none=>none
  |none=>none
def eX (P:Program) (t:TypeId):Option Nat:=(P.info? t).map (·.size)
def o9 (P:Program) (t:TypeId):Option Bool:=
  match P.underlying t with
  |some (.struct _)|some (.array _ _)=>some true
  |some _=>some false
  |none=>none
inductive EqT where
  |sc (t:TS)|ag (ts:List TS)
  deriving Repr,DecidableEq
def gO (P:Program) (t:TypeId):Option TS:=
  match P.underlying t with
  |some .bool=>some .tB
  |some (.int _)=>some .tI
  |some .string=>some .tS
  |_=>none
def HN (P:Program) (inner:List Field->Option (List TS)):Nat->List Field->Option (List TS)
  |_,[]=>some []
  |off,f::r=>
    if f.offset=off/\f.name≠ "_" then
      match gO P f.type with
      |some t=>if o9 P f.type=some false then(HN P inner (off+1) r).map (t::·)else none
      |none=>match P.underlying f.type with
        |some (.struct fs)=>if !P.stoodInHeld f.type then match inner fs.toList with
          |some ts=>if eX P f.type=some ts.length/\ts≠[]then(HN P inner (off+ts.length) r).map (ts++·)else none
          |none=>none else none
        |_=>none
    else none
def fI (P:Program):Nat->Nat->List Field->Option (List TS)
  |0,_,[]=>some []
  |0,_,_::_=>none
  |d+1,off,fs=>HN P (fI P d 0) off fs
def cEq (P:Program) (t:TypeId):Option EqT:=
  match gO P t with
  |some s=>some (.sc s)
  |none=>match P.underlying t with
    |some (.struct fs)=>if !P.stoodInHeld t&& !P.eqGuardType P.depth t then(fI P 4 0 fs.toList).map EqT.ag else none
    |_=>none
def wP (P:Program) (fs:Array Field):List (Nat×O)->Option (List (Nat×Nat×O))
  |[]=>some []
  |(i,x)::r=>match fs[i]? with
    |some f=>match eX P f.type with
      |some n=>(wP P fs r).map ((f.offset,n,x)::·)
      |none=>none
    |none=>none
def wS (P:Program) (ps:Array (Nat×Operand)):Option (List (Nat×O)):=ps.toList.mapM fun(i,x)=>(cO P x).map (i,·)
def uO (P:Program):Option Operand->Option (Option O)
  |none=>some none
  |some x=>(cO P x).map some
def wQ (P:Program) (neg:Bool) (t:TypeId) (x y:Operand):Option iT:=
  match y with
  | .const (.slice none 0 0)=>match P.underlying t with
    |some (.slice _)=>(cO P x).map (iT.Yr neg false)
    |_=>none
  | .const .nilFunc=>match P.underlying t with
    |some (.func ..)=>(cO P x).map (iT.Yr neg true)
    |_=>none
  | .const (.pointer none)=>match P.underlying t with
    |some (.pointer _)=>(cO P x).map (iT.eqP neg)
    |_=>none
  |_=>match cEq P t with
    |some (.sc s)=>do pure (.eqS neg s (<-cO P x) (<-cO P y))
    |some (.ag ts)=>do pure (.eqA neg ts (<-cO P x) (<-cO P y))
    |_=>none
def zF (P:Program) (op:BinOp) (t:TypeId) (x y:Operand):Option iT:=
  match op with
  | .eql=>wQ P false t x y
  | .neq=>wQ P true t x y
  | .shl=>do pure (.sh true (<-cO P x) (<-cO P y))
  | .shr=>do pure (.sh false (<-cO P x) (<-cO P y))
  |op=>match P.underlying t with
    |some (.int k)=>do pure (.bin op k (<-cO P x) (<-cO P y))
    |some .string=>do pure (.Dl op (<-cO P x) (<-cO P y))
    |_=>none
def wR (P:Program) (t:TypeId):Option (MK×K):=
  match P.underlying t with
  |some (.map k e)=>match o9 P e,(P.info? e).bind (·.zero),gO P k,P.underlying k with
    |some false,some zv,some s,_=>(Lh zv).map fun z=>(⟨false,[s]⟩,z)
    |some false,some zv,none,some (.struct fs)=>match fI P 4 0 fs.toList,Lh zv with
      |some ts,some z=>if !P.stoodInHeld k/\fs.toList.all (fun f=>(gO P f.type).isSome)then some (⟨true,ts⟩,z)else none
      |_,_=>none
    |_,_,_,_=>none
  |_=>none
def qd (P:Program) (c:Call):Option iT:=
  match c.callee with
  | .builtin .len=>match c.args.toList,c.argTypes.toList with
    |[x],[t]=>match P.underlying t with
      |some (.slice _)=>(cO P x).map iT.len
      |some .string=>(cO P x).map iT.Rz
      |some (.map _ _)=>match wR P t,cO P x with
        |some (m,_),some x=>some (.mq (.len m) [x])
        |_,_=>none
      |some (.chan _ _)=>(cO P x).map iT.Ox
      |_=>none
    |_,_=>none
  | .builtin .append=>match c.args.toList,c.argTypes.toList with
    |[x,y],[t,u]=>match P.underlying t with
      |some (.slice e)=>match eX P e,lu P e,P.info? e with
        |some (sz+1),some _,some i=>if i.bytes<=32768/\t=u then do pure (.append (sz+1) (<-cO P x) (<-cO P y))else none
        |_,_,_=>none
      |_=>none
    |_,_=>none
  | .builtin .clear=>match c.args.toList,c.argTypes.toList with
    |[x],[t]=>match P.underlying t with
      |some (.slice e)=>match eX P e,lu P e with
        |some (_+1),some z=>(cO P x).map (iT.clear z)
        |_,_=>none
      |_=>none
    |_,_=>none
  | .value (.func f)=>if iw P f then(c.args.toList.mapM (cO P)).map (iT.call f)else none
  | .value (.tmp t)=>(c.args.toList.mapM (cO P)).map (iT.xQ (.t t))
  | .builtin .delete=>match c.args.toList,c.argTypes.toList with
    |[x,k],[t,_]=>match wR P t,cO P x,cO P k with
      |some (m,_),some x,some k=>some (.mw (.del m) [x,k])
      |_,_,_=>none
    |_,_=>none
  | .builtin .copy=>match c.args.toList,c.argTypes.toList with
    |[x,y],[t,_]=>match P.underlying t with
      |some (.slice e)=>match eX P e with
        |some (sz+1)=>do pure (.copy (sz+1) (<-cO P x) (<-cO P y))
        |_=>none
      |_=>none
    |_,_=>none
  |_=>none
def uv (P:Program) (o:Op):Option iT:=
  match o with
  | .move x| .assign x=>(cO P x).map iT.fe
  | .pick c a b=>do pure (.pick (<-cO P c) (<-cO P a) (<-cO P b))
  | .alloc e=>(lu P e).map iT.new
  | .box _ x=>(cO P x).map iT.box
  | .load t (.global g)=>if eX P t=some 1/\o9 P t=some false then some (.JJ g)else none
  | .load t a=>do pure (.load (<-o9 P t) (<-eX P t) (<-cO P a))
  | .store t a x=>do pure (.store (<-eX P t) (<-cO P a) (<-cO P x))
  | .nilCheck x=>(cO P x).map iT.EH
  | .binOp op t x y _=>zF P op t x y
  | .unOp .not _ x=>(cO P x).map iT.not
  | .unOp .neg _ x=>(cO P x).map iT.neg
  | .convert s d x=>match P.underlying s,P.underlying d with
    |some (.int _),some (.int k)=>(cO P x).map (iT.conv k)
    |some .string,some .string=>(cO P x).map iT.JA
    |_,_=>none
  | .slice t x lo hi none=>match P.underlying t with
    |some (.slice e)=>do
      pure (.slice (<-eX P e) (<-cO P x) (<-uO P lo) (<-uO P hi))
    |some .string=>do pure (.Ep (<-cO P x) (<-uO P lo) (<-uO P hi))
    |_=>none
  | .fieldAddr s x i=>match P.underlying s with
    |some (.struct fs)=>match fs[i]? with
      |some f=>match eX P f.type with
        |some (_+1)=>(cO P x).map (iT.ft f.offset)
        |_=>none
      |none=>none
    |_=>none
  | .field s x i=>match P.underlying s with
    |some (.struct fs)=>match fs[i]? with
      |some f=>do pure (.field (<-o9 P f.type) f.offset (<-eX P f.type) (<-cO P x))
      |none=>none
    |_=>none
  | .indexAddr t x i=>match P.underlying t with
    |some (.slice e)=>match eX P e with
      |some (m+1)=>do pure (.jj (m+1) (<-cO P x) (<-cO P i))
      |_=>none
    |some (.array len e)=>match eX P e with
      |some (m+1)=>do pure (.Rj len (m+1) (<-cO P x) (<-cO P i))
      |_=>none
    |_=>none
  | .index t x i=>match P.underlying t with
    |some .string=>do pure (.Rm (<-cO P x) (<-cO P i))
    |some (.array len e)=>do pure (.eO (<-o9 P e) len (<-eX P e) (<-cO P x) (<-cO P i))
    |_=>none
  | .extract x i=>(cO P x).map (iT.extract i)
  | .build t ps=>match P.underlying t with
    |some (.struct fs)=>
      match lu P t,wS P ps with
      |some z,some l=>
        if fs.all (fun f=>(P.info? f.type).isSome)then(wP P fs l).map (iT.build z)else none
      |_,_=>none
    |some (.array _ e)=>
      match lu P t,wS P ps,eX P e with
      |some z,some l,some n=>some (.build z (l.map fun(i,x)=>(i*n,n,x)))
      |_,_,_=>none
    |_=>none
  | .buildSlice t len ps=>match P.underlying t with
    |some (.slice e)=>match eX P e,lu P e,wS P ps with
      |some (sz+1),some _,some l=>
        if len*(sz+1)<=4096/\l.map (·.1)=List.range len then some (.ij (sz+1) len (l.map (·.2)))else none
      |_,_,_=>none
    |_=>none
  | .makeFunc (.func f) first ek=>
    if first= #[]/\iw P f then(ek.toList.mapM (cO P)).map (iT.RD f)else if ek= #[]/\iw P f then(first.toList.mapM (cO P)).map (iT.RE f)else none
  | .makeSlice t l c=>match P.underlying t with
    |some (.slice e)=>match eX P e,lu P e,P.info? e with
      |some (_+1),some z,some i=>if i.bytes<=32768 then do pure (.oD z (<-cO P l) (<-cO P c))else none
      |_,_,_=>none
    |_=>none
  | .call c=>qd P c
  | .makeChan t n=>match P.underlying t with
    |some (.chan _ e)=>match P.info? e with
      |some i=>if i.bytes<=32768 then(cO P n).map iT.OE else none
      |none=>none
    |_=>none
  | .send x y=>do pure (.snd (<-cO P x) (<-cO P y))
  | .recv t x false=>match P.underlying t with
    |some (.chan _ e)=>match (P.info? e).bind (·.zero)with
      |some _=>(cO P x).map iT.V1
      |none=>none
    |_=>none
  | .makeMap t none=>match wR P t with
    |some (m,_)=>some (.mq (.new m) [])
    |none=>none
  | .lookup t x k ok=>match wR P t,cO P x,cO P k with
    |some (m,z),some x,some k=>some (.mq (.look m ok z) [x,k])
    |_,_,_=>none
  | .mapUpdate t x k v| .insert t x k v=>match wR P t,cO P x,cO P k,cO P v with
    |some (m,_),some x,some k,some v=>some (.mw (.set m) [x,k,v])
    |_,_,_,_=>none
  | .makeInterface _ _=>some .bad
  | .panic _=>some .bad
  |_=>none
inductive Cls where
  |pure|look|make|write
  deriving DecidableEq,Repr
def iT.cls:iT->Cls
  | .new _| .box _| .ij .. | .oD .. | .mq (.new _) _| .OE _=>.make
  | .JJ _| .load .. | .jj .. | .slice .. | .call .. | .xQ .. | .mq .. | .Ox _=>.look
  | .store .. | .append .. | .copy .. | .clear .. | .mw .. | .snd .. | .V1 _=>.write
  |_=>.pure
def clash:Cls->Cls->Bool
  | .pure,_|_,.pure=>false
  | .write,_|_,.write=>true
  |_,_=>false
def kn (ops:Array Oper):Array Nat:=Region.before ops
def tY:iT->Bool:=fun o=>o.cls==.make||o.cls==.write
def iT.oK:iT->Bool
  | .call .. | .xQ .. =>true
  |_=>false
def HE (ops:Array Oper) (o:Oper):Option (Option (Nat×Bool)):=
  match o.guard with
  |none=>some none
  |some (i,b)=>match (ops[i]?).bind (·.dst)with
    |some t=>some (some (t,b))
    |none=>none
def mY (P:Program) (ops:Array Oper) (nt site0:Nat) (draw mk:Bool) (bs:Array Nat) (hidden:List (Nat×Bool)) (j:Nat) (o:Oper):Option bY:=do
  let v <-uv P o.op
  let g <-HE ops o
  if (o.dst.all fun d=>decide (d<nt))then
    pure {dst:=o.dst,op:=v,guard:=g,site:=site0+j,hid:=if draw then(hidden.filter fun(i,m)=>m&& !(bs.getD j 0).testBit i&&(i !=j||mk&&v.oK)).map fun(i,_)=>site0+i else[]}
  else none
def allM {α:Type} (f:Nat->Oper->Option α):List Oper->Nat->Option (List α)
  |[],_=>some []
  |o::r,j=>do pure ((<-f j o)::(<-allM f r (j+1)))
def jo:O->List Nat
  | .t n=>[n]
  |_=>[]
def AI:Option O->List Nat
  |some x=>jo x
  |none=>[]
def iT.ja:iT->List Nat
  | .clear _ x| .fe x| .box x| .load _ _ x| .EH x| .Yr _ _ x| .eqP _ x| .not x| .neg x| .conv _ x| .JA x| .ft _ x| .field _ _ _ x| .extract _ x| .len x| .Rz x| .OE x| .Ox x| .V1 x=>jo x
  | .pick c a b=>jo c++jo a++jo b
  | .new _| .JJ _| .bad=>[]
  | .build _ ps=>ps.flatMap fun(_,_,x)=>jo x
  | .ij _ _ ps=>ps.flatMap jo
  | .store _ a x| .snd a x=>jo a++jo x
  | .bin _ _ x y| .sh _ x y| .Dl _ x y| .eqS _ _ x y| .eqA _ _ x y| .jj _ x y| .Rj _ _ x y| .Rm x y| .eO _ _ _ x y| .append _ x y| .copy _ x y| .oD _ x y=>jo x++jo y
  | .slice _ x lo hi| .Ep x lo hi=>jo x++AI lo++AI hi
  | .RD _ l| .RE _ l| .call _ l| .mq _ l| .mw _ l=>l.flatMap jo
  | .xQ x l=>jo x++l.flatMap jo
def bY.ja (v:bY):List Nat:=v.op.ja++(match v.guard with|some (t,_)=>[t]|none=>[])
def xK (x y:bY):Bool:=
  (match x.dst with
   |some d=> !y.ja.contains d&&y.dst !=some d
   |none=>true)&&
  (match y.dst with
   |some d=> !x.ja.contains d
   |none=>true)
def bY.makes (v:bY):Bool:=tY v.op||v.op.oK&&v.hid.contains v.site
def JI (x y:bY):Bool:=
  xK x y&& !clash x.op.cls y.op.cls&&(!x.makes||y.hid.contains x.site)&&(!y.makes||x.hid.contains y.site)&&x.site !=y.site
def JB (ops:Array Oper):Bool:=ops.toList.zipIdx.all fun(o,j)=>o.after.all fun e=> !Region.binds .any e||decide (e.on<j)
def qY (ops:Array Oper) (vl:List bY) (bs:Array Nat):Bool:=
  JB ops&&vl.zipIdx.all fun(y,j)=>vl.zipIdx.all fun(x,i)=> !(decide (i<j))||(bs.getD j 0).testBit i||JI x y
def uP (P:Program) (nt site0:Nat) (ops:Array Oper) (draw mk:Bool):Option (List bY):=
  let bs:=if draw then kn ops else #[]
  let hidden:=if draw then ops.toList.zipIdx.map fun(o,i)=>(i,((uv P o.op).map fun v=>tY v||mk&&v.oK).getD false)else[]
  match allM (mY P ops nt site0 draw mk bs hidden) ops.toList 0 with
  |some vl=>if !draw||qY ops vl bs then some vl else none
  |none=>none
def nA (v:bY):Bool:= !v.op.oK&&v.op.cls !=.write
def Ck (x y:bY):Bool:=xK x y&&x.op.cls==.pure||JI x y&&nA x&&nA y
def tJ (ops:Array Oper) (vl:List bY) (bs:Array Nat) (listed:Array Bool) (i:Nat):Bool:=
  match vl[i]? with
  |some x=>(List.range ops.size).all fun j=>listed.getD j false||j==i||(bs.getD j 0).testBit i||(match vl[j]? with|some y=>Ck x y|none=>false)
  |none=>false
def Tp (vl:List bY) (x:bY):Option (Nat×Nat×O):=
  match x.op,x.guard with
  | .append _ (.t t) y,none=>match vl.find? fun v=>v.dst==some t&&v.op.cls==.make with
    |some v=>some (t,v.site,y)
    |none=>none
  |_,_=>none
def JH (s:Nat) (x y:bY):Bool:=xK x y&&nA y&&y.hid.contains s&&y.hid.contains x.site&&y.site !=s&&y.site !=x.site
def re (ops:Array Oper) (vl:List bY) (bs:Array Nat) (listed:Array Bool) (i s:Nat):Bool:=
  match vl[i]? with
  |some x=>(List.range ops.size).all fun j=>listed.getD j false||j==i||(bs.getD j 0).testBit i||(match vl[j]? with|some y=>JH s x y|none=>false)
  |none=>false
def VL (ops:Array Oper) (vl:List bY) (bs:Array Nat) (listed:Array Bool) (i:Nat):Option (Nat×Nat×Nat×O×bY):=
  match vl[i]? with
  |some x=>match Tp vl x with
    |some (t,s,y)=>if re ops vl bs listed i s then some (i,t,s,y,x)else none
    |none=>none
  |none=>none
def Ff:List VC->Option VC
  |[]=>none
  |[c]=>some c
  |c::r=>(Ff r).map (VC.both c)
def yw (ops:Array Oper) (vl:List bY) (bs:Array Nat):Nat->Array Bool->Option VC
  |0,listed=>
    match Region.ready .any ops listed with
    |[]=>some (.ib false [])
    |_::_=>none
  |n+1,listed=>
    match Region.ready .any ops listed with
    |[]=>some (.ib false [])
    |r::rs=>let rdy:=r::rs
      match rdy.find? (tJ ops vl bs listed)with
      |some i=>match vl[i]? with
        |some vo=>(yw ops vl bs n (listed.setIfInBounds i true)).map (VC.one vo)
        |none=>none
      |none=>match rdy.findSome? (VL ops vl bs listed)with
        |some (i,t,s,y,vo)=>(yw ops vl bs n (listed.setIfInBounds i true)).map fun c=>VC.loc t s y (.one vo c)
        |none=>match rdy.mapM fun i=>(vl[i]?).bind fun vo=>(yw ops vl bs n (listed.setIfInBounds i true)).map (VC.one vo)with
          |some l=>Ff l
          |none=>none
def Tn:Op->Bool
  | .send .. | .recv .. =>true
  |_=>false
def Yi (P:Program) (nt site0:Nat) (ops:Array Oper) (draw:Bool) (mode:Nat):Option VC:=
  if draw&&mode==2 then
    match allM (mY P ops nt site0 true false (kn ops) (ops.toList.zipIdx.map fun(o,i)=>(i,((uv P o.op).map tY).getD false))) ops.toList 0 with
    |some vl=>yw ops vl (kn ops) ops.size (Array.replicate ops.size false)
    |none=>none
  else if !draw&&ops.any (fun o=>Tn o.op)then(uP P nt site0 ops false false).map VC.Ui
  else(uP P nt site0 ops draw (mode==1)).map (VC.ib draw)
def xo (md:List (Nat×Nat)) (id:Nat):Nat:=
  match md with
  |[]=>0
  |(i,m)::r=>if i=id then m else xo r id
def jL (P:Program) (md:List (Nat×Nat)) (nt fid:Nat):Code->Option VC
  | .skip=>some .skip
  | .region id ops draw=>Yi P nt ((fid*1000+id)*1000) ops draw (xo md id)
  | .seq a b=>do pure (.seq (<-jL P md nt fid a) (<-jL P md nt fid b))
  | .cond c x y=>do pure (.cond (<-cO P c) (<-jL P md nt fid x) (<-jL P md nt fid y))
  | .block id c=>(jL P md nt fid c).map (VC.block id)
  | .loop c=>(jL P md nt fid c).map VC.loop
  | .exit id=>some (.exit id)
  | .ret=>some .ret
  | .label _=>some .skip
  | .scope c=>jL P md nt fid c
  |_=>none
def HF (P:Program) (r:ResultVar):Option sV:=
  match r with
  | .tmp t=>some (.tmp t)
  | .cell a t=>do pure (.cell (<-o9 P t) (<-eX P t) a)
def zG (P:Program) (f:Nat) (md:List (Nat×Nat)):Option Kx:=
  match P.funcs[f]? with
  |some fn=>match fn.body with
    |some c=>do
      let b <-jL P md fn.ntmps f c
      let r <-fn.results.toList.mapM (HF P)
      if fn.params.size+fn.nfree<=fn.ntmps then pure {ntmps:=fn.ntmps,CH:=fn.params.size+fn.nfree,body:=b,res:=r}else none
    |none=>none
  |none=>none
def Fg (P:Program) (f:Nat):Option Kx:=zG P f []
theorem ad {P:Prop} (h:P:=by omega):P:=h
theorem bp {P:Prop} (h:P:=by(try dsimp only);omega):P:=h
structure Row where
 w:Bool
 sz:Nat
 rows:List (List AV)
abbrev Rows:=Id->Option Row
structure aw where
 get:Rows
 next:Nat
abbrev Env:=Nat->AV
def upd (env:Env):Option Nat->AV->Env
 |some d,v=>fun t=>if t=d then v else env t
 |none,_=>env
inductive Ex where
 |normal
 |exit (id:Nat)
 |ret
 deriving DecidableEq
def dz (env:Env):O->AV
 | .t n=>env n
 | .k c=>c.av
 | .ka cs=>.agg (cs.map K.av)
 | .f n=>.fn n []
def ck (g:Rows) (id:Id) (r:Row):Rows:=fun i=>if i=id then some r else g i
def cq (g:Rows) (id:Id):Rows:=fun i=>if i=id then none else g i
def fF:List Nat->Nat->Rows->Rows
 |[],_,g=>g
 |h::t,n,g=>fun id=>if (h::t).contains id.site=true/\id.bt=n then none else g id
def ro (g:Rows):Rows:=fun id=>(g id).map fun r=>{r with w:=false}
def part (agg:Bool) (n:Nat) (cs:List AV):Option AV:=
 if agg then(if n<=cs.length then some (.agg (cs.take n))else none)else cs.head?
def rowAt (g:Rows) (id:Id) (i:Nat):Option (List AV):=(g id).bind (·.rows[i]?)
def ld (g:Rows) (agg:Bool) (n:Nat):AV->Option AV
 | .ptr id i off=>(rowAt g id i).bind fun cs=>part agg n (cs.drop off)
 | .er cs=>part agg n cs
 |_=>none
def dF:BinOp->IntKind->Int->Int->Option AV
 | .add,k,a,b=>some (.int k (k.wrap (a+b)))
 | .sub,k,a,b=>some (.int k (k.wrap (a-b)))
 | .mul,k,a,b=>some (.int k (k.wrap (a*b)))
 | .quo,k,a,b=>if b=0 then none else some (.int k (k.wrap (a.tdiv b)))
 | .rem,k,a,b=>if b=0 then none else some (.int k (a.tmod b))
 | .lss,_,a,b=>some (.bool (decide (a<b)))
 | .leq,_,a,b=>some (.bool (decide (a<=b)))
 | .gtr,_,a,b=>some (.bool (decide (b<a)))
 | .geq,_,a,b=>some (.bool (decide (b<=a)))
 | .and,k,a,b=>some (.int k (k.wrap (BitVec.ofInt k.bits a&&& BitVec.ofInt k.bits b).toNat))
 | .or,k,a,b=>some (.int k (k.wrap (BitVec.ofInt k.bits a|||BitVec.ofInt k.bits b).toNat))
 | .xor,k,a,b=>some (.int k (k.wrap (BitVec.ofInt k.bits a ^^^ BitVec.ofInt k.bits b).toNat))
 |_,_,_,_=>none
def dP (op:BinOp):AV->AV->Option AV
 | .int k a,.int k' b=>if k=k' then dF op k a b else none
 |_,_=>none
def gh (left:Bool):AV->AV->Option AV
 | .int k a,.int _ b=>if b<0 then none else some (.int k (if left then k.wrap (a*2 ^ min b.toNat k.bits)else a.fdiv (2 ^ min b.toNat k.bits)))
 |_,_=>none
def ec:BinOp->ByteArray->ByteArray->Option AV
 | .add,a,b=>if a.size+b.size<=9223372036854775807 then some (.str (a++b))else none
 | .lss,a,b=>some (.bool (Op.bytesLess a.toList b.toList))
 | .leq,a,b=>some (.bool (Op.bytesLess a.toList b.toList||(a.toList==b.toList)))
 | .gtr,a,b=>some (.bool !(Op.bytesLess a.toList b.toList||(a.toList==b.toList)))
 | .geq,a,b=>some (.bool !(Op.bytesLess a.toList b.toList))
 |_,_,_=>none
def da (op:BinOp):AV->AV->Option AV
 | .str a,.str b=>ec op a b
 |_,_=>none
def fD:TS->AV->AV->Option Bool
 | .tI,.int k a,.int k' b=>if k=k' then some (decide (a=b))else none
 | .tB,.bool a,.bool b=>some (a==b)
 | .tS,.str a,.str b=>some (decide (a=b))
 |_,_,_=>none
def eU:List TS->List AV->List AV->Option Bool
 |[],[],[]=>some true
 |t::ts,a::r,b::s=>match fD t a b,eU ts r s with
  |some x,some y=>some (x&&y)
  |_,_=>none
 |_,_,_=>none
def dx (neg b:Bool):Bool:=if neg then !b else b
def cY:AV->Option Bool
 | .cr=>some true
 | .own _ _ _=>some false
 | .sl (_::_)=>some false
 |_=>none
def cX:AV->Option Bool
 | .j9=>some true
 | .fn _ _=>some false
 |_=>none
def PH:AV->Option Bool
 | .jn=>some true
 | .ptr .. | .er _=>some false
 |_=>none
def dV (Rq:Bool) (x:AV):Option Bool:=if Rq then cX x else cY x
def dJ (len:Nat):Option AV->Option Nat
 |none=>some len
 |some (.int _ n)=>if 0<=n/\n<=len then some n.toNat else none
 |_=>none
def dK (h:Nat):Option AV->Option Nat
 |none=>some 0
 |some (.int _ n)=>if 0<=n/\n<=h then some n.toNat else none
 |_=>none
def bK (g:Rows) (sz:Nat) (x:AV) (lo hi:Option AV):Option AV:=
 match x with
 | .cr=>(dJ 0 hi).bind fun h=>(dK h lo).map fun _=>.cr
 | .sl rows=>(dJ rows.length hi).bind fun h=>(dK h lo).bind fun l=>if ∀cs∈rows,cs.length=sz then some (.sl ((rows.drop l).take (h-l)))else none
 | .own id off len=>(g id).bind fun r=>(dJ len hi).bind fun h=>(dK h lo).bind fun l=>if r.sz=sz then some (.own id (off+l) (h-l))else none
 |_=>none
def aU (x:AV) (lo hi:Option AV):Option AV:=
 match x with
 | .str s=>(dJ s.size hi).bind fun h=>(dK h lo).map fun l=>.str (s.extract l h)
 |_=>none
def I9 (off:Nat):AV->Option AV
 | .ptr id i o=>some (.ptr id i (o+off))
 | .er cs=>some (.er (cs.drop off))
 |_=>none
def bJ (g:Rows) (sz:Nat):AV->AV->Option AV
 | .sl rows,.int _ n=>if 0<=n then(rows[n.toNat]?).bind fun cs=>if cs.length=sz then some (.er cs)else none else none
 | .own id off len,.int _ n=>if 0<=n/\n<len then(g id).bind fun r=>if r.sz=sz then some (.ptr id (off+n.toNat) 0)else none else none
 |_,_=>none
def cP (len sz:Nat):AV->AV->Option AV
 | .ptr id r off,.int _ n=>if 0<=n/\n<len then some (.ptr id r (off+n.toNat*sz))else none
 | .er cs,.int _ n=>if 0<=n/\n<len then some (.er (cs.drop (n.toNat*sz)))else none
 |_,_=>none
def cR:AV->AV->Option AV
 | .str s,.int _ n=>if 0<=n then(s[n.toNat]?).map fun b=>.int .u8 b.toNat else none
 |_,_=>none
def cQ (agg:Bool) (len n:Nat):AV->AV->Option AV
 | .agg cs,.int _ i=>if 0<=i/\i<len then part agg n (cs.drop (i.toNat*n))else none
 |_,_=>none
def dS:AV->Option Nat
 | .cr=>some 0
 | .sl rows=>some rows.length
 | .own _ _ n=>some n
 |_=>none
def dW:AV->Option AV
 | .bool b=>some (.bool !b)
 |_=>none
def dU:AV->Option AV
 | .int k n=>some (.int k (k.wrap (0-n)))
 |_=>none
def cL (k:IntKind):AV->Option AV
 | .int _ n=>some (.int k (k.wrap n))
 |_=>none
def bU:AV->Option AV
 | .str s=>some (.str s)
 |_=>none
def cZ:AV->AV->AV->Option AV
 | .bool c,a,b=>some (if c then a else b)
 |_,_,_=>none
def dQ:AV->Option AV
 | .ptr id i o=>some (.ptr id i o)
 | .er cs=>some (.er cs)
 |_=>none
def bI (agg:Bool) (off n:Nat):AV->Option AV
 | .agg cs=>if off+n<=cs.length then part agg n (cs.drop off)else none
 |_=>none
def aA (i:Nat):AV->Option AV
 | .fX vs=>vs[i]?
 |_=>none
def cV:AV->Option AV
 | .str s=>some (.int .i64 s.size)
 |_=>none
def rowOf (sz:Nat) (v:AV):Option (List AV):=if v.cells.length=sz/\v.cells.all AV.cell then some v.cells else none
def cJ (v:AV):Option (List AV):=if v.cells.all AV.cell then some v.cells else none
def rowsOf (sz:Nat):List AV->Option (List (List AV))
 |[]=>some []
 |v::r=>(rowOf sz v).bind fun c=>(rowsOf sz r).map fun cs=>c::cs
def cE:List AV->List (Nat×Nat×AV)->Option (List AV)
 |cs,[]=>some cs
 |cs,(off,n,v)::r=>if v.cells.length=n/\off+n<=cs.length/\v.cells.all AV.cell then cE (cs.take off++v.cells++cs.drop (off+n)) r else none
def dG:Nat:=16777216
def fZ (zero:List K):AV->AV->Option (Nat×Row)
 | .int _ l,.int _ c=>if 0<=l/\l<=c/\c<=dG then some (l.toNat,⟨true,zero.length,List.replicate l.toNat (zero.map K.av)⟩)else none
 |_,_=>none
def yO:Nat:=1000000000
def MK.ks (m:MK):Nat:=m.ts.length
def MK.mC (m:MK):Nat:=yO+m.ks
def AV.isAgg:AV->Bool
 | .agg _=>true
 |_=>false
def iE (m:MK) (key:List AV):List (List AV)->Nat->Option (Option Nat)
 |[],_=>some none
 |r::l,i=>match eU m.ts key (r.take m.ks)with
  |some true=>some (some i)
  |some false=>iE m key l (i+1)
  |none=>none
def dL (g:Rows) (m:MK):AV->Option (Id×Row)
 | .map id m'=>if m'=m then(g id).map fun r=>(id,r)else none
 |_=>none
def iz (m:MK) (k:AV) (rows:List (List AV)):Option (Option Nat):=if k.isAgg=m.ka/\k.cells.length=m.ks/\k.cells.all AV.cell then iE m k.cells rows 0 else none
def dM (m:MK) (z:K) (rows:List (List AV)):Option Nat->Option AV
 |some i=>(rows[i]?).bind fun cs=>cs[m.ks]?
 |none=>some z.av
def bx (q:MQ) (vs:List AV) (g:Rows) (id:Id):Option (AV×Option Row):=
 match q,vs with
 | .new m,[]=>some (.map id m,some ⟨true,m.mC,[]⟩)
 | .look m ok z,[x,k]=>(dL g m x).bind fun p=>(iz m k p.2.rows).bind fun fi=>(dM m z p.2.rows fi).map fun v=>(if ok then .fX [v,.bool fi.isSome]else v,none)
 | .len m,[x]=>(dL g m x).map fun p=>(.int .i64 p.2.rows.length,none)
 |_,_=>none
def uT:Nat:=2000000000
def cW:AV->Option Nat
 | .int _ n=>if 0<=n/\n<=1048576 then some n.toNat else none
 |_=>none
def cU (g:Rows):AV->Option AV
 | .uQ id=>(g id).map fun r=>.int .i64 r.rows.length
 |_=>none
def dY (g:Rows):AV->AV->Option Rows
 | .uQ id,v=>(g id).bind fun r=>if r.w/\uT+r.rows.length<r.sz/\v.cell then some (ck g id {r with rows:=r.rows++[[v]]})else none
 |_,_=>none
def dX (g:Rows):AV->Option (AV×Rows)
 | .uQ id=>(g id).bind fun r=>match r.rows with
  |[v]::rest=>if r.w then some (v,ck g id {r with rows:=rest})else none
  |_=>none
 |_=>none
def dH (rows:List (List AV)) (e:List AV):Option Nat->List (List AV)
 |some i=>rows.set i e
 |none=>rows++[e]
def dI (rows:List (List AV)):Option Nat->List (List AV)
 |some i=>rows.eraseIdx i
 |none=>rows
def bD (q:MW) (vs:List AV) (g:Rows):Option Rows:=
 match q,vs with
 | .set m,[x,k,v]=>(dL g m x).bind fun p=>(iz m k p.2.rows).bind fun fi=>if p.2.w/\v.cell/\v.isAgg=false then some (ck g p.1 {p.2 with rows:=dH p.2.rows (k.cells++[v]) fi})else none
 | .del m,[x,k]=>(dL g m x).bind fun p=>(iz m k p.2.rows).bind fun fi=>if p.2.w then some (ck g p.1 {p.2 with rows:=dI p.2.rows fi})else none
 |_,_=>none
def qD (k:Nat):Id:=⟨999000000+k,0⟩
def fY (g:Rows) (k:Nat):Option AV:=(rowAt g (qD k) 0).bind fun cs=>match cs with
 |[.err j t s]=>if j=k then some (.err k t s)else none
 |_=>none
def eK (o:iT) (ρ:O->AV) (g:Rows) (id:Id):Option (AV×Option Row):=
 match o with
 | .fe x=>some (ρ x,none)
 | .pick c a b=>(cZ (ρ c) (ρ a) (ρ b)).map (·,none)
 | .new zero=>some (.ptr id 0 0,some ⟨true,zero.length,[zero.map K.av]⟩)
 | .box x=>(cJ (ρ x)).map fun cs=>(.ptr id 0 0,some ⟨true,cs.length,[cs]⟩)
 | .build zero parts=>(cE (zero.map K.av) (parts.map fun(o,n,x)=>(o,n,ρ x))).map fun cs=>(.agg cs,none)
 | .ij sz len parts=>(rowsOf sz (parts.map ρ)).map fun rs=>(.own id 0 len,some ⟨true,sz,rs⟩)
 | .load agg n a=>(ld g agg n (ρ a)).map (·,none)
 | .EH x=>(dQ (ρ x)).map (·,none)
 | .bin op _ x y=>(dP op (ρ x) (ρ y)).map (·,none)
 | .sh left x y=>(gh left (ρ x) (ρ y)).map (·,none)
 | .Dl op x y=>(da op (ρ x) (ρ y)).map (·,none)
 | .eqS neg t x y=>(fD t (ρ x) (ρ y)).map fun b=>(.bool (dx neg b),none)
 | .eqA neg ts x y=>match ρ x,ρ y with
  | .agg xs,.agg ys=>(eU ts xs ys).map fun b=>(.bool (dx neg b),none)
  |_,_=>none
 | .Yr neg Rq x=>(dV Rq (ρ x)).map fun b=>(.bool (dx neg b),none)
 | .eqP neg x=>(PH (ρ x)).map fun b=>(.bool (dx neg b),none)
 | .not x=>(dW (ρ x)).map (·,none)
 | .neg x=>(dU (ρ x)).map (·,none)
 | .conv k x=>(cL k (ρ x)).map (·,none)
 | .JA x=>(bU (ρ x)).map (·,none)
 | .slice sz x lo hi=>(bK g sz (ρ x) (lo.map ρ) (hi.map ρ)).map (·,none)
 | .Ep x lo hi=>(aU (ρ x) (lo.map ρ) (hi.map ρ)).map (·,none)
 | .ft off x=>(I9 off (ρ x)).map (·,none)
 | .field agg off n x=>(bI agg off n (ρ x)).map (·,none)
 | .jj sz x i=>(bJ g sz (ρ x) (ρ i)).map (·,none)
 | .Rj len sz x i=>(cP len sz (ρ x) (ρ i)).map (·,none)
 | .Rm x i=>(cR (ρ x) (ρ i)).map (·,none)
 | .eO agg len n x i=>(cQ agg len n (ρ x) (ρ i)).map (·,none)
 | .extract i x=>(aA i (ρ x)).map (·,none)
 | .len x=>(dS (ρ x)).map fun(n:Nat)=>(AV.int .i64 (n:Int),none)
 | .Rz x=>(cV (ρ x)).map (·,none)
 | .RD f ek=>some (.fn f (ek.map ρ),none)
 | .RE f first=>some (.yh f (first.map ρ),none)
 | .oD zero l c=>(fZ zero (ρ l) (ρ c)).map fun(n,r)=>(.own id 0 n,some r)
 | .mq q xs=>bx q (xs.map ρ) g id
 | .OE x=>(cW (ρ x)).map fun n=>(.uQ id,some ⟨true,uT+n,[]⟩)
 | .Ox x=>(cU g (ρ x)).map (·,none)
 | .JJ k=>(fY g k).map (·,none)
 |_=>none
def bq (g:Rows):AV->Option (List (List AV))
 | .cr=>some []
 | .sl rows=>some rows
 | .own id off len=>(g id).bind fun r=>if off+len<=r.rows.length then some ((r.rows.drop off).take len)else none
 |_=>none
def cI (cs:List AV) (off:Nat) (xs:List AV):List AV:=cs.take off++xs++cs.drop (off+xs.length)
def bQ (g:Rows) (n:Nat) (v:AV):AV->Option Rows
 | .ptr id i off=>(g id).bind fun r=>(r.rows[i]?).bind fun cs=>
  if r.w/\v.cells.length=n/\v.cells.all AV.cell/\off+n<=cs.length then some (ck g id {r with rows:=r.rows.set i (cI cs off v.cells)})else none
 |_=>none
def aP (g:Rows) (id:Id) (sz:Nat) (x:AV) (ys:List (List AV)):Option (AV×Rows):=
 match x with
 | .cr=>match ys with
  |[]=>some (.cr,g)
  |y::r=>if (y::r).length<=dG/\(y::r).all (fun c=>c.length==sz&&c.all AV.cell)then some (.own id 0 (y::r).length,ck g id ⟨true,sz,y::r⟩)else none
 | .own i 0 len=>(g i).bind fun r=>
  if r.w/\r.sz=sz/\len=r.rows.length/\len+ys.length<=dG/\ys.all (fun c=>c.length==sz&&c.all AV.cell)then some (.own id 0 (len+ys.length),ck (cq g i) id ⟨true,sz,r.rows++ys⟩)else none
 |_=>none
def Kn (g:Rows) (sz:Nat) (x:AV) (ys:List (List AV)):Option (AV×Rows):=
 match x with
 | .own i off len=>(g i).bind fun r=>
  if r.w/\r.sz=sz/\off+len<=r.rows.length/\ys.all (fun c=>c.length==sz&&c.all AV.cell)then
   some (.int .i64 (min ys.length len:Nat),ck g i {r with rows:=r.rows.take off++ys.take (min ys.length len)++r.rows.drop (off+min ys.length len)})else none
 |_=>none
def bH (g:Rows) (zero:List K) (x:AV):Option Rows:=
 match x with
 | .cr=>some g
 | .own i off len=>(g i).bind fun r=>
  if r.w/\r.sz=zero.length/\off+len<=r.rows.length then
   some (ck g i {r with rows:=r.rows.take off++List.replicate len (zero.map K.av)++r.rows.drop (off+len)})else none
 |_=>none
def fG (o:iT) (ρ:O->AV) (g:Rows) (id:Id):Option (AV×Rows):=
 match o with
 | .store n a x=>(bQ g n (ρ x) (ρ a)).map fun g'=>(.undef,g')
 | .append sz x y=>(bq g (ρ y)).bind fun ys=>aP g id sz (ρ x) ys
 | .copy sz x y=>(bq g (ρ y)).bind fun ys=>Kn g sz (ρ x) ys
 | .clear zero x=>(bH g zero (ρ x)).map fun g'=>(.undef,g')
 | .mw q xs=>(bD q (xs.map ρ) g).map fun g'=>(.undef,g')
 |_=>none
def zI:AV->List AV->Option (Nat×List AV)
 | .fn f ek,l=>some (f,l++ek)
 | .yh f first,l=>some (f,first++l)
 |_,_=>none
abbrev im:=Nat->List AV->aw->(AV->aw->Prop)->Prop
mutual
def fz (g:Rows):Nat->AV->Option AV
 |0,_=>none
 |n+1,a=>match a with
  | .own id off len=>match g id with
   |some r=>if r.w then(if off+len<=r.rows.length then(fm g n ((r.rows.drop off).take len)).map AV.sl else none)else none
   |none=>none
  | .ptr id i off=>match g id with
   |some r=>if r.w then(match r.rows[i]? with
    |some cs=>(eC g n (cs.drop off)).map AV.er
    |none=>none)else none
   |none=>none
  | .agg cs=>(eC g n cs).map AV.agg
  | .fX vs=>(eC g n vs).map AV.fX
  | .fn f ek=>if ek.all AV.cell then(eC g n ek).map (AV.fn f)else none
  | .map _ _| .yh _ _| .uQ _=>none
  |v=>some v
 termination_by n _=>(n,0)
def eC (g:Rows):Nat->List AV->Option (List AV)
 |n,[]=>some []
 |n,a::r=>match fz g n a with
  |some b=>(eC g n r).map (b::·)
  |none=>none
 termination_by n l=>(n,l.length+1)
def fm (g:Rows):Nat->List (List AV)->Option (List (List AV))
 |n,[]=>some []
 |n,c::r=>match eC g n c with
  |some b=>(fm g n r).map (b::·)
  |none=>none
 termination_by n l=>(n,(l.map (fun c=>c.length+2)).sum+1)
 decreasing_by all_goals simp_wf;try omega
end
mutual
def iy (g:Rows):Nat->AV->Option AV
 |0,_=>none
 |n+1,a=>match a with
  | .own id off len=>match g id with
   |some r=>if r.w then(if off+len<=r.rows.length then(iK g n ((r.rows.drop off).take len)).map AV.sl else none)else none
   |none=>none
  | .ptr id i off=>match g id with
   |some r=>if r.w then(match r.rows[i]? with
    |some cs=>(fA g n (cs.drop off)).map AV.er
    |none=>none)else none
   |none=>none
  | .agg cs=>(fA g n cs).map AV.agg
  | .fX vs=>(fA g n vs).map AV.fX
  | .int k m=>some (.int k m)
  | .bool b=>some (.bool b)
  | .str s=>some (.str s)
  | .cr=>some .cr
  | .jn=>some .jn
  | .j9=>some .j9
  | .kC=>some .kC
  | .jS=>some .jS
  |_=>none
 termination_by n _=>(n,0)
def fA (g:Rows):Nat->List AV->Option (List AV)
 |n,[]=>some []
 |n,a::r=>match iy g n a with
  |some b=>(fA g n r).map (b::·)
  |none=>none
 termination_by n l=>(n,l.length+1)
def iK (g:Rows):Nat->List (List AV)->Option (List (List AV))
 |n,[]=>some []
 |n,c::r=>match fA g n c with
  |some b=>(iK g n r).map (b::·)
  |none=>none
 termination_by n l=>(n,(l.map (fun c=>c.length+2)).sum+1)
 decreasing_by all_goals simp_wf;try omega
end
def ez (g:Rows):Rows:=fun id=>(g id).map fun r=>{r with w:=true}
def PC (X:im) (f:Nat) (args:List AV) (σ:aw) (K:AV->Prop):Prop:=
 X f args ⟨ro σ.get,σ.next⟩ fun r σ'=>∃r',fz σ'.get 6 r=some r'/\K r'
def PCv (X:im) (f:Nat) (args:List AV) (σ:aw) (K:AV->Prop):Prop:=
 ∃args',eC (ez σ.get) 6 args=some args'/\X f args' ⟨fun _=>none,σ.next⟩ fun r σ'=>∃r',iy σ'.get 6 r=some r'/\K r'
def fB (X:im) (f:Nat) (args:List AV) (σ:aw) (K:AV->Prop):Prop:=PC X f args σ K∨PCv X f args σ K
def aD (g:Option (Nat×Bool)) (env:Env):Bool:=
 match g with
 |none=>true
 |some (t,b)=>match env t with
  | .bool c=>c==b
  |_=>false
def AV.plain:AV->Bool
 | .int .. | .bool _| .str _| .cr| .jn| .j9| .kC| .jS=>true
 |_=>false
def CM (X:im) (f:Nat) (args:List AV) (σ:aw) (sz:Nat) (rows:List (List AV)):Prop:=
 (∀c∈rows,∀a∈c,a.plain=true)/\∃args',eC (ez σ.get) 6 args=some args'/\X f args' ⟨fun _=>none,σ.next⟩ fun r σ'=>∃id,r=.own id 0 rows.length/\σ'.get id=some ⟨true,sz,rows⟩
def cH (X:im) (draw:Bool) (hid:List Nat) (site:Nat) (f:Nat) (args:List AV) (σ:aw) (next:AV->aw->Prop):Prop:=
 (∃r,fB X f args ⟨fF hid σ.next σ.get,σ.next+1⟩ (fun r'=>r'=r)/\next r σ)∨
 (draw=false/\X f args ⟨σ.get,σ.next+1⟩ next)∨
 (hid.contains site=true/\∃sz rows,CM X f args ⟨fF hid σ.next σ.get,σ.next+1⟩ sz rows/\next (.own ⟨site,σ.next⟩ 0 rows.length) ⟨ck σ.get ⟨site,σ.next⟩ ⟨true,sz,rows⟩,σ.next⟩)
def fx (X:im) (draw:Bool) (o:bY) (env:Env) (σ:aw) (next:AV->aw->Prop):Prop:=
 match o.op with
 | .call f args=>cH X draw o.hid o.site f (args.map (dz env)) σ next
 | .xQ x args=>match dz env x with
  | .fn f ek=>cH X draw o.hid o.site f (args.map (dz env)++ek) σ next
  | .yh f first=>cH X draw o.hid o.site f (first++args.map (dz env)) σ next
  |_=>False
 | .store .. | .append .. | .copy .. | .clear .. | .mw .. =>match fG o.op (dz env) σ.get ⟨o.site,σ.next⟩with
  |some (v,g)=>next v ⟨g,σ.next⟩
  |none=>False
 |_=>match eK o.op (dz env) (fF o.hid σ.next σ.get) ⟨o.site,σ.next⟩with
  |some (v,some r)=>next v ⟨ck σ.get ⟨o.site,σ.next⟩ r,σ.next⟩
  |some (v,none)=>next v σ
  |none=>False
def wpOps (X:im) (draw:Bool):List bY->(Env->aw->Prop)->Env->aw->Prop
 |[],K,env,σ=>K env ⟨σ.get,σ.next+1⟩
 |o::r,K,env,σ=>
  if aD o.guard env then fx X draw o env σ fun v σ'=>wpOps X draw r K (upd env o.dst v) σ'
  else wpOps X draw r K (upd env o.dst .undef) σ
def cD:List bY->(Env->aw->Prop)->Env->aw->Prop
 |[],K,env,σ=>K env ⟨σ.get,σ.next+1⟩
 |o::r,K,env,σ=>o.guard=none/\match o.op with
  | .snd x y=>match dY σ.get (dz env x) (dz env y)with
   |some g=>cD r K (upd env o.dst .undef) ⟨g,σ.next⟩
   |none=>False
  | .V1 x=>match dX σ.get (dz env x)with
   |some (v,g)=>cD r K (upd env o.dst v) ⟨g,σ.next⟩
   |none=>False
  |op=>match eK op (dz env) σ.get ⟨o.site,σ.next⟩with
   |some (v,none)=>cD r K (upd env o.dst v) σ
   |_=>False
def dr (next:Env->aw->Prop) (Q:Ex->Env->aw->Prop):Ex->Env->aw->Prop
 | .normal=>next
 |e=>Q e
def bd (id:Nat) (Q:Ex->Env->aw->Prop):Ex->Env->aw->Prop
 | .exit lz=>if lz=id then Q .normal else Q (.exit lz)
 |e=>Q e
def J0 (W:(Ex->Env->aw->Prop)->Env->aw->Prop) (Q:Ex->Env->aw->Prop):Nat->Env->aw->Prop
 |0=>fun _ _=>False
 |n+1=>W (dr (J0 W Q n) Q)
def RA (t s:Nat) (y:O) (env:Env) (n:Nat):Prop:=(∃len,env t=.own ⟨s,n⟩ 0 len)/\∀id o l,dz env y=.own id o l->id.bt≠n
def eu (X:im):VC->(Ex->Env->aw->Prop)->Env->aw->Prop
 | .skip,Q=>Q .normal
 | .ib draw ops,Q=>wpOps X draw ops (Q .normal)
 | .seq a b,Q=>eu X a (dr (eu X b Q) Q)
 | .cond c x y,Q=>fun env σ=>match dz env c with
  | .bool b=>if b then eu X x Q env σ else eu X y Q env σ
  |_=>False
 | .block id c,Q=>eu X c (bd id Q)
 | .loop c,Q=>fun env σ=>∃n,J0 (eu X c) Q n env σ
 | .exit id,Q=>Q (.exit id)
 | .ret,Q=>Q .ret
 | .one o c,Q=>fun env σ=>if aD o.guard env then fx X false o env σ fun v σ'=>eu X c Q (upd env o.dst v) σ' else eu X c Q (upd env o.dst .undef) σ
 | .both a b,Q=>fun env σ=>eu X a Q env σ/\eu X b Q env σ
 | .loc t s y c,Q=>fun env σ=>RA t s y env σ.next/\eu X c Q env σ
 | .Ui ops,Q=>cD ops (Q .normal)
def jP (env:Env) (g:Rows):sV->Option AV
 | .tmp t=>some (env t)
 | .cell agg n t=>ld g agg n (env t)
def iA (env:Env) (g:Rows):List sV->Option (List AV)
 |[]=>some []
 |r::l=>(jP env g r).bind fun v=>(iA env g l).map (v::·)
def iF:List AV->AV
 |[v]=>v
 |l=>.fX l
def cw (args:List AV):Env:=fun t=>args.getD t .undef
def oM (res:List sV) (K:AV->aw->Prop):Ex->Env->aw->Prop
 | .exit _,_,_=>False
 |_,env,σ=>∃vs,iA env σ.get res=some vs/\K (iF vs) σ
inductive lO (P:Program) (w:World) (D:Nat->Prop):AV->Value->Prop
 |int (k n):lO P w D (.int k n) (.int k n)
 |bool (b):lO P w D (.bool b) (.bool b)
 |str (s):lO P w D (.str s) (.string s)
 |cr:lO P w D .cr (.slice none 0 0)
 |jn:lO P w D .jn (.pointer none)
 |j9:lO P w D .j9 .nilFunc
 |ES (a c):c<=maxLen->lO P w D (.sl []) (.slice a 0 c)
 |sl (rows b o n c sz) (vs:Nat->Nat->Value):rows.length=n->n<=c->c<=maxLen->D b->(∀cs∈rows,cs.length=sz)->(∀cs∈rows,∀a∈cs,a.cell=true)->
   (∀i j,i<n->j<sz->w.cell? ⟨b,o+(i*sz+j),none⟩=some (vs i j))->
   (∀i j cs a,rows[i]? =some cs->cs[j]? =some a->lO P w D a (vs i j))->lO P w D (.sl rows) (.slice (some ⟨b,o,none⟩) n c)
 |er (cs b o) (vs:Nat->Value):D b->(∀a∈cs,a.cell=true)->(∀j,j<cs.length->w.cell? ⟨b,o+j,none⟩=some (vs j))->
   (∀j a,cs[j]? =some a->lO P w D a (vs j))->lO P w D (.er cs) (.pointer (some ⟨b,o,none⟩))
 |agg (cs) (vs:Array Value) (f:Nat->Value):vs.size=cs.length->(∀a∈cs,a.cell=true)->(∀j,j<cs.length->vs[j]? =some (f j))->(∀j a,cs[j]? =some a->lO P w D a (f j))->lO P w D (.agg cs) (.agg vs)
 |fn (f ek) (vs:Array Value) (g:Nat->Value):iw P f=true->vs.size=ek.length->(∀j,j<ek.length->vs[j]? =some (g j))->(∀j a,ek[j]? =some a->lO P w D a (g j))->lO P w D (.fn f ek) (.func (.func f) #[] vs)
 |kC:lO P w D .kC (.map none)
 |jS:lO P w D .jS .nilIface
 |err (g t s a c ty):D g->w.cell? ⟨g,0,none⟩=some (.iface t (.pointer (some a)))->D a.block->w.heap[a.block]? =some (.cells c ty (0,0))->w.cell? a=some (.string s)->lO P w D (.err g t s) (.iface t (.pointer (some a)))
inductive BK where
 |map (m:MK)
 |chan (cap:Nat)
structure wL where
 b:Nat
 sz:Nat
 C:Nat
 k:Option BK
abbrev Names:=Id->Option wL
inductive dZ (P:Program) (w:World) (D:Nat->Prop) (ι:Names):AV->Value->Prop
 |fq (a v):lO P w D a v->dZ P w D ι a v
 |own (id off len o cap B):ι id=some B->B.k=none->len<=cap->(cap=0∨o=off*B.sz)->(off+cap)*B.sz<=B.C->cap<=maxLen->dZ P w D ι (.own id off len) (.slice (some ⟨B.b,o,none⟩) len cap)
 |ptr (id i off B):ι id=some B->B.k=none->dZ P w D ι (.ptr id i off) (.pointer (some ⟨B.b,i*B.sz+off,none⟩))
 |agg (cs) (vs:Array Value) (f:Nat->Value):vs.size=cs.length->(∀a∈cs,a.cell=true)->(∀j,j<cs.length->vs[j]? =some (f j))->(∀j a,cs[j]? =some a->dZ P w D ι a (f j))->dZ P w D ι (.agg cs) (.agg vs)
 |fX (cs) (vs:Array Value) (f:Nat->Value):vs.size=cs.length->(∀j,j<cs.length->vs[j]? =some (f j))->(∀j a,cs[j]? =some a->dZ P w D ι a (f j))->dZ P w D ι (.fX cs) (.tuple vs)
 |fn (f ek) (vs:Array Value) (g:Nat->Value):iw P f=true->vs.size=ek.length->(∀j,j<ek.length->vs[j]? =some (g j))->(∀j a,ek[j]? =some a->dZ P w D ι a (g j))->dZ P w D ι (.fn f ek) (.func (.func f) #[] vs)
 |uQ (id c B):ι id=some B->B.k=some (.chan c)->dZ P w D ι (.uQ id) (.chan (some B.b))
 |map (id m B):ι id=some B->B.k=some (.map m)->dZ P w D ι (.map id m) (.map (some B.b))
 |yh (f ek) (vs:Array Value) (g:Nat->Value):iw P f=true->vs.size=ek.length->(∀j,j<ek.length->vs[j]? =some (g j))->(∀j a,ek[j]? =some a->dZ P w D ι a (g j))->dZ P w D ι (.yh f ek) (.func (.func f) vs #[])
variable {P:Program} {w w':World} {D D':Nat->Prop} {ι ι':Names}
theorem lO.frame (hD:∀b,D b->w'.heap[b]? =w.heap[b]?) (hs:∀b,D b->D' b) {a:AV} {v:Value} (h:lO P w D a v):lO P w' D' a v:=by
 induction h with
 |int k n=>exact .int k n
 |bool b=>exact .bool b
 |str s=>exact .str s
 |cr=>exact .cr
 |jn=>exact .jn
 |j9=>exact .j9
 |kC=>exact .kC
 |jS=>exact .jS
 |err g t s a c ty h1 h2 h3 h4 h5=>exact .err g t s a c ty (hs g h1) ((World.cell?_of_block (hD g h1)).trans h2) (hs _ h3) ((hD _ h3).trans h4) ((World.cell?_of_block (hD _ h3)).trans h5)
 |ES a c h=>exact .ES a c h
 |sl rows b o n c sz vs h1 h2 h3 h4 h5 h5' h6 _ ih=>exact .sl rows b o n c sz vs h1 h2 h3 (hs b h4) h5 h5' (fun i j hi hj=>(World.cell?_of_block (hD b h4)).trans (h6 i j hi hj)) ih
 |er cs b o vs h1 UC h2 _ ih=>exact .er cs b o vs (hs b h1) UC (fun j hj=>(World.cell?_of_block (hD b h1)).trans (h2 j hj)) ih
 |agg cs vs f h1 h2 h3 _ ih=>exact .agg cs vs f h1 h2 h3 ih
 |fn f ek vs g h1 h2 h3 _ ih=>exact .fn f ek vs g h1 h2 h3 ih
theorem dZ.frame (hD:∀b,D b->w'.heap[b]? =w.heap[b]?) (hs:∀b,D b->D' b) (hι:∀id B,ι id=some B->ι' id=some B) {a:AV} {v:Value} (h:dZ P w D ι a v):dZ P w' D' ι' a v:=by
 induction h with
 |fq a v h=>exact .fq a v (h.frame hD hs)
 |map id m B h1 h2=>exact .map id m B (hι _ _ h1) h2
 |uQ id c B h1 h2=>exact .uQ id c B (hι _ _ h1) h2
 |own id off len o cap B h1 h2 h3 h4 h5 h6=>exact .own id off len o cap B (hι _ _ h1) h2 h3 h4 h5 h6
 |ptr id i off B h1 h2=>exact .ptr id i off B (hι _ _ h1) h2
 |agg cs vs f h1 h2 h3 _ ih=>exact .agg cs vs f h1 h2 h3 ih
 |fX cs vs f h1 h2 _ ih=>exact .fX cs vs f h1 h2 ih
 |fn f ek vs g h1 h2 h3 _ ih=>exact .fn f ek vs g h1 h2 h3 ih
 |yh f ek vs g h1 h2 h3 _ ih=>exact .yh f ek vs g h1 h2 h3 ih
theorem dZ.undef:dZ P w D ι .undef Go.undef:=.fX [] #[] (fun _=>Go.undef) rfl (fun j hj=>by simp at hj) (fun j a h=>by simp at h)
theorem AU (c:K):dZ P w D ι c.av c.val:=by
 cases c with
 |int k n=>exact .fq _ _ (.int k n)
 |bool b=>exact .fq _ _ (.bool b)
 |str l=>exact .fq _ _ (.str _)
 |cr=>exact .fq _ _ .cr
 |jn=>exact .fq _ _ .jn
 |j9=>exact .fq _ _ .j9
 |kC=>exact .fq _ _ .kC
 |jS=>exact .fq _ _ .jS
theorem K.pI (c:K):c.av.cell=true:=by cases c<;>rfl
theorem DR {v:Value} {c:K} (h:Lh v=some c):v=c.val:=by
 unfold Lh at h
 split at h<;>simp at h<;>subst h<;>rfl
theorem dZ.Fk {a:AV} {v:Value} (h:dZ P w D ι a v) (hc:a.cell=true):v.cells= #[v]/\(∀vs,v≠.agg vs)/\(∀vs,v≠.tuple vs):=by
 cases h with
 |fq a v h=>cases h<;>simp_all [AV.cell,Value.cells]
 |own=>simp[Value.cells]
 |map=>simp[Value.cells]
 |uQ=>simp[Value.cells]
 |ptr=>simp[Value.cells]
 |agg=>simp[AV.cell]at hc
 |fX=>simp[AV.cell]at hc
 |fn=>simp[Value.cells]
 |yh=>simp[Value.cells]
theorem dZ.cells {a:AV} {v:Value} (h:dZ P w D ι a v) (ha:a.cells.all AV.cell=true):v.cells.size=a.cells.length/\∃f:Nat->Value,(∀j,j<a.cells.length->v.cells[j]? =some (f j))/\∀j x,a.cells[j]? =some x->dZ P w D ι x (f j):=by
 have one:∀(a:AV) (v:Value),a.cell=true->a.cells=[a]->dZ P w D ι a v->v.cells.size=a.cells.length/\∃f:Nat->Value,(∀j,j<a.cells.length->v.cells[j]? =some (f j))/\∀j x,a.cells[j]? =some x->dZ P w D ι x (f j):=by
  intro a v hc eD h
  obtain⟨h1,_,_⟩:=h.Fk hc
  rw[h1,eD]
  refine⟨rfl,fun _=>v,fun j hj=>?_,fun j x hx=>?_⟩
  ·have:j=0:=by simp at hj;omega
   subst this;rfl
  ·cases j with
   |zero=>simp at hx;subst hx;exact h
   |succ j=>simp at hx
 cases h with
 |fq a v h=>
  cases h with
  |agg cs vs f h1 h2 h3 h4=>exact⟨h1,f,h3,fun j x hx=>.fq _ _ (h4 j x hx)⟩
  |_=>exact one _ _ rfl rfl (.fq _ _ (by constructor<;>assumption))
 |own id off len o cap B h1 h2 h3 h4 h5 h6=>exact one _ _ rfl rfl (.own id off len o cap B h1 h2 h3 h4 h5 h6)
 |ptr id i off B h1 h2=>exact one _ _ rfl rfl (.ptr id i off B h1 h2)
 |map id m B h1 h2=>exact one _ _ rfl rfl (.map id m B h1 h2)
 |uQ id c B h1 h2=>exact one _ _ rfl rfl (.uQ id c B h1 h2)
 |agg cs vs f h1 h2 h3 h4=>exact⟨h1,f,h3,h4⟩
 |fX cs vs f h1 h2 h3=>simp[AV.cells,AV.cell]at ha
 |fn f ek vs g h1 h2 h3 h4=>exact one _ _ rfl rfl (.fn f ek vs g h1 h2 h3 h4)
 |yh f ek vs g h1 h2 h3 h4=>exact one _ _ rfl rfl (.yh f ek vs g h1 h2 h3 h4)
structure mo (P:Program) (w:World) (D:Nat->Prop) (ι:Names) (B:wL) (r:Row):Prop where
 sz:B.sz=r.sz
 wE:∃cells T,w.heap[B.b]? =some (.cells cells T (0,0))/\cells.size=B.C
 fits:r.rows.length*r.sz<=B.C
 len:∀cs∈r.rows,cs.length=r.sz
 flat:∀cs∈r.rows,∀a∈cs,a.cell=true
 at_:∀i j cs a,r.rows[i]? =some cs->cs[j]? =some a->∃v,w.cell? ⟨B.b,i*r.sz+j,none⟩=some v/\dZ P w D ι a v
def Jp (es:Array MapEntry) (clock:Nat):Prop:=(∀x∈es.toList,x.born<clock)/\(es.toList.map (·.born)).Nodup
def SK (P:Program) (w:World) (D:Nat->Prop) (ι:Names) (B:wL) (m:MK) (r:Row):Prop:=
 ∃(es:Array MapEntry) (clock:Nat),w.heap[B.b]? =some (.map es clock)/\es.size=r.rows.length/\((∀cs∈r.rows,cs.length=m.ks+1)/\Jp es clock)/\
  ∀(i:Nat) (cs:List AV),r.rows[i]? =some cs->∃(e:MapEntry) (kv vv:AV),es[i]? =some e/\part m.ka m.ks cs=some kv/\cs[m.ks]? =some vv/\dZ P w D ι kv e.key/\dZ P w D ι vv e.val
def MF (P:Program) (w:World) (D:Nat->Prop) (ι:Names) (B:wL) (c:Nat) (r:Row):Prop:=
 ∃(buf:Array Value) (s q:Nat),w.heap[B.b]? =some (.chan c buf false s q false)/\buf.size=r.rows.length/\
  ∀(i:Nat) (cs:List AV),r.rows[i]? =some cs->∃(a:AV) (u:Value),cs=[a]/\buf[i]? =some u/\dZ P w D ι a u
structure jg (P:Program) (w:World) (D:Nat->Prop) (ι:Names) (B:wL) (r:Row):Prop where
 sz:B.sz=r.sz
 flat:∀cs∈r.rows,∀a∈cs,a.cell=true
 row:B.k=none->mo P w D ι B r
 map:∀m,B.k=some (.map m)->r.sz=m.mC/\SK P w D ι B m r
 chan:∀c,B.k=some (.chan c)->r.sz=uT+c/\MF P w D ι B c r
theorem mo.obj {B:wL} {r:Row} (R:mo P w D ι B r) (h:B.k=none):jg P w D ι B r:=⟨R.sz,R.flat,fun _=>R,fun m hm=>(by rw[h]at hm;cases hm),fun m hm=>by rw[h]at hm;cases hm⟩
theorem jg.flag {B:wL} {r:Row} (R:jg P w D ι B r) (b:Bool):jg P w D ι B {r with w:=b}:=⟨R.sz,R.flat,fun h=>⟨R.sz,(R.row h).wE,(R.row h).fits,(R.row h).len,R.flat,(R.row h).at_⟩,R.map,R.chan⟩
theorem jg.RJ {B:wL} {r:Row} (R:jg P w D ι B r) {c:Array Value} {T:TypeId} {z:Nat×Nat} (h:w.heap[B.b]? =some (.cells c T z)):B.k=none:=by
 cases hk:B.k with
 |none=>rfl
 |some m=>
  cases m with
  |map m=>obtain⟨_,es,c,h3,_⟩:=R.map m hk;rw[h]at h3;cases h3
  |chan c=>obtain⟨_,buf,s,q,h3,_⟩:=R.chan c hk;rw[h]at h3;cases h3
theorem jg.lt {B:wL} {r:Row} (R:jg P w D ι B r):B.b<w.heap.size:=by
 cases h:B.k with
 |none=>
  obtain⟨c,T,h3,_⟩:=(R.row h).wE
  exact(Array.getElem?_eq_some_iff.1 h3).1
 |some m=>
  cases m with
  |map m=>obtain⟨_,es,c,h3,_⟩:=R.map m h;exact(Array.getElem?_eq_some_iff.1 h3).1
  |chan c=>obtain⟨_,buf,s,q,h3,_⟩:=R.chan c h;exact(Array.getElem?_eq_some_iff.1 h3).1
structure iD (P:Program) (hs:Nat) (D:Nat->Prop) (ι:Names) (g:Rows) (w:World):Prop where
 lo:hs<=w.heap.size
 dead:∀b,D b->b<w.heap.size
 row:∀id r,g id=some r->∃B,ι id=some B/\jg P w D ι B r/\(r.w=true->hs<=B.b)/\(r.w=true->¬D B.b)
 inj:∀id lz r r' B B',g id=some r->g lz=some r'->r.w=true->ι id=some B->ι lz=some B'->B.b=B'.b->id=lz
def Used (ι:Names) (n:Nat) (U:Nat->Prop):Prop:=∀id,ι id≠none->id.bt<n∨(id.bt=n/\U id.site)
structure Step (hs:Nat) (D:Nat->Prop) (ι:Names) (w:World) (D':Nat->Prop) (ι':Names) (w':World):Prop where
 below:Below hs w w'
 s7:∀b,D b->w'.heap[b]? =w.heap[b]?
 dead:∀b,D b->D' b
 names:∀id B,ι id=some B->ι' id=some B
 new:∀b,D' b->D b∨hs<=b
theorem Step.refl (hs:Nat) (D:Nat->Prop) (ι:Names) (w:World):Step hs D ι w D ι w:=⟨Below.refl _ _,fun _ _=>rfl,fun _ h=>h,fun _ _ h=>h,fun _ h=>.inl h⟩
theorem Step.trans {hs:Nat} {D D' D'':Nat->Prop} {ι ι' ι'':Names} {w w' Qj:World} (h:Step hs D ι w D' ι' w') (k:Step hs D' ι' w' D'' ι'' Qj):Step hs D ι w D'' ι'' Qj:=
 ⟨h.below.trans k.below,fun b hb=>(k.s7 b (h.dead b hb)).trans (h.s7 b hb),fun b hb=>k.dead b (h.dead b hb),fun id B hB=>k.names id B (h.names id B hB),fun b hb=>by
  rcases k.new b hb with hb|hb
  ·exact h.new b hb
  ·exact .inr hb⟩
theorem Step.rep {hs:Nat} {D D':Nat->Prop} {ι ι':Names} {w w':World} (h:Step hs D ι w D' ι' w') {a:AV} {v:Value} (hr:dZ P w D ι a v):dZ P w' D' ι' a v:=hr.frame h.s7 h.dead h.names
theorem ev {k n} {v:Value} (h:dZ P w D ι (.int k n) v):v=.int k n:=by
 cases h with
 |fq _ _ h=>cases h;rfl
theorem gH {b} {v:Value} (h:dZ P w D ι (.bool b) v):v=.bool b:=by
 cases h with
 |fq _ _ h=>cases h;rfl
theorem ik {s} {v:Value} (h:dZ P w D ι (.str s) v):v=.string s:=by
 cases h with
 |fq _ _ h=>cases h;rfl
theorem jX {v:Value} (h:dZ P w D ι .cr v):v=.slice none 0 0:=by
 cases h with
 |fq _ _ h=>cases h;rfl
theorem AX {v:Value} (h:dZ P w D ι .j9 v):v=.nilFunc:=by
 cases h with
 |fq _ _ h=>cases h;rfl
theorem jG {cs} {v:Value} (h:dZ P w D ι (.agg cs) v):∃(vs:Array Value) (f:Nat->Value),v=.agg vs/\vs.size=cs.length/\(∀a∈cs,a.cell=true)/\(∀j,j<cs.length->vs[j]? =some (f j))/\∀j a,cs[j]? =some a->dZ P w D ι a (f j):=by
 cases h with
 |fq _ _ h=>
  cases h with
  |agg cs vs f h1 h2 h3 h4=>exact⟨vs,f,rfl,h1,h2,h3,fun j a h=>.fq _ _ (h4 j a h)⟩
 |agg cs vs f h1 h2 h3 h4=>exact⟨vs,f,rfl,h1,h2,h3,h4⟩
theorem zi {cs} {v:Value} (h:dZ P w D ι (.fX cs) v):∃(vs:Array Value) (f:Nat->Value),v=.tuple vs/\vs.size=cs.length/\(∀j,j<cs.length->vs[j]? =some (f j))/\∀j a,cs[j]? =some a->dZ P w D ι a (f j):=by
 cases h with
 |fq _ _ h=>cases h
 |fX cs vs f h1 h2 h3=>exact⟨vs,f,rfl,h1,h2,h3⟩
theorem xC {f ek} {v:Value} (h:dZ P w D ι (.fn f ek) v):∃(vs:Array Value) (g:Nat->Value),v=.func (.func f) #[] vs/\iw P f=true/\vs.size=ek.length/\(∀j,j<ek.length->vs[j]? =some (g j))/\∀j a,ek[j]? =some a->dZ P w D ι a (g j):=by
 cases h with
 |fq _ _ h=>
  cases h with
  |fn f ek vs g h1 h2 h3 h4=>exact⟨vs,g,rfl,h1,h2,h3,fun j a h=>.fq _ _ (h4 j a h)⟩
 |fn f ek vs g h1 h2 h3 h4=>exact⟨vs,g,rfl,h1,h2,h3,h4⟩
theorem O3 {v:Value} (h:dZ P w D ι .jn v):v=.pointer none:=by
 cases h with
 |fq _ _ h=>cases h;rfl
theorem GM {v:Value} (h:dZ P w D ι .kC v):v=.map none:=by
 cases h with
 |fq _ _ h=>cases h;rfl
theorem AW {v:Value} (h:dZ P w D ι .jS v):v=.nilIface:=by
 cases h with
 |fq _ _ h=>cases h;rfl
theorem sG {g t s} {v:Value} (h:dZ P w D ι (.err g t s) v):∃a c ty,v=.iface t (.pointer (some a))/\D g/\w.cell? ⟨g,0,none⟩=some v/\D a.block/\w.heap[a.block]? =some (.cells c ty (0,0))/\w.cell? a=some (.string s):=by
 cases h with
 |fq _ _ h=>cases h with
  |err _ _ _ a c ty h1 h2 h3 h4 h5=>exact⟨a,c,ty,rfl,h1,h2,h3,h4,h5⟩
theorem R3 {f ek} {v:Value} (h:dZ P w D ι (.yh f ek) v):∃(vs:Array Value) (g:Nat->Value),v=.func (.func f) vs #[]/\iw P f=true/\vs.size=ek.length/\(∀j,j<ek.length->vs[j]? =some (g j))/\∀j a,ek[j]? =some a->dZ P w D ι a (g j):=by
 cases h with
 |fq _ _ h=>cases h
 |yh f ek vs g h1 h2 h3 h4=>exact⟨vs,g,rfl,h1,h2,h3,h4⟩
theorem jH {id off len} {v:Value} (h:dZ P w D ι (.own id off len) v):∃o cap B,v=.slice (some ⟨B.b,o,none⟩) len cap/\ι id=some B/\len<=cap/\(cap=0∨o=off*B.sz)/\(off+cap)*B.sz<=B.C/\cap<=maxLen/\B.k=none:=by
 cases h with
 |fq _ _ h=>cases h
 |own id off len o cap B h1 h2 h3 h4 h5 h6=>exact⟨o,cap,B,rfl,h1,h3,h4,h5,h6,h2⟩
theorem jw {id i off} {v:Value} (h:dZ P w D ι (.ptr id i off) v):∃B,v=.pointer (some ⟨B.b,i*B.sz+off,none⟩)/\ι id=some B/\B.k=none:=by
 cases h with
 |fq _ _ h=>cases h
 |ptr id i off B h1 h2=>exact⟨B,rfl,h1,h2⟩
theorem RZ {id} {v:Value} (h:dZ P w D ι (.uQ id) v):∃B c,v=.chan (some B.b)/\ι id=some B/\B.k=some (.chan c):=by
 cases h with
 |fq _ _ h=>cases h
 |uQ id c B h1 h2=>exact⟨B,c,rfl,h1,h2⟩
theorem Ef {id m} {v:Value} (h:dZ P w D ι (.map id m) v):∃B,v=.map (some B.b)/\ι id=some B/\B.k=some (.map m):=by
 cases h with
 |fq _ _ h=>cases h
 |map id m B h1 h2=>exact⟨B,rfl,h1,h2⟩
theorem nD {cs} {v:Value} (h:dZ P w D ι (.er cs) v):∃b o,∃vs:Nat->Value,v=.pointer (some ⟨b,o,none⟩)/\D b/\(∀a∈cs,a.cell=true)/\(∀j,j<cs.length->w.cell? ⟨b,o+j,none⟩=some (vs j))/\∀j a,cs[j]? =some a->lO P w D a (vs j):=by
 cases h with
 |fq _ _ h=>
  cases h with
  |er cs b o vs h1 h2 h3 h4=>exact⟨b,o,vs,rfl,h1,h2,h3,h4⟩
theorem AY {rows} {v:Value} (h:dZ P w D ι (.sl rows) v):∃A c,v=.slice A rows.length c/\rows.length<=c/\c<=maxLen/\
  (rows=[]∨∃b o sz,∃vs:Nat->Nat->Value,A=some ⟨b,o,none⟩/\D b/\(∀cs∈rows,cs.length=sz)/\(∀cs∈rows,∀a∈cs,a.cell=true)/\
   (∀i j,i<rows.length->j<sz->w.cell? ⟨b,o+(i*sz+j),none⟩=some (vs i j))/\∀i j cs a,rows[i]? =some cs->cs[j]? =some a->lO P w D a (vs i j)):=by
 cases h with
 |fq _ _ h=>
  cases h with
  |ES a c h=>exact⟨a,c,rfl,Nat.zero_le _,h,.inl rfl⟩
  |sl rows b o n c sz vs h1 h2 h3 h4 h5 h5' h6 h7=>subst h1;exact⟨_,c,rfl,h2,h3,.inr ⟨b,o,sz,vs,rfl,h4,h5,h5',h6,h7⟩⟩
inductive fP:AV->Prop
 |int (k n):fP (.int k n)
 |bool (b):fP (.bool b)
 |str (s):fP (.str s)
 |cr:fP .cr
 |jn:fP .jn
 |j9:fP .j9
 |sl (rows):rows.length<=maxLen->(∀cs∈rows,∀a∈cs,fP a)->fP (.sl rows)
 |own (id off len):fP (.own id off len)
 |ptr (id i off):fP (.ptr id i off)
 |er (cs):(∀a∈cs,fP a)->fP (.er cs)
 |agg (cs):(∀a∈cs,fP a)->fP (.agg cs)
 |fX (cs):(∀a∈cs,fP a)->fP (.fX cs)
 |fn (f ek):(∀a∈ek,fP a)->fP (.fn f ek)
 |map (id m):fP (.map id m)
 |uQ (id):fP (.uQ id)
 |kC:fP .kC
 |jS:fP .jS
 |err (g t s):fP (.err g t s)
 |yh (f ek):(∀a∈ek,fP a)->fP (.yh f ek)
theorem fP.len {rows:List (List AV)} (h:fP (.sl rows)):rows.length<=9223372036854775807:=by
 cases h with
 |sl _ h _=>unfold maxLen at h;omega
theorem fP.T5 {cs:List AV} (h:fP (.agg cs)) {a:AV} (ha:a∈cs):fP a:=by
 cases h with
 |agg _ h=>exact h a ha
theorem fP.Gd {cs:List AV} (h:fP (.er cs)) {a:AV} (ha:a∈cs):fP a:=by
 cases h with
 |er _ h=>exact h a ha
theorem rH {l:List AV} {p:AV->Prop} (h:∀(j:Nat) (a:AV),l[j]? =some a->p a):∀a∈l,p a:=fun a ha=>by
 obtain⟨j,hj,rfl⟩:=List.getElem_of_mem ha
 exact h j _ (List.getElem?_eq_getElem hj)
theorem lO.Ow {a:AV} {v:Value} (h:lO P w D a v):fP a:=by
 induction h with
 |int k n=>exact .int k n
 |bool b=>exact .bool b
 |str s=>exact .str s
 |cr=>exact .cr
 |jn=>exact .jn
 |j9=>exact .j9
 |kC=>exact .kC
 |jS=>exact .jS
 |err g t s=>exact .err g t s
 |ES a c h=>exact .sl [] (Nat.zero_le _) (fun cs h=>by cases h)
 |sl rows b o n c sz vs h1 h2 h3 h4 h5 h5' h6 _ ih=>
  exact .sl rows ad fun cs eD a ha=>by
   obtain⟨i,hi,rfl⟩:=List.getElem_of_mem eD
   obtain⟨j,hj,rfl⟩:=List.getElem_of_mem ha
   exact ih i j _ _ (List.getElem?_eq_getElem hi) (List.getElem?_eq_getElem hj)
 |er cs b o vs h1 UC h2 _ ih=>exact .er cs (rH ih)
 |agg cs vs f h1 h2 h3 _ ih=>exact .agg cs (rH ih)
 |fn f ek vs g h1 h2 h3 _ ih=>exact .fn f ek (rH ih)
theorem dZ.Ow {a:AV} {v:Value} (h:dZ P w D ι a v):fP a:=by
 induction h with
 |fq a v h=>exact h.Ow
 |own id off len o cap B=>exact .own _ _ _
 |ptr id i off B=>exact .ptr _ _ _
 |map id m B=>exact .map _ _
 |uQ id c B=>exact .uQ _
 |agg cs vs f h1 h2 h3 _ ih=>exact .agg cs (rH ih)
 |fX cs vs f h1 h2 _ ih=>exact .fX cs (rH ih)
 |fn f ek vs g h1 h2 h3 _ ih=>exact .fn f ek (rH ih)
 |yh f ek vs g h1 h2 h3 _ ih=>exact .yh f ek (rH ih)
end Go.Proofs.YtoodopepphhpoaaGreatDoor.V

namespace Go.Proofs.YtoodopepphhpoaaGreatDoor.V
open Go.RowKit
variable {P:Program} {w w':World} {D D':Nat->Prop} {ι ι':Names}
def dy (P:Program) (w:World) (D:Nat->Prop) (ι:Names) (env:Env) (a:Act):Prop:=∀t,dZ P w D ι (env t) (a.tmps.getD t undef)
theorem vI {vs:List Value} {cs:List K} (h:vs.mapM Lh=some cs):cs.length=vs.length/\∀(j:Nat) (c:K),cs[j]? =some c->vs[j]? =some c.val:=by
 induction vs generalizing cs with
 |nil=>simp at h;subst h;simp
 |cons v r ih=>
  simp only[List.mapM_cons,Option.bind_eq_bind,Option.bind_eq_some_iff]at h
  obtain⟨c,hc,uS,eD,h⟩:=h
  simp at h;subst h
  obtain⟨h1,h2⟩:=ih eD
  refine⟨by simp[h1],fun j d hd=>?_⟩
  cases j with
  |zero=>simp at hd ⊢;subst hd;exact DR hc
  |succ j=>simp at hd ⊢;exact h2 j d hd
theorem kAgg {vs:List Value} {cs:List K} (h:vs.mapM Lh=some cs):dZ P w D ι (.agg (cs.map K.av)) (.agg vs.toArray):=by
 obtain⟨h1,h2⟩:=vI h
 refine .agg _ _ (fun j=>vs.getD j undef) (by simp[h1]) (fun a ha=>?_) (fun j hj=>?_) (fun j a ha=>?_)
 ·obtain⟨c,_,rfl⟩:=List.mem_map.1 ha;exact c.pI
 ·simp at hj;simp[List.getElem?_eq_getElem (show j<vs.length by omega)]
 ·simp only[List.getElem?_map,Option.map_eq_some_iff]at ha
  obtain⟨c,hc,rfl⟩:=ha
  rw[List.getD_eq_getElem?_getD,h2 j c hc];exact AU c
theorem ew {env:Env} {a:Act} {x:Operand} {y:O} (E:dy P w D ι env a) (h:cO P x=some y):dZ P w D ι (dz env y) (a.eval x):=by
 unfold cO at h
 split at h
 ·simp at h;subst h;exact E _
 ·simp only[Option.map_eq_some_iff]at h
  obtain⟨cs,eD,rfl⟩:=h
  have:=kAgg (P:=P) (w:=w) (D:=D) (ι:=ι) eD
  simpa[Act.eval,dz]using this
 ·simp only[Option.map_eq_some_iff]at h
  obtain⟨c,hc,rfl⟩:=h
  simp only[Act.eval,dz]
  rw[DR hc];exact AU c
 ·simp at h
 ·split at h
  ·rename_i hc
   simp at h;subst h
   simp only[Act.eval,dz]
   exact .fn _ _ _ (fun _=>undef) hc rfl (fun j hj=>by simp at hj) (fun j a h=>by simp at h)
  ·simp at h
def qI (P:Program) (a:Act) (o:Oper) (w:World) (D:Nat->Prop) (ι:Names) (v:AV):Prop:=∃u,(execOp a.eval o).run P w=.ok (.value u) w/\dZ P w D ι v u
section
variable {g:Rows} {hs:Nat} {env:Env} {a:Act} {o:Oper} {id:Id} {v:AV}
theorem TJ {x:Operand} {y:O} (E:dy P w D ι env a) (ho:o.op=.move x∨o.op=.assign x) (hx:cO P x=some y):qI P a o w D ι (dz env y):=by
 refine⟨a.eval x,?_,ew E hx⟩
 rcases ho with h|h<;>simp[execOp,h,go_sem]
theorem WH {c x y:Operand} {c' x' y':O} (E:dy P w D ι env a) (ho:o.op=.pick c x y) (hc:cO P c=some c') (hx:cO P x=some x') (hy:cO P y=some y') (hv:cZ (dz env c') (dz env x') (dz env y')=some v):qI P a o w D ι v:=by
 unfold cZ at hv
 split at hv
 ·rename_i b hb
  simp at hv;subst hv
  have h1:=gH (hb▸ew E hc)
  refine⟨if b then a.eval x else a.eval y,by simp only[execOp,ho,h1,asBool];rfl,?_⟩
  cases b
  ·exact ew E hy
  ·exact ew E hx
 ·simp at hv
theorem aau {op:BinOp} {x y:Operand} {x' y':O} {t yt:TypeId} (E:dy P w D ι env a) (ho:o.op=.binOp op t x y yt) (he:op≠.eql) (hn:op≠.neq) (hx:cO P x=some x') (hy:cO P y=some y') (hv:dP op (dz env x') (dz env y')=some v):qI P a o w D ι v:=by
 unfold dP at hv
 split at hv
 ·rename_i k n k' m hb xd
  split at hv
  ·rename_i hk
   subst hk
   have h1:=ev (hb▸ew E hx)
   have h2:=ev (xd▸ew E hy)
   have key:∀u,(binOp op t (.int k n) (.int k m)).run P w=.ok u w->(execOp a.eval o).run P w=.ok (.value u) w:=fun u hu=>by
    have e0:eqGuard op t x y (.int k n) (.int k m)=pure ():=by unfold eqGuard;cases op<;>rfl
    simp only[execOp,ho,h1,h2,e0]
    simp[go_sem,hu]
   cases op<;>simp only[dF]at hv<;>(try(simp at hv;done))<;>(try split at hv)<;>(try(simp at hv;done))<;>simp only[Option.some.injEq]at hv<;>subst hv<;>
    (refine⟨_,key _ (by simp only[binOp,ne_eq,not_true_eq_false,if_false,Op.intArith,Op.intDiv,Op.intBits,Op.intCmp, *];rfl),?_⟩)<;>
    first
     |exact .fq _ _ (.int _ _)
     |exact .fq _ _ (.bool _)
  ·simp at hv
 ·simp at hv
theorem Ws {op:BinOp} {x y:Operand} {x' y':O} {t yt:TypeId} (E:dy P w D ι env a) (ho:o.op=.binOp op t x y yt) (he:op≠.eql) (hn:op≠.neq) (hx:cO P x=some x') (hy:cO P y=some y') (hv:da op (dz env x') (dz env y')=some v):qI P a o w D ι v:=by
 unfold da at hv
 split at hv
 ·rename_i n m hb xd
  have h1:=ik (hb▸ew E hx)
  have h2:=ik (xd▸ew E hy)
  cases op<;>simp only[ec]at hv<;>(try(simp at hv;done))
  case add=>
   split at hv
   ·rename_i hl
    simp only[Option.some.injEq]at hv;subst hv
    exact⟨_,by simp only[execOp,ho,h1,h2];simp[eqGuard,binOp,go_sem];exact hl,.fq _ _ (.str _)⟩
   ·simp at hv
  all_goals
   simp only[Option.some.injEq]at hv;subst hv
   exact⟨_,by simp only[execOp,ho,h1,h2];simp[eqGuard,binOp,Op.stringOp,go_sem],.fq _ _ (.bool _)⟩
 ·simp at hv
theorem Kg (n m:ByteArray):(n.toList==m.toList)=decide (n=m):=by
 rw[ByteArray.toList_eq,ByteArray.toList_eq]
 by_cases h:n=m
 ·subst h;simp
 ·have:n.data.toList≠m.data.toList:=fun he=>h (ByteArray.ext (Array.ext' he))
  rw[decide_eq_false h];exact beq_eq_false_iff_ne.2 this
theorem sI {t:TypeId} (h:gO P t=some .tB):P.underlying t=some .bool:=by unfold gO at h;split at h<;>simp_all
theorem sJ {t:TypeId} (h:gO P t=some .tI):∃k,P.underlying t=some (.int k):=by unfold gO at h;split at h<;>simp_all
theorem sK {t:TypeId} (h:gO P t=some .tS):P.underlying t=some .string:=by unfold gO at h;split at h<;>simp_all
theorem v7 {d:Nat} {t:TypeId} {s:TS} {x y:AV} {u u':Value} {b:Bool} (hx:dZ P w D ι x u) (hy:dZ P w D ι y u') (hv:fD s x y=some b) (ht:gO P t=some s):(Op.equalIn (d+1) t u u').run P w=.ok b w:=by
 unfold fD at hv
 split at hv
 ·rename_i k n k' m
  split at hv
  ·rename_i hk
   subst hk
   simp at hv;subst hv
   obtain⟨q,hq⟩:=sJ ht
   rw[ev hx,ev hy,run_equalIn_int _ _ _ _ _ _ _ hq];rfl
  ·simp at hv
 ·simp at hv;subst hv
  rw[gH hx,gH hy,run_equalIn_bool' _ _ _ _ _ (sI ht)]
 ·simp at hv;subst hv
  rw[ik hx,ik hy,run_equalIn_string _ _ _ _ _ (sK ht),Kg]
 ·simp at hv
def gI (P:Program) (w:World) (D:Nat->Prop) (ι:Names) (xs:List AV) (vs:Array Value):Prop:=vs.size=xs.length/\∀(j:Nat) (a:AV),xs[j]? =some a->∃u,vs[j]? =some u/\dZ P w D ι a u
theorem gI.part {xs:List AV} {vs:Array Value} (h:gI P w D ι xs vs) (off n:Nat) (hn:off+n<=xs.length):gI P w D ι ((xs.drop off).take n) (vs.extract off (off+n)):=by
 refine⟨by simp[h.1];omega,fun j a ha=>?_⟩
 rw[List.getElem?_take]at ha
 split at ha
 ·rename_i hj
  rw[List.getElem?_drop]at ha
  obtain⟨u,h1,h2⟩:=h.2 _ _ ha
  refine⟨u,?_,h2⟩
  rw[Array.getElem?_extract]
  rw[if_pos (by rw[h.1];omega),h1]
 ·simp at ha
theorem uW:∀{ts:List TS} {xs ys:List AV} {b:Bool},eU ts xs ys=some b->xs.length=ts.length/\ys.length=ts.length
 |[],[],[],_,_=>⟨rfl,rfl⟩
 |t::ts,x::xs,y::ys,b,h=>by
  unfold eU at h
  split at h
  ·rename_i c d h1 h2
   have:=uW h2
   simp[this.1,this.2]
  ·simp at h
 |[],[],_::_,_,h=>by simp[eU]at h
 |[],_::_,_,_,h=>by simp[eU]at h
 |_::_,[],_,_,h=>by simp[eU]at h
 |_::_,_::_,[],_,h=>by simp[eU]at h
theorem JF:∀{ts us:List TS} {xs ys:List AV} {b:Bool},eU (ts++us) xs ys=some b->∃c d,eU ts (xs.take ts.length) (ys.take ts.length)=some c/\eU us (xs.drop ts.length) (ys.drop ts.length)=some d/\b=(c&&d)
 |[],us,xs,ys,b,h=>⟨true,b,by simp[eU],by simpa using h,by simp⟩
 |t::ts,us,x::xs,y::ys,b,h=>by
  simp only[List.cons_append]at h
  unfold eU at h
  split at h
  ·rename_i c d h1 h2
   obtain⟨c',d',h3,h4,rfl⟩:=JF h2
   simp at h;subst h
   exact⟨c&&c',d',by simp[eU,h1,h3],by simpa using h4,by simp[Bool.and_assoc]⟩
  ·simp at h
 |t::ts,us,[],ys,b,h=>by simp[eU]at h
 |t::ts,us,x::xs,[],b,h=>by simp[eU]at h
theorem ph {t:TypeId} {vs:Array Value} {off:Nat} {u:Value} (ha:o9 P t=some false) (hu:vs[off]? =some u):(Go.part t vs off).run P w=.ok u w:=by
 unfold o9 at ha
 have hi:(isAgg t).run P w=.ok false w:=by
  split at ha<;>simp at ha
  rename_i d h1 h2 hd
  simp only[isAgg,Sem.run_bind,run_underlying hd,Result.andThen_ok]
  cases d<;>simp_all
 simp[Go.part,hi,hu]
theorem xD {t:TypeId} {b:Bool} (ha:o9 P t=some b):(isAgg t).run P w=.ok b w:=by
 unfold o9 at ha
 split at ha<;>simp at ha<;>subst ha<;>rename_i hd<;>simp only[isAgg,Sem.run_bind,run_underlying hd,Result.andThen_ok]<;>(try simp)
theorem run_sizeOf {t:TypeId} {n:Nat} (h:eX P t=some n):(sizeOf t).run P w=.ok n w:=by
 unfold eX at h
 simp only[Option.map_eq_some_iff]at h
 obtain⟨i,hi,rfl⟩:=h
 simp[sizeOf,typeInfo,hi]
theorem sH {t:TypeId} {vs:Array Value} {off n:Nat} (ha:o9 P t=some true) (hn:eX P t=some n):(Go.part t vs off).run P w=.ok (.agg (vs.extract off (off+n))) w:=by
 simp[Go.part,xD ha,run_sizeOf hn]
theorem Nz (d off:Nat):fI P (d+1) off []=some []:=rfl
theorem Ci (d off:Nat) (f:Field) (r:List Field):fI P (d+1) off (f::r)=(if f.offset=off/\f.name≠ "_" then
   match gO P f.type with
   |some t=>if o9 P f.type=some false then(fI P (d+1) (off+1) r).map (t::·)else none
   |none=>match P.underlying f.type with
    |some (.struct fs)=>if !P.stoodInHeld f.type then match fI P d 0 fs.toList with
     |some ts=>if eX P f.type=some ts.length/\ts≠[]then(fI P (d+1) (off+ts.length) r).map (ts++·)else none
     |none=>none else none
    |_=>none
  else none):=rfl
theorem vZ:∀(d:Nat) (fs:List Field) (off:Nat) (ts:List TS),fI P d off fs=some ts->∀(N:Nat) (_:d<=N) (xs ys:List AV) (vs us:Array Value) (b:Bool),gI P w D ι xs vs->gI P w D ι ys us->
  eU ts ((xs.drop off).take ts.length) ((ys.drop off).take ts.length)=some b->(Op.eqFields (N+1) vs us fs).run P w=.ok b w:=by
 intro d
 induction d with
 |zero=>
  intro fs off ts hf N _ xs ys vs us b _ _ he
  cases fs with
  |nil=>simp[fI]at hf;subst hf;simp[eU]at he;subst he;simp[Op.eqFields]
  |cons f r=>simp[fI]at hf
 |succ d ihd=>
  intro fs
  induction fs with
  |nil=>
   intro off ts hf N _ xs ys vs us b _ _ he
   rw[Nz]at hf;simp at hf;subst hf;simp[eU]at he;subst he;simp[Op.eqFields]
  |cons f r ih=>
   intro off ts hf N hN xs ys vs us b hx hy he
   rw[Ci]at hf
   split at hf
   ·rename_i hcond
    obtain⟨ho,hZ⟩:=hcond
    split at hf
    ·rename_i s hs
     split at hf
     ·rename_i x7
      simp only[Option.map_eq_some_iff]at hf
      obtain⟨Qi,hr,rfl⟩:=hf
      obtain⟨l1,l2⟩:=uW he
      simp only[List.length_cons,List.length_take,List.length_drop]at l1 l2
      have ER:off<xs.length:=ad
      have hyo:off<ys.length:=ad
      rw[List.drop_eq_getElem_cons ER,List.drop_eq_getElem_cons hyo,List.length_cons,List.take_succ_cons,List.take_succ_cons]at he
      unfold eU at he
      split at he
      ·rename_i c d' h1 h2
       simp at he;subst he
       obtain⟨u,hu,ru⟩:=hx.2 off _ (List.getElem?_eq_getElem ER)
       obtain⟨u',JS,ru'⟩:=hy.2 off _ (List.getElem?_eq_getElem hyo)
       have:=ih (off+1) Qi hr N hN xs ys vs us d' hx hy h2
       simp only[Op.eqFields,if_pos hZ,Sem.run_bind,ho,ph x7 hu,ph x7 JS,Result.andThen_ok,v7 ru ru' h1 hs,Sem.run_ite]
       cases c<;>simp[this]
      ·simp at he
     ·simp at hf
    ·split at hf
     ·rename_i fs' u9
      split at hf
      ·rename_i eA
       split at hf
       ·rename_i ts1 hts1
        split at hf
        ·rename_i eY
         simp only[Option.map_eq_some_iff]at hf
         obtain⟨Qi,hr,rfl⟩:=hf
         obtain⟨c,d',h1,h2,rfl⟩:=JF he
         obtain⟨l1,l2⟩:=uW he
         simp only[List.length_append,List.length_take,List.length_drop]at l1 l2
         have x7:o9 P f.type=some true:=by simp[o9,u9]
         have lX:0<ts1.length:=List.length_pos_iff.2 eY.2
         have Oe:off+ts1.length<=xs.length:=ad
         have hy1:off+ts1.length<=ys.length:=ad
         rw[List.drop_take,List.drop_drop,List.drop_take,List.drop_drop]at h2
         rw[List.take_take,List.take_take]at h1
         simp only[List.length_append]at h1 h2
         rw[Nat.min_eq_left ad]at h1
         have e2:ts1.length+Qi.length-ts1.length=Qi.length:=ad
         rw[e2]at h2
         have:=ih (off+ts1.length) Qi hr N hN xs ys vs us d' hx hy h2
         have gS:=ihd fs'.toList 0 ts1 hts1 (N-1) ad _ _ _ _ c (hx.part off ts1.length Oe) (hy.part off ts1.length hy1) (by simpa[List.take_take]using h1)
         have hN':N-1+1=N:=ad
         rw[hN']at gS
         have NR:P.fieldsOf f.type=fs':=by simp[Program.fieldsOf,u9]
         simp only[Op.eqFields,if_pos hZ,Sem.run_bind,ho,sH x7 eY.1,Result.andThen_ok,Sem.run_ite]
         rw[run_equalIn_struct w N f.type _ _ (by rw[NR];exact u9) (by simpa using eA),NR,gS]
         cases c<;>simp[this]
        ·simp at hf
       ·simp at hf
      ·simp at hf
     ·simp at hf
   ·simp at hf
theorem aay {x y:Operand} {x' y':O} {t yt:TypeId} {neg:Bool} {s:TS} {b:Bool} (E:dy P w D ι env a) (ho:o.op=.binOp (if neg then .neq else .eql) t x y yt) (hs:gO P t=some s) (hx:cO P x=some x') (hy:cO P y=some y')
  (hv:fD s (dz env x') (dz env y')=some b):qI P a o w D ι (.bool (dx neg b)):=by
 have rx:=ew E hx
 have ry:=ew E hy
 refine⟨.bool (dx neg b),?_,.fq _ _ (.bool _)⟩
 have e0:(eqGuard (if neg then .neq else .eql) t x y (a.eval x) (a.eval y)).run P w=.ok () w:=by
  unfold fD at hv
  split at hv
  ·rename_i k n k' m h1 h2
   rw[h1]at rx;rw[h2]at ry
   rw[ev rx,ev ry];unfold eqGuard;cases neg<;>simp
  ·rename_i n m h1 h2
   rw[h1]at rx;rw[h2]at ry
   rw[gH rx,gH ry];unfold eqGuard;cases neg<;>simp
  ·rename_i n m h1 h2
   rw[h1]at rx;rw[h2]at ry
   rw[ik rx,ik ry];unfold eqGuard;cases neg<;>simp
  ·simp at hv
 have e1:(binOp (if neg then .neq else .eql) t (a.eval x) (a.eval y)).run P w=.ok (.bool (dx neg b)) w:=by
  have q:=v7 (d:=9999) rx ry hv hs
  unfold fD at hv
  split at hv
  ·rename_i k n k' m h1 h2
   split at hv
   ·rename_i hk
    subst hk
    simp at hv;subst hv
    rw[h1]at rx;rw[h2]at ry
    rw[ev rx,ev ry]
    cases neg<;>simp only[binOp,ne_eq,not_true_eq_false,if_false,Op.intCmp,dx,if_true,Bool.false_eq_true]<;>simp[bne]<;>rfl
   ·simp at hv
  ·rename_i n m h1 h2
   rw[h1]at rx;rw[h2]at ry
   rw[gH rx,gH ry]at q ⊢
   cases neg<;>simp only[binOp,dx,if_true,Bool.false_eq_true,if_false,Sem.run_bind]<;>simp[Op.equal,Op.maxDepth,q]
  ·rename_i n m h1 h2
   simp at hv;subst hv
   rw[h1]at rx;rw[h2]at ry
   rw[ik rx,ik ry]
   cases neg<;>simp[binOp,Op.stringOp,dx,Kg]
  ·simp at hv
 simp only[execOp,ho,Sem.run_bind,e0,e1,Result.andThen_ok,Sem.run_pure]
theorem aaw {x y:Operand} {x' y':O} {t yt:TypeId} {neg:Bool} {ts:List TS} {fs:Array Field} {xs ys:List AV} {b:Bool} (E:dy P w D ι env a) (ho:o.op=.binOp (if neg then .neq else .eql) t x y yt) (u9:P.underlying t=some (.struct fs)) (eA:P.stoodInHeld t=false) (QW:P.eqGuardType P.depth t=false)
  (BL:fI P 4 0 fs.toList=some ts) (hx:cO P x=some x') (hy:cO P y=some y') (h1:dz env x'=.agg xs) (h2:dz env y'=.agg ys)
  (hv:eU ts xs ys=some b):qI P a o w D ι (.bool (dx neg b)):=by
 obtain⟨vs,f,rx,n1,_,f1,r1⟩:=jG (h1▸ew E hx)
 obtain⟨us,f',ry,n2,_,f2,r2⟩:=jG (h2▸ew E hy)
 refine⟨.bool (dx neg b),?_,.fq _ _ (.bool _)⟩
 obtain⟨l1,l2⟩:=uW hv
 have L:∀(xs:List AV) (vs:Array Value) (f:Nat->Value),vs.size=xs.length->(∀j,j<xs.length->vs[j]? =some (f j))->(∀j a,xs[j]? =some a->dZ P w D ι a (f j))->gI P w D ι xs vs:=fun xs vs f h1 h2 h3=>
  ⟨h1,fun j a ha=>⟨f j,h2 j (List.getElem?_eq_some_iff.1 ha).1,h3 j a ha⟩⟩
 have q:=vZ (w:=w) 4 fs.toList 0 ts BL 9998 ad xs ys vs us b (L _ _ _ n1 f1 r1) (L _ _ _ n2 f2 r2) (by simpa[List.take_of_length_le,l1,l2]using hv)
 have NR:P.fieldsOf t=fs:=by simp[Program.fieldsOf,u9]
 have q2:(Op.equal t (.agg vs) (.agg us)).run P w=.ok b w:=by
  unfold Op.equal
  rw[show Op.maxDepth=9999+1 from rfl,run_equalIn_struct w 9999 t _ _ (by rw[NR];exact u9) eA,NR,q]
 simp only[execOp,ho,Sem.run_bind,rx,ry,run_eqGuard_agg w _ _ _ _ _ _ QW,Result.andThen_ok]
 cases neg<;>simp[binOp,q2,dx]
theorem Wv {x:Operand} {x':O} {t yt e:TypeId} {neg:Bool} {b:Bool} (E:dy P w D ι env a) (ho:o.op=.binOp (if neg then .neq else .eql) t x (.const (.slice none 0 0)) yt) (ht:P.underlying t=some (.slice e)) (hx:cO P x=some x')
  (hv:cY (dz env x')=some b):qI P a o w D ι (.bool (dx neg b)):=by
 have hr:=ew E hx
 have rx:∃A n c,a.eval x=.slice A n c/\b=A.isNone:=by
  unfold cY at hv
  split at hv<;>simp at hv<;>subst hv<;>rename_i hh
  ·rw[hh]at hr;exact⟨_,_,_,jX hr,rfl⟩
  ·rw[hh]at hr;obtain⟨o,cap,B,h,_⟩:=jH hr
   exact⟨_,_,_,h,rfl⟩
  ·rw[hh]at hr
   obtain⟨A,c,h',_,_,h⟩:=AY hr
   rcases h with h|⟨b,o,sz,vs,rfl,_⟩
   ·simp at h
   ·exact⟨_,_,_,h',rfl⟩
 refine⟨.bool (dx neg b),?_,.fq _ _ (.bool _)⟩
 obtain⟨A,n,c,h,rfl⟩:=rx
 have hq:(Op.equal t (.slice A n c) (.slice none 0 0)).run P w=.ok A.isNone w:=by
  unfold Op.equal
  rw[show Op.maxDepth=9999+1 from rfl,Op.equalIn]
  simp only[Sem.run_bind,run_underlying ht,Result.andThen_ok]
  cases A<;>rfl
 have hc:a.eval (.const (.slice none 0 0))=.slice none 0 0:=rfl
 simp only[execOp,ho,h,hc]
 cases neg<;>simp only[Bool.false_eq_true,if_false,if_true,Bool.not_true,Bool.not_false,eqGuard,binOp,dx,Sem.run_bind,hq,Result.andThen_ok,Sem.run_pure]
theorem aax {x:Operand} {x':O} {t yt e:TypeId} {neg:Bool} {b:Bool} (E:dy P w D ι env a) (ho:o.op=.binOp (if neg then .neq else .eql) t x (.const (.pointer none)) yt) (ht:P.underlying t=some (.pointer e)) (hx:cO P x=some x')
  (hv:PH (dz env x')=some b):qI P a o w D ι (.bool (dx neg b)):=by
 have hr:=ew E hx
 have rx:∃A,a.eval x=.pointer A/\b=A.isNone:=by
  unfold PH at hv
  split at hv<;>simp at hv<;>subst hv<;>rename_i hh
  ·rw[hh]at hr;exact⟨_,O3 hr,rfl⟩
  ·rw[hh]at hr;obtain⟨B,h,_⟩:=jw hr
   exact⟨_,h,rfl⟩
  ·rw[hh]at hr;obtain⟨_,_,_,h,_⟩:=nD hr
   exact⟨_,h,rfl⟩
 refine⟨.bool (dx neg b),?_,.fq _ _ (.bool _)⟩
 obtain⟨A,h,rfl⟩:=rx
 have hq:(Op.equal t (.pointer A) (.pointer none)).run P w=.ok A.isNone w:=by
  unfold Op.equal
  rw[show Op.maxDepth=9999+1 from rfl,Op.equalIn]
  simp only[Sem.run_bind,run_underlying ht,Result.andThen_ok]
  cases A<;>rfl
 have hc:a.eval (.const (.pointer none))=.pointer none:=rfl
 simp only[execOp,ho,h,hc]
 cases neg<;>simp only[Bool.false_eq_true,if_false,if_true,Bool.not_true,Bool.not_false,eqGuard,binOp,dx,Sem.run_bind,hq,Result.andThen_ok,Sem.run_pure]
theorem Wu {x:Operand} {x':O} {t yt:TypeId} {p r:Array TypeId} {va:Bool} {neg:Bool} {b:Bool} (E:dy P w D ι env a) (ho:o.op=.binOp (if neg then .neq else .eql) t x (.const .nilFunc) yt) (ht:P.underlying t=some (.func p r va)) (hx:cO P x=some x')
  (hv:cX (dz env x')=some b):qI P a o w D ι (.bool (dx neg b)):=by
 have hr:=ew E hx
 have rx:a.eval x=.nilFunc/\b=true∨∃f c,a.eval x=.func f #[] c/\b=false:=by
  unfold cX at hv
  split at hv<;>simp at hv<;>subst hv<;>rename_i hh
  ·rw[hh]at hr;exact .inl ⟨AX hr,rfl⟩
  ·rw[hh]at hr;obtain⟨vs,g,h,_⟩:=xC hr
   exact .inr ⟨_,_,h,rfl⟩
 refine⟨.bool (dx neg b),?_,.fq _ _ (.bool _)⟩
 have hc:a.eval (.const .nilFunc)=.nilFunc:=rfl
 rcases rx with⟨h,rfl⟩|⟨f,c,h,rfl⟩
 ·have hq:(Op.equal t .nilFunc .nilFunc).run P w=.ok true w:=by
   unfold Op.equal
   rw[show Op.maxDepth=9999+1 from rfl,Op.equalIn]
   simp only[Sem.run_bind,run_underlying ht,Result.andThen_ok]
   rfl
  simp only[execOp,ho,h,hc]
  cases neg<;>simp only[Bool.false_eq_true,if_false,if_true,Bool.not_true,Bool.not_false,eqGuard,binOp,dx,Sem.run_bind,hq,Result.andThen_ok,Sem.run_pure]
 ·have hq:(Op.equal t (.func f #[] c) .nilFunc).run P w=.ok false w:=by
   unfold Op.equal
   rw[show Op.maxDepth=9999+1 from rfl,Op.equalIn]
   simp only[Sem.run_bind,run_underlying ht,Result.andThen_ok]
   rfl
  simp only[execOp,ho,h,hc]
  cases neg<;>simp only[Bool.false_eq_true,if_false,if_true,Bool.not_true,Bool.not_false,eqGuard,binOp,dx,Sem.run_bind,hq,Result.andThen_ok,Sem.run_pure]
theorem aaB {x:Operand} {x':O} {t:TypeId} (E:dy P w D ι env a) (ho:o.op=.unOp .not t x) (hx:cO P x=some x') (hv:dW (dz env x')=some v):qI P a o w D ι v:=by
 have hr:=ew E hx
 unfold dW at hv
 split at hv
 ·rename_i b hb
  simp at hv;subst hv
  rw[hb]at hr
  exact⟨_,by simp only[execOp,ho,gH hr];rfl,.fq _ _ (.bool _)⟩
 ·simp at hv
theorem aaA {x:Operand} {x':O} {t:TypeId} (E:dy P w D ι env a) (ho:o.op=.unOp .neg t x) (hx:cO P x=some x') (hv:dU (dz env x')=some v):qI P a o w D ι v:=by
 have hr:=ew E hx
 unfold dU at hv
 split at hv
 ·rename_i k n hb
  simp at hv;subst hv
  rw[hb]at hr
  refine⟨_,by simp only[execOp,ho,ev hr];rfl,?_⟩
  rw[Int.zero_sub];exact .fq _ _ (.int _ _)
 ·simp at hv
theorem Wt {x:Operand} {x':O} {s d:TypeId} {k q:IntKind} (E:dy P w D ι env a) (ho:o.op=.convert s d x) (hs:P.underlying s=some (.int q)) (hd:P.underlying d=some (.int k)) (hx:cO P x=some x') (hv:cL k (dz env x')=some v):qI P a o w D ι v:=by
 have hr:=ew E hx
 unfold cL at hv
 split at hv
 ·rename_i k' n hb
  simp at hv;subst hv
  rw[hb]at hr
  refine⟨.int k (k.wrap n),?_,.fq _ _ (.int _ _)⟩
  simp only[execOp,ho,ev hr,convert,Sem.run_bind,run_underlying hs,run_underlying hd,Result.andThen_ok,Conv.intToInt,Sem.run_pure]
 ·simp at hv
theorem Sp {x:Operand} {x':O} {s:TypeId} {i:Nat} {fs:Array Field} {f:Field} {m:Nat} (E:dy P w D ι env a) (ho:o.op=.fieldAddr s x i) (hs:P.underlying s=some (.struct fs)) (hf:fs[i]? =some f) (hm:eX P f.type=some (m+1)) (hx:cO P x=some x')
  (hv:I9 f.offset (dz env x')=some v):qI P a o w D ι v:=by
 have hr:=ew E hx
 have go:∀b oo,a.eval x=.pointer (some ⟨b,oo,none⟩)->(execOp a.eval o).run P w=.ok (.value (.pointer (some ⟨b,oo+f.offset,none⟩))) w:=fun b oo h=>by
  simp only[execOp,ho,h,Instr.fieldAt,Sem.run_bind,run_underlying hs,Result.andThen_ok,hf,Instr.sureAddr,Sem.run_pure,fieldPlace,run_sizeOf hm,Nat.add_eq_zero_iff,Nat.one_ne_zero,and_false,if_false,Addr.add]
  split
  ·rename_i h0;simp[h0]
  ·rfl
 unfold I9 at hv
 split at hv
 ·rename_i lz i' oo hb
  simp at hv;subst hv
  rw[hb]at hr
  obtain⟨B,h,hB,hk⟩:=jw hr
  refine⟨_,go _ _ h,?_⟩
  rw[Nat.add_assoc]
  exact .ptr _ _ _ _ hB hk
 ·rename_i cs hb
  simp at hv;subst hv
  rw[hb]at hr
  obtain⟨b,oo,vs,h,h1,h2,h3,h4⟩:=nD hr
  refine⟨_,go _ _ h,.fq _ _ (.er _ _ _ (fun j=>vs (f.offset+j)) h1 (fun a ha=>h2 a (List.mem_of_mem_drop ha)) (fun j hj=>?_) (fun j a ha=>h4 _ _ (by simpa using ha)))⟩
  rw[Nat.add_assoc]
  exact h3 _ (by simp at hj;omega)
 ·simp at hv
theorem Sq {x:Operand} {x':O} {s:TypeId} {i n:Nat} {ag:Bool} {fs:Array Field} {f:Field} (E:dy P w D ι env a) (ho:o.op=.field s x i) (hs:P.underlying s=some (.struct fs)) (hf:fs[i]? =some f) (x7:o9 P f.type=some ag) (hm:eX P f.type=some n) (hx:cO P x=some x')
  (hv:bI ag f.offset n (dz env x')=some v):qI P a o w D ι v:=by
 have hr:=ew E hx
 unfold bI at hv
 split at hv
 ·rename_i cs hb
  split at hv
  ·rename_i hl
   rw[hb]at hr
   obtain⟨vs,g,h,n1,fl,f1,r1⟩:=jG hr
   unfold part at hv
   cases ag with
   |true=>
    simp only[if_true]at hv
    split at hv
    ·simp at hv;subst hv
     refine⟨.agg (vs.extract f.offset (f.offset+n)),?_,.agg _ _ (fun j=>g (f.offset+j)) (by simp[n1];omega) (fun a ha=>fl a (List.mem_of_mem_drop (List.mem_of_mem_take ha))) (fun j hj=>?_) (fun j a ha=>?_)⟩
     ·simp only[execOp,ho,h,Instr.field,Sem.run_bind,run_underlying hs,Result.andThen_ok,hf,asAgg,Sem.run_pure,sH x7 hm]
     ·simp at hj
      rw[Array.getElem?_extract,if_pos ad];exact f1 _ ad
     ·rw[List.getElem?_take]at ha
      split at ha
      ·exact r1 _ _ (by simpa using ha)
      ·simp at ha
    ·simp at hv
   |false=>
    simp only[Bool.false_eq_true,if_false]at hv
    have qF:cs[f.offset]? =some v:=by simpa[List.head?_drop]using hv
    have eP:=(List.getElem?_eq_some_iff.1 qF).1
    exact⟨g f.offset,by simp only[execOp,ho,h,Instr.field,Sem.run_bind,run_underlying hs,Result.andThen_ok,hf,asAgg,Sem.run_pure,ph x7 (f1 _ eP)],r1 _ _ qF⟩
  ·simp at hv
 ·simp at hv
theorem y_sh {left:Bool} {x y:Operand} {x' y':O} {t yt:TypeId} (E:dy P w D ι env a) (ho:o.op=.binOp (if left then .shl else .shr) t x y yt) (hx:cO P x=some x') (hy:cO P y=some y') (hv:gh left (dz env x') (dz env y')=some v):qI P a o w D ι v:=by
 unfold gh at hv
 split at hv
 ·rename_i k n k' m hb xd
  split at hv
  ·simp at hv
  ·rename_i hm
   simp at hv;subst hv
   have h1:=ev (hb▸ew E hx)
   have h2:=ev (xd▸ew E hy)
   refine⟨_,?_,.fq _ _ (.int _ _)⟩
   simp only[execOp,ho,h1,h2]
   cases left<;>simp only[Bool.false_eq_true,if_false,if_true,eqGuard,Bool.not_true,Bool.not_false,binOp,Op.shift,hm,Sem.run_bind,Sem.run_pure,Result.andThen_ok]<;>rfl
 ·simp at hv
end
end Go.Proofs.YtoodopepphhpoaaGreatDoor.V

namespace Go.Proofs.YtoodopepphhpoaaGreatDoor.V
open Go.RowKit
variable {P:Program} {w w':World} {D D':Nat->Prop} {ι ι':Names}
theorem ma (b o j:Nat):(⟨b,o,none⟩:Addr).add j=⟨b,o+j,none⟩:=by unfold Addr.add;split<;>simp_all
section
variable {g:Rows} {hs:Nat} {env:Env} {a:Act} {o:Oper} {id:Id} {v:AV}
theorem kV {t:TypeId} {ag:Bool} {n b oo:Nat} {cs:List AV} {v:AV} {f:Nat->Value} (x7:o9 P t=some ag) (hn:eX P t=some n) (hp:part ag n cs=some v) (fl:∀a∈cs,a.cell=true)
  (hc:∀j,j<cs.length->w.cell? ⟨b,oo+j,none⟩=some (f j)) (hr:∀j a,cs[j]? =some a->dZ P w D ι a (f j)):∃u,(loadVar t ⟨b,oo,none⟩).run P w=.ok u w/\dZ P w D ι v u:=by
 unfold part at hp
 cases ag with
 |true=>
  simp only[if_true]at hp
  split at hp
  ·rename_i hl
   simp at hp;subst hp
   refine⟨.agg ((List.range n).map f).toArray,?_,.agg _ _ f (by simp;omega) (fun a ha=>fl a (List.mem_of_mem_take ha)) (fun j hj=>?_) (fun j a ha=>?_)⟩
   ·simp only[loadVar,Sem.run_bind,xD x7,Result.andThen_ok,if_true,run_sizeOf hn,Sem.run_pure]
    rw[run_loadCells w _ n f (fun j hj=>by rw[ma];exact hc j ad)]
    rfl
   ·simp at hj
    have:j<n:=ad
    simp[this]
   ·rw[List.getElem?_take]at ha
    split at ha
    ·exact hr _ _ ha
    ·simp at ha
  ·simp at hp
 |false=>
  simp only[Bool.false_eq_true,if_false]at hp
  cases cs with
  |nil=>simp at hp
  |cons c r=>
   simp at hp;subst hp
   refine⟨f 0,?_,hr 0 _ rfl⟩
   simp only[loadVar,Sem.run_bind,xD x7,Result.andThen_ok,Bool.false_eq_true,if_false]
   have:=hc 0 (by simp)
   simp at this
   rw[run_load,this]
theorem Pe {S:iD P hs D ι g w} {i:Nat} {cs:List AV} (h:rowAt g id i=some cs) (hk:∀B,ι id=some B->B.k=none):∃B r,g id=some r/\ι id=some B/\mo P w D ι B r/\r.rows[i]? =some cs/\(∀a∈cs,a.cell=true)/\∃f:Nat->Value,∀j,j<cs.length->w.cell? ⟨B.b,i*B.sz+j,none⟩=some (f j)/\∀a,cs[j]? =some a->dZ P w D ι a (f j):=by
 unfold rowAt at h
 simp only[Option.bind_eq_some_iff]at h
 obtain⟨r,hr,hi⟩:=h
 obtain⟨B,hB,R,_,_⟩:=S.row id r hr
 replace R:=R.row (hk B hB)
 refine⟨B,r,hr,hB,R,hi,R.flat cs (List.mem_of_getElem? hi),fun j=>(w.cell? ⟨B.b,i*B.sz+j,none⟩).getD undef,fun j hj=>?_⟩
 obtain⟨u,hu,BJ⟩:=R.at_ i j cs _ hi (List.getElem?_eq_getElem hj)
 rw[R.sz,hu]
 refine⟨by simp only[hu,Option.getD_some],fun a ha=>?_⟩
 rw[List.getElem?_eq_getElem hj]at ha
 injection ha with ha
 subst ha
 simpa only[hu,Option.getD_some]using BJ
theorem WB {x:Operand} {x':O} {t:TypeId} {ag:Bool} {n:Nat} (S:iD P hs D ι g w) (E:dy P w D ι env a) (ho:o.op=.load t x) (x7:o9 P t=some ag) (hn:eX P t=some n) (hx:cO P x=some x') (hv:ld g ag n (dz env x')=some v):qI P a o w D ι v:=by
 have hr:=ew E hx
 have go:∀b oo u,a.eval x=.pointer (some ⟨b,oo,none⟩)->(loadVar t ⟨b,oo,none⟩).run P w=.ok u w->(execOp a.eval o).run P w=.ok (.value u) w:=fun b oo u h h2=>by
  simp only[execOp,ho,h,Instr.loadAt,Instr.sureAddr,Sem.run_bind,Sem.run_pure,Result.andThen_ok,h2]
 unfold ld at hv
 split at hv
 ·rename_i lz i' oo hb
  rw[hb]at hr
  obtain⟨B,h,hB,hk⟩:=jw hr
  simp only[Option.bind_eq_some_iff]at hv
  obtain⟨cs,eD,hp⟩:=hv
  obtain⟨B',r,Mt,eE,R,hi,fl,f,hf⟩:=Pe (S:=S) eD (fun B2 h2=>by rw[hB]at h2;injection h2 with h2;subst h2;exact hk)
  rw[hB]at eE;injection eE with eE;subst eE
  obtain⟨u,h1,h2⟩:=kV (w:=w) (b:=B.b) (oo:=i'*B.sz+oo) (f:=fun j=>f (oo+j)) x7 hn hp (fun a ha=>fl a (List.mem_of_mem_drop ha)) (fun j hj=>by
   rw[Nat.add_assoc];exact(hf _ (by simp at hj;omega)).1) (fun j a ha=>by
   simp at ha;exact(hf _ ((List.getElem?_eq_some_iff.1 ha).1)).2 _ ha)
  exact⟨u,go _ _ _ h h1,h2⟩
 ·rename_i cs hb
  rw[hb]at hr
  obtain⟨b,oo,vs,h,h1,h2,h3,h4⟩:=nD hr
  obtain⟨u,k1,k2⟩:=kV (w:=w) (b:=b) (oo:=oo) (f:=vs) x7 hn hv h2 h3 (fun j a ha=>.fq _ _ (h4 j a ha))
  exact⟨u,go _ _ _ h k1,k2⟩
 ·simp at hv
theorem R5 (S:iD P hs D ι g w) {id:Id} {i k t:Nat} {s:ByteArray} (h:rowAt g id i=some [.err k t s]):∃u,dZ P w D ι (.err k t s) u:=by
 unfold rowAt at h
 simp only[Option.bind_eq_some_iff]at h
 obtain⟨r,hr,hi⟩:=h
 obtain⟨B,hB,R,_⟩:=S.row id r hr
 cases hk:B.k with
 |none=>
  obtain⟨u,_,h2⟩:=(R.row hk).at_ i 0 _ _ hi rfl
  exact⟨u,h2⟩
 |some m=>
  cases m with
  |map m=>
   obtain⟨_,es,c,h3,h4,⟨h5,_⟩,h6⟩:=R.map m hk
   obtain⟨e,kv,vv,_,_,q3,_,q5⟩:=h6 i _ hi
   have h7:=h5 _ (List.mem_of_getElem? hi)
   have h8:m.ks=0:=by simp at h7;omega
   rw[h8]at q3
   simp at q3
   subst q3
   exact⟨_,q5⟩
  |chan c=>
   obtain⟨_,buf,s',q,h3,h4,h5⟩:=R.chan c hk
   obtain⟨x,u,q1,_,q3⟩:=h5 i _ hi
   injection q1 with q1
   subst q1
   exact⟨u,q3⟩
theorem Sr {t:TypeId} {k:Nat} (S:iD P hs D ι g w) (ho:o.op=.load t (.global k)) (hn:eX P t=some 1) (x7:o9 P t=some false) (hv:fY g k=some v):qI P a o w D ι v:=by
 unfold fY at hv
 simp only[Option.bind_eq_some_iff]at hv
 obtain⟨cs,eD,hv⟩:=hv
 split at hv
 ·rename_i j t1 s
  split at hv
  ·rename_i hj
   subst hj
   injection hv with hv
   subst hv
   obtain⟨u,hu⟩:=R5 S eD
   obtain⟨_,_,_,tW,_,hc,_⟩:=sG hu
   obtain⟨u',k1,k2⟩:=kV (w:=w) (b:=j) (oo:=0) (f:=fun _=>u) x7 hn (show part false 1 [.err j t1 s]=some (.err j t1 s)from rfl) (fun a ha=>by simp at ha;subst ha;rfl) (fun i hi=>by
    have:i=0:=by simp at hi;omega
    subst this;exact hc) (fun i x hx=>by
    have hi:=(List.getElem?_eq_some_iff.1 hx).1
    have:i=0:=by simp at hi;omega
    subst this
    simp at hx
    subst hx
    exact hu)
   exact⟨u',by simp only[execOp,ho,Instr.loadAt,Instr.sureAddr,Act.eval,Sem.run_bind,Sem.run_pure,Result.andThen_ok,k1],k2⟩
  ·simp at hv
 ·simp at hv
theorem aav {x:Operand} {x':O} (E:dy P w D ι env a) (ho:o.op=.nilCheck x) (hx:cO P x=some x') (hv:dQ (dz env x')=some v):qI P a o w D ι v:=by
 have hr:=ew E hx
 unfold dQ at hv
 split at hv
 ·rename_i lz i' oo hb
  simp at hv;subst hv
  rw[hb]at hr
  obtain⟨B,h,hB,hk⟩:=jw hr
  exact⟨_,by simp only[execOp,ho,h];rfl,.ptr _ _ _ _ hB hk⟩
 ·rename_i cs hb
  simp at hv;subst hv
  rw[hb]at hr
  obtain⟨b,oo,vs,h,_⟩:=nD hr
  exact⟨_,by simp only[execOp,ho,h];rfl,h▸hr⟩
 ·simp at hv
theorem Ss {x i:Operand} {x' i':O} {t e:TypeId} {m:Nat} (S:iD P hs D ι g w) (E:dy P w D ι env a) (ho:o.op=.indexAddr t x i) (ht:P.underlying t=some (.slice e)) (hm:eX P e=some (m+1)) (hx:cO P x=some x') (hi:cO P i=some i')
  (hv:bJ g (m+1) (dz env x') (dz env i')=some v):qI P a o w D ι v:=by
 have hr:=ew E hx
 have Ib:=ew E hi
 have go:∀b oo n c k (q:Int),a.eval x=.slice (some ⟨b,oo,none⟩) n c->a.eval i=.int k q->0<=q->q<n->(execOp a.eval o).run P w=.ok (.value (.pointer (some ⟨b,oo+q.toNat*(m+1),none⟩))) w:=fun b oo n c k q h h2 h3 h4=>by
  simp only[execOp,ho,h,h2,Instr.indexAt,asIntOf,Sem.run_bind,Sem.run_pure,run_underlying ht,Result.andThen_ok,h3,h4,and_self,if_true,run_sizeOf hm,ma]
 unfold bJ at hv
 split at hv
 ·rename_i rows k q hb xd
  split at hv
  ·rename_i hq
   simp only[Option.bind_eq_some_iff]at hv
   obtain⟨cs,eD,hv⟩:=hv
   split at hv
   ·rename_i hlen
    simp at hv;subst hv
    rw[hb]at hr;rw[xd]at Ib
    have eP:=(List.getElem?_eq_some_iff.1 eD).1
    obtain⟨A,c,h,h1,h2,h3⟩:=AY hr
    rcases h3 with h3|⟨b,oo,sz,vs,rfl,hD,hl,fl,hc,hi⟩
    ·subst h3;simp at eD
    have eY:sz=m+1:=by rw[<-hlen,hl cs (List.mem_of_getElem? eD)]
    refine⟨_,go b oo _ _ k q h (ev Ib) hq ad,.fq _ _ (.er cs b _ (vs q.toNat) hD (fl cs (List.mem_of_getElem? eD)) (fun j hj=>?_) (fun j a ha=>hi _ _ _ _ eD ha))⟩
    have:=hc q.toNat j eP (by rw[<-hl cs (List.mem_of_getElem? eD)];exact hj)
    rw[eY]at this
    rw[Nat.add_assoc];exact this
   ·simp at hv
  ·simp at hv
 ·rename_i lz off len k q hb xd
  split at hv
  ·rename_i hq
   simp only[Option.bind_eq_some_iff]at hv
   obtain⟨r,Mt,hv⟩:=hv
   split at hv
   ·rename_i tU
    simp at hv;subst hv
    rw[hb]at hr;rw[xd]at Ib
    obtain⟨oo,cap,B,h,hB,h1,h2,h3,h4,hk⟩:=jH hr
    obtain⟨B',eE,R,_,_⟩:=S.row _ _ Mt
    rw[hB]at eE;injection eE with eE;subst eE
    replace R:=R.row hk
    have eY:B.sz=m+1:=R.sz.trans tU
    refine⟨_,go _ _ _ _ k q h (ev Ib) hq.1 hq.2,?_⟩
    have EJ:oo=off*B.sz:=by rcases h2 with h2|h2<;>omega
    have:oo+q.toNat*(m+1)=(off+q.toNat)*B.sz+0:=by rw[EJ,<-eY,Nat.add_mul];rfl
    rw[this]
    exact .ptr _ _ _ _ hB hk
   ·simp at hv
  ·simp at hv
 ·simp at hv
theorem Ww {x i:Operand} {x' i':O} {t e:TypeId} {m len:Nat} (E:dy P w D ι env a) (ho:o.op=.indexAddr t x i) (ht:P.underlying t=some (.array len e)) (hm:eX P e=some (m+1)) (hx:cO P x=some x') (hi:cO P i=some i')
  (hv:cP len (m+1) (dz env x') (dz env i')=some v):qI P a o w D ι v:=by
 have hr:=ew E hx
 have Ib:=ew E hi
 have go:∀b oo k (q:Int),a.eval x=.pointer (some ⟨b,oo,none⟩)->a.eval i=.int k q->0<=q->q<len->(execOp a.eval o).run P w=.ok (.value (.pointer (some ⟨b,oo+q.toNat*(m+1),none⟩))) w:=fun b oo k q h h2 h3 h4=>by
  simp only[execOp,ho,h,h2,Instr.indexAt,asIntOf,Sem.run_bind,Sem.run_pure,run_underlying ht,Instr.sureAddr,Result.andThen_ok,h3,h4,and_self,if_true,run_sizeOf hm,ma]
 unfold cP at hv
 split at hv
 ·rename_i lz r oo k q hb xd
  split at hv
  ·rename_i hq
   simp at hv;subst hv
   rw[hb]at hr;rw[xd]at Ib
   obtain⟨B,h,hB,hk⟩:=jw hr
   refine⟨_,go _ _ k q h (ev Ib) hq.1 hq.2,?_⟩
   rw[Nat.add_assoc]
   exact .ptr _ _ _ _ hB hk
  ·simp at hv
 ·rename_i cs k q hb xd
  split at hv
  ·rename_i hq
   simp at hv;subst hv
   rw[hb]at hr;rw[xd]at Ib
   obtain⟨b,oo,vs,h,h1,h2,h3,h4⟩:=nD hr
   refine⟨_,go _ _ k q h (ev Ib) hq.1 hq.2,.fq _ _ (.er _ _ _ (fun j=>vs (q.toNat*(m+1)+j)) h1 (fun a ha=>h2 a (List.mem_of_mem_drop ha)) (fun j hj=>?_) (fun j a ha=>h4 _ _ (by simpa using ha)))⟩
   rw[Nat.add_assoc]
   exact h3 _ (by simp at hj;omega)
  ·simp at hv
 ·simp at hv
theorem Wy {x i:Operand} {x' i':O} {t:TypeId} (E:dy P w D ι env a) (ho:o.op=.index t x i) (ht:P.underlying t=some .string) (hx:cO P x=some x') (hi:cO P i=some i')
  (hv:cR (dz env x') (dz env i')=some v):qI P a o w D ι v:=by
 have hr:=ew E hx
 have Ib:=ew E hi
 unfold cR at hv
 split at hv
 ·rename_i s k q hb xd
  split at hv
  ·rename_i hq
   simp only[Option.map_eq_some_iff]at hv
   obtain⟨c,hc,rfl⟩:=hv
   rw[hb]at hr;rw[xd]at Ib
   refine⟨_,?_,.fq _ _ (.int _ _)⟩
   simp only[execOp,ho,ik hr,ev Ib,Instr.index,asIntOf,Sem.run_bind,Sem.run_pure,run_underlying ht,Result.andThen_ok,hq,if_true,hc]
  ·simp at hv
 ·simp at hv
theorem Wx {x i:Operand} {x' i':O} {t e:TypeId} {ag:Bool} {len n:Nat} (E:dy P w D ι env a) (ho:o.op=.index t x i) (ht:P.underlying t=some (.array len e)) (x7:o9 P e=some ag) (hn:eX P e=some n) (hx:cO P x=some x') (hi:cO P i=some i')
  (hv:cQ ag len n (dz env x') (dz env i')=some v):qI P a o w D ι v:=by
 have hr:=ew E hx
 have Ib:=ew E hi
 unfold cQ at hv
 split at hv
 ·rename_i cs k q hb xd
  split at hv
  ·rename_i hq
   rw[hb]at hr;rw[xd]at Ib
   obtain⟨vs,f,h,n1,fl,f1,r1⟩:=jG hr
   have go:∀u,(Go.part e vs (q.toNat*n)).run P w=.ok u w->(execOp a.eval o).run P w=.ok (.value u) w:=fun u hu=>by
    simp only[execOp,ho,h,ev Ib,Instr.index,asIntOf,Sem.run_bind,Sem.run_pure,run_underlying ht,Result.andThen_ok,hq,and_self,if_true,run_sizeOf hn,hu]
   unfold part at hv
   cases ag with
   |true=>
    simp only[if_true]at hv
    split at hv
    ·rename_i hl
     simp at hv;subst hv
     simp only[List.length_drop]at hl
     by_cases H7:n=0
     ·subst H7
      refine⟨_,go _ (sH x7 hn),.agg _ _ (fun _=>undef) (by simp) (fun a ha=>by simp at ha) (fun j hj=>by simp at hj) (fun j a ha=>by simp at ha)⟩
     refine⟨_,go _ (sH x7 hn),.agg _ _ (fun j=>f (q.toNat*n+j)) (by simp[n1];omega) (fun a ha=>fl a (List.mem_of_mem_drop (List.mem_of_mem_take ha))) (fun j hj=>?_) (fun j a ha=>?_)⟩
     ·simp at hj
      rw[Array.getElem?_extract,if_pos ad];exact f1 _ ad
     ·rw[List.getElem?_take]at ha
      split at ha
      ·exact r1 _ _ (by simpa using ha)
      ·simp at ha
    ·simp at hv
   |false=>
    simp only[Bool.false_eq_true,if_false]at hv
    have qF:cs[q.toNat*n]? =some v:=by simpa[List.head?_drop]using hv
    have eP:=(List.getElem?_eq_some_iff.1 qF).1
    exact⟨_,go _ (ph x7 (f1 _ eP)),r1 _ _ qF⟩
  ·simp at hv
 ·simp at hv
theorem Mf {x:Operand} {x':O} {i:Nat} (E:dy P w D ι env a) (ho:o.op=.extract x i) (hx:cO P x=some x') (hv:aA i (dz env x')=some v):qI P a o w D ι v:=by
 have hr:=ew E hx
 unfold aA at hv
 split at hv
 ·rename_i vs hb
  rw[hb]at hr
  obtain⟨us,f,h,h1,h2,h3⟩:=zi hr
  have eP:=(List.getElem?_eq_some_iff.1 hv).1
  exact⟨_,by simp only[execOp,ho,h,Instr.extract,h2 _ eP];rfl,h3 _ _ hv⟩
 ·simp at hv
theorem aaz {x:Operand} {x':O} {t:TypeId} {e:TypeId} {n:Nat} (E:dy P w D ι env a) (ho:o.op=.call {callee:=.builtin .len,args:= #[x],argTypes:= #[t]}) (ht:P.underlying t=some (.slice e)) (hx:cO P x=some x') (hv:dS (dz env x')=some n):qI P a o w D ι (.int .i64 n):=by
 have hr:=ew E hx
 have go:∀A c,a.eval x=.slice A n c->(execOp a.eval o).run P w=.ok (.value (.int .i64 n)) w:=fun A c h=>by
  simp only[execOp,ho,resolve,Sem.run_bind,Sem.run_pure,Result.andThen_ok,invoke,builtin,Array.map,h]
  simp[Builtin.len_,run_underlying ht,goInt,h]
 refine⟨.int .i64 n,?_,.fq _ _ (.int _ _)⟩
 unfold dS at hv
 split at hv<;>simp at hv<;>subst hv<;>rename_i hb<;>rw[hb]at hr
 ·exact go _ _ (jX hr)
 ·obtain⟨A,c,h,_⟩:=AY hr;exact go _ _ h
 ·obtain⟨oo,cap,B,h,_⟩:=jH hr;exact go _ _ h
theorem WA {x:Operand} {x':O} {t:TypeId} (E:dy P w D ι env a) (ho:o.op=.call {callee:=.builtin .len,args:= #[x],argTypes:= #[t]}) (ht:P.underlying t=some .string) (hx:cO P x=some x') (hv:cV (dz env x')=some v):qI P a o w D ι v:=by
 have hr:=ew E hx
 unfold cV at hv
 split at hv
 ·rename_i s hb
  simp at hv;subst hv
  rw[hb]at hr
  have h:=ik hr
  refine⟨_,?_,.fq _ _ (.int _ _)⟩
  simp only[execOp,ho,resolve,Sem.run_bind,Sem.run_pure,Result.andThen_ok,invoke,builtin,Array.map,h]
  simp[Builtin.len_,run_underlying ht,goInt,h]
 ·simp at hv
theorem pU {isS:Bool} {len cap h l:Nat} {lo hi:Option Operand} {To uy:Option O} (E:dy P w D ι env a) (kN:uO P lo=some To) (Hd:uO P hi=some uy) (hh:dJ len (uy.map (dz env))=some h) (hl:dK h (To.map (dz env))=some l) (hc:len<=cap):
  (Instr.sliceBounds isS len cap (lo.map a.eval) (hi.map a.eval) none).run P w=.ok (l,h,cap) w/\l<=h/\h<=len:=by
 have bound:∀(x:Operand) (y:O) (k:IntKind) (n:Int) (m:Nat) (c:BoundsCode),cO P x=some y->dz env y=.int k n->0<=n->n<=m->(Instr.sliceBound (a.eval x) m c).run P w=.ok n.toNat w:=fun x y k n m c hx hy h0 h1=>by
  have hr:=ew E hx
  rw[hy]at hr
  simp only[Instr.sliceBound,ev hr,asIntOf,Sem.run_bind,Sem.run_pure,Result.andThen_ok,h0,h1,and_self,if_true]
 have H:h<=len/\((hi=none/\h=len)∨∃x,hi=some x/\∀c,(Instr.sliceBound (a.eval x) cap c).run P w=.ok h w):=by
  cases hi with
  |none=>
   simp[uO]at Hd;subst Hd
   simp[dJ]at hh;subst hh
   exact⟨Nat.le_refl _,.inl ⟨rfl,rfl⟩⟩
  |some x=>
   simp only[uO,Option.map_eq_some_iff]at Hd
   obtain⟨y,hy,rfl⟩:=Hd
   simp only[Option.map_some,dJ]at hh
   split at hh
   ·rename_i e;cases e
   ·rename_i k n e
    injection e with e
    split at hh
    ·rename_i hn
     simp at hh;subst hh
     exact⟨ad,.inr ⟨x,rfl,fun c=>bound x y k n _ _ hy e hn.1 ad⟩⟩
    ·simp at hh
   ·simp at hh
 have L:l<=h/\((lo=none/\l=0)∨∃x,lo=some x/\∀c,(Instr.sliceBound (a.eval x) h c).run P w=.ok l w):=by
  cases lo with
  |none=>
   simp[uO]at kN;subst kN
   simp[dK]at hl;subst hl
   exact⟨Nat.zero_le _,.inl ⟨rfl,rfl⟩⟩
  |some x=>
   simp only[uO,Option.map_eq_some_iff]at kN
   obtain⟨y,hy,rfl⟩:=kN
   simp only[Option.map_some,dK]at hl
   split at hl
   ·rename_i e;cases e
   ·rename_i k n e
    injection e with e
    split at hl
    ·rename_i hn
     simp at hl;subst hl
     exact⟨ad,.inr ⟨x,rfl,fun c=>bound x y k n h _ hy e hn.1 hn.2⟩⟩
    ·simp at hl
   ·simp at hl
 refine⟨?_,L.1,H.1⟩
 unfold Instr.sliceBounds
 rcases H.2 with⟨rfl,rfl⟩|⟨x,rfl,hx⟩<;>rcases L.2 with⟨rfl,rfl⟩|⟨y,rfl,hy⟩<;>
  simp only[Option.map_none,Option.map_some,Sem.run_bind,Sem.run_pure,Result.andThen_ok, *]
theorem Su {x:Operand} {x':O} {lo hi:Option Operand} {To uy:Option O} {t e:TypeId} {m:Nat} (S:iD P hs D ι g w) (E:dy P w D ι env a) (ho:o.op=.slice t x lo hi none) (ht:P.underlying t=some (.slice e)) (hm:eX P e=some m) (hx:cO P x=some x') (kN:uO P lo=some To) (Hd:uO P hi=some uy)
  (hv:bK g m (dz env x') (To.map (dz env)) (uy.map (dz env))=some v):qI P a o w D ι v:=by
 have hr:=ew E hx
 have go:∀A len cap l h,a.eval x=.slice A len cap->(Instr.sliceBounds true len cap (lo.map a.eval) (hi.map a.eval) none).run P w=.ok (l,h,cap) w->(execOp a.eval o).run P w=.ok (.value (.slice (if cap=l then A else A.map (·.add (l*m))) (h-l) (cap-l))) w:=fun A len cap l h h1 h2=>by
  simp only[execOp,ho,h1,Instr.sliceAt,Instr.slice,Sem.run_bind,Sem.run_pure,run_underlying ht,Result.andThen_ok,Option.map_none,h2,run_sizeOf hm]
 unfold bK at hv
 split at hv
 ·rename_i hb
  rw[hb]at hr
  simp only[Option.bind_eq_some_iff,Option.map_eq_some_iff]at hv
  obtain⟨h,hh,l,hl,rfl⟩:=hv
  obtain⟨q,q1,q2⟩:=pU (w:=w) (isS:=true) (cap:=0) E kN Hd hh hl (Nat.le_refl _)
  have h0:h=0:=ad
  have l0:l=0:=ad
  subst h0;subst l0
  refine⟨_,go _ _ _ _ _ (jX hr) q,?_⟩
  simp;exact .fq _ _ .cr
 ·rename_i rows hb
  rw[hb]at hr
  simp only[Option.bind_eq_some_iff,Option.map_eq_some_iff]at hv
  obtain⟨h,hh,l,hl,hv⟩:=hv
  split at hv
  ·rename_i eR
   simp at hv;subst hv
   obtain⟨A,c,he,c1,c2,h3⟩:=AY hr
   obtain⟨q,q1,q2⟩:=pU (w:=w) (isS:=true) (cap:=c) E kN Hd hh hl c1
   refine⟨_,go _ _ _ _ _ he q,.fq _ _ ?_⟩
   have hlen:((rows.drop l).take (h-l)).length=h-l:=by simp;omega
   by_cases hz:h-l=0
   ·have:(rows.drop l).take (h-l)=[]:=by rw[hz];simp
    rw[this,hz]
    exact .ES _ _ ad
   ·rcases h3 with h3|⟨b,oo,sz,vs,rfl,hD,P9,fl,hc,hi⟩
    ·subst h3;simp at q2;omega
    rw[if_neg ad]
    simp only[Option.map_some,ma]
    have FX:sz=m:=by
     have eP:l<rows.length:=ad
     have:=eR rows[l] (List.getElem_mem eP)
     rw[<-this,P9 _ (List.getElem_mem eP)]
    subst FX
    refine .sl _ b _ _ _ sz (fun i j=>vs (l+i) j) hlen ad ad hD (fun cs eD=>P9 cs (List.mem_of_mem_drop (List.mem_of_mem_take eD))) (fun cs eD=>fl cs (List.mem_of_mem_drop (List.mem_of_mem_take eD))) (fun i j hi hj=>?_) (fun i j cs a eD ha=>?_)
    ·rw[<-hc (l+i) j ad hj,Nat.add_mul]
     congr 2;omega
    ·rw[List.getElem?_take]at eD
     split at eD
     ·exact hi _ _ _ _ (by simpa using eD) ha
     ·simp at eD
  ·simp at hv
 ·rename_i lz off len hb
  rw[hb]at hr
  simp only[Option.bind_eq_some_iff,Option.map_eq_some_iff]at hv
  obtain⟨r,Mt,h,hh,l,hl,hv⟩:=hv
  split at hv
  ·rename_i tU
   simp at hv;subst hv
   obtain⟨oo,cap,B,he,hB,h1,h2,h3,h4,hk⟩:=jH hr
   obtain⟨B',eE,R,_,_⟩:=S.row _ _ Mt
   rw[hB]at eE;injection eE with eE;subst eE
   replace R:=R.row hk
   have eY:B.sz=m:=R.sz.trans tU
   obtain⟨q,q1,q2⟩:=pU (w:=w) (isS:=true) (cap:=cap) E kN Hd hh hl h1
   refine⟨_,go _ _ _ _ _ he q,?_⟩
   have e1:(off+l+(cap-l))*B.sz<=B.C:=by rw[show off+l+(cap-l)=off+cap by omega];exact h3
   by_cases oR:cap=l
   ·rw[if_pos oR]
    exact .own _ _ _ _ _ B hB hk ad (.inl ad) e1 ad
   ·rw[if_neg oR]
    simp only[Option.map_some,ma]
    have EJ:oo=off*B.sz:=by rcases h2 with h2|h2<;>omega
    exact .own _ _ _ _ _ B hB hk ad (.inr (by rw[EJ,eY,Nat.add_mul])) e1 ad
  ·simp at hv
 ·simp at hv
theorem PO {x:Operand} {x':O} {lo hi:Option Operand} {To uy:Option O} {t:TypeId} (E:dy P w D ι env a) (ho:o.op=.slice t x lo hi none) (ht:P.underlying t=some .string) (hx:cO P x=some x') (kN:uO P lo=some To) (Hd:uO P hi=some uy)
  (hv:aU (dz env x') (To.map (dz env)) (uy.map (dz env))=some v):qI P a o w D ι v:=by
 have hr:=ew E hx
 unfold aU at hv
 split at hv
 ·rename_i s hb
  rw[hb]at hr
  simp only[Option.bind_eq_some_iff,Option.map_eq_some_iff]at hv
  obtain⟨h,hh,l,hl,rfl⟩:=hv
  obtain⟨q,_,_⟩:=pU (w:=w) (isS:=false) E kN Hd hh hl (Nat.le_refl _)
  refine⟨_,?_,.fq _ _ (.str _)⟩
  simp only[execOp,ho,ik hr,Instr.sliceAt,Instr.slice,Sem.run_bind,Sem.run_pure,run_underlying ht,Result.andThen_ok,Option.map_none,Option.isSome_none,Bool.false_eq_true,if_false,q]
 ·simp at hv
theorem ID {xs:List Operand} {ys:List O} (E:dy P w D ι env a) (h:xs.mapM (cO P)=some ys):(xs.map a.eval).length=ys.length/\∀j y,ys[j]? =some y->dZ P w D ι (dz env y) ((xs.map a.eval).getD j undef):=by
 induction xs generalizing ys with
 |nil=>simp at h;subst h;simp
 |cons x r ih=>
  simp only[List.mapM_cons,Option.bind_eq_bind,Option.bind_eq_some_iff]at h
  obtain⟨c,hc,uS,eD,h⟩:=h
  simp at h;subst h
  obtain⟨h1,h2⟩:=ih eD
  refine⟨by simpa using h1,fun j d hd=>?_⟩
  cases j with
  |zero=>simp at hd ⊢;subst hd;exact ew E hc
  |succ j=>simp at hd ⊢;simpa using h2 j d hd
theorem WD {f:Nat} {first ek:Array Operand} {Fj:List O} (E:dy P w D ι env a) (ho:o.op=.makeFunc (.func f) first ek) (hf:first= #[]) (hc:iw P f=true) (hx:ek.toList.mapM (cO P)=some Fj):qI P a o w D ι (.fn f (Fj.map (dz env))):=by
 subst hf
 obtain⟨h1,h2⟩:=ID E hx
 refine⟨.func (.func f) #[] (ek.map a.eval),by simp only[execOp,ho,Instr.makeFunc,Sem.run_bind,Sem.run_pure,Result.andThen_ok];simp,.fn _ _ _ (fun j=>(ek.toList.map a.eval).getD j undef) hc (by simpa using h1) (fun j hj=>?_) (fun j x XT=>?_)⟩
 ·simp at hj h1
  have:j<ek.size:=ad
  simp[this]
 ·simp only[List.getElem?_map,Option.map_eq_some_iff]at XT
  obtain⟨y,hy,rfl⟩:=XT
  exact h2 j y hy
theorem WE {f:Nat} {first ek:Array Operand} {Fj:List O} (E:dy P w D ι env a) (ho:o.op=.makeFunc (.func f) first ek) (hf:ek= #[]) (hc:iw P f=true) (hx:first.toList.mapM (cO P)=some Fj):qI P a o w D ι (.yh f (Fj.map (dz env))):=by
 subst hf
 obtain⟨h1,h2⟩:=ID E hx
 refine⟨.func (.func f) (first.map a.eval) #[],by simp only[execOp,ho,Instr.makeFunc,Sem.run_bind,Sem.run_pure,Result.andThen_ok];simp,.yh _ _ _ (fun j=>(first.toList.map a.eval).getD j undef) hc (by simpa using h1) (fun j hj=>?_) (fun j x XT=>?_)⟩
 ·simp at hj h1
  have:j<first.size:=ad
  simp[this]
 ·simp only[List.getElem?_map,Option.map_eq_some_iff]at XT
  obtain⟨y,hy,rfl⟩:=XT
  exact h2 j y hy
end
end Go.Proofs.YtoodopepphhpoaaGreatDoor.V

namespace Go.Proofs.YtoodopepphhpoaaGreatDoor.V
open Go.RowKit
variable {P:Program} {w w':World} {D D':Nat->Prop} {ι ι':Names}
def Mk (P:Program) (a:Act) (o:Oper) (w:World) (D:Nat->Prop) (ι:Names) (id:Id) (v:AV) (r:Row):Prop:=
 ∃u cells T,(execOp a.eval o).run P w=.ok (.value u) (w.alloc (.cells cells T))/\r.w=true/\r.rows.length*r.sz<=cells.size/\(∀cs∈r.rows,cs.length=r.sz)/\(∀cs∈r.rows,∀a∈cs,a.cell=true)/\
  (∀i j cs a,r.rows[i]? =some cs->cs[j]? =some a->∃x,cells[i*r.sz+j]? =some x/\dZ P w D ι a x)/\∀ι':Names,ι' id=some ⟨w.heap.size,r.sz,cells.size,none⟩->dZ P w D ι' v u
section
variable {g:Rows} {hs:Nat} {env:Env} {a:Act} {o:Oper} {id:Id} {v:AV}
theorem kL {vs:List Value} {cs:List K} (h:vs.mapM Lh=some cs):gI P w D ι (cs.map K.av) vs.toArray:=by
 obtain⟨h1,h2⟩:=vI h
 refine⟨by simp[h1],fun j a ha=>?_⟩
 simp only[List.getElem?_map,Option.map_eq_some_iff]at ha
 obtain⟨c,hc,rfl⟩:=ha
 exact⟨c.val,by simpa using h2 j c hc,AU c⟩
theorem lN {t:TypeId} {z:List K} (h:lu P t=some z):∃i v,P.info? t=some i/\i.zero=some v/\v.cells.size=i.size/\v.cells.toList.mapM Lh=some z/\z.length=i.size:=by
 unfold lu at h
 split at h
 ·rename_i i hi
  split at h
  ·rename_i v hv
   split at h
   ·rename_i hs
    exact⟨i,v,hi,hv,hs,h,by rw[(vI h).1];simpa using hs⟩
   ·simp at h
  ·simp at h
 ·simp at h
theorem J4 {cs:List AV} {cells:Array Value} (h:gI P w D ι cs cells):∀i j c a,[cs][i]? =some c->c[j]? =some a->∃x,cells[i*cs.length+j]? =some x/\dZ P w D ι a x:=by
 intro i j c a hi hj
 cases i with
 |zero=>simp at hi;subst hi;simpa using h.2 j a hj
 |succ i=>simp at hi
theorem ZQ {t:TypeId} {z:List K} (ho:o.op=.alloc t) (hz:lu P t=some z):Mk P a o w D ι id (.ptr id 0 0) ⟨true,z.length,[z.map K.av]⟩:=by
 obtain⟨i,v,hi,hv,hs,hm,hl⟩:=lN hz
 have hk:=kL (P:=P) (w:=w) (D:=D) (ι:=ι) hm
 refine⟨.pointer (some ⟨w.heap.size,0,none⟩),v.cells,t,?_,rfl,?_,?_,?_,?_,?_⟩
 ·simp only[execOp,ho,Instr.alloc,zeroValue,typeInfo,Sem.run_bind]
  simp[hi,hv,newVar,newRow]
 ·simp[hl,hs]
 ·intro cs eD;simp at eD;subst eD;simp
 ·intro cs eD x hx;simp at eD;subst eD
  obtain⟨c,_,rfl⟩:=List.mem_map.1 hx;exact c.pI
 ·have:=J4 hk;simpa using this
 ·intro ι' hι
  have:=dZ.ptr (P:=P) (w:=w) (D:=D) (ι:=ι') id 0 0 _ hι rfl
  simpa using this
theorem uk {x:AV} {u:Value} (h:dZ P w D ι x u) (hc:x.cells.all AV.cell=true):gI P w D ι x.cells u.cells:=by
 obtain⟨h1,f,h2,h3⟩:=h.cells hc
 exact⟨h1,fun j a ha=>⟨f j,h2 j (List.getElem?_eq_some_iff.1 ha).1,h3 j a ha⟩⟩
theorem ZO {t:TypeId} {x:Operand} {x':O} {cs:List AV} (E:dy P w D ι env a) (ho:o.op=.box t x) (hx:cO P x=some x') (hb:cJ (dz env x')=some cs):Mk P a o w D ι id (.ptr id 0 0) ⟨true,cs.length,[cs]⟩:=by
 have hr:=ew E hx
 unfold cJ at hb
 split at hb
 ·rename_i eR
  simp at hb;subst hb
  have hk:=uk hr eR
  refine⟨.pointer (some ⟨w.heap.size,0,none⟩),(a.eval x).cells,t,?_,rfl,?_,?_,?_,?_,?_⟩
  ·simp only[execOp,ho,Instr.box,Sem.run_bind]
   simp[newVar,newRow]
  ·simp[hk.1]
  ·intro cs eD;simp at eD;subst eD;rfl
  ·intro cs eD y hy;simp at eD;subst eD
   exact List.all_eq_true.1 eR y hy
  ·exact J4 hk
  ·intro ι' hι
   have:=dZ.ptr (P:=P) (w:=w) (D:=D) (ι:=ι') id 0 0 _ hι rfl
   simpa using this
 ·simp at hb
theorem foldl_set:∀(vs:List Value) (n off:Nat) (cells:Array Value),off+n+vs.length<=cells.size->((vs.zipIdx n).foldl (fun cs (x:Value×Nat)=>cs.setIfInBounds (off+x.2) x.1) cells).size=cells.size/\
  ∀k,((vs.zipIdx n).foldl (fun cs (x:Value×Nat)=>cs.setIfInBounds (off+x.2) x.1) cells)[k]? =if off+n<=k/\k<off+n+vs.length then vs[k-(off+n)]? else cells[k]?
 |[],n,off,cells,_=>⟨rfl,fun k=>by simp;intro h1 h2;omega⟩
 |v::r,n,off,cells,h=>by
  simp only[List.length_cons]at h
  obtain⟨h1,h2⟩:=foldl_set r (n+1) off (cells.setIfInBounds (off+n) v) (by simp;omega)
  simp only[List.zipIdx_cons,List.foldl_cons]
  refine⟨by rw[h1];simp,fun k=>?_⟩
  rw[h2 k]
  simp only[List.length_cons]
  by_cases hk:k=off+n
  ·subst hk
   rw[if_neg ad,if_pos ad]
   simp[show off+n<cells.size by omega]
  ·by_cases sZ:off+n<=k/\k<off+n+(r.length+1)
   ·rw[if_pos ad,if_pos sZ]
    have:k-(off+n)=(k-(off+(n+1)))+1:=ad
    rw[this,List.getElem?_cons_succ]
   ·rw[if_neg ad,if_neg sZ,Array.getElem?_setIfInBounds_ne ad]
theorem zV (place:Nat->Option (Nat×Nat)):∀(ps:List (Nat×Value)) (qs:List (Nat×Nat×AV)) (cells:Array Value) (cs res:List AV),gI P w D ι cs cells->(∀a∈cs,a.cell=true)->ps.length=qs.length->
  (∀(k:Nat) i u o' n x,ps[k]? =some (i,u)->qs[k]? =some (o',n,x)->place i=some (o',n)/\dZ P w D ι x u)->cE cs qs=some res->∃kI,Instr.fill place cells ps=some kI/\gI P w D ι res kI/\(∀a∈res,a.cell=true)/\res.length=cs.length:=by
 intro ps
 induction ps with
 |nil=>
  intro qs cells cs res hR hf hl _ hv
  cases qs with
  |nil=>simp[cE]at hv;subst hv;exact⟨cells,rfl,hR,hf,rfl⟩
  |cons q r=>simp at hl
 |cons p ps ih=>
  intro qs cells cs res hR hf hl hp hv
  cases qs with
  |nil=>simp at hl
  |cons q qs=>
   obtain⟨i,u⟩:=p
   obtain⟨oo,n,x⟩:=q
   obtain⟨mN,hr⟩:=hp 0 i u oo n x rfl rfl
   unfold cE at hv
   split at hv
   ·rename_i hc
    obtain⟨c1,c2,c3⟩:=hc
    have hk:=uk hr c3
    have hus:u.cells.size=n:=by rw[hk.1,c1]
    have eD:cells.size=cs.length:=hR.1
    unfold Instr.fill
    simp only[mN]
    rw[if_neg (by rw[hus,eD];simp;omega)]
    obtain⟨s1,s2⟩:=foldl_set u.cells.toList 0 oo cells (by simp;omega)
    have e0:(u.cells.zipIdx.foldl (fun cs (x:Value×Nat)=>cs.setIfInBounds (oo+x.2) x.1) cells)=(u.cells.toList.zipIdx 0).foldl (fun cs (x:Value×Nat)=>cs.setIfInBounds (oo+x.2) x.1) cells:=by
     rw[<-Array.foldl_toList];simp
    have yK:=ih qs (u.cells.zipIdx.foldl (fun cs (x:Value×Nat)=>cs.setIfInBounds (oo+x.2) x.1) cells) (cs.take oo++x.cells++cs.drop (oo+n)) res ?_ ?_ (by simpa using hl) (fun k i u o' n x h1 h2=>hp (k+1) i u o' n x (by simpa using h1) (by simpa using h2)) hv
    ·obtain⟨kI,h1,h2,h3,h4⟩:=yK
     refine⟨kI,h1,h2,h3,?_⟩
     rw[h4];simp;omega
    ·rw[e0]
     refine⟨by rw[s1,eD];simp;omega,fun j a ha=>?_⟩
     rw[s2 j]
     simp only[Nat.add_zero,Array.length_toList]
     by_cases hj:oo<=j/\j<oo+u.cells.size
     ·rw[if_pos hj]
      rw[List.append_assoc,List.getElem?_append_right (by simp;omega),List.getElem?_append_left (by simp;omega)]at ha
      simp only[List.length_take]at ha
      rw[show min oo cs.length=oo by omega]at ha
      simpa using hk.2 _ _ ha
     ·rw[if_neg hj]
      by_cases QY:j<oo
      ·rw[List.append_assoc,List.getElem?_append_left (by simp;omega),List.getElem?_take,if_pos QY]at ha
       exact hR.2 _ _ ha
      ·rw[List.getElem?_append_right (by simp;omega)]at ha
       simp only[List.length_append,List.length_take,List.getElem?_drop]at ha
       rw[show oo+n+(j-(min oo cs.length+x.cells.length))=j by omega]at ha
       exact hR.2 _ _ ha
    ·intro b hb
     rcases List.mem_append.1 hb with hb|hb
     ·rcases List.mem_append.1 hb with hb|hb
      ·exact hf b (List.mem_of_mem_take hb)
      ·exact List.all_eq_true.1 c3 b hb
     ·exact hf b (List.mem_of_mem_drop hb)
   ·simp at hv
theorem BD {fs:List Field} (h:∀f∈fs,(P.info? f.type).isSome=true):∃places,fs.mapM (fun f=>(P.info? f.type).map fun i=>(f.offset,i.size))=some places/\∀(i:Nat) (f:Field) (n:Nat),fs[i]? =some f->eX P f.type=some n->places[i]? =some (f.offset,n):=by
 induction fs with
 |nil=>exact⟨[],rfl,fun i f n h=>by simp at h⟩
 |cons f r ih=>
  obtain⟨q,h1,h2⟩:=ih (fun x hx=>h x (List.mem_cons_of_mem _ hx))
  obtain⟨i,hi⟩:=Option.isSome_iff_exists.1 (h f (by simp))
  refine⟨(f.offset,i.size)::q,by simp[hi,h1],fun k x n hk hn=>?_⟩
  cases k with
  |zero=>simp at hk;subst hk;simp[eX,hi]at hn;subst hn;rfl
  |succ k=>simp at hk ⊢;exact h2 k x n hk hn
theorem tC {ps:List (Nat×Operand)} {l:List (Nat×O)} (E:dy P w D ι env a) (h:ps.mapM (fun(x:Nat×Operand)=>(cO P x.2).map (x.1,·))=some l):l.length=ps.length/\∀(k i:Nat) (y:O),l[k]? =some (i,y)->∃x,ps[k]? =some (i,x)/\cO P x=some y:=by
 induction ps generalizing l with
 |nil=>simp at h;subst h;simp
 |cons p r ih=>
  simp only[List.mapM_cons,Option.bind_eq_bind,Option.bind_eq_some_iff]at h
  obtain⟨c,hc,uS,eD,h⟩:=h
  simp at h;subst h
  obtain⟨h1,h2⟩:=ih eD
  simp only[Option.map_eq_some_iff]at hc
  obtain⟨y,hy,rfl⟩:=hc
  refine⟨by simp[h1],fun k i z hk=>?_⟩
  cases k with
  |zero=>simp at hk;obtain⟨rfl,rfl⟩:=hk;exact⟨p.2,rfl,hy⟩
  |succ k=>simp at hk ⊢;exact h2 k i z hk
theorem HD {fs:Array Field} {l:List (Nat×O)} {q:List (Nat×Nat×O)} (h:wP P fs l=some q):q.length=l.length/\∀(k oo n:Nat) (y:O),q[k]? =some (oo,n,y)->∃(i:Nat) (f:Field),l[k]? =some (i,y)/\fs[i]? =some f/\f.offset=oo/\eX P f.type=some n:=by
 induction l generalizing q with
 |nil=>simp[wP]at h;subst h;simp
 |cons p r ih=>
  obtain⟨i,x⟩:=p
  unfold wP at h
  split at h
  ·rename_i f hf
   split at h
   ·rename_i n hn
    simp only[Option.map_eq_some_iff]at h
    obtain⟨q',Ra,rfl⟩:=h
    obtain⟨h1,h2⟩:=ih Ra
    refine⟨by simp[h1],fun k oo m y hk=>?_⟩
    cases k with
    |zero=>simp at hk;obtain⟨rfl,rfl,rfl⟩:=hk;exact⟨i,f,rfl,hf,rfl,hn⟩
    |succ k=>simp only[List.getElem?_cons_succ]at hk ⊢;exact h2 k oo m y hk
   ·simp at h
  ·simp at h
theorem gI.agg {xs:List AV} {vs:Array Value} (h:gI P w D ι xs vs) (hf:∀a∈xs,a.cell=true):dZ P w D ι (.agg xs) (.agg vs):=
 .agg xs vs (fun j=>vs.getD j undef) h.1 hf (fun j hj=>by
  have:j<vs.size:=by rw[h.1];exact hj
  simp[this]) (fun j a ha=>by
  obtain⟨u,h1,h2⟩:=h.2 j a ha
  simpa[Array.getD_eq_getD_getElem?,h1]using h2)
theorem Sn {t:TypeId} {ps:Array (Nat×Operand)} {fs:Array Field} {z:List K} {l:List (Nat×O)} {q:List (Nat×Nat×O)} {cs:List AV} (E:dy P w D ι env a) (ho:o.op=.build t ps) (ht:P.underlying t=some (.struct fs)) (hz:lu P t=some z) (hl:wS P ps=some l)
  (u9:∀f∈fs.toList,(P.info? f.type).isSome=true) (hq:wP P fs l=some q) (hv:cE (z.map K.av) (q.map fun(o,n,x)=>(o,n,dz env x))=some cs):qI P a o w D ι (.agg cs):=by
 obtain⟨it,zv,hi,Al,hs,hm,JV⟩:=lN hz
 obtain⟨places,mN,hpl2⟩:=BD u9
 have hk:=kL (P:=P) (w:=w) (D:=D) (ι:=ι) hm
 obtain⟨n1,r1⟩:=tC E hl
 obtain⟨n2,r2⟩:=HD hq
 obtain⟨kI,h1,h2,h3,_⟩:=zV (P:=P) (w:=w) (D:=D) (ι:=ι) (places.toArray[·]?) (ps.toList.map fun(i,x)=>(i,a.eval x)) (q.map fun(o,n,x)=>(o,n,dz env x)) zv.cells _ cs (by simpa using hk)
  (fun b hb=>by obtain⟨c,_,rfl⟩:=List.mem_map.1 hb;exact c.pI) (by simp[n2,n1]) (fun k i u o' n x uz sZ=>by
   simp only[List.getElem?_map,Option.map_eq_some_iff]at uz sZ
   obtain⟨⟨i',x'⟩,hp,e1⟩:=uz
   obtain⟨⟨o2,n',y⟩,Ra,e2⟩:=sZ
   simp only[Prod.mk.injEq]at e1 e2
   obtain⟨rfl,rfl⟩:=e1
   obtain⟨rfl,rfl,rfl⟩:=e2
   obtain⟨i2,f,FV,hf,rfl,hn⟩:=r2 _ _ _ _ Ra
   obtain⟨x2,Bo,hc⟩:=r1 _ _ _ FV
   rw[hp]at Bo
   simp only[Option.some.injEq,Prod.mk.injEq]at Bo
   obtain⟨rfl,rfl⟩:=Bo
   exact⟨by simpa using hpl2 _ _ _ (by simpa using hf) hn,ew E hc⟩) hv
 refine⟨.agg kI,?_,h2.agg h3⟩
 have hb:P.built t ((ps.map fun(i,x)=>(i,a.eval x)).toList)=some kI:=by
  unfold Program.built
  simp only[hi,ht,Al,mN]
  simpa using h1
 simp only[execOp,ho,Sem.run_bind,run_build w t _ _ hb,Result.andThen_ok,Sem.run_pure]
theorem PN {t e:TypeId} {len n:Nat} {ps:Array (Nat×Operand)} {z:List K} {l:List (Nat×O)} {cs:List AV} (E:dy P w D ι env a) (ho:o.op=.build t ps) (ht:P.underlying t=some (.array len e)) (hz:lu P t=some z) (hl:wS P ps=some l) (hn:eX P e=some n)
  (hv:cE (z.map K.av) ((l.map fun(x:Nat×O)=>(x.1*n,n,x.2)).map fun(o,n,x)=>(o,n,dz env x))=some cs):qI P a o w D ι (.agg cs):=by
 obtain⟨it,zv,hi,Al,hs,hm,JV⟩:=lN hz
 have hk:=kL (P:=P) (w:=w) (D:=D) (ι:=ι) hm
 obtain⟨n1,r1⟩:=tC E hl
 obtain⟨ie,FU,eY⟩:∃ie,P.info? e=some ie/\ie.size=n:=by simpa[eX]using hn
 obtain⟨kI,h1,h2,h3,_⟩:=zV (P:=P) (w:=w) (D:=D) (ι:=ι) (fun i=>some (i*ie.size,ie.size)) (ps.toList.map fun(i,x)=>(i,a.eval x)) ((l.map fun(x:Nat×O)=>(x.1*n,n,x.2)).map fun(o,n,x)=>(o,n,dz env x)) zv.cells _ cs (by simpa using hk)
  (fun b hb=>by obtain⟨c,_,rfl⟩:=List.mem_map.1 hb;exact c.pI) (by simp[n1]) (fun k i u o' n' x uz sZ=>by
   simp only[List.getElem?_map,Option.map_eq_some_iff]at uz sZ
   obtain⟨⟨i',x'⟩,hp,e1⟩:=uz
   obtain⟨⟨o2,n2,y⟩,⟨⟨i2,y2⟩,FV,e3⟩,e2⟩:=sZ
   simp only[Prod.mk.injEq]at e1 e2 e3
   obtain⟨rfl,rfl⟩:=e1
   obtain⟨rfl,rfl,rfl⟩:=e2
   obtain⟨rfl,rfl,rfl⟩:=e3
   obtain⟨x2,Bo,hc⟩:=r1 _ _ _ FV
   rw[hp]at Bo
   simp only[Option.some.injEq,Prod.mk.injEq]at Bo
   obtain⟨rfl,rfl⟩:=Bo
   exact⟨by rw[eY],ew E hc⟩) hv
 refine⟨.agg kI,?_,h2.agg h3⟩
 have hb:P.built t ((ps.map fun(i,x)=>(i,a.eval x)).toList)=some kI:=by
  unfold Program.built
  simp only[hi,ht,Al,FU]
  simpa using h1
 simp only[execOp,ho,Sem.run_bind,run_build w t _ _ hb,Result.andThen_ok,Sem.run_pure]
theorem zU:∀(vs:List AV) (sz i:Nat) (rs:List (List AV)) (cs:List AV),0<sz->cs.length=(i+vs.length)*sz->rowsOf sz vs=some rs->
  cE cs ((vs.zipIdx i).map fun(v,j)=>(j*sz,sz,v))=some (cs.take (i*sz)++rs.flatten)/\rs.length=vs.length/\(∀c∈rs,c.length=sz)/\∀c∈rs,∀x∈c,x.cell=true
 |[],sz,i,rs,cs,_,hl,h=>by
  simp[rowsOf]at h;subst h
  simp at hl
  simp[cE,List.take_of_length_le (show cs.length<=i*sz by omega)]
 |v::r,sz,i,rs,cs,eY,hl,h=>by
  simp only[rowsOf,Option.bind_eq_some_iff,Option.map_eq_some_iff]at h
  obtain⟨c,hc,rs',tU,rfl⟩:=h
  unfold rowOf at hc
  split at hc
  ·rename_i FP
   simp at hc;subst hc
   obtain⟨qK,HY⟩:=FP
   simp only[List.length_cons]at hl
   have hmul:(i+(r.length+1))*sz=i*sz+sz+r.length*sz:=by rw[Nat.add_mul,Nat.add_mul];omega
   have ih:=zU r sz (i+1) rs' (cs.take (i*sz)++v.cells++cs.drop (i*sz+sz)) eY (by
    simp[qK];rw[Nat.add_mul,Nat.add_mul];omega) tU
   refine⟨?_,by simp[ih.2.1],?_,?_⟩
   ·simp only[List.zipIdx_cons,List.map_cons,cE]
    rw[if_pos ⟨qK,ad,HY⟩,ih.1]
    congr 1
    rw[List.flatten_cons,<-List.append_assoc]
    congr 1
    rw[Nat.add_mul,Nat.one_mul,List.take_append_of_le_length (by simp[qK];omega)]
    rw[List.take_of_length_le (by simp[qK];omega)]
   ·intro c' mh;rcases List.mem_cons.1 mh with rfl|mh
    ·exact qK
    ·exact ih.2.2.1 c' mh
   ·intro c' mh;rcases List.mem_cons.1 mh with rfl|mh
    ·exact List.all_eq_true.1 HY
    ·exact ih.2.2.2 c' mh
  ·simp at hc
theorem flat_get {α:Type} {qW:List (List α)} {sz:Nat} (h:∀cs∈qW,cs.length=sz) {i j:Nat} {cs:List α} {a:α} (hi:qW[i]? =some cs) (hj:cs[j]? =some a):qW.flatten[i*sz+j]? =some a:=by
 induction qW generalizing i with
 |nil=>simp at hi
 |cons c r ih=>
  have hc:c.length=sz:=h c (by simp)
  cases i with
  |zero=>
   simp at hi;subst hi
   have eP:=(List.getElem?_eq_some_iff.1 hj).1
   rw[List.flatten_cons,List.getElem?_append_left ad];simpa using hj
  |succ i=>
   rw[List.flatten_cons,List.getElem?_append_right (by rw[hc,Nat.succ_mul];omega)]
   have:(i+1)*sz+j-c.length=i*sz+j:=by rw[hc,Nat.succ_mul];omega
   rw[this]
   exact ih (fun cs eD=>h cs (List.mem_cons_of_mem _ eD)) (by simpa using hi)
theorem Ny {α:Type} {qW:List (List α)} {sz:Nat} (h:∀cs∈qW,cs.length=sz):qW.flatten.length=qW.length*sz:=by
 induction qW with
 |nil=>simp
 |cons c r ih=>
  rw[List.flatten_cons,List.length_append,h c (by simp),ih (fun cs eD=>h cs (List.mem_cons_of_mem _ eD)),List.length_cons,Nat.succ_mul];omega
theorem rZ {zv:Value} {z:List K} {n:Nat} (hm:zv.cells.toList.mapM Lh=some z) (lX:0<z.length):∀k,k<n->∃c,z[k % z.length]? =some c/\((Array.range n).map (zv.cells[· % zv.cells.size]!))[k]? =some c.val:=by
 intro k hk
 obtain⟨h1,h2⟩:=vI hm
 have eY:zv.cells.size=z.length:=by simpa using h1.symm
 have eP:k % z.length<z.length:=Nat.mod_lt _ lX
 refine⟨z[k % z.length],List.getElem?_eq_getElem eP,?_⟩
 have h3:=h2 _ _ (List.getElem?_eq_getElem eP)
 simp only[Array.getElem?_toList]at h3
 have FW:k % z.length<zv.cells.size:=by rw[eY];exact eP
 rw[Array.getElem?_map,Array.getElem?_range,if_pos hk]
 simp only[Option.map_some]
 rw[eY,getElem!_pos zv.cells (k % z.length) FW]
 rw[Array.getElem?_eq_getElem FW]at h3
 exact h3
theorem OB {t e:TypeId} {len sz:Nat} {ps:Array (Nat×Operand)} {z:List K} {l:List (Nat×O)} {rs:List (List AV)} (E:dy P w D ι env a) (ho:o.op=.buildSlice t len ps) (ht:P.underlying t=some (.slice e)) (eY:eX P e=some (sz+1)) (hz:lu P e=some z)
  (hl:wS P ps=some l) (Ob:len*(sz+1)<=4096) (Zv:l.map (·.1)=List.range len) (hv:rowsOf (sz+1) (l.map fun x=>dz env x.2)=some rs):Mk P a o w D ι id (.own id 0 len) ⟨true,sz+1,rs⟩:=by
 obtain⟨it,zv,hi,Al,hs,hm,JV⟩:=lN hz
 have ll:it.size=sz+1:=by simpa[eX,hi]using eY
 obtain⟨n1,r1⟩:=tC E hl
 have Mw:l.length=len:=by have:=congrArg List.length Zv;simpa using this
 by_cases h0:len=0
 ·subst h0
  have Qa:l=[]:=List.length_eq_zero_iff.1 Mw
  subst Qa
  simp[rowsOf]at hv;subst hv
  have Zq:ps= #[]:=by
   apply Array.ext';apply List.eq_nil_of_length_eq_zero;rw[<-n1];rfl
  subst Zq
  refine⟨.slice (some ⟨w.heap.size,0,none⟩) 0 0, #[],e,?_,rfl,by simp,by simp,by simp,fun i j cs x hi=>by simp at hi,fun ι' hι=>?_⟩
  ·simp[execOp,ho,Instr.buildSlice,run_underlying ht,sizeOf,typeInfo,hi,Instr.fill,newRow,Array.range_zero']
  ·exact .own _ 0 0 0 0 _ hι rfl (Nat.le_refl _) (.inl rfl) (by simp) (by simp[maxLen])
 ·have Bp:gI P w D ι ((List.range (len*(sz+1))).map fun k=>(z.getD (k % z.length) .cr).av) ((Array.range (len*(sz+1))).map (zv.cells[· % zv.cells.size]!)):=by
   refine⟨by simp,fun j x hx=>?_⟩
   simp only[List.getElem?_map,Option.map_eq_some_iff]at hx
   obtain⟨k,hk,rfl⟩:=hx
   have lk:=(List.getElem?_eq_some_iff.1 hk).1
   simp at lk
   rw[List.getElem?_range lk]at hk
   injection hk with hk
   subst hk
   obtain⟨c,hc,UX⟩:=rZ hm (by rw[JV,ll];omega) j lk
   exact⟨c.val,UX,by rw[List.getD_eq_getElem?_getD,hc];exact AU c⟩
  obtain⟨f1,f2,f3,f4⟩:=zU (l.map fun x=>dz env x.2) (sz+1) 0 rs ((List.range (len*(sz+1))).map fun k=>(z.getD (k % z.length) .cr).av) ad (by simp[Mw]) hv
  obtain⟨kI,h1,h2,h3,h4⟩:=zV (P:=P) (w:=w) (D:=D) (ι:=ι) (fun i=>some (i*it.size,it.size)) (ps.toList.map fun(i,x)=>(i,a.eval x)) _ _ _ _ Bp
   (fun b hb=>by obtain⟨c,_,rfl⟩:=List.mem_map.1 hb;exact K.pI _) (by simp[n1]) (fun k i u o' n x uz sZ=>by
   simp only[List.getElem?_map,Option.map_eq_some_iff]at uz sZ
   obtain⟨⟨i',x'⟩,hp,e1⟩:=uz
   obtain⟨⟨v2,j2⟩,Ra,e2⟩:=sZ
   simp only[Prod.mk.injEq]at e1 e2
   obtain⟨rfl,rfl⟩:=e1
   obtain⟨rfl,rfl,rfl⟩:=e2
   rw[List.getElem?_zipIdx]at Ra
   simp only[List.getElem?_map,Option.map_map,Option.map_eq_some_iff,Function.comp_apply,Prod.mk.injEq,Nat.zero_add]at Ra
   obtain⟨⟨i2,y⟩,FV,rfl,rfl⟩:=Ra
   obtain⟨x2,Bo,hc⟩:=r1 _ _ _ FV
   rw[hp]at Bo
   simp only[Option.some.injEq,Prod.mk.injEq]at Bo
   obtain⟨rfl,rfl⟩:=Bo
   have Cu:(l.map (·.1))[k]? =some i':=by rw[List.getElem?_map,FV];rfl
   have lk:=(List.getElem?_eq_some_iff.1 Cu).1
   rw[Zv]at Cu
   simp at lk
   rw[List.getElem?_range ad]at Cu
   injection Cu with Cu
   subst Cu
   exact⟨by rw[ll],ew E hc⟩) f1
  simp only[Nat.zero_mul,List.take_zero,List.nil_append,List.length_map]at h2 h3 h4 f2
  have eD:kI.size=len*(sz+1):=by rw[h2.1,h4];simp
  refine⟨.slice (some ⟨w.heap.size,0,none⟩) len len,kI,e,?_,rfl,?_,f3,f4,fun i j cs x uy hj=>h2.2 _ _ (flat_get f3 uy hj),fun ι' hι=>?_⟩
  ·have gU:=run_buildSlice (P:=P) w t e len (ps.map fun(i,x)=>(i,a.eval x)) kI it zv ht hi Al (by rw[ll];omega) (by rw[ll];exact Nat.mul_ne_zero h0 ad) (by rw[<-ll]at h1;simpa using h1)
   simp only[execOp,ho,Sem.run_bind,gU,Result.andThen_ok,Sem.run_pure]
  ·dsimp only;rw[f2,Mw,eD];exact Nat.le_refl _
  ·refine .own _ 0 len 0 len _ hι rfl (Nat.le_refl _) (.inr (by simp)) ?_ (by simp only[maxLen];have:=Nat.le_mul_of_pos_right len (show 0<sz+1 by omega);omega)
   dsimp only;rw[eD];simp
theorem Ly {t e:TypeId} {it:TypeInfo} {m:Nat} {z:List K} {l c:Operand} {l' c':O} {n:Nat} {r:Row} (E:dy P w D ι env a) (ho:o.op=.makeSlice t l c) (ht:P.underlying t=some (.slice e)) (eY:eX P e=some (m+1)) (hz:lu P e=some z) (Mv:P.info? e=some it) (hby:it.bytes<=32768)
  (hl:cO P l=some l') (hc:cO P c=some c') (hv:fZ z (dz env l') (dz env c')=some (n,r)):Mk P a o w D ι id (.own id 0 n) r:=by
 obtain⟨it',zv,hi,Al,hs,hm,JV⟩:=lN hz
 rw[Mv]at hi;injection hi with hi;subst hi
 have ll:it.size=m+1:=by simpa[eX,Mv]using eY
 unfold fZ at hv
 split at hv
 ·rename_i k1 ln k2 cn e1 e2
  split at hv
  ·rename_i hb
   obtain⟨b1,b2,b3⟩:=hb
   simp at hv
   obtain⟨rfl,rfl⟩:=hv
   have r1:=ev (e1▸ew E hl)
   have r2:=ev (e2▸ew E hc)
   unfold dG at b3
   have HX:(it.bytes:Int)*cn<=281474976710656:=by
    have h1:(it.bytes:Int)<=32768:=ad
    have h2:(it.bytes:Int)*cn<=32768*16777216:=Int.mul_le_mul h1 ad ad ad
    omega
   have gU:=run_make (P:=P) w t e it zv ht Mv Al k1 k2 ln cn b1 b2 HX ad
   have oh:∀k,k<cn.toNat*it.size->∃x,z[k % z.length]? =some x/\(madeCells zv.cells (cn.toNat*it.size))[k]? =some x.val:=fun k hk=>rZ hm (by rw[JV,ll];omega) k hk
   refine⟨.slice (some ⟨w.heap.size,0,none⟩) ln.toNat cn.toNat,madeCells zv.cells (cn.toNat*it.size),e,by simp only[execOp,ho,r1,r2,Sem.run_bind,gU,Result.andThen_ok,Sem.run_pure],rfl,?_,?_,?_,?_,fun ι' hι=>?_⟩
   ·simp only[List.length_replicate,size_madeCells,JV]
    exact Nat.mul_le_mul_right _ ad
   ·intro cs eD
    have:=List.eq_of_mem_replicate eD
    subst this;simp
   ·intro cs eD x hx
    have:=List.eq_of_mem_replicate eD
    subst this
    obtain⟨c,_,rfl⟩:=List.mem_map.1 hx;exact c.pI
   ·intro i j cs x uy hj
    have oj:=(List.getElem?_eq_some_iff.1 uy).1
    have:=List.eq_of_mem_replicate (List.mem_of_getElem? uy)
    subst this
    simp only[List.length_replicate]at oj
    simp only[List.getElem?_map,Option.map_eq_some_iff]at hj
    obtain⟨q,hq,rfl⟩:=hj
    have iP:=(List.getElem?_eq_some_iff.1 hq).1
    dsimp only
    obtain⟨x,hx,Bo⟩:=oh (i*z.length+j) (by
     rw[<-JV]
     calc i*z.length+j<i*z.length+z.length:=ad
      _=(i+1)*z.length:=by rw[Nat.add_mul,Nat.one_mul]
      _<=cn.toNat*z.length:=Nat.mul_le_mul_right _ ad)
    rw[Nat.mul_comm i,Nat.mul_add_mod,Nat.mod_eq_of_lt iP,hq]at hx
    injection hx with hx;subst hx
    exact⟨_,by rw[Nat.mul_comm i]at Bo ⊢;exact Bo,AU q⟩
   ·refine .own _ 0 _ 0 _ _ hι rfl ad (.inr (by simp)) ?_ (by simp only[maxLen];omega)
    dsimp only;rw[size_madeCells,JV];simp
  ·simp at hv
 ·simp at hv
end
end Go.Proofs.YtoodopepphhpoaaGreatDoor.V

namespace Go.Proofs.YtoodopepphhpoaaGreatDoor.V
open Go.RowKit
variable {P:Program} {w w':World} {D D':Nat->Prop} {ι ι':Names}
def Jm (P:Program) (k:TypeId) (m:MK):Prop:=
 (∃s,m=⟨false,[s]⟩/\gO P k=some s)∨
 (∃fs ts,m=⟨true,ts⟩/\P.underlying k=some (.struct fs)/\fI P 4 0 fs.toList=some ts/\P.stoodInHeld k=false/\∀f∈fs.toList,(gO P f.type).isSome=true)
theorem uN {t:TypeId} {m:MK} {z:K} (h:wR P t=some (m,z)):∃k e i zv,P.underlying t=some (.map k e)/\P.info? e=some i/\i.zero=some zv/\Lh zv=some z/\Jm P k m:=by
 unfold wR at h
 split at h
 ·rename_i k e ht
  split at h
  ·rename_i zv s h1 h2 h3
   simp only[Option.map_eq_some_iff,Prod.mk.injEq]at h
   obtain⟨z',hz,rfl,rfl⟩:=h
   simp only[Option.bind_eq_some_iff]at h2
   obtain⟨i,hi,Al⟩:=h2
   exact⟨k,e,i,zv,ht,hi,Al,hz,.inl ⟨s,rfl,h3⟩⟩
  ·rename_i zv fs h1 h2 h3 h4
   split at h
   ·rename_i ts z' BL hz
    split at h
    ·rename_i hc
     simp only[Option.some.injEq,Prod.mk.injEq]at h
     obtain⟨rfl,rfl⟩:=h
     simp only[Option.bind_eq_some_iff]at h2
     obtain⟨i,hi,Al⟩:=h2
     simp only[Bool.not_eq_true',List.all_eq_true]at hc
     exact⟨k,e,i,zv,ht,hi,Al,hz,.inr ⟨fs,ts,rfl,h4,BL,hc.1,hc.2⟩⟩
    ·cases h
   ·cases h
  ·cases h
 ·cases h
theorem A3 {t:TypeId} {s:TS} (ht:gO P t=some s) (em:Bool) (n:Nat) (v:Value):(Instr.checkKey em (n+1) t v).run P w=.ok () w:=by
 unfold Instr.checkKey
 cases s with
 |tB=>simp[run_underlying (sI ht)]
 |tS=>simp[run_underlying (sK ht)]
 |tI=>
  obtain⟨q,hq⟩:=sJ ht
  simp[run_underlying hq]
theorem A4 (em:Bool) (n:Nat) (vs:Array Value):∀(d:Nat) (fs:List Field) (off:Nat) (ts:List TS),fI P (d+1) off fs=some ts->(∀f∈fs,(gO P f.type).isSome=true)->off+ts.length<=vs.size->
  Sem.run P (forIn fs PUnit.unit fun f (_:PUnit)=>if f.name≠ "_" then do
    let x <-Go.part f.type vs f.offset
    Instr.checkKey em (n+1) f.type x
    pure (ForInStep.yield PUnit.unit)
   else pure (ForInStep.yield PUnit.unit)) w=Result.ok PUnit.unit w
 |d,[],off,ts,_,_,_=>by simp
 |d,f::r,off,ts,hf,hs,hl=>by
  rw[Ci]at hf
  split at hf
  ·rename_i hcond
   obtain⟨ho,hZ⟩:=hcond
   split at hf
   ·rename_i s XP
    split at hf
    ·rename_i x7
     simp only[Option.map_eq_some_iff]at hf
     obtain⟨Qi,hr,rfl⟩:=hf
     simp only[List.length_cons]at hl
     have ih:=A4 em n vs d r (off+1) Qi hr (fun f hf=>hs f (List.mem_cons_of_mem _ hf)) ad
     have hu:vs[off]? =some vs[off]:=by simp
     simp only[List.forIn_cons,Sem.run_bind,if_pos hZ,ho,ph x7 hu,Result.andThen_ok,A3 XP,Sem.run_pure]
     exact ih
    ·cases hf
   ·rename_i hn
    have:=hs f (by simp)
    rw[hn]at this;cases this
  ·cases hf
theorem II {k:TypeId} {m:MK} (hk:Jm P k m) (em:Bool) (key:AV) (u:Value) (x7:key.isAgg=m.ka) (hlen:key.cells.length=m.ks) (hr:dZ P w D ι key u):(Instr.checkKey em 10000 k u).run P w=.ok () w:=by
 rcases hk with⟨s,rfl,hs⟩|⟨fs,ts,rfl,u9,BL,eA,eR⟩
 ·exact A3 hs em 9999 u
 ·cases key<;>simp[AV.isAgg]at x7
  rename_i cs
  obtain⟨vs,f,rfl,h1,_⟩:=jG hr
  unfold Instr.checkKey
  simp only[Sem.run_bind,run_underlying u9,Result.andThen_ok]
  rw[<-Array.forIn_toList]
  have h:=A4 (P:=P) (w:=w) em 9998 vs 3 fs.toList 0 ts BL eR (by simp[AV.cells,MK.ks]at hlen;omega)
  rw[h]
  rfl
theorem M8 (a b:ByteArray):(a==b)=decide (a=b):=by
 by_cases h:a=b
 ·subst h;rw[decide_eq_true rfl]
  obtain⟨x⟩:=a
  show(x==x)=true
  simp
 ·rw[decide_eq_false h,Bool.eq_false_iff]
  intro hc
  obtain⟨x⟩:=a
  obtain⟨y⟩:=b
  exact h (by rw[show x=y by simpa using(show(x==y)=true from hc)])
theorem Pf {t:TypeId} {s:TS} {x y:AV} {u v:Value} {b:Bool} {d:TypeDesc} (ht:gO P t=some s) (hd:P.underlying t=some d) (he:fD s x y=some b) (hx:dZ P w D ι x u) (hy:dZ P w D ι y v):Instr.sameNow d u v=some b:=by
 unfold fD at he
 split at he
 ·rename_i k n k' n'
  split at he
  ·rename_i hk
   subst hk
   simp at he;subst he
   obtain⟨q,hq⟩:=sJ ht
   rw[hd]at hq;injection hq with hq;subst hq
   rw[ev hx,ev hy]
   simp[Instr.sameNow]
   rfl
  ·cases he
 ·simp at he;subst he
  have hq:=sI ht
  rw[hd]at hq;injection hq with hq;subst hq
  rw[gH hx,gH hy];rfl
 ·rename_i a c
  simp at he;subst he
  have hq:=sK ht
  rw[hd]at hq;injection hq with hq;subst hq
  rw[ik hx,ik hy]
  simp only[Instr.sameNow,M8]
 ·cases he
def Found (es:List MapEntry) (i:Nat) (r:Option Nat) (res:Option (Nat×Value)):Prop:=(r=none/\res=none)∨∃j e,r=some (i+j)/\es[j]? =some e/\res=some (i+j,e.val)
theorem zX {e:MapEntry} {es:List MapEntry} {i:Nat} {r:Option Nat} {res:Option (Nat×Value)} (h:Found es (i+1) r res):Found (e::es) i r res:=by
 rcases h with h|⟨j,x,h1,h2,h3⟩
 ·exact .inl h
 ·exact .inr ⟨j+1,x,by rw[h1];congr 1;omega,by simpa using h2,by rw[h3];congr 2;omega⟩
theorem Fx {t:TypeId} {s:TS} {d:TypeDesc} {x:AV} {u:Value} (ht:gO P t=some s) (hd:P.underlying t=some d) (hx:dZ P w D ι x u):∀(rows:List (List AV)) (es:List MapEntry) (i:Nat) (r:Option Nat),es.length=rows.length->
  (∀(j:Nat) (cs:List AV),rows[j]? =some cs->∃(e:MapEntry) (kv:AV),es[j]? =some e/\cs.head? =some kv/\dZ P w D ι kv e.key)->iE ⟨false,[s]⟩ [x] rows i=some r->∃res,Instr.findNow d u es i=some res/\Found es i r res
 |[],[],i,r,_,_,h=>by
  simp[iE]at h;subst h
  exact⟨none,rfl,.inl ⟨rfl,rfl⟩⟩
 |[],e::es,i,r,hl,_,h=>by simp at hl
 |cs::rows,[],i,r,hl,_,h=>by simp at hl
 |cs::rows,e::es,i,r,hl,hr,h=>by
  obtain⟨e',kv,DJ,hk,je⟩:=hr 0 cs rfl
  simp at DJ;subst DJ
  have eD:cs.take (MK.ks ⟨false,[s]⟩)=[kv]:=by
   cases cs with
   |nil=>simp at hk
   |cons a l=>simp at hk;subst hk;simp[MK.ks]
  unfold iE at h
  rw[eD]at h
  cases hq:fD s x kv with
  |none=>simp[eU,hq]at h
  |some b=>
   have hs:=Pf ht hd hq hx je
   cases b with
   |true=>
    simp[eU,hq]at h;subst h
    exact⟨some (i,e.val),by simp[Instr.findNow,hs],.inr ⟨0,e,rfl,rfl,rfl⟩⟩
   |false=>
    simp[eU,hq]at h
    obtain⟨res,h1,h2⟩:=Fx ht hd hx rows es (i+1) r (by simpa using hl) (fun j cs hj=>hr (j+1) cs (by simpa using hj)) h
    exact⟨res,by simp[Instr.findNow,hs,h1],zX h2⟩
theorem tq {t:TypeId} {fs:Array Field} {ts:List TS} {xs ys:List AV} {vs us:Array Value} {b:Bool} (u9:P.underlying t=some (.struct fs)) (eA:P.stoodInHeld t=false) (BL:fI P 4 0 fs.toList=some ts) (hx:gI P w D ι xs vs) (hy:gI P w D ι ys us) (hv:eU ts xs ys=some b):(Op.equal t (.agg vs) (.agg us)).run P w=.ok b w:=by
 obtain⟨l1,l2⟩:=uW hv
 have q:=vZ (w:=w) 4 fs.toList 0 ts BL 9998 ad xs ys vs us b hx hy (by simpa[List.take_of_length_le,l1,l2]using hv)
 have NR:P.fieldsOf t=fs:=by simp[Program.fieldsOf,u9]
 unfold Op.equal
 rw[show Op.maxDepth=9999+1 from rfl,run_equalIn_struct w 9999 t _ _ (by rw[NR];exact u9) eA,NR,q]
theorem vU {cs:List AV} {v:Value} (h:dZ P w D ι (.agg cs) v):∃vs,v=.agg vs/\gI P w D ι cs vs:=by
 obtain⟨vs,f,rfl,n1,_,f1,r1⟩:=jG h
 exact⟨vs,rfl,n1,fun j a ha=>⟨f j,f1 j (List.getElem?_eq_some_iff.1 ha).1,r1 j a ha⟩⟩
theorem Fw {t:TypeId} {fs:Array Field} {ts:List TS} {xs:List AV} {vs:Array Value} (u9:P.underlying t=some (.struct fs)) (eA:P.stoodInHeld t=false) (BL:fI P 4 0 fs.toList=some ts) (hx:gI P w D ι xs vs):∀(rows:List (List AV)) (es:List MapEntry) (i:Nat) (r:Option Nat),es.length=rows.length->
  (∀(j:Nat) (cs:List AV),rows[j]? =some cs->∃e:MapEntry,es[j]? =some e/\dZ P w D ι (.agg (cs.take ts.length)) e.key)->iE ⟨true,ts⟩ xs rows i=some r->∃res,(Instr.findAsking t (.agg vs) es i).run P w=.ok res w/\Found es i r res
 |[],[],i,r,_,_,h=>by
  simp[iE]at h;subst h
  exact⟨none,by simp[Instr.findAsking],.inl ⟨rfl,rfl⟩⟩
 |[],e::es,i,r,hl,_,h=>by simp at hl
 |cs::rows,[],i,r,hl,_,h=>by simp at hl
 |cs::rows,e::es,i,r,hl,hr,h=>by
  obtain⟨e',DJ,je⟩:=hr 0 cs rfl
  simp at DJ;subst DJ
  obtain⟨us,hk,hy⟩:=vU je
  unfold iE at h
  simp only[MK.ks]at h
  split at h
  ·rename_i hq
   simp at h;subst h
   have q:=tq u9 eA BL hx hy hq
   exact⟨some (i,e.val),by simp[Instr.findAsking,hk,q],.inr ⟨0,e,rfl,rfl,rfl⟩⟩
  ·rename_i hq
   have q:=tq u9 eA BL hx hy hq
   obtain⟨res,h1,h2⟩:=Fw u9 eA BL hx rows es (i+1) r (by simpa using hl) (fun j cs hj=>hr (j+1) cs (by simpa using hj)) h
   exact⟨res,by simp[Instr.findAsking,hk,q,h1],zX h2⟩
  ·cases h
theorem zN {a:AV} (h:a.isAgg=false):a.cells=[a]:=by cases a<;>simp_all [AV.isAgg,AV.cells]
theorem zW {k:TypeId} {m:MK} {B:wL} {r:Row} (hk:Jm P k m) {key:AV} {u:Value} (hr:dZ P w D ι key u) {es:Array MapEntry} (eY:es.size=r.rows.length)
  (hM:∀(i:Nat) (cs:List AV),r.rows[i]? =some cs->∃(e:MapEntry) (kv vv:AV),es[i]? =some e/\part m.ka m.ks cs=some kv/\cs[m.ks]? =some vv/\dZ P w D ι kv e.key/\dZ P w D ι vv e.val) {fi:Option Nat} (h:iz m key r.rows=some fi):
  (∀em,(Instr.checkKey em 10000 k u).run P w=.ok () w)/\∃res,(Instr.findKey k u es.toList).run P w=.ok res w/\Found es.toList 0 fi res:=by
 unfold iz at h
 split at h
 ·rename_i hc
  obtain⟨c1,c2,c3⟩:=hc
  refine⟨fun em=>II hk em key u c1 c2 hr,?_⟩
  rcases hk with⟨s,rfl,hs⟩|⟨fs,ts,rfl,u9,BL,eA,eR⟩
  ·rw[zN c1]at h
   have hd:∃d,P.underlying k=some d:=by
    cases s with
    |tB=>exact⟨_,sI hs⟩
    |tS=>exact⟨_,sK hs⟩
    |tI=>obtain⟨q,hq⟩:=sJ hs;exact⟨_,hq⟩
   obtain⟨d,hd⟩:=hd
   obtain⟨res,h1,h2⟩:=Fx hs hd hr r.rows es.toList 0 fi (by simpa using eY) (fun j cs hj=>by
    obtain⟨e,kv,vv,q1,q2,_,q4,_⟩:=hM j cs hj
    exact⟨e,kv,by simpa using q1,by simpa[part]using q2,q4⟩) h
   exact⟨res,by simp[Instr.findKey,run_underlying hd,h1],h2⟩
  ·cases key<;>simp[AV.isAgg]at c1
   rename_i cs
   obtain⟨vs,rfl,hL⟩:=vU hr
   obtain⟨res,h1,h2⟩:=Fw u9 eA BL hL r.rows es.toList 0 fi (by simpa using eY) (fun j cs hj=>by
    obtain⟨e,kv,vv,q1,q2,_,q4,_⟩:=hM j cs hj
    unfold part at q2
    simp only[if_true]at q2
    split at q2
    ·simp only[Option.some.injEq]at q2;subst q2
     exact⟨e,by simpa using q1,q4⟩
    ·cases q2) h
   exact⟨res,(run_findKey_eq w (by simp[u9]) _ _).trans h1,h2⟩
 ·cases h
section
variable {g:Rows} {hs:Nat} {env:Env} {a:Act} {o:Oper} {id:Id} {v:AV}
theorem D5 {m:MK} {x:AV} {u:Value} {p:Id×Row} (S:iD P hs D ι g w) (hr:dZ P w D ι x u) (h:dL g m x=some p):∃B,u=.map (some B.b)/\g p.1=some p.2/\ι p.1=some B/\B.k=some (.map m)/\SK P w D ι B m p.2:=by
 unfold dL at h
 split at h
 ·rename_i i m'
  split at h
  ·rename_i hm
   subst hm
   simp only[Option.map_eq_some_iff]at h
   obtain⟨r,hg,rfl⟩:=h
   obtain⟨B,rfl,hB,hk⟩:=Ef hr
   obtain⟨B',eE,R,_⟩:=S.row i r hg
   rw[hB]at eE;injection eE with eE;subst eE
   exact⟨B,rfl,hg,hB,hk,(R.map _ hk).2⟩
  ·cases h
 ·cases h
theorem WC {t:TypeId} {x k:Operand} {ok:Bool} {m:MK} {z:K} {x' k':O} {mr:Option Row} (S:iD P hs D ι g w) (E:dy P w D ι env a) (ho:o.op=.lookup t x k ok) (hc:wR P t=some (m,z)) (hx:cO P x=some x') (hk:cO P k=some k')
  (hv:bx (.look m ok z) [dz env x',dz env k'] g id=some (v,mr)):mr=none/\qI P a o w D ι v:=by
 obtain⟨kt,e,i,zv,ht,hi,Al,hkz,hK⟩:=uN hc
 simp only[bx,Option.bind_eq_some_iff,Option.map_eq_some_iff,Prod.mk.injEq]at hv
 obtain⟨p,hp,fi,Hc,y,hy,rfl,rfl⟩:=hv
 obtain⟨B,hu,hg,hB,zb,es,clock,hb,eY,hlen,hM⟩:=D5 S (ew E hx) hp
 obtain⟨UT,res,hf,hF⟩:=zW (B:=B) hK (ew E hk) eY hM Hc
 have key:∃val,(match res with|some (_,v)=>(v,true)|none=>(zv,false))=(val,fi.isSome)/\dZ P w D ι y val:=by
  rcases hF with⟨rfl,rfl⟩|⟨j,en,rfl,he,rfl⟩
  ·simp only[dM,Option.some.injEq]at hy;subst hy
   refine⟨zv,rfl,?_⟩
   rw[DR hkz];exact AU z
  ·simp only[dM,Option.bind_eq_some_iff,Nat.zero_add]at hy
   obtain⟨cs,eD,hy⟩:=hy
   obtain⟨e',kv,vv,q1,_,q3,_,q5⟩:=hM _ cs eD
   rw[hy]at q3;injection q3 with q3;subst q3
   have:e'=en:=by
    have h1:es.toList[j]? =some e':=by simpa using q1
    rw[he]at h1;injection h1 with h1;exact h1.symm
   subst this
   exact⟨_,rfl,q5⟩
 obtain⟨val,yM,om⟩:=key
 have jc:(getObj B.b).run P w=.ok (.map es clock) w:=MapKept.run_getObj_map hb
 have hz:(zeroValue e).run P w=.ok zv w:=by simp[zeroValue,typeInfo,hi,Al]
 refine⟨rfl,if ok then .tuple #[val,.bool fi.isSome]else val,?_,?_⟩
 ·simp only[execOp,ho,hu,Instr.lookup,Sem.run_bind,run_underlying ht,Result.andThen_ok,jc,Sem.run_pure,UT,hf]
  rcases hF with⟨rfl,rfl⟩|⟨j,en,rfl,he,rfl⟩
  ·simp only[Prod.mk.injEq]at yM
   simp[hz,yM.1]
  ·simp only[Prod.mk.injEq]at yM
   simp[yM.1]
 ·cases ok with
  |false=>exact om
  |true=>
   refine .fX _ _ (fun j=>if j=0 then val else .bool fi.isSome) rfl (fun j hj=>?_) (fun j b hj=>?_)
   ·have:j=0∨j=1:=by simp at hj;omega
    rcases this with rfl|rfl<;>rfl
   ·match j,hj with
    |0,hj=>simp at hj;subst hj;exact om
    |1,hj=>simp at hj;subst hj;exact .fq _ _ (.bool _)
    |j+2,hj=>simp at hj
theorem WG {t:TypeId} {x:Operand} {m:MK} {z:K} {x':O} {mr:Option Row} (S:iD P hs D ι g w) (E:dy P w D ι env a) (ho:o.op=.call {callee:=.builtin .len,args:= #[x],argTypes:= #[t]}) (hc:wR P t=some (m,z)) (hx:cO P x=some x')
  (hv:bx (.len m) [dz env x'] g id=some (v,mr)):mr=none/\qI P a o w D ι v:=by
 obtain⟨kt,e,i,zv,ht,hi,Al,hkz,hK⟩:=uN hc
 simp only[bx,Option.map_eq_some_iff,Prod.mk.injEq]at hv
 obtain⟨p,hp,rfl,rfl⟩:=hv
 obtain⟨B,hu,hg,hB,zb,es,clock,hb,eY,hlen,hM⟩:=D5 S (ew E hx) hp
 have jc:(getObj B.b).run P w=.ok (.map es clock) w:=MapKept.run_getObj_map hb
 refine⟨rfl,.int .i64 (es.size:Int),?_,by rw[eY];exact .fq _ _ (.int _ _)⟩
 simp only[execOp,ho,resolve,Sem.run_bind,Sem.run_pure,Result.andThen_ok,invoke,builtin,Array.map,hu]
 simp[Builtin.len_,run_underlying ht,goInt,hu,jc]
def MkM (P:Program) (a:Act) (o:Oper) (w:World) (id:Id) (v:AV) (r:Row):Prop:=
 ∃m,(execOp a.eval o).run P w=.ok (.value (.map (some w.heap.size))) (w.alloc (.map #[] 0))/\v=.map id m/\r=⟨true,m.mC,[]⟩
theorem ZP {t:TypeId} {m:MK} (ho:o.op=.makeMap t none):MkM P a o w id (.map id m) ⟨true,m.mC,[]⟩:=by
 refine⟨m,?_,rfl,rfl⟩
 simp[execOp,ho,Instr.makeMap,go_sem]
def MkC (P:Program) (a:Act) (o:Oper) (w:World) (id:Id) (v:AV) (r:Row):Prop:=
 ∃n,(execOp a.eval o).run P w=.ok (.value (.chan (some w.heap.size))) (w.alloc (.chan n #[] false 0 0 false))/\v=.uQ id/\r=⟨true,uT+n,[]⟩
theorem VO {t e:TypeId} {x:Operand} {x':O} {dir:ChanDir} {i:TypeInfo} {n:Nat} (E:dy P w D ι env a) (ho:o.op=.makeChan t x) (ht:P.underlying t=some (.chan dir e)) (hi:P.info? e=some i) (hb:i.bytes<=32768) (hx:cO P x=some x') (hn:cW (dz env x')=some n):MkC P a o w id (.uQ id) ⟨true,uT+n,[]⟩:=by
 refine⟨n,?_,rfl,rfl⟩
 have hr:=ew E hx
 unfold cW at hn
 split at hn
 ·rename_i k m hm
  rw[hm]at hr
  split at hn
  ·rename_i hc
   simp only[Option.some.injEq]at hn
   subst hn
   have H6:((m.toNat:Nat):Int)=m:=ad
   have eP:(i.bytes:Int)*(m.toNat:Nat)<=281474976710544:=by
    have h1:i.bytes*m.toNat<=32768*1048576:=Nat.mul_le_mul hb ad
    have h2:((i.bytes*m.toNat:Nat):Int)<=281474976710544:=ad
    rwa [Int.natCast_mul]at h2
   have h:=Conc.run_makeChan (P:=P) (w:=w) ht hi k m.toNat ad eP
   rw[H6]at h
   simp only[execOp,ho,ev hr,Sem.run_bind,h,Result.andThen_ok,Sem.run_pure]
  ·cases hn
 ·cases hn
theorem Dk {x:AV} {u:Value} {i:Id} {r:Row} (S:iD P hs D ι g w) (hr:dZ P w D ι x u) (hx:x=.uQ i) (hg:g i=some r):∃B c,u=.chan (some B.b)/\ι i=some B/\B.k=some (.chan c)/\r.sz=uT+c/\MF P w D ι B c r:=by
 subst hx
 obtain⟨B,c,rfl,hB,hk⟩:=RZ hr
 obtain⟨B',eE,R,_⟩:=S.row i r hg
 rw[hB]at eE;injection eE with eE;subst eE
 exact⟨B,c,rfl,hB,hk,R.chan c hk⟩
theorem Wz {t e:TypeId} {dir:ChanDir} {x:Operand} {x':O} (S:iD P hs D ι g w) (E:dy P w D ι env a) (ho:o.op=.call {callee:=.builtin .len,args:= #[x],argTypes:= #[t]}) (ht:P.underlying t=some (.chan dir e)) (hx:cO P x=some x') (hv:cU g (dz env x')=some v):qI P a o w D ι v:=by
 have hr:=ew E hx
 unfold cU at hv
 split at hv
 ·rename_i i he
  simp only[Option.map_eq_some_iff]at hv
  obtain⟨r,hg,rfl⟩:=hv
  obtain⟨B,c,hu,hB,hk,eY,buf,s,q,hb,P0,_⟩:=Dk S hr he hg
  have jc:(getObj B.b).run P w=.ok (.chan c buf false s q false) w:=by simp[getObj,Sem.run,hb]
  refine⟨.int .i64 (buf.size:Int),?_,by rw[P0];exact .fq _ _ (.int _ _)⟩
  simp only[execOp,ho,resolve,Sem.run_bind,Sem.run_pure,Result.andThen_ok,invoke,builtin,Array.map,hu]
  simp[Builtin.len_,run_underlying ht,goInt,hu,jc]
 ·cases hv
end
end Go.Proofs.YtoodopepphhpoaaGreatDoor.V

namespace Go.Proofs.YtoodopepphhpoaaGreatDoor.V
open Go.RowKit
variable {P:Program} {w w':World} {D D':Nat->Prop} {ι ι':Names}
def Ql (P:Program) (a:Act) (o:Oper) (w:World) (D:Nat->Prop) (ι:Names) (id:Id) (v:AV):Option Row->Prop
 |none=>qI P a o w D ι v
 |some r=>Mk P a o w D ι id v r∨MkM P a o w id v r∨MkC P a o w id v r
section
variable {g:Rows} {hs:Nat} {env:Env} {a:Act} {o:Oper} {id:Id} {v:AV}
theorem nz {x:Option AV} {mr:Option Row} (h:x.map (·,(none:Option Row))=some (v,mr)) (H:x=some v->qI P a o w D ι v):Ql P a o w D ι id v mr:=by
 cases x with
 |none=>simp at h
 |some y=>simp at h;obtain⟨rfl,rfl⟩:=h;exact H rfl
theorem Z4 {neg:Bool} {t yt:TypeId} {x y:Operand} {vo:iT} {mr:Option Row} (ho:o.op=.binOp (if neg then .neq else .eql) t x y yt) (hc:wQ P neg t x y=some vo) (hq:eK vo (dz env) g id=some (v,mr)) (E:dy P w D ι env a):Ql P a o w D ι id v mr:=by
 unfold wQ at hc
 split at hc
 ·split at hc
  ·rename_i e ht
   simp only[Option.map_eq_some_iff]at hc
   obtain⟨x',hx,rfl⟩:=hc
   simp only[eK,dV,Bool.false_eq_true,if_false,Option.map_eq_some_iff,Prod.mk.injEq]at hq
   obtain⟨b,hb,rfl,rfl⟩:=hq
   exact Wv E ho ht hx hb
  ·simp at hc
 ·split at hc
  ·rename_i ht
   simp only[Option.map_eq_some_iff]at hc
   obtain⟨x',hx,rfl⟩:=hc
   simp only[eK,dV,if_true,Option.map_eq_some_iff,Prod.mk.injEq]at hq
   obtain⟨b,hb,rfl,rfl⟩:=hq
   exact Wu E ho ht hx hb
  ·simp at hc
 ·split at hc
  ·rename_i ht
   simp only[Option.map_eq_some_iff]at hc
   obtain⟨x',hx,rfl⟩:=hc
   simp only[eK,Option.map_eq_some_iff,Prod.mk.injEq]at hq
   obtain⟨b,hb,rfl,rfl⟩:=hq
   exact aax E ho ht hx hb
  ·simp at hc
 ·split at hc
  ·rename_i s hs
   simp only[Option.bind_eq_bind,Option.bind_eq_some_iff,Option.pure_def,Option.some.injEq]at hc
   obtain⟨x',hx,y',hy,rfl⟩:=hc
   simp only[eK,Option.map_eq_some_iff,Prod.mk.injEq]at hq
   obtain⟨b,hb,rfl,rfl⟩:=hq
   have F1:gO P t=some s:=by
    unfold cEq at hs
    split at hs
    ·rename_i s' h;simp at hs;subst hs;exact h
    ·split at hs
     ·split at hs
      ·simp at hs
      ·simp at hs
     ·simp at hs
   exact aay E ho F1 hx hy hb
  ·rename_i ts hs
   simp only[Option.bind_eq_bind,Option.bind_eq_some_iff,Option.pure_def,Option.some.injEq]at hc
   obtain⟨x',hx,y',hy,rfl⟩:=hc
   simp only[eK]at hq
   split at hq
   ·rename_i xs ys h1 h2
    simp only[Option.map_eq_some_iff,Prod.mk.injEq]at hq
    obtain⟨b,hb,rfl,rfl⟩:=hq
    unfold cEq at hs
    split at hs
    ·simp at hs
    ·split at hs
     ·rename_i fs u9
      split at hs
      ·rename_i hg
       simp only[Option.map_eq_some_iff,EqT.ag.injEq]at hs
       obtain⟨Qi,BL,rfl⟩:=hs
       simp only[Bool.and_eq_true,Bool.not_eq_true']at hg
       exact aaw E ho u9 hg.1 hg.2 BL hx hy h1 h2 hb
      ·simp at hs
     ·simp at hs
   ·simp at hq
  ·simp at hc
theorem V0 {c:Call} {vo:iT} {mr:Option Row} (ho:o.op=.call c) (hc:qd P c=some vo) (hq:eK vo (dz env) g id=some (v,mr)) (S:iD P hs D ι g w) (E:dy P w D ι env a):Ql P a o w D ι id v mr:=by
 unfold qd at hc
 split at hc
 ·rename_i mE
  split at hc
  ·rename_i x t h1 h2
   have hce:c={callee:=.builtin .len,args:= #[x],argTypes:= #[t]}:=by
    obtain⟨a,b,c⟩:=c
    simp only at h1 h2 mE
    subst mE
    congr
    ·exact Array.ext' h1
    ·exact Array.ext' h2
   rw[hce]at ho
   split at hc
   ·rename_i e ht
    simp only[Option.map_eq_some_iff]at hc
    obtain⟨x',hx,rfl⟩:=hc
    simp only[eK,Option.map_eq_some_iff,Prod.mk.injEq]at hq
    obtain⟨n,hn,rfl,rfl⟩:=hq
    exact aaz E ho ht hx hn
   ·rename_i ht
    simp only[Option.map_eq_some_iff]at hc
    obtain⟨x',hx,rfl⟩:=hc
    exact nz hq fun h=>WA E ho ht hx h
   ·split at hc
    ·rename_i m z x' hm hx
     simp only[Option.some.injEq]at hc
     subst hc
     obtain⟨rfl,h⟩:=WG (id:=id) S E ho hm hx hq
     exact h
    ·cases hc
   ·rename_i ht
    simp only[Option.map_eq_some_iff]at hc
    obtain⟨x',hx,rfl⟩:=hc
    exact nz hq fun h=>Wz S E ho ht hx h
   ·simp at hc
  ·simp at hc
 ·split at hc
  ·split at hc
   ·split at hc
    ·split at hc
     ·simp only[Option.bind_eq_bind,Option.bind_eq_some_iff,Option.pure_def,Option.some.injEq]at hc
      obtain⟨x',hx,y',hy,rfl⟩:=hc
      simp[eK]at hq
     ·simp at hc
    ·simp at hc
   ·simp at hc
  ·simp at hc
 ·split at hc
  ·split at hc
   ·split at hc
    ·simp only[Option.map_eq_some_iff]at hc
     obtain⟨x',hx,rfl⟩:=hc
     simp[eK]at hq
    ·simp at hc
   ·simp at hc
  ·simp at hc
 ·split at hc
  ·simp only[Option.map_eq_some_iff]at hc
   obtain⟨x',hx,rfl⟩:=hc
   simp[eK]at hq
  ·simp at hc
 ·simp only[Option.map_eq_some_iff]at hc
  obtain⟨x',hx,rfl⟩:=hc
  simp[eK]at hq
 ·split at hc
  ·split at hc
   ·simp only[Option.some.injEq]at hc
    subst hc
    simp[eK]at hq
   ·cases hc
  ·cases hc
 ·split at hc
  ·split at hc
   ·split at hc
    ·simp only[Option.bind_eq_bind,Option.bind_eq_some_iff,Option.pure_def,Option.some.injEq]at hc
     obtain⟨x',hx,y',hy,rfl⟩:=hc
     simp[eK]at hq
    ·simp at hc
   ·simp at hc
  ·simp at hc
 ·simp at hc
theorem CV {vo:iT} {mr:Option Row} (hc:uv P o.op=some vo) (hq:eK vo (dz env) g id=some (v,mr)) (S:iD P hs D ι g w) (E:dy P w D ι env a):Ql P a o w D ι id v mr:=by
 unfold uv at hc
 split at hc
 ·rename_i ho
  simp only[Option.map_eq_some_iff]at hc
  obtain⟨x',hx,rfl⟩:=hc
  simp[eK]at hq;obtain⟨rfl,rfl⟩:=hq
  exact TJ E (.inl ho) hx
 ·rename_i ho
  simp only[Option.map_eq_some_iff]at hc
  obtain⟨x',hx,rfl⟩:=hc
  simp[eK]at hq;obtain⟨rfl,rfl⟩:=hq
  exact TJ E (.inr ho) hx
 ·rename_i ho
  simp only[Option.bind_eq_bind,Option.bind_eq_some_iff,Option.pure_def,Option.some.injEq]at hc
  obtain⟨c',h1,x',h2,y',h3,rfl⟩:=hc
  exact nz hq fun h=>WH E ho h1 h2 h3 h
 ·rename_i ho
  simp only[Option.map_eq_some_iff]at hc
  obtain⟨z,hz,rfl⟩:=hc
  simp only[eK,Option.some.injEq,Prod.mk.injEq]at hq
  obtain⟨rfl,rfl⟩:=hq
  exact .inl (ZQ ho hz)
 ·rename_i ho
  simp only[Option.map_eq_some_iff]at hc
  obtain⟨x',hx,rfl⟩:=hc
  simp only[eK,Option.map_eq_some_iff,Prod.mk.injEq]at hq
  obtain⟨cs,eD,rfl,rfl⟩:=hq
  exact .inl (ZO E ho hx eD)
 ·rename_i ho
  split at hc
  ·rename_i hh
   simp only[Option.some.injEq]at hc
   subst hc
   exact nz hq fun h=>Sr S ho hh.1 hh.2 h
  ·simp at hc
 ·rename_i ho
  simp only[Option.bind_eq_bind,Option.bind_eq_some_iff,Option.pure_def,Option.some.injEq]at hc
  obtain⟨ag,h1,n,h2,x',h3,rfl⟩:=hc
  exact nz hq fun h=>WB S E ho h1 h2 h3 h
 ·rename_i ho
  simp only[Option.bind_eq_bind,Option.bind_eq_some_iff,Option.pure_def,Option.some.injEq]at hc
  obtain⟨n,h2,x',h3,y',h4,rfl⟩:=hc
  simp[eK]at hq
 ·rename_i ho
  simp only[Option.map_eq_some_iff]at hc
  obtain⟨x',hx,rfl⟩:=hc
  exact nz hq fun h=>aav E ho hx h
 ·rename_i op t x y yt ho
  unfold zF at hc
  split at hc
  ·exact Z4 (neg:=false) ho hc hq E
  ·exact Z4 (neg:=true) ho hc hq E
  ·simp only[Option.bind_eq_bind,Option.bind_eq_some_iff,Option.pure_def,Option.some.injEq]at hc
   obtain⟨x',h3,y',h4,rfl⟩:=hc
   exact nz hq fun h=>y_sh (left:=true) E ho h3 h4 h
  ·simp only[Option.bind_eq_bind,Option.bind_eq_some_iff,Option.pure_def,Option.some.injEq]at hc
   obtain⟨x',h3,y',h4,rfl⟩:=hc
   exact nz hq fun h=>y_sh (left:=false) E ho h3 h4 h
  ·rename_i n1 n2 n3 n4
   split at hc
   ·simp only[Option.bind_eq_bind,Option.bind_eq_some_iff,Option.pure_def,Option.some.injEq]at hc
    obtain⟨x',h3,y',h4,rfl⟩:=hc
    exact nz hq fun h=>aau E ho n1 n2 h3 h4 h
   ·simp only[Option.bind_eq_bind,Option.bind_eq_some_iff,Option.pure_def,Option.some.injEq]at hc
    obtain⟨x',h3,y',h4,rfl⟩:=hc
    exact nz hq fun h=>Ws E ho n1 n2 h3 h4 h
   ·simp at hc
 ·rename_i ho
  simp only[Option.map_eq_some_iff]at hc
  obtain⟨x',hx,rfl⟩:=hc
  exact nz hq fun h=>aaB E ho hx h
 ·rename_i ho
  simp only[Option.map_eq_some_iff]at hc
  obtain⟨x',hx,rfl⟩:=hc
  exact nz hq fun h=>aaA E ho hx h
 ·rename_i ho
  split at hc
  ·rename_i q k h1 h2
   simp only[Option.map_eq_some_iff]at hc
   obtain⟨x',hx,rfl⟩:=hc
   exact nz hq fun h=>Wt E ho h1 h2 hx h
  ·rename_i h1 h2
   simp only[Option.map_eq_some_iff]at hc
   obtain⟨x',hx,rfl⟩:=hc
   exact nz hq fun h=>by
    have hr:=ew E hx
    unfold bU at h
    split at h
    ·rename_i s hb
     simp at h;subst h
     rw[hb]at hr
     exact⟨.string s,by simp only[execOp,ho,ik hr,convert,Sem.run_bind,run_underlying h1,run_underlying h2,Result.andThen_ok,Sem.run_pure],.fq _ _ (.str _)⟩
    ·simp at h
  ·simp at hc
 ·rename_i ho
  split at hc
  ·rename_i e ht
   simp only[Option.bind_eq_bind,Option.bind_eq_some_iff,Option.pure_def,Option.some.injEq]at hc
   obtain⟨n,h1,x',h2,lo,h3,hi,h4,rfl⟩:=hc
   exact nz hq fun h=>Su S E ho ht h1 h2 h3 h4 h
  ·rename_i ht
   simp only[Option.bind_eq_bind,Option.bind_eq_some_iff,Option.pure_def,Option.some.injEq]at hc
   obtain⟨x',h2,lo,h3,hi,h4,rfl⟩:=hc
   exact nz hq fun h=>PO E ho ht h2 h3 h4 h
  ·simp at hc
 ·rename_i ho
  split at hc
  ·rename_i fs u9
   split at hc
   ·rename_i f hf
    split at hc
    ·rename_i m hm
     simp only[Option.map_eq_some_iff]at hc
     obtain⟨x',hx,rfl⟩:=hc
     exact nz hq fun h=>Sp E ho u9 hf hm hx h
    ·simp at hc
   ·simp at hc
  ·simp at hc
 ·rename_i ho
  split at hc
  ·rename_i fs u9
   split at hc
   ·rename_i f hf
    simp only[Option.bind_eq_bind,Option.bind_eq_some_iff,Option.pure_def,Option.some.injEq]at hc
    obtain⟨ag,h1,n,h2,x',h3,rfl⟩:=hc
    exact nz hq fun h=>Sq E ho u9 hf h1 h2 h3 h
   ·simp at hc
  ·simp at hc
 ·rename_i ho
  split at hc
  ·rename_i e ht
   split at hc
   ·rename_i m hm
    simp only[Option.bind_eq_bind,Option.bind_eq_some_iff,Option.pure_def,Option.some.injEq]at hc
    obtain⟨x',h1,i',h2,rfl⟩:=hc
    exact nz hq fun h=>Ss S E ho ht hm h1 h2 h
   ·simp at hc
  ·rename_i len e ht
   split at hc
   ·rename_i m hm
    simp only[Option.bind_eq_bind,Option.bind_eq_some_iff,Option.pure_def,Option.some.injEq]at hc
    obtain⟨x',h1,i',h2,rfl⟩:=hc
    exact nz hq fun h=>Ww E ho ht hm h1 h2 h
   ·simp at hc
  ·simp at hc
 ·rename_i ho
  split at hc
  ·rename_i ht
   simp only[Option.bind_eq_bind,Option.bind_eq_some_iff,Option.pure_def,Option.some.injEq]at hc
   obtain⟨x',h1,i',h2,rfl⟩:=hc
   exact nz hq fun h=>Wy E ho ht h1 h2 h
  ·rename_i len e ht
   simp only[Option.bind_eq_bind,Option.bind_eq_some_iff,Option.pure_def,Option.some.injEq]at hc
   obtain⟨ag,h0,n,h1,x',h2,i',h3,rfl⟩:=hc
   exact nz hq fun h=>Wx E ho ht h0 h1 h2 h3 h
  ·simp at hc
 ·rename_i ho
  simp only[Option.map_eq_some_iff]at hc
  obtain⟨x',hx,rfl⟩:=hc
  exact nz hq fun h=>Mf E ho hx h
 ·rename_i ho
  split at hc
  ·rename_i fs u9
   split at hc
   ·rename_i z l hz hl
    split at hc
    ·rename_i eR
     simp only[Option.map_eq_some_iff]at hc
     obtain⟨q,Ra,rfl⟩:=hc
     simp only[eK,Option.map_eq_some_iff,Prod.mk.injEq]at hq
     obtain⟨cs,eD,rfl,rfl⟩:=hq
     exact Sn E ho u9 hz hl (fun f hf=>by
      rw[Array.all_eq_true_iff_forall_mem]at eR
      exact eR f (Array.mem_toList_iff.1 hf)) Ra eD
    ·simp at hc
   ·simp at hc
  ·rename_i len e ht
   split at hc
   ·rename_i z l n hz hl hn
    simp only[Option.some.injEq]at hc
    subst hc
    simp only[eK,Option.map_eq_some_iff,Prod.mk.injEq]at hq
    obtain⟨cs,eD,rfl,rfl⟩:=hq
    exact PN E ho ht hz hl hn eD
   ·simp at hc
  ·simp at hc
 ·rename_i ho
  split at hc
  ·rename_i e ht
   split at hc
   ·rename_i sz z l h1 h2 h3
    split at hc
    ·rename_i hh
     simp only[Option.some.injEq]at hc
     subst hc
     simp only[eK,Option.map_eq_some_iff,Prod.mk.injEq]at hq
     obtain⟨rs,tU,rfl,rfl⟩:=hq
     exact .inl (OB E ho ht h1 h2 h3 hh.1 hh.2 (by rw[List.map_map]at tU;exact tU))
    ·simp at hc
   ·simp at hc
  ·simp at hc
 ·rename_i ho
  split at hc
  ·rename_i hh
   simp only[Option.map_eq_some_iff]at hc
   obtain⟨l,hl,rfl⟩:=hc
   simp[eK]at hq;obtain⟨rfl,rfl⟩:=hq
   exact WD E ho hh.1 hh.2 hl
  ·split at hc
   ·rename_i hh
    simp only[Option.map_eq_some_iff]at hc
    obtain⟨l,hl,rfl⟩:=hc
    simp[eK]at hq;obtain⟨rfl,rfl⟩:=hq
    exact WE E ho hh.1 hh.2 hl
   ·simp at hc
 ·rename_i ho
  split at hc
  ·rename_i e ht
   split at hc
   ·rename_i m z i h1 h2 h3
    split at hc
    ·rename_i hb
     simp only[Option.bind_eq_bind,Option.bind_eq_some_iff,Option.pure_def,Option.some.injEq]at hc
     obtain⟨l',h4,c',h5,rfl⟩:=hc
     simp only[eK,Option.map_eq_some_iff,Prod.mk.injEq]at hq
     obtain⟨⟨n,r⟩,hr,rfl,rfl⟩:=hq
     exact .inl (Ly E ho ht h1 h2 h3 hb h4 h5 hr)
    ·simp at hc
   ·simp at hc
  ·simp at hc
 ·rename_i ho
  exact V0 ho hc hq S E
 ·rename_i ho
  split at hc
  ·rename_i dir e ht
   split at hc
   ·rename_i i hi
    split at hc
    ·rename_i hb
     simp only[Option.map_eq_some_iff]at hc
     obtain⟨x',hx,rfl⟩:=hc
     simp only[eK,Option.map_eq_some_iff,Prod.mk.injEq]at hq
     obtain⟨n,hn,rfl,rfl⟩:=hq
     exact .inr (.inr (VO E ho ht hi hb hx hn))
    ·cases hc
   ·cases hc
  ·cases hc
 ·simp only[Option.bind_eq_bind,Option.bind_eq_some_iff,Option.pure_def,Option.some.injEq]at hc
  obtain⟨x',_,y',_,rfl⟩:=hc
  simp[eK]at hq
 ·split at hc
  ·split at hc
   ·simp only[Option.map_eq_some_iff]at hc
    obtain⟨x',_,rfl⟩:=hc
    simp[eK]at hq
   ·cases hc
  ·cases hc
 ·rename_i ho
  split at hc
  ·rename_i m z hm
   simp only[Option.some.injEq]at hc
   subst hc
   simp only[eK,List.map_nil,bx,Option.some.injEq,Prod.mk.injEq]at hq
   obtain⟨rfl,rfl⟩:=hq
   exact .inr (.inl (ZP ho))
  ·cases hc
 ·rename_i ho
  split at hc
  ·rename_i m z x' k' hm hx hk
   simp only[Option.some.injEq]at hc
   subst hc
   obtain⟨rfl,h⟩:=WC (id:=id) S E ho hm hx hk hq
   exact h
  ·cases hc
 ·split at hc
  ·simp only[Option.some.injEq]at hc
   subst hc
   simp[eK]at hq
  ·cases hc
 ·split at hc
  ·simp only[Option.some.injEq]at hc
   subst hc
   simp[eK]at hq
  ·cases hc
 ·simp only[Option.some.injEq]at hc
  subst hc
  simp[eK]at hq
 ·simp only[Option.some.injEq]at hc
  subst hc
  simp[eK]at hq
 ·simp at hc
end
end Go.Proofs.YtoodopepphhpoaaGreatDoor.V

namespace Go.Proofs.YtoodopepphhpoaaGreatDoor.V
open Go.RowKit
variable {P:Program} {w w':World} {D D':Nat->Prop} {ι ι':Names}
def l8 (ι:Names) (id:Id) (B:wL):Names:=fun i=>if i=id then some B else ι i
theorem eW (ι:Names) (id:Id) (B:wL):l8 ι id B id=some B:=if_pos rfl
theorem gq {ι:Names} {id:Id} {B:wL} (h:ι id=none):∀i B',ι i=some B'->l8 ι id B i=some B':=fun i B' hi=>by
 have:i≠id:=by rintro rfl;rw[h]at hi;cases hi
 rw[l8,if_neg this];exact hi
theorem iN {ι:Names} {id i:Id} {B:wL} (h:i≠id):l8 ι id B i=ι i:=if_neg h
section
variable {g:Rows} {hs:Nat} {env:Env} {a:Act} {o:Oper} {id:Id} {v:AV}
theorem mo.frame {B:wL} {r:Row} (h:mo P w D ι B r) (hb:w'.heap[B.b]? =w.heap[B.b]?) (hr:∀a v,dZ P w D ι a v->dZ P w' D' ι' a v):mo P w' D' ι' B r:=
 ⟨h.sz,by obtain⟨c,T,h1,h2⟩:=h.wE;exact⟨c,T,hb.trans h1,h2⟩,h.fits,h.len,h.flat,fun i j cs a hi hj=>by
  obtain⟨v,h1,h2⟩:=h.at_ i j cs a hi hj
  exact⟨v,(World.cell?_of_block (a:=⟨B.b,i*r.sz+j,none⟩) hb).trans h1,hr _ _ h2⟩⟩
theorem jg.frame {B:wL} {r:Row} (h:jg P w D ι B r) (hb:w'.heap[B.b]? =w.heap[B.b]?) (hr:∀a v,dZ P w D ι a v->dZ P w' D' ι' a v):jg P w' D' ι' B r:=
 ⟨h.sz,h.flat,fun hk=>(h.row hk).frame hb hr,fun m hm=>by
  obtain⟨h1,es,c,h2,h3,h5,h4⟩:=h.map m hm
  refine⟨h1,es,c,hb.trans h2,h3,h5,fun i cs hi=>?_⟩
  obtain⟨e,kv,vv,q1,q2,q3,q4,q5⟩:=h4 i cs hi
  exact⟨e,kv,vv,q1,q2,q3,hr _ _ q4,hr _ _ q5⟩,fun c hc=>by
  obtain⟨h1,buf,s,q,h2,h3,h4⟩:=h.chan c hc
  refine⟨h1,buf,s,q,hb.trans h2,h3,fun i cs hi=>?_⟩
  obtain⟨a,u,q1,q2,q3⟩:=h4 i cs hi
  exact⟨a,u,q1,q2,hr _ _ q3⟩⟩
theorem iD.kill (S:iD P hs D ι g w) (i:Id):iD P hs D ι (cq g i) w:=by
 refine⟨S.lo,S.dead,fun id r h=>?_,fun id lz r r' B B' h h' hw hB eE hb=>?_⟩
 ·unfold cq at h;split at h
  ·cases h
  ·exact S.row id r h
 ·unfold cq at h h'
  split at h
  ·cases h
  ·split at h'
   ·cases h'
   ·exact S.inj id lz r r' B B' h h' hw hB eE hb
theorem iD.sub {g':Rows} (S:iD P hs D ι g w) (h:∀id r,g' id=some r->g id=some r):iD P hs D ι g' w:=
 ⟨S.lo,S.dead,fun id r hr=>S.row id r (h id r hr),fun id lz r r' B B' h1 h2=>S.inj id lz r r' B B' (h _ _ h1) (h _ _ h2)⟩
theorem EA {hid:List Nat} {n:Nat} {g:Rows}:∀id r,fF hid n g id=some r->g id=some r:=fun id r h=>by
 cases hid with
 |nil=>exact h
 |cons a l=>
  have e:fF (a::l) n g id=if (a::l).contains id.site=true/\id.bt=n then none else g id:=rfl
  rw[e]at h
  by_cases hc:(a::l).contains id.site=true/\id.bt=n
  ·rw[if_pos hc]at h;cases h
  ·rw[if_neg hc]at h;exact h
theorem iD.stay (S:iD P hs D ι g w) (hb:∀b,b<w.heap.size->w'.heap[b]? =w.heap[b]?) (hz:w.heap.size<=w'.heap.size) (hD:∀b,D b->D' b) (hD':∀b,D' b->b<w'.heap.size) (mi:∀b,D' b->D b∨w.heap.size<=b) (hι:∀id B,ι id=some B->ι' id=some B):iD P hs D' ι' g w':=by
 have hr:∀a v,dZ P w D ι a v->dZ P w' D' ι' a v:=fun a v h=>h.frame (fun b hd=>hb b (S.dead b hd)) hD hι
 have lt:∀{id r B},g id=some r->ι id=some B->B.b<w.heap.size:=fun {id r B} h hB=>by
  obtain⟨B',eE,R,_⟩:=S.row id r h
  rw[hB]at eE;injection eE with eE;subst eE
  exact R.lt
 refine⟨Nat.le_trans S.lo hz,hD',fun id r h=>?_,fun id lz r r' B B' h h' hw hB eE he=>?_⟩
 ·obtain⟨B,hB,R,h1,h2⟩:=S.row id r h
  exact⟨B,hι _ _ hB,R.frame (hb _ (lt h hB)) hr,h1,fun hw hd=>by
   rcases mi _ hd with hd|hd
   ·exact h2 hw hd
   ·have:=lt h hB;omega⟩
 ·obtain⟨C,hC,_⟩:=S.row id r h
  obtain⟨C',yJ,_⟩:=S.row lz r' h'
  have e1:=hι _ _ hC
  have e2:=hι _ _ yJ
  rw[hB]at e1;injection e1 with e1;subst e1
  rw[eE]at e2;injection e2 with e2;subst e2
  exact S.inj id lz r r' _ _ h h' hw hC yJ he
theorem Step.stay (S:iD P hs D ι g w) (hb:∀b,b<w.heap.size->w'.heap[b]? =w.heap[b]?) (hz:w.heap.size<=w'.heap.size) (e1:w'.os=w.os) (e2:w'.tape=w.tape) (e3:w'.output=w.output) (hD:∀b,D b->D' b) (mi:∀b,D' b->D b∨w.heap.size<=b) (hι:∀id B,ι id=some B->ι' id=some B):Step hs D ι w D' ι' w':=
 ⟨⟨e1,e2,e3,hz,fun k hk=>hb k (Nat.lt_of_lt_of_le hk S.lo)⟩,fun b hd=>hb b (S.dead b hd),hD,hι,fun b h=>(mi b h).imp_right (Nat.le_trans S.lo)⟩
theorem iD.alloc (S:iD P hs D ι g w) {cells:Array Value} {T:TypeId} {r:Row} (hh:w'.heap=w.heap.push (.cells cells T (0,0))) (hn:ι id=none) (hw:r.w=true) (h1:r.rows.length*r.sz<=cells.size) (h2:∀cs∈r.rows,cs.length=r.sz) (h3:∀cs∈r.rows,∀a∈cs,a.cell=true)
  (h4:∀i j cs a,r.rows[i]? =some cs->cs[j]? =some a->∃x,cells[i*r.sz+j]? =some x/\dZ P w D ι a x):iD P hs D (l8 ι id ⟨w.heap.size,r.sz,cells.size,none⟩) (ck g id r) w':=by
 have hb:∀b,b<w.heap.size->w'.heap[b]? =w.heap[b]? :=fun b eP=>by rw[hh,Array.getElem?_push,if_neg ad]
 have hz:w.heap.size<=w'.heap.size:=by rw[hh];simp
 have S':=S.stay (D':=D) (ι':=l8 ι id ⟨w.heap.size,r.sz,cells.size,none⟩) hb hz (fun _ h=>h) (fun b hd=>Nat.lt_of_lt_of_le (S.dead b hd) hz) (fun _ h=>.inl h) (gq hn)
 have hr:∀a v,dZ P w D ι a v->dZ P w' D (l8 ι id ⟨w.heap.size,r.sz,cells.size,none⟩) a v:=fun a v h=>h.frame (fun b hd=>hb b (S.dead b hd)) (fun _ h=>h) (gq hn)
 have mi:w'.heap[w.heap.size]? =some (.cells cells T (0,0)):=by rw[hh];simp
 have gone:g id=none:=by
  cases hg:g id with
  |none=>rfl
  |some q=>
   obtain⟨B,hB,_⟩:=S.row id q hg
   rw[hn]at hB;cases hB
 have lt:∀{i q B},g i=some q->ι i=some B->B.b<w.heap.size:=fun {i q B} h hB=>by
  obtain⟨B',eE,R,_⟩:=S.row i q h
  rw[hB]at eE;injection eE with eE;subst eE
  exact R.lt
 refine⟨S'.lo,S'.dead,fun i q h=>?_,fun i i' q q' B B' h h' N5 hB eE he=>?_⟩
 ·unfold ck at h
  split at h
  ·rename_i e
   subst e
   injection h with h;subst h
   refine⟨_,eW _ _ _,mo.obj ⟨rfl,⟨cells,T,mi,rfl⟩,h1,h2,h3,fun k j cs a hk hj=>?_⟩ rfl,fun _=>S.lo,fun _ hd=>?_⟩
   ·obtain⟨x,hx,hrx⟩:=h4 k j cs a hk hj
    exact⟨x,by simp[World.cell?,mi,hx],hr _ _ hrx⟩
   ·have:=S.dead _ hd;simp at this
  ·exact S'.row i q h
 ·unfold ck at h h'
  split at h
  ·rename_i e
   split at h'
   ·rename_i e';exact e.trans e'.symm
   ·exfalso
    rename_i e'
    subst e
    rw[eW]at hB;injection hB with hB;subst hB
    rw[iN e']at eE
    have:=lt h' eE
    simp at he;omega
  ·rename_i e
   split at h'
   ·exfalso
    rename_i e'
    subst e'
    rw[eW]at eE;injection eE with eE;subst eE
    rw[iN e]at hB
    have:=lt h hB
    simp at he;omega
   ·exact S'.inj i i' q q' B B' h h' N5 hB eE he
theorem iD.put (S:iD P hs D ι g w) {r r':Row} {B:wL} {cur cur':Array Value} {T:TypeId} (hid:g id=some r) (hw:r.w=true) (hB:ι id=some B) (hblk:w.heap[B.b]? =some (.cells cur T (0,0))) (eY:cur'.size=cur.size)
  (h0:r'.w=true) (h1:r'.sz=r.sz) (h2:r'.rows.length*r'.sz<=B.C) (h3:∀cs∈r'.rows,cs.length=r'.sz) (h4:∀cs∈r'.rows,∀a∈cs,a.cell=true)
  (h5:∀i j cs a,r'.rows[i]? =some cs->cs[j]? =some a->∃v,cur'[i*r.sz+j]? =some v/\dZ P w D ι a v):iD P hs D ι (ck g id r') (w.setRow B.b cur')/\Step hs D ι w D ι (w.setRow B.b cur'):=by
 obtain⟨B0,Bl,RO,kN,qm⟩:=S.row id r hid
 rw[hB]at Bl;injection Bl with Bl;subst Bl
 have x8:=RO.RJ hblk
 have R:=RO.row x8
 have hd:∀b,D b->(w.setRow B.b cur').heap[b]? =w.heap[b]? :=fun b hb=>setRow_other w B.b b cur' (by rintro rfl;exact qm hw hb)
 have hr:∀a v,dZ P w D ι a v->dZ P (w.setRow B.b cur') D ι a v:=fun a v h=>h.frame hd (fun _ h=>h) (fun _ _ h=>h)
 have hC:cur.size=B.C:=by
  obtain⟨c,T',h1,h2⟩:=R.wE
  rw[hblk]at h1;injection h1 with h1;injection h1 with h1 UC;subst h1;exact h2
 refine⟨⟨by simpa using S.lo,fun b hb=>by simpa using S.dead b hb,fun i q h=>?_,fun i i' q q' C C' h h' N5 hC yJ he=>?_⟩,⟨⟨by simp,by simp,by simp,by simp,fun k hk=>setRow_other w B.b k cur' (by have:=kN hw;omega)⟩,hd,fun _ h=>h,fun _ _ h=>h,fun _ h=>.inl h⟩⟩
 ·unfold ck at h
  split at h
  ·rename_i e
   subst e
   injection h with h;subst h
   refine⟨B,hB,mo.obj ⟨by rw[h1];exact R.sz,⟨cur',T,setRow_heap w B.b cur cur' T _ hblk,by rw[eY];exact hC⟩,h2,h3,h4,fun k j cs a hk hj=>?_⟩ x8,fun _=>kN hw,fun _=>qm hw⟩
   obtain⟨v,hv,om⟩:=h5 k j cs a hk hj
   exact⟨v,by rw[cell_setRow_same w B.b _ cur cur' T _ hblk,h1];exact hv,hr _ _ om⟩
  ·rename_i e
   obtain⟨C,hC,RC,k1,k2⟩:=S.row i q h
   refine⟨C,hC,RC.frame (setRow_other w B.b C.b cur' (fun HX=>e ?_)) hr,k1,k2⟩
   exact(S.inj id i r q B C hid h hw hB hC HX.symm).symm
 ·unfold ck at h h'
  have get:∀j p,(if j=id then some r' else g j)=some p->∃p0,g j=some p0/\(p.w=true->p0.w=true):=fun j p hp=>by
   split at hp
   ·rename_i e;subst e;injection hp with hp;subst hp;exact⟨r,hid,fun _=>hw⟩
   ·exact⟨p,hp,fun h=>h⟩
  obtain⟨p,hp,XL⟩:=get _ _ h
  obtain⟨p',Vi,_⟩:=get _ _ h'
  exact S.inj i i' p p' C C' hp Vi (XL N5) hC yJ he
theorem iD.rename (S:iD P hs D ι g w) {i:Id} {r:Row} {B:wL} (hi:g i=some r) (hw:r.w=true) (hB:ι i=some B) (hn:ι id=none):iD P hs D (l8 ι id B) (ck (cq g i) id r) w:=by
 have S':=S.stay (w':=w) (D':=D) (ι':=l8 ι id B) (fun _ _=>rfl) (Nat.le_refl _) (fun _ h=>h) S.dead (fun _ h=>.inl h) (gq hn)
 have hZ:i≠id:=by rintro rfl;rw[hn]at hB;cases hB
 obtain⟨B1,Bn,R,k1,k2⟩:=S'.row i r hi
 rw[iN hZ,hB]at Bn;injection Bn with Bn;subst Bn
 have get:∀j p,ck (cq g i) id r j=some p->(j=id/\p=r)∨(j≠id/\j≠i/\g j=some p):=fun j p hp=>by
  unfold ck cq at hp
  split at hp
  ·rename_i e;injection hp with hp;exact .inl ⟨e,hp.symm⟩
  ·rename_i e
   split at hp
   ·cases hp
   ·rename_i e';exact .inr ⟨e,e',hp⟩
 refine⟨S.lo,S.dead,fun j p h=>?_,fun j j' p p' C C' h h' XL hC yJ he=>?_⟩
 ·rcases get j p h with⟨rfl,rfl⟩|⟨_,_,hp⟩
  ·exact⟨B,eW _ _ _,R,k1,k2⟩
  ·exact S'.row j p hp
 ·rcases get j p h with⟨rfl,rfl⟩|⟨q1,q2,hp⟩
  ·rcases get j' p' h' with⟨rfl,rfl⟩|⟨q1',q2',Vi⟩
   ·rfl
   ·exfalso
    rw[eW]at hC;injection hC with hC;subst hC
    rw[iN q1']at yJ
    exact q2' (S.inj i j' p p' B C' hi Vi hw hB yJ he).symm
  ·rcases get j' p' h' with⟨rfl,rfl⟩|⟨q1',q2',Vi⟩
   ·exfalso
    rw[eW]at yJ;injection yJ with yJ;subst yJ
    rw[iN q1]at hC
    exact q2 (S.inj j i p p' C B hp hi XL hC hB he)
   ·rw[iN q1]at hC
    rw[iN q1']at yJ
    exact S.inj j j' p p' C C' hp Vi XL hC yJ he
def Hm (P:Program) (hs:Nat) (a:Act) (o:Oper) (w:World) (D:Nat->Prop) (ι:Names) (id:Id) (v:AV) (g':Rows):Prop:=
 ∃u w' ι',((execOp a.eval o).run P w=.ok (.value u) w'∨(execOp a.eval o).run P w=.ok .skip w'/\u=undef)/\Step hs D ι w D ι' w'/\iD P hs D ι' g' w'/\dZ P w' D ι' v u/\∀i,i≠id->ι' i=ι i
theorem GK {xs:List AV} {vs:Array Value} (h:gI P w D ι xs vs) (hf:∀a∈xs,a.cell=true):∀v∈vs.toList,v.oneCell'=true:=by
 intro v hv
 obtain⟨j,hj,rfl⟩:=List.getElem_of_mem hv
 have P6:j<xs.length:=by rw[<-h.1];simpa using hj
 obtain⟨u,hu,hr⟩:=h.2 j _ (List.getElem?_eq_getElem P6)
 have hc:=hr.Fk (hf _ (List.getElem_mem P6))
 have:vs.toList[j]=u:=by
  have:vs.toList[j]? =some u:=by simpa using hu
  rw[List.getElem?_eq_getElem hj]at this;injection this
 rw[this]
 cases u<;>simp_all [Value.oneCell']
theorem lF {i j n m:Nat} (h:i<n) (hj:j<m):i*m+j<n*m:=by
 have:(i+1)*m<=n*m:=Nat.mul_le_mul_right _ h
 rw[Nat.add_mul,Nat.one_mul]at this;omega
theorem mo.cur {B:wL} {r:Row} (R:mo P w D ι B r):∃cur T,w.heap[B.b]? =some (.cells cur T (0,0))/\cur.size=B.C/\∀i j cs a,r.rows[i]? =some cs->cs[j]? =some a->∃v,cur[i*r.sz+j]? =some v/\dZ P w D ι a v:=by
 obtain⟨cur,T,h1,h2⟩:=R.wE
 refine⟨cur,T,h1,h2,fun i j cs a hi hj=>?_⟩
 obtain⟨v,hv,hr⟩:=R.at_ i j cs a hi hj
 exact⟨v,by simpa[World.cell?,h1]using hv,hr⟩
theorem QG {t:TypeId} {n:Nat} {x y:Operand} {x' y':O} {g':Rows} (S:iD P hs D ι g w) (E:dy P w D ι env a) (ho:o.op=.store t x y) (hn:eX P t=some n) (hx:cO P x=some x') (hy:cO P y=some y')
  (hv:bQ g n (dz env y') (dz env x')=some g'):Hm P hs a o w D ι id .undef g':=by
 have rx:=ew E hx
 have ry:=ew E hy
 unfold bQ at hv
 split at hv
 ·rename_i i k off hp
  rw[hp]at rx
  simp only[Option.bind_eq_some_iff]at hv
  obtain⟨r,hg,cs,eD,hv⟩:=hv
  split at hv
  ·rename_i hc
   obtain⟨c1,c2,c3,c4⟩:=hc
   simp at hv;subst hv
   obtain⟨B,he,hB,hk⟩:=jw rx
   obtain⟨B',eE,R,kN,qm⟩:=S.row i r hg
   rw[hB]at eE;injection eE with eE;subst eE
   replace R:=R.row hk
   obtain⟨cur,T,hblk,hC,Aa⟩:=R.cur
   have hL:=uk ry c3
   have h1:=GK hL (List.all_eq_true.1 c3)
   have Rf:(a.eval y).cells.size=n:=by rw[hL.1,c2]
   have lk:=(List.getElem?_eq_some_iff.1 eD).1
   have hlen:=R.len cs (List.mem_of_getElem? eD)
   have hbound:k*r.sz+r.sz<=r.rows.length*r.sz:=by
    have:(k+1)*r.sz<=r.rows.length*r.sz:=Nat.mul_le_mul_right _ lk
    rwa [Nat.add_mul,Nat.one_mul]at this
   have hf:=R.fits
   have eA:=run_storeCells_at P B.b (k*B.sz+off) T (a.eval y).cells.toList 0 cur w hblk (by rw[R.sz];simp only[Array.length_toList];omega) h1
   simp only[Nat.add_zero,Array.length_toList]at eA
   have s4:=S.put (r':={r with rows:=r.rows.set k (cI cs off (dz env y').cells)}) hg c1 hB hblk (cur':=(cur.toList.take (k*B.sz+off)++(a.eval y).cells.toList++cur.toList.drop (k*B.sz+off+(a.eval y).cells.size)).toArray)
    (by rw[R.sz];simp;omega) c1 rfl (by simpa using R.fits) (fun c YT=>by
     rcases List.mem_or_eq_of_mem_set YT with h|rfl
     ·exact R.len c h
     ·simp[cI];omega) (fun c YT b hb=>by
     rcases List.mem_or_eq_of_mem_set YT with h|rfl
     ·exact R.flat c h b hb
     ·unfold cI at hb
      rcases List.mem_append.1 hb with hb|hb
      ·rcases List.mem_append.1 hb with hb|hb
       ·exact R.flat cs (List.mem_of_getElem? eD) b (List.mem_of_mem_take hb)
       ·exact List.all_eq_true.1 c3 b hb
      ·exact R.flat cs (List.mem_of_getElem? eD) b (List.mem_of_mem_drop hb)) (fun i2 j c b th hj=>by
     rw[R.sz]
     simp only[List.getElem?_toArray]
     by_cases Cu:i2=k
     ·subst Cu
      rw[List.getElem?_set_self lk]at th
      injection th with th;subst th
      unfold cI at hj
      by_cases hjo:j<off
      ·rw[List.append_assoc,List.getElem?_append_left (by simp;omega),List.getElem?_take,if_pos hjo]at hj
       rw[List.append_assoc,List.getElem?_append_left (by simp;omega),List.getElem?_take,if_pos ad]
       simpa using Aa _ _ _ _ eD hj
      ·by_cases oU:j<off+n
       ·rw[List.append_assoc,List.getElem?_append_right (by simp;omega),List.getElem?_append_left (by simp;omega)]at hj
        rw[List.append_assoc,List.getElem?_append_right (by simp;omega),List.getElem?_append_left (by simp;omega)]
        simp only[List.length_take]at hj ⊢
        rw[show j-min off cs.length=j-off by omega]at hj
        rw[show i2*r.sz+j-min (i2*r.sz+off) cur.toList.length=j-off by simp;omega]
        simpa using hL.2 _ _ hj
       ·rw[List.getElem?_append_right (by simp;omega)]at hj
        rw[List.getElem?_append_right (by simp;omega)]
        simp only[List.length_append,List.length_take,List.getElem?_drop,Array.length_toList]at hj ⊢
        rw[show off+(dz env y').cells.length+(j-(min off cs.length+(dz env y').cells.length))=j by omega]at hj
        rw[show i2*r.sz+off+(a.eval y).cells.size+(i2*r.sz+j-(min (i2*r.sz+off) cur.size+(a.eval y).cells.size))=i2*r.sz+j by omega]
        simpa using Aa _ _ _ _ eD hj
     ·rw[List.getElem?_set_ne (fun e=>Cu e.symm)]at th
      have hi2l:=(List.getElem?_eq_some_iff.1 th).1
      have iP:j<r.sz:=by rw[<-R.len c (List.mem_of_getElem? th)];exact(List.getElem?_eq_some_iff.1 hj).1
      have:=Aa _ _ _ _ th hj
      rcases Nat.lt_or_gt_of_ne Cu with eP|QW
      ·have h2:i2*r.sz+j<k*r.sz:=lF eP iP
       rw[List.append_assoc,List.getElem?_append_left (by simp;omega),List.getElem?_take,if_pos ad]
       simpa using this
      ·have h2:k*r.sz+r.sz<=i2*r.sz:=by
        have:(k+1)*r.sz<=i2*r.sz:=Nat.mul_le_mul_right _ QW
        rwa [Nat.add_mul,Nat.one_mul]at this
       rw[List.getElem?_append_right (by simp;omega)]
       simp only[List.length_append,List.length_take,List.getElem?_drop,Array.length_toList]
       rw[show k*r.sz+off+(a.eval y).cells.size+(i2*r.sz+j-(min (k*r.sz+off) cur.size+(a.eval y).cells.size))=i2*r.sz+j by omega]
       simpa using this)
   refine⟨undef,_,ι,.inr ⟨?_,rfl⟩,s4.2,s4.1,dZ.undef,fun _ _=>rfl⟩
   simp only[execOp,ho,he,Instr.storeAt,Instr.sureAddr,storeVar,Sem.run_bind,Sem.run_pure,Result.andThen_ok,run_sizeOf hn,Rf,ne_eq,not_true_eq_false,if_false,eA]
  ·simp at hv
 ·simp at hv
end
end Go.Proofs.YtoodopepphhpoaaGreatDoor.V

namespace Go.Proofs.YtoodopepphhpoaaGreatDoor.V
open Go.RowKit
variable {P:Program} {w w':World} {D D':Nat->Prop} {ι ι':Names}
section
variable {g:Rows} {hs:Nat} {env:Env} {a:Act} {o:Oper} {id:Id} {v:AV}
theorem vV (S:iD P hs D ι g w) {y:AV} {u:Value} {ys:List (List AV)} {sz:Nat} (hr:dZ P w D ι y u) (hy:bq g y=some ys) (hl:∀c∈ys,c.length=sz) (hf:∀c∈ys,∀b∈c,b.cell=true):
  ∃A c,u=.slice A ys.length c/\(ys=[]∨∃b o,∃news:List Value,A=some ⟨b,o,none⟩/\news.length=ys.length*sz/\(∀j v,news[j]? =some v->w.cell? ⟨b,o+j,none⟩=some v)/\gI P w D ι ys.flatten news.toArray/\∀v∈news,v.oneCell'=true):=by
 have fin:∀b o,ys≠[]->(∀i j cs x,ys[i]? =some cs->cs[j]? =some x->∃v,w.cell? ⟨b,o+(i*sz+j),none⟩=some v/\dZ P w D ι x v)->
   ∃news:List Value,news.length=ys.length*sz/\(∀j v,news[j]? =some v->w.cell? ⟨b,o+j,none⟩=some v)/\gI P w D ι ys.flatten news.toArray/\∀v∈news,v.oneCell'=true:=by
  intro b o _ h
  have hlen:=Ny hl
  have at_:∀k,k<ys.length*sz->∃x,ys.flatten[k]? =some x/\∃v,w.cell? ⟨b,o+k,none⟩=some v/\dZ P w D ι x v:=by
   intro k hk
   have lX:0<sz:=by
    rcases Nat.eq_zero_or_pos sz with h0|h0
    ·subst h0;simp at hk
    ·exact h0
   have hi:k / sz<ys.length:=Nat.div_lt_of_lt_mul (by rw[Nat.mul_comm];exact hk)
   have hj:k % sz<sz:=Nat.mod_lt _ lX
   have eD:=List.getElem?_eq_getElem hi
   have iP:k % sz<ys[k / sz].length:=by rw[hl _ (List.getElem_mem hi)];exact hj
   have hx:=List.getElem?_eq_getElem iP
   have e:k / sz*sz+k % sz=k:=by rw[Nat.mul_comm];exact Nat.div_add_mod _ _
   refine⟨_,by rw[<-flat_get hl eD hx,e],?_⟩
   obtain⟨v,hv,om⟩:=h _ _ _ _ eD hx
   rw[e]at hv
   exact⟨v,hv,om⟩
  let news:=(List.range (ys.length*sz)).map fun k=>(w.cell? ⟨b,o+k,none⟩).getD undef
  have hn:∀k,k<ys.length*sz->∀v,w.cell? ⟨b,o+k,none⟩=some v->news[k]? =some v:=fun k hk v hv=>by
   simp only[news,List.getElem?_map,List.getElem?_range hk,Option.map_some,hv,Option.getD_some]
  have hR:gI P w D ι ys.flatten news.toArray:=⟨by simp[news,hlen],fun j x hx=>by
   have iP:=(List.getElem?_eq_some_iff.1 hx).1
   rw[hlen]at iP
   obtain⟨x',wK,v,hv,om⟩:=at_ j iP
   rw[hx]at wK;injection wK with wK;subst wK
   exact⟨v,by simpa using hn j iP v hv,om⟩⟩
  refine⟨news,by simp[news],fun j v hj=>?_,hR,?_⟩
  ·have iP:j<ys.length*sz:=by have:=(List.getElem?_eq_some_iff.1 hj).1;simpa[news]using this
   obtain⟨x,_,v',qF,_⟩:=at_ j iP
   rw[hn j iP v' qF]at hj
   injection hj with hj
   rw[<-hj];exact qF
  ·have:=GK hR (fun x hx=>by
    obtain⟨c,hc,hxc⟩:=List.mem_flatten.1 hx
    exact hf c hc x hxc)
   simpa using this
 unfold bq at hy
 split at hy
 ·simp at hy;subst hy
  exact⟨none,0,jX hr,.inl rfl⟩
 ·rename_i rows
  simp at hy;subst hy
  obtain⟨A,c,he,_,_,h3⟩:=AY hr
  refine⟨A,c,he,?_⟩
  rcases h3 with h3|⟨b,oo,sz',vs,rfl,hD,P9,_,hc,hi⟩
  ·exact .inl h3
  ·by_cases h0:rows=[]
   ·exact .inl h0
   ·have F1:sz'=sz:=by
     cases rows with
     |nil=>exact(h0 rfl).elim
     |cons c r=>rw[<-P9 c (by simp),hl c (by simp)]
    subst F1
    obtain⟨news,q1,q2,q3,q4⟩:=fin b oo h0 (fun i j cs x eD hx=>⟨_,hc i j (List.getElem?_eq_some_iff.1 eD).1 (by rw[<-P9 cs (List.mem_of_getElem? eD)];exact(List.getElem?_eq_some_iff.1 hx).1),.fq _ _ (hi i j cs x eD hx)⟩)
    exact .inr ⟨b,oo,news,rfl,q1,q2,q3,q4⟩
 ·rename_i i off len
  simp only[Option.bind_eq_some_iff]at hy
  obtain⟨r,hg,hy⟩:=hy
  split at hy
  ·rename_i hle
   simp at hy;subst hy
   obtain⟨oo,cap,B,he,hB,h1,h2,h3,h4,hk⟩:=jH hr
   obtain⟨B',eE,R,_,_⟩:=S.row i r hg
   rw[hB]at eE;injection eE with eE;subst eE
   replace R:=R.row hk
   have hlen:((r.rows.drop off).take len).length=len:=by simp;omega
   refine⟨some ⟨B.b,oo,none⟩,cap,by rw[hlen];exact he,?_⟩
   by_cases h0:(r.rows.drop off).take len=[]
   ·exact .inl h0
   ·have F1:r.sz=sz:=by
     cases hq:(r.rows.drop off).take len with
     |nil=>exact(h0 hq).elim
     |cons c q=>
      have hm:c∈(r.rows.drop off).take len:=by rw[hq];simp
      rw[<-hl c hm,R.len c (List.mem_of_mem_drop (List.mem_of_mem_take hm))]
    have hlp:0<len:=by rw[<-hlen];exact List.length_pos_iff.2 h0
    have EJ:oo=off*B.sz:=by rcases h2 with h2|h2<;>omega
    obtain⟨news,q1,q2,q3,q4⟩:=fin B.b oo h0 (fun i2 j cs x eD hx=>by
     rw[List.getElem?_take]at eD
     split at eD
     ·rw[List.getElem?_drop]at eD
      obtain⟨v,hv,om⟩:=R.at_ _ _ _ _ eD hx
      refine⟨v,?_,om⟩
      rw[EJ,R.sz,<-F1]
      rw[Nat.add_mul]at hv
      rw[<-Nat.add_assoc]
      exact hv
     ·simp at eD)
    exact .inr ⟨B.b,oo,news,rfl,q1,q2,q3,q4⟩
  ·simp at hy
 ·simp at hy
theorem rR {t ty e:TypeId} {i:TypeInfo} (ht:P.underlying t=some (.slice e)) (hi:P.info? e=some i) (A:Option Addr) (n c:Nat) (hn:n<=c) (B:Option Addr) (d:Nat):
  (Builtin.append_ #[t,t] ty #[.slice A n c,.slice B 0 d]).run P w=.ok (.slice A n c) w:=by
 have hf:(Builtin.firstCells i.size 0 (.slice B 0 d)).run P w=.ok #[] w:=by
  cases B<;>simp[Builtin.firstCells,loadCells,loadCellsFrom]
 cases A with
 |none=>simp[Builtin.append_,run_underlying ht,sizeOf,typeInfo,hi,Builtin.lenOf,hn,hf]
 |some A=>simp[Builtin.append_,run_underlying ht,sizeOf,typeInfo,hi,Builtin.lenOf,hn,hf,storeCells]
theorem BT {t ty e T:TypeId} {i:TypeInfo} (ht:P.underlying t=some (.slice e)) (hi:P.info? e=some i) (b wb IJ:Nat) (cur:Array Value) (hg:w.heap[b]? =some (.cells cur T (0,0)))
  (x:Addr) (m c:Nat) (news:List Value) (hl:news.length=m*i.size) (Zk:∀j u,news[j]? =some u->w.cell? (x.add j)=some u) (h1:∀u∈news,u.oneCell'=true)
  (gM:wb+m<=IJ) (xg:wb*i.size+news.length<=cur.size):
  (Builtin.append_ #[t,t] ty #[.slice (some ⟨b,0,none⟩) wb IJ,.slice (some x) m c]).run P w=
   .ok (.slice (some ⟨b,0,none⟩) (wb+m) IJ) (w.setRow b (cur.toList.take (wb*i.size)++news++cur.toList.drop (wb*i.size+news.length)).toArray):=by
 have hf:=run_firstCells_some (P:=P) w i.size m x m c news hl Zk
 have eA:=run_storeCells_at P b (wb*i.size) T news 0 cur w hg (by simpa using xg) h1
 simp only[Nat.add_zero]at eA
 simp[Builtin.append_,run_underlying ht,sizeOf,typeInfo,hi,Builtin.lenOf,gM,hf,ma,eA]
theorem FK (w:World) (LC zh:Nat) (e:TypeId) (h:LC<=dG):LC<=grownCap w LC zh e/\grownCap w LC zh e<=maxLen:=by
 unfold dG at h
 simp only[grownCap,Question.cut,maxLen]
 have:=Nat.mod_lt (w.tape w.drawn (.appendCap LC zh e)) (show 0<2 ^ 63-LC by omega)
 omega
theorem iH {x y:Operand} {t:TypeId} {u:Value} (ho:o.op=.call {callee:=.builtin .append,args:= #[x,y],argTypes:= #[t,t]}) (h:(Builtin.append_ #[t,t] o.type #[a.eval x,a.eval y]).run P w=.ok u w'):(execOp a.eval o).run P w=.ok (.value u) w':=by
 simp only[execOp,ho,resolve,Sem.run_bind,Sem.run_pure,Result.andThen_ok,invoke,builtin]
 simp only[List.map_toArray,List.map_cons,List.map_nil]
 rw[h];rfl
theorem GV {T:TypeId} (S:iD P hs D ι g w) (cells:Array Value) (hn:ι id=none) (B:wL):Step hs D ι w D (l8 ι id B) (w.drew.alloc (.cells cells T)):=
 Step.stay S (fun k hk=>by show(w.heap.push _)[k]? = _;rw[Array.getElem?_push,if_neg ad]) (by show _<=(w.heap.push _).size;simp) rfl rfl rfl (fun _ h=>h) (fun _ h=>.inl h) (gq hn)
theorem Np {x y:Operand} {x' y':O} {t e:TypeId} {m:Nat} {z:List K} {i:TypeInfo} {ys:List (List AV)} {g':Rows} (S:iD P hs D ι g w) (E:dy P w D ι env a) (hn:ι id=none) (ho:o.op=.call {callee:=.builtin .append,args:= #[x,y],argTypes:= #[t,t]})
  (ht:P.underlying t=some (.slice e)) (eY:eX P e=some (m+1)) (hz:lu P e=some z) (hi:P.info? e=some i) (hby:i.bytes<=32768) (hx:cO P x=some x') (hy:cO P y=some y') (Hk:bq g (dz env y')=some ys)
  (hv:aP g id (m+1) (dz env x') ys=some (v,g')):Hm P hs a o w D ι id v g':=by
 have rx:=ew E hx
 have ry:=ew E hy
 obtain⟨it,zv,uy,Al,XW,hm,JV⟩:=lN hz
 rw[hi]at uy;injection uy with uy;subst uy
 have ll:i.size=m+1:=by simpa[eX,hi]using eY
 have fits:∀n,n<=dG->n*i.bytes<=140737488355328:=fun n h=>by
  unfold dG at h
  have:=Nat.mul_le_mul h hby
  omega
 have e63:∀n,n<=dG->(n:Int)<=9223372036854775807:=fun n h=>by unfold dG at h;omega
 have same:∀(w1:World) (cells:Array Value),w1=w.drew.alloc (.cells cells e)->w1.heap=w.heap.push (.cells cells e (0,0)):=fun w1 cells h=>by subst h;rfl
 have Yd:∀l:List (List AV),(l.all fun c=>c.length==m+1&&c.all AV.cell)=true->(∀c∈l,c.length=m+1)/\∀c∈l,∀b∈c,b.cell=true:=fun l h=>by
  rw[List.all_eq_true]at h
  refine⟨fun c hc=>?_,fun c hc b hb=>?_⟩
  ·have:=h c hc;simp at this;exact this.1
  ·have:=h c hc;simp at this;exact this.2 b hb
 unfold aP at hv
 split at hv
 ·rename_i hb
  rw[hb]at rx
  have ex:=jX rx
  split at hv
  ·simp at hv
   obtain⟨rfl,rfl⟩:=hv
   obtain⟨A,c,ey,_⟩:=vV (sz:=m+1) S ry Hk (fun c h=>by cases h) (fun c h=>by cases h)
   refine⟨_,w,ι,.inl (iH ho (by rw[ex,ey];exact rR ht hi none 0 0 (Nat.le_refl _) A c)),Step.refl _ _ _ _,S,.fq _ _ .cr,fun _ _=>rfl⟩
  ·rename_i y0 yr
   split at hv
   ·rename_i hc
    simp only[Option.some.injEq,Prod.mk.injEq]at hv
    obtain⟨rfl,rfl⟩:=hv
    obtain⟨hl,hf⟩:=Yd _ hc.2
    obtain⟨A,c,ey,h2⟩:=vV (sz:=m+1) S ry Hk hl hf
    rcases h2 with h2|⟨b,oo,news,rfl,q1,q2,q3,q4⟩
    ·cases h2
    have gU:=run_append_nil (P:=P) w t o.type e i zv ht hi Al ⟨b,oo,none⟩ (y0::yr).length c news (by rw[ll];exact q1) (fun j v hj=>by rw[ma];exact q2 j v hj) (by simp) (e63 _ hc.1) (by have:=fits _ hc.1;omega)
    obtain⟨g1,g2⟩:=FK w (y0::yr).length 0 e hc.1
    have eD:(news.toArray++Builtin.zeroCells zv.cells (grownCap w (y0::yr).length 0 e-(y0::yr).length)).size=grownCap w (y0::yr).length 0 e*(m+1):=by
     rw[Array.size_append,size_zeroCells,XW,ll]
     simp only[List.size_toArray,q1]
     rw[<-Nat.add_mul];congr 1;omega
    have S1:=S.alloc (w':=w.drew.alloc (.cells (news.toArray++Builtin.zeroCells zv.cells (grownCap w (y0::yr).length 0 e-(y0::yr).length)) e)) (r:=⟨true,m+1,y0::yr⟩) rfl hn rfl (by rw[eD];exact Nat.mul_le_mul_right _ g1) hl hf
     (fun k j cs b2 hk hj=>by
      obtain⟨u,hu,BJ⟩:=q3.2 _ _ (flat_get hl hk hj)
      refine⟨u,?_,BJ⟩
      have eP:=(Array.getElem?_eq_some_iff.1 hu).1
      dsimp only
      rw[Array.getElem?_append_left eP];exact hu)
    have eA:=GV (T:=e) S (news.toArray++Builtin.zeroCells zv.cells (grownCap w (y0::yr).length 0 e-(y0::yr).length)) hn ⟨w.heap.size,m+1,(news.toArray++Builtin.zeroCells zv.cells (grownCap w (y0::yr).length 0 e-(y0::yr).length)).size,none⟩
    refine⟨_,_,_,.inl (iH ho (by rw[ex,ey];exact gU)),eA,S1,?_,fun _ h=>iN h⟩
    refine .own _ _ _ _ _ _ (eW _ _ _) rfl g1 (.inr (by simp)) ?_ g2
    dsimp only;rw[eD];simp
   ·simp at hv
 ·rename_i i0 len hb
  rw[hb]at rx
  simp only[Option.bind_eq_some_iff]at hv
  obtain⟨r,hg,hv⟩:=hv
  split at hv
  ·rename_i hc
   obtain⟨c1,c2,c3,c4,c5⟩:=hc
   simp only[Option.some.injEq,Prod.mk.injEq]at hv
   obtain⟨rfl,rfl⟩:=hv
   obtain⟨hl,hf⟩:=Yd _ c5
   obtain⟨A,c,ey,h2⟩:=vV (sz:=m+1) S ry Hk hl hf
   obtain⟨oo,cap,B,ex,hB,h1,EJ,h3,h4,hk⟩:=jH rx
   obtain⟨B',eE,R,kN,qm⟩:=S.row _ _ hg
   rw[hB]at eE;injection eE with eE;subst eE
   replace R:=R.row hk
   have NH:B.sz=m+1:=R.sz.trans c2
   have DV:∀cs∈r.rows++ys,cs.length=m+1:=fun cs eD=>by
    rcases List.mem_append.1 eD with h|h
    ·rw[<-c2];exact R.len cs h
    ·exact hl cs h
   have SX:∀cs∈r.rows++ys,∀b∈cs,b.cell=true:=fun cs eD=>by
    rcases List.mem_append.1 eD with h|h
    ·exact R.flat cs h
    ·exact hf cs h
   rcases h2 with rfl|⟨yb,yo,news,rfl,q1,q2,q3,q4⟩
   ·have K7:=S.rename hg c1 hB hn
    refine⟨_,w,l8 ι id B,.inl (iH ho (by rw[ex,ey];exact rR ht hi _ _ _ h1 A c)),⟨Below.refl _ _,fun _ _=>rfl,fun _ h=>h,gq hn,fun _ h=>.inl h⟩,?_,?_,fun _ h=>iN h⟩
    ·have:(⟨true,m+1,r.rows++[]⟩:Row)=r:=by cases r;simp_all
     rw[this];exact K7
    ·simp only[List.length_nil,Nat.add_zero]
     exact .own _ _ _ _ _ B (eW _ _ _) hk h1 EJ h3 h4
   ·obtain⟨cur,T,hblk,hC,Aa⟩:=R.cur
    by_cases gM:len+ys.length<=cap
    ·have Zo:ys≠[]->oo=0:=fun h=>by
      rcases EJ with EJ|EJ
      ·have:=List.length_pos_iff.2 h;omega
      ·simpa using EJ
     by_cases hy0:ys=[]
     ·subst hy0
      have K7:=S.rename hg c1 hB hn
      refine⟨_,w,l8 ι id B,.inl (iH ho (by rw[ex,ey];exact rR ht hi _ _ _ h1 _ c)),⟨Below.refl _ _,fun _ _=>rfl,fun _ h=>h,gq hn,fun _ h=>.inl h⟩,?_,?_,fun _ h=>iN h⟩
      ·have:(⟨true,m+1,r.rows++[]⟩:Row)=r:=by cases r;simp_all
       rw[this];exact K7
      ·simp only[List.length_nil,Nat.add_zero]
       exact .own _ _ _ _ _ B (eW _ _ _) hk h1 EJ h3 h4
     have ho0:=Zo hy0
     subst ho0
     have xg:len*i.size+news.length<=cur.size:=by
      rw[ll,q1,hC,<-Nat.add_mul]
      refine Nat.le_trans ?_ h3
      rw[NH,Nat.zero_add]
      exact Nat.mul_le_mul_right _ gM
     have gU:=BT (ty:=o.type) ht hi B.b len cap cur hblk ⟨yb,yo,none⟩ ys.length c news (by rw[ll];exact q1) (fun j v hj=>by rw[ma];exact q2 j v hj) q4 gM xg
     have oR:cur.toList.length=cur.size:=Array.length_toList
     simp only[ll]at gU xg
     obtain⟨P1,P2⟩:=S.put (r':=⟨true,m+1,r.rows++ys⟩) hg c1 hB hblk (cur':=(cur.toList.take (len*(m+1))++news++cur.toList.drop (len*(m+1)+news.length)).toArray) (by simp only[List.size_toArray,List.length_append,List.length_take,List.length_drop,oR];omega) rfl c2.symm
      (by dsimp only;rw[List.length_append,<-c3,<-NH];refine Nat.le_trans (Nat.mul_le_mul_right _ gM) (Nat.le_trans (by simp) h3)) DV SX (fun k j cs b2 hk hj=>by
       simp only[List.getElem?_toArray]
       have iP:j<m+1:=by rw[<-DV cs (List.mem_of_getElem? hk)];exact(List.getElem?_eq_some_iff.1 hj).1
       rw[c2]
       by_cases lk:k<r.rows.length
       ·rw[List.getElem?_append_left lk]at hk
        have h2:k*(m+1)+j<len*(m+1):=lF ad iP
        rw[List.append_assoc,List.getElem?_append_left (by simp only[List.length_take,oR];omega),List.getElem?_take,if_pos h2]
        have:=Aa k j cs b2 hk hj
        rw[c2]at this;simpa using this
       ·rw[List.getElem?_append_right ad]at hk
        have sZ:=(List.getElem?_eq_some_iff.1 hk).1
        have nk:len*(m+1)<=k*(m+1):=Nat.mul_le_mul_right _ ad
        have nq:k*(m+1)+j-len*(m+1)=(k-r.rows.length)*(m+1)+j:=by
         rw[<-c3,Nat.sub_mul];omega
        obtain⟨u,hu,BJ⟩:=q3.2 _ _ (flat_get hl hk hj)
        refine⟨u,?_,BJ⟩
        have JS:news[(k-r.rows.length)*(m+1)+j]? =some u:=by simpa using hu
        have eP:=(List.getElem?_eq_some_iff.1 JS).1
        rw[List.append_assoc,List.getElem?_append_right (by simp only[List.length_take,oR];omega),List.getElem?_append_left (by simp only[List.length_take,oR];omega)]
        rw[<-JS]
        congr 1
        simp only[List.length_take,oR]
        omega)
     have fU:ck (cq (ck g i0 ⟨true,m+1,r.rows++ys⟩) i0) id ⟨true,m+1,r.rows++ys⟩=ck (cq g i0) id ⟨true,m+1,r.rows++ys⟩:=by
      funext q;simp only[ck,cq]
      by_cases h:q=id<;>by_cases h':q=i0<;>simp[h,h']
     have K7:=P1.rename (i:=i0) (id:=id) (r:=⟨true,m+1,r.rows++ys⟩) (by simp[ck]) rfl hB hn
     rw[fU]at K7
     refine⟨_,_,_,.inl (iH ho (by rw[ex,ey];exact gU)),P2.trans ⟨Below.refl _ _,fun _ _=>rfl,fun _ h=>h,gq hn,fun _ h=>.inl h⟩,K7,?_,fun _ h=>iN h⟩
     exact .own _ _ _ _ _ B (eW _ _ _) hk gM (.inr (by simp)) h3 h4
    ·
     have holds:∃yP:List Value,yP.length=len*(m+1)/\(∀j v,yP[j]? =some v->w.cell? ⟨B.b,oo+j,none⟩=some v)/\gI P w D ι r.rows.flatten yP.toArray:=by
      obtain⟨A2,c2',e2,h2⟩:=vV (sz:=m+1) (u:=.slice (some ⟨B.b,oo,none⟩) len cap) S (.own i0 0 len oo cap B hB hk h1 EJ h3 h4) (ys:=r.rows) (by simp[bq,hg,c3]) (fun cs h=>by rw[<-c2];exact R.len cs h) R.flat
      rcases h2 with h2|⟨b2,o2,yP,rfl,p1,p2,p3,_⟩
      ·refine⟨[],by simp[c3,h2],fun j v h=>by simp at h,by rw[h2];exact⟨rfl,fun j a h=>by simp at h⟩⟩
      ·injection e2 with e2 _ _
       injection e2 with e2
       injection e2 with e21 e22 _
       subst e21;subst e22
       exact⟨yP,by rw[p1,c3],p2,p3⟩
     obtain⟨yP,p1,p2,p3⟩:=holds
     have gU:=run_append_grow (P:=P) w t o.type e i zv ht hi Al ⟨B.b,oo,none⟩ len cap yP (by rw[ll];exact p1) (fun j v hj=>by rw[ma];exact p2 j v hj) ⟨yb,yo,none⟩ ys.length c news (by rw[ll];exact q1) (fun j v hj=>by rw[ma];exact q2 j v hj) ad (e63 _ c4) (growslice_fits ad (fits _ c4))
     obtain⟨g1,g2⟩:=FK w (len+ys.length) cap e c4
     have eD:(yP.toArray++news.toArray++Builtin.zeroCells zv.cells (grownCap w (len+ys.length) cap e-(len+ys.length))).size=grownCap w (len+ys.length) cap e*(m+1):=by
      rw[Array.size_append,Array.size_append,size_zeroCells,XW,ll]
      simp only[List.size_toArray,q1,p1]
      rw[<-Nat.add_mul,<-Nat.add_mul];congr 1;omega
     have S1:=(S.kill i0).alloc (id:=id) (w':=w.drew.alloc (.cells (yP.toArray++news.toArray++Builtin.zeroCells zv.cells (grownCap w (len+ys.length) cap e-(len+ys.length))) e)) (r:=⟨true,m+1,r.rows++ys⟩) rfl hn rfl (by dsimp only;rw[eD,List.length_append,<-c3];exact Nat.mul_le_mul_right _ g1) DV SX
      (fun k j cs b2 hk hj=>by
       have K5:=flat_get DV hk hj
       rw[List.flatten_append]at K5
       have Q6:yP.length=r.rows.flatten.length:=by have:=p3.1;simpa using this
       dsimp only
       by_cases eP:k*(m+1)+j<r.rows.flatten.length
       ·rw[List.getElem?_append_left eP]at K5
        obtain⟨u,hu,BJ⟩:=p3.2 _ _ K5
        refine⟨u,?_,BJ⟩
        rw[Array.getElem?_append_left (by simp;omega),Array.getElem?_append_left (by simp;omega)];exact hu
       ·rw[List.getElem?_append_right ad]at K5
        obtain⟨u,hu,BJ⟩:=q3.2 _ _ K5
        refine⟨u,?_,BJ⟩
        have FW:=(Array.getElem?_eq_some_iff.1 hu).1
        simp only[List.size_toArray]at FW
        rw[Array.getElem?_append_left (by simp;omega),Array.getElem?_append_right (by simp;omega)]
        simp only[List.size_toArray,Q6];exact hu)
     have eA:=GV (T:=e) S (yP.toArray++news.toArray++Builtin.zeroCells zv.cells (grownCap w (len+ys.length) cap e-(len+ys.length))) hn ⟨w.heap.size,m+1,(yP.toArray++news.toArray++Builtin.zeroCells zv.cells (grownCap w (len+ys.length) cap e-(len+ys.length))).size,none⟩
     refine⟨_,_,_,.inl (iH ho (by rw[ex,ey];exact gU)),eA,S1,?_,fun _ h=>iN h⟩
     refine .own _ _ _ _ _ _ (eW _ _ _) rfl g1 (.inr (by simp)) ?_ g2
     dsimp only;rw[eD];simp
  ·simp at hv
 ·simp at hv
theorem nH {x:Operand} {t:TypeId} {u:Value} (ho:o.op=.call {callee:=.builtin .clear,args:= #[x],argTypes:= #[t]}) (h:(Builtin.clear_ #[t] o.type #[a.eval x]).run P w=.ok u w'):(execOp a.eval o).run P w=.ok (.value u) w':=by
 simp only[execOp,ho,resolve,Sem.run_bind,Sem.run_pure,Result.andThen_ok,invoke,builtin]
 simp only[List.map_toArray,List.map_cons,List.map_nil]
 rw[h];rfl
theorem QF {x:Operand} {x':O} {t e:TypeId} {m:Nat} {z:List K} {g':Rows} (S:iD P hs D ι g w) (E:dy P w D ι env a) (ho:o.op=.call {callee:=.builtin .clear,args:= #[x],argTypes:= #[t]})
  (ht:P.underlying t=some (.slice e)) (eY:eX P e=some (m+1)) (hz:lu P e=some z) (hx:cO P x=some x') (hv:bH g z (dz env x')=some g'):Hm P hs a o w D ι id .undef g':=by
 have rx:=ew E hx
 obtain⟨it,zv,hi,Al,XW,hm,JV⟩:=lN hz
 have ll:it.size=m+1:=by simpa[eX,hi]using eY
 unfold bH at hv
 split at hv
 ·rename_i hb
  rw[hb]at rx
  simp at hv;subst hv
  refine⟨undef,w,ι,.inl (nH ho (by rw[jX rx];simp only[Builtin.clear_,Sem.run_bind];simp[run_underlying ht,undef])),Step.refl _ _ _ _,S,dZ.undef,fun _ _=>rfl⟩
 ·rename_i i off len hb
  rw[hb]at rx
  simp only[Option.bind_eq_some_iff]at hv
  obtain⟨r,hg,hv⟩:=hv
  split at hv
  ·rename_i hc
   obtain⟨c1,c2,c3⟩:=hc
   simp only[Option.some.injEq]at hv;subst hv
   obtain⟨oo,cap,B,ex,hB,h1,h2,h3,h4,hk⟩:=jH rx
   obtain⟨B',eE,R,kN,qm⟩:=S.row _ _ hg
   rw[hB]at eE;injection eE with eE;subst eE
   replace R:=R.row hk
   obtain⟨cur,T,hblk,hC,Aa⟩:=R.cur
   by_cases h0:len=0
   ·subst h0
    have e1:({r with rows:=r.rows.take off++List.replicate 0 (z.map K.av)++r.rows.drop (off+0)}:Row)=r:=by cases r;simp
    rw[e1]
    have e2:ck g i r=g:=by
     funext q;unfold ck;split
     ·rename_i h;rw[h,hg]
     ·rfl
    rw[e2]
    refine⟨undef,w,ι,.inl (nH ho (by rw[ex];simp only[Builtin.clear_,Sem.run_bind];simp[run_underlying ht,undef])),Step.refl _ _ _ _,S,dZ.undef,fun _ _=>rfl⟩
   ·have EN:oo=off*B.sz:=by rcases h2 with h2|h2<;>omega
    have NH:B.sz=m+1:=by rw[R.sz,c2,JV,ll]
    have tU:r.sz=m+1:=by rw[<-R.sz,NH]
    have ZJ:zv.cells.size=m+1:=by rw[XW,ll]
    have Bp:(Builtin.zeroCells zv.cells len).toList.length=len*(m+1):=by rw[Array.length_toList,size_zeroCells,ZJ]
    have ZI:∀k,k<len*(m+1)->∃c,z[k % z.length]? =some c/\(Builtin.zeroCells zv.cells len).toList[k]? =some c.val:=fun k hk=>by
     obtain⟨c,qK,HY⟩:=rZ (n:=len*zv.cells.size) hm (by rw[JV,ll];omega) k (by rw[ZJ];exact hk)
     exact⟨c,qK,by rw[Array.getElem?_toList];exact HY⟩
    have hbound:(off+len)*(m+1)<=r.rows.length*(m+1):=Nat.mul_le_mul_right _ c3
    have Ac:=R.fits
    rw[tU]at Ac
    have hexp:(off+len)*(m+1)=off*(m+1)+len*(m+1):=Nat.add_mul _ _ _
    have eA:=run_storeCells_at P B.b oo T (Builtin.zeroCells zv.cells len).toList 0 cur w hblk (by rw[Bp,hC,EN,NH];omega) (by
     intro v hv
     obtain⟨k,hk,rfl⟩:=List.getElem_of_mem hv
     obtain⟨c,_,HY⟩:=ZI k (by rw[<-Bp];exact hk)
     rw[List.getElem?_eq_getElem hk]at HY
     injection HY with HY
     rw[HY];cases c<;>rfl)
    simp only[Nat.add_zero]at eA
    have oR:cur.toList.length=cur.size:=Array.length_toList
    obtain⟨P1,P2⟩:=S.put (r':={r with rows:=r.rows.take off++List.replicate len (z.map K.av)++r.rows.drop (off+len)}) hg c1 hB hblk (cur':=(cur.toList.take oo++(Builtin.zeroCells zv.cells len).toList++cur.toList.drop (oo+(Builtin.zeroCells zv.cells len).toList.length)).toArray)
     (by simp only[List.size_toArray,List.length_append,List.length_take,List.length_drop,oR,Bp];rw[EN,NH];omega) c1 rfl (by
      have:(r.rows.take off++List.replicate len (z.map K.av)++r.rows.drop (off+len)).length=r.rows.length:=by simp;omega
      dsimp only;rw[this];exact R.fits) (fun cs eD=>by
      rcases List.mem_append.1 eD with h|h
      ·rcases List.mem_append.1 h with h|h
       ·exact R.len cs (List.mem_of_mem_take h)
       ·rw[List.eq_of_mem_replicate h];simp[c2]
      ·exact R.len cs (List.mem_of_mem_drop h)) (fun cs eD b hb=>by
      rcases List.mem_append.1 eD with h|h
      ·rcases List.mem_append.1 h with h|h
       ·exact R.flat cs (List.mem_of_mem_take h) b hb
       ·rw[List.eq_of_mem_replicate h]at hb
        obtain⟨c,_,rfl⟩:=List.mem_map.1 hb;exact c.pI
      ·exact R.flat cs (List.mem_of_mem_drop h) b hb) (fun k j cs b hk hj=>by
      simp only[List.getElem?_toArray]
      rw[tU]
      rw[EN,NH,Bp]
      by_cases uz:k<off
      ·rw[List.append_assoc,List.getElem?_append_left (by simp;omega),List.getElem?_take,if_pos uz]at hk
       have iP:j<m+1:=by rw[<-tU,<-R.len cs (List.mem_of_getElem? hk)];exact(List.getElem?_eq_some_iff.1 hj).1
       have h2:=lF uz iP
       rw[List.append_assoc,List.getElem?_append_left (by simp only[List.length_take,oR];omega),List.getElem?_take,if_pos h2]
       have:=Aa k j cs b hk hj
       rw[tU]at this;simpa using this
      ·by_cases sZ:k<off+len
       ·rw[List.append_assoc,List.getElem?_append_right (by simp;omega),List.getElem?_append_left (by simp;omega)]at hk
        have je:=List.eq_of_mem_replicate (List.mem_of_getElem? hk)
        subst je
        simp only[List.getElem?_map,Option.map_eq_some_iff]at hj
        obtain⟨q,hq,rfl⟩:=hj
        have iP:=(List.getElem?_eq_some_iff.1 hq).1
        rw[JV,ll]at iP
        have nk:off*(m+1)<=k*(m+1):=Nat.mul_le_mul_right _ ad
        have nq:k*(m+1)+j-off*(m+1)=(k-off)*(m+1)+j:=by rw[Nat.sub_mul];omega
        have FW:(k-off)*(m+1)+j<len*(m+1):=lF ad iP
        rw[List.append_assoc,List.getElem?_append_right (by simp only[List.length_take,oR];omega),List.getElem?_append_left (by simp only[List.length_take,oR,Bp];omega)]
        obtain⟨c,qK,HY⟩:=ZI _ FW
        rw[JV,ll,Nat.mul_comm (k-off),Nat.mul_add_mod,Nat.mod_eq_of_lt iP,hq]at qK
        injection qK with qK;subst qK
        refine⟨q.val,?_,AU q⟩
        rw[<-HY]
        congr 1
        simp only[List.length_take,oR];omega
       ·rw[List.getElem?_append_right (by simp;omega)]at hk
        simp only[List.length_append,List.length_take,List.length_replicate,List.getElem?_drop]at hk
        rw[show off+len+(k-(min off r.rows.length+len))=k by omega]at hk
        have lk:=(List.getElem?_eq_some_iff.1 hk).1
        have nk:(off+len)*(m+1)<=k*(m+1):=Nat.mul_le_mul_right _ ad
        rw[List.getElem?_append_right (by simp only[List.length_append,List.length_take,oR,Bp];omega)]
        simp only[List.length_append,List.length_take,oR,Bp,List.getElem?_drop]
        rw[show off*(m+1)+len*(m+1)+(k*(m+1)+j-(min (off*(m+1)) cur.size+len*(m+1)))=k*(m+1)+j by omega]
        have:=Aa k j cs b hk hj
        rw[tU]at this;simpa using this)
    refine⟨undef,_,ι,.inl (nH ho ?_),P2,P1,dZ.undef,fun _ _=>rfl⟩
    rw[ex]
    cases len with
    |zero=>exact(h0 rfl).elim
    |succ len=>
     simp only[Builtin.clear_,Sem.run_bind]
     simp[run_underlying ht,zeroValue,typeInfo,hi,Al,eA,undef]
  ·simp at hv
 ·simp at hv
theorem LS {dT sT ty e:TypeId} {it:TypeInfo} (hu:P.underlying dT=some (.slice e)) (hi:P.info? e=some it) (A B:Option Addr) (wb IJ KN Uk:Nat) (h0:Nat.min wb KN=0):
  (Builtin.copy_ #[dT,sT] ty #[.slice A KN Uk,.slice B wb IJ]).run P w=.ok (goInt 0) w:=by
 cases A<;>cases B<;>simp[Builtin.copy_,run_underlying hu,Builtin.lenOf,Builtin.firstCells,sizeOf,typeInfo,hi,h0,storeCells,loadCells,loadCellsFrom]
theorem LU {dT sT ty e:TypeId} {it:TypeInfo} (hu:P.underlying dT=some (.slice e)) (hi:P.info? e=some it) (A B:Addr) (wb IJ KN Uk:Nat) (cs:List Value) (hn:cs.length=Nat.min wb KN*it.size) (hl:(loadCells B cs.length).run P w=.ok cs.toArray w) (hs:(storeCells A cs).run P w=.ok () w'):
  (Builtin.copy_ #[dT,sT] ty #[.slice (some A) KN Uk,.slice (some B) wb IJ]).run P w=.ok (goInt (Nat.min wb KN)) w':=by
 simp[Builtin.copy_,run_underlying hu,Builtin.lenOf,Builtin.firstCells,sizeOf,typeInfo,hi,<-hn,hl,hs]
theorem tr {x y:Operand} {t t2:TypeId} {u:Value} (ho:o.op=.call {callee:=.builtin .copy,args:= #[x,y],argTypes:= #[t,t2]}) (h:(Builtin.copy_ #[t,t2] o.type #[a.eval x,a.eval y]).run P w=.ok u w'):(execOp a.eval o).run P w=.ok (.value u) w':=by
 simp only[execOp,ho,resolve,Sem.run_bind,Sem.run_pure,Result.andThen_ok,invoke,builtin]
 simp only[List.map_toArray,List.map_cons,List.map_nil]
 rw[h];rfl
theorem Ul {x y:Operand} {x' y':O} {t t2 e:TypeId} {m:Nat} {ys:List (List AV)} {v:AV} {g':Rows} (S:iD P hs D ι g w) (E:dy P w D ι env a) (ho:o.op=.call {callee:=.builtin .copy,args:= #[x,y],argTypes:= #[t,t2]})
  (ht:P.underlying t=some (.slice e)) (eY:eX P e=some (m+1)) (hx:cO P x=some x') (hy:cO P y=some y') (Hk:bq g (dz env y')=some ys) (hv:Kn g (m+1) (dz env x') ys=some (v,g')):Hm P hs a o w D ι id v g':=by
 have rx:=ew E hx
 have ry:=ew E hy
 obtain⟨it,hi,ll⟩:∃it,P.info? e=some it/\it.size=m+1:=by
  cases hq:P.info? e with
  |none=>simp[eX,hq]at eY
  |some it=>exact⟨it,rfl,by simpa[eX,hq]using eY⟩
 unfold Kn at hv
 split at hv
 ·rename_i i off len hb
  rw[hb]at rx
  simp only[Option.bind_eq_some_iff]at hv
  obtain⟨r,hg,hv⟩:=hv
  split at hv
  ·rename_i hc
   obtain⟨c1,c2,c3,c4⟩:=hc
   simp only[Option.some.injEq,Prod.mk.injEq]at hv
   obtain⟨rfl,rfl⟩:=hv
   rw[List.all_eq_true]at c4
   have hl:∀c∈ys,c.length=m+1:=fun c hc=>by have:=c4 c hc;simp at this;exact this.1
   have hf:∀c∈ys,∀b∈c,b.cell=true:=fun c hc b hb=>by have:=c4 c hc;simp at this;exact this.2 b hb
   obtain⟨oo,cap,B,ex,hB,h1,h2,h3,h4,hk⟩:=jH rx
   obtain⟨B',eE,R,kN,qm⟩:=S.row _ _ hg
   rw[hB]at eE;injection eE with eE;subst eE
   replace R:=R.row hk
   obtain⟨cur,T,hblk,hC,Aa⟩:=R.cur
   obtain⟨A,sc,hu,hA⟩:=vV S ry Hk hl hf
   by_cases h0:min ys.length len=0
   ·rw[h0]
    have e1:({r with rows:=r.rows.take off++ys.take 0++r.rows.drop (off+0)}:Row)=r:=by cases r;simp
    rw[e1]
    have e2:ck g i r=g:=by
     funext q;unfold ck;split
     ·rename_i h;rw[h,hg]
     ·rfl
    rw[e2]
    refine⟨goInt 0,w,ι,.inl (tr ho (by rw[ex,hu];exact LS ht hi _ _ _ _ _ _ h0)),Step.refl _ _ _ _,S,.fq _ _ (.int _ _),fun _ _=>rfl⟩
   ·rcases hA with rfl|⟨b,o2,news,rfl,tR,hsrc,hR,h1c⟩
    ·simp at h0
    have Zj:Nat.min ys.length len=min ys.length len:=rfl
    have hky:min ys.length len<=ys.length:=Nat.min_le_left _ _
    have lk:min ys.length len<=len:=Nat.min_le_right _ _
    generalize XE:min ys.length len=kk at *
    have hlen0:len≠0:=ad
    have EN:oo=off*B.sz:=by rcases h2 with h2|h2<;>omega
    have NH:B.sz=m+1:=by rw[R.sz,c2]
    have tU:r.sz=m+1:=c2
    have hkm:kk*(m+1)<=ys.length*(m+1):=Nat.mul_le_mul_right _ hky
    have Bp:(news.take (kk*(m+1))).length=kk*(m+1):=by rw[List.length_take,tR];omega
    have hbound:(off+kk)*(m+1)<=r.rows.length*(m+1):=Nat.mul_le_mul_right _ ad
    have Ac:=R.fits
    rw[tU]at Ac
    have hexp:(off+kk)*(m+1)=off*(m+1)+kk*(m+1):=Nat.add_mul _ _ _
    have eA:=run_storeCells_at P B.b oo T (news.take (kk*(m+1))) 0 cur w hblk (by rw[Bp,hC,EN,NH];omega) (fun v hv=>h1c v (List.mem_of_mem_take hv))
    have hld:=run_loadCells_list (P:=P) w ⟨b,o2,none⟩ (news.take (kk*(m+1))) (fun j v hj=>by
     rw[List.getElem?_take]at hj
     split at hj
     ·have:=hsrc j v hj
      cases j with
      |zero=>simpa[Addr.add]using this
      |succ j=>simpa[Addr.add]using this
     ·cases hj)
    simp only[Nat.add_zero]at eA
    have oR:cur.toList.length=cur.size:=Array.length_toList
    have Hh:(ys.take kk).length=kk:=by rw[List.length_take];omega
    obtain⟨P1,P2⟩:=S.put (r':={r with rows:=r.rows.take off++ys.take kk++r.rows.drop (off+kk)}) hg c1 hB hblk (cur':=(cur.toList.take oo++news.take (kk*(m+1))++cur.toList.drop (oo+(news.take (kk*(m+1))).length)).toArray)
     (by simp only[List.size_toArray,List.length_append,List.length_drop,oR,Bp];rw[List.length_take,oR,EN,NH];omega) c1 rfl (by
      have:(r.rows.take off++ys.take kk++r.rows.drop (off+kk)).length=r.rows.length:=by simp;omega
      dsimp only;rw[this];exact R.fits) (fun cs eD=>by
      rcases List.mem_append.1 eD with h|h
      ·rcases List.mem_append.1 h with h|h
       ·exact R.len cs (List.mem_of_mem_take h)
       ·rw[hl cs (List.mem_of_mem_take h)];exact c2.symm
      ·exact R.len cs (List.mem_of_mem_drop h)) (fun cs eD b hb=>by
      rcases List.mem_append.1 eD with h|h
      ·rcases List.mem_append.1 h with h|h
       ·exact R.flat cs (List.mem_of_mem_take h) b hb
       ·exact hf cs (List.mem_of_mem_take h) b hb
      ·exact R.flat cs (List.mem_of_mem_drop h) b hb) (fun k j cs b hk hj=>by
      simp only[List.getElem?_toArray]
      rw[tU]
      rw[EN,NH,Bp]
      by_cases uz:k<off
      ·rw[List.append_assoc,List.getElem?_append_left (by simp;omega),List.getElem?_take,if_pos uz]at hk
       have iP:j<m+1:=by rw[<-tU,<-R.len cs (List.mem_of_getElem? hk)];exact(List.getElem?_eq_some_iff.1 hj).1
       have h2:=lF uz iP
       rw[List.append_assoc,List.getElem?_append_left (by simp only[List.length_take,oR];omega),List.getElem?_take,if_pos h2]
       have:=Aa k j cs b hk hj
       rw[tU]at this;simpa using this
      ·by_cases sZ:k<off+kk
       ·rw[List.append_assoc,List.getElem?_append_right (by simp;omega),List.getElem?_append_left (by simp;omega)]at hk
        simp only[List.length_take]at hk
        rw[show k-min off r.rows.length=k-off by omega,List.getElem?_take,if_pos ad]at hk
        have iP:j<m+1:=by rw[<-hl cs (List.mem_of_getElem? hk)];exact(List.getElem?_eq_some_iff.1 hj).1
        have nk:off*(m+1)<=k*(m+1):=Nat.mul_le_mul_right _ ad
        have nq:k*(m+1)+j-off*(m+1)=(k-off)*(m+1)+j:=by rw[Nat.sub_mul];omega
        have FW:(k-off)*(m+1)+j<kk*(m+1):=lF ad iP
        rw[List.append_assoc,List.getElem?_append_right (by simp only[List.length_take,oR];omega),List.getElem?_append_left (by rw[Bp];simp only[List.length_take,oR];omega)]
        obtain⟨u,ZC,hu2⟩:=hR.2 ((k-off)*(m+1)+j) b (flat_get hl hk hj)
        refine⟨u,?_,hu2⟩
        rw[List.getElem?_take]
        simp only[List.length_take,oR]
        rw[show k*(m+1)+j-min (off*(m+1)) cur.size=(k-off)*(m+1)+j by omega,if_pos FW]
        simpa using ZC
       ·rw[List.getElem?_append_right (by simp;omega)]at hk
        simp only[List.length_append,List.length_take,List.getElem?_drop]at hk
        rw[show off+kk+(k-(min off r.rows.length+min kk ys.length))=k by omega]at hk
        have lk:=(List.getElem?_eq_some_iff.1 hk).1
        have nk:(off+kk)*(m+1)<=k*(m+1):=Nat.mul_le_mul_right _ ad
        rw[List.getElem?_append_right (by rw[List.length_append,Bp];simp only[List.length_take,oR];omega)]
        rw[List.getElem?_drop,List.length_append,Bp]
        simp only[List.length_take,oR]
        rw[show off*(m+1)+kk*(m+1)+(k*(m+1)+j-(min (off*(m+1)) cur.size+kk*(m+1)))=k*(m+1)+j by omega]
        have:=Aa k j cs b hk hj
        rw[tU]at this;simpa using this)
    refine⟨goInt kk,_,ι,.inl (tr ho ?_),P2,P1,.fq _ _ (.int _ _),fun _ _=>rfl⟩
    rw[ex,hu]
    have:=LU (w:=w) (sT:=t2) (ty:=o.type) ht hi ⟨B.b,oo,none⟩ ⟨b,o2,none⟩ ys.length sc len cap _ (by rw[Bp,Zj,ll]) hld eA
    rw[Zj]at this
    exact this
  ·simp at hv
 ·simp at hv
end
end Go.Proofs.YtoodopepphhpoaaGreatDoor.V

namespace Go.Proofs.YtoodopepphhpoaaGreatDoor.V
open Go.RowKit
variable {P:Program} {w w':World} {D D' D2:Nat->Prop} {ι ι' ι2:Names}
section
variable {g:Rows} {hs:Nat}
theorem iG:∀{n:Nat} {l r:List AV},eC g n l=some r->r.length=l.length/\∀(j:Nat) (b:AV),r[j]? =some b->∃a,l[j]? =some a/\fz g n a=some b
 |n,[],r,h=>by
  rw[eC]at h;simp at h;subst h;simp
 |n,a::l,r,h=>by
  rw[eC]at h
  split at h
  ·rename_i b hb
   simp only[Option.map_eq_some_iff]at h
   obtain⟨r',hr,rfl⟩:=h
   obtain⟨h1,h2⟩:=iG hr
   refine⟨by simp[h1],fun j c hj=>?_⟩
   cases j with
   |zero=>simp at hj;subst hj;exact⟨a,rfl,hb⟩
   |succ j=>simp at hj ⊢;exact h2 j c hj
  ·simp at h
theorem zZ:∀{n:Nat} {l r:List (List AV)},fm g n l=some r->r.length=l.length/\∀(j:Nat) (b:List AV),r[j]? =some b->∃a,l[j]? =some a/\eC g n a=some b
 |n,[],r,h=>by
  rw[fm]at h;simp at h;subst h;simp
 |n,a::l,r,h=>by
  rw[fm]at h
  split at h
  ·rename_i b hb
   simp only[Option.map_eq_some_iff]at h
   obtain⟨r',hr,rfl⟩:=h
   obtain⟨h1,h2⟩:=zZ hr
   refine⟨by simp[h1],fun j c hj=>?_⟩
   cases j with
   |zero=>simp at hj;subst hj;exact⟨a,rfl,hb⟩
   |succ j=>simp at hj ⊢;exact h2 j c hj
  ·simp at h
theorem rl (hD:∀b,D b->D2 b) (wE:∀id row,g id=some row->row.w=true->∃B,ι id=some B/\jg P w D ι B row/\D2 B.b):∀(n:Nat) (a:AV) (u:Value) (r:AV),dZ P w D ι a u->fz g n a=some r->dZ P w D2 ι2 r u/\(a.cell=true->lO P w D2 r u/\r.cell=true):=by
 intro n
 induction n with
 |zero=>intro a u r _ h;rw[fz]at h;simp at h
 |succ n ih=>
  intro a u r hr h
  have both:∀{r:AV},lO P w D2 r u->r.cell=true->dZ P w D2 ι2 r u/\(a.cell=true->lO P w D2 r u/\r.cell=true):=fun h1 h2=>⟨.fq _ _ h1,fun _=>⟨h1,h2⟩⟩
  cases a with
  |map id m=>rw[fz]at h;cases h
  |uQ id=>rw[fz]at h;cases h
  |own id off len=>
   rw[fz]at h
   split at h
   ·rename_i row hg
    split at h
    ·rename_i hw
     split at h
     ·rename_i hle
      simp only[Option.map_eq_some_iff]at h
      obtain⟨rows,lv,rfl⟩:=h
      obtain⟨B,hB,R,UH⟩:=wE id row hg hw
      obtain⟨o,cap,B',rfl,eE,h1,h2,h3,h4,hk⟩:=jH hr
      rw[hB]at eE;injection eE with eE;subst eE
      replace R:=R.row hk
      obtain⟨l1,l2⟩:=zZ lv
      have hlen:rows.length=len:=by rw[l1];simp;omega
      by_cases h0:rows=[]
      ·subst h0
       simp at hlen;subst hlen
       exact both (.ES _ _ h4) rfl
      ·have hlp:0<len:=by rw[<-hlen];exact List.length_pos_iff.2 h0
       have ho:o=off*B.sz:=by rcases h2 with h2|h2<;>omega
       have src:∀i cs,rows[i]? =some cs->∃c0,row.rows[off+i]? =some c0/\eC g n c0=some cs:=fun i cs hi=>by
        obtain⟨c0,kJ,hf⟩:=l2 i cs hi
        rw[List.getElem?_take]at kJ
        split at kJ
        ·rw[List.getElem?_drop]at kJ;exact⟨c0,kJ,hf⟩
        ·simp at kJ
       have cell:∀i j,i<len->j<row.sz->∃c0 a0 v,row.rows[off+i]? =some c0/\c0[j]? =some a0/\w.cell? ⟨B.b,o+(i*row.sz+j),none⟩=some v/\dZ P w D ι a0 v:=fun i j hi hj=>by
        have uy:off+i<row.rows.length:=ad
        have e1:=List.getElem?_eq_getElem uy
        have P6:j<row.rows[off+i].length:=by rw[R.len _ (List.getElem_mem uy)];exact hj
        obtain⟨v,hv,om⟩:=R.at_ _ _ _ _ e1 (List.getElem?_eq_getElem P6)
        refine⟨_,_,v,e1,List.getElem?_eq_getElem P6,?_,om⟩
        rw[ho,R.sz,<-hv]
        congr 2
        rw[Nat.add_mul];omega
       refine both (.sl rows B.b o len cap row.sz (fun i j=>(w.cell? ⟨B.b,o+(i*row.sz+j),none⟩).getD undef) hlen h1 h4 UH (fun cs eD=>?_) (fun cs eD b hb=>?_) (fun i j hi hj=>?_) (fun i j cs b hi hj=>?_)) rfl
       ·obtain⟨i,hi,rfl⟩:=List.getElem_of_mem eD
        obtain⟨c0,kJ,hf⟩:=src i _ (List.getElem?_eq_getElem hi)
        rw[(iG hf).1];exact R.len c0 (List.mem_of_getElem? kJ)
       ·obtain⟨i,hi,rfl⟩:=List.getElem_of_mem eD
        obtain⟨c0,kJ,hf⟩:=src i _ (List.getElem?_eq_getElem hi)
        obtain⟨j,hj,rfl⟩:=List.getElem_of_mem hb
        obtain⟨a0,mM,NQ⟩:=(iG hf).2 j _ (List.getElem?_eq_getElem hj)
        obtain⟨v,_,om⟩:=R.at_ _ _ _ _ kJ mM
        exact((ih _ _ _ om NQ).2 (R.flat c0 (List.mem_of_getElem? kJ) a0 (List.mem_of_getElem? mM))).2
       ·obtain⟨c0,a0,v,_,_,hv,_⟩:=cell i j hi hj
        simp only[hv,Option.getD_some]
       ·obtain⟨c0,kJ,hf⟩:=src i cs hi
        obtain⟨a0,mM,NQ⟩:=(iG hf).2 j b hj
        have oj:i<len:=by rw[<-hlen];exact(List.getElem?_eq_some_iff.1 hi).1
        have iP:j<row.sz:=by rw[<-R.len c0 (List.mem_of_getElem? kJ)];exact(List.getElem?_eq_some_iff.1 mM).1
        obtain⟨c1,a1,v,e1,e2,hv,om⟩:=cell i j oj iP
        rw[kJ]at e1;injection e1 with e1;subst e1
        rw[mM]at e2;injection e2 with e2;subst e2
        simp only[hv,Option.getD_some]
        exact((ih _ _ _ om NQ).2 (R.flat c0 (List.mem_of_getElem? kJ) a0 (List.mem_of_getElem? mM))).1
     ·simp at h
    ·simp at h
   ·simp at h
  |ptr id i off=>
   rw[fz]at h
   split at h
   ·rename_i row hg
    split at h
    ·rename_i hw
     split at h
     ·rename_i c0 kJ
      simp only[Option.map_eq_some_iff]at h
      obtain⟨cs,eD,rfl⟩:=h
      obtain⟨B,hB,R,UH⟩:=wE id row hg hw
      obtain⟨B',rfl,eE,hk⟩:=jw hr
      rw[hB]at eE;injection eE with eE;subst eE
      replace R:=R.row hk
      obtain⟨l1,l2⟩:=iG eD
      have at_:∀j b,cs[j]? =some b->∃a0 v,w.cell? ⟨B.b,i*B.sz+off+j,none⟩=some v/\dZ P w D ι a0 v/\a0.cell=true/\fz g n a0=some b:=fun j b hj=>by
       obtain⟨a0,mM,hf⟩:=l2 j b hj
       rw[List.getElem?_drop]at mM
       obtain⟨v,hv,om⟩:=R.at_ _ _ _ _ kJ mM
       refine⟨a0,v,?_,om,R.flat c0 (List.mem_of_getElem? kJ) a0 (List.mem_of_getElem? mM),hf⟩
       rw[R.sz,Nat.add_assoc];exact hv
      refine both (.er cs B.b _ (fun j=>(w.cell? ⟨B.b,i*B.sz+off+j,none⟩).getD undef) UH (fun b hb=>?_) (fun j hj=>?_) (fun j b hj=>?_)) rfl
      ·obtain⟨j,hj,rfl⟩:=List.getElem_of_mem hb
       obtain⟨a0,v,_,om,hc,hf⟩:=at_ j _ (List.getElem?_eq_getElem hj)
       exact((ih _ _ _ om hf).2 hc).2
      ·obtain⟨a0,v,hv,_⟩:=at_ j _ (List.getElem?_eq_getElem hj)
       simp only[hv,Option.getD_some]
      ·obtain⟨a0,v,hv,om,hc,hf⟩:=at_ j b hj
       simp only[hv,Option.getD_some]
       exact((ih _ _ _ om hf).2 hc).1
     ·simp at h
    ·simp at h
   ·simp at h
  |agg cs=>
   rw[fz]at h
   simp only[Option.map_eq_some_iff]at h
   obtain⟨r',mj,rfl⟩:=h
   obtain⟨vs,f,rfl,h1,h2,h3,h4⟩:=jG hr
   obtain⟨l1,l2⟩:=iG mj
   have hI:lO P w D2 (.agg r') (.agg vs):=.agg r' vs f (by rw[h1,l1]) (fun b hb=>by
    obtain⟨j,hj,rfl⟩:=List.getElem_of_mem hb
    obtain⟨a0,mM,hf⟩:=l2 j _ (List.getElem?_eq_getElem hj)
    exact((ih _ _ _ (h4 j a0 mM) hf).2 (h2 a0 (List.mem_of_getElem? mM))).2) (fun j hj=>h3 j (by rw[<-l1];exact hj)) (fun j b hj=>by
    obtain⟨a0,mM,hf⟩:=l2 j b hj
    exact((ih _ _ _ (h4 j a0 mM) hf).2 (h2 a0 (List.mem_of_getElem? mM))).1)
   exact⟨.fq _ _ hI,fun hc=>by simp[AV.cell]at hc⟩
  |fX cs=>
   rw[fz]at h
   simp only[Option.map_eq_some_iff]at h
   obtain⟨r',mj,rfl⟩:=h
   obtain⟨vs,f,rfl,h1,h3,h4⟩:=zi hr
   obtain⟨l1,l2⟩:=iG mj
   exact⟨.fX r' vs f (by rw[h1,l1]) (fun j hj=>h3 j (by rw[<-l1];exact hj)) (fun j b hj=>by
    obtain⟨a0,mM,hf⟩:=l2 j b hj
    exact(ih _ _ _ (h4 j a0 mM) hf).1),fun hc=>by simp[AV.cell]at hc⟩
  |fn f ek=>
   rw[fz]at h
   split at h
   ·rename_i eR
    simp only[Option.map_eq_some_iff]at h
    obtain⟨r',mj,rfl⟩:=h
    obtain⟨vs,q,rfl,h0,h1,h3,h4⟩:=xC hr
    obtain⟨l1,l2⟩:=iG mj
    exact both (.fn f r' vs q h0 (by rw[h1,l1]) (fun j hj=>h3 j (by rw[<-l1];exact hj)) (fun j b hj=>by
     obtain⟨a0,mM,hf⟩:=l2 j b hj
     exact((ih _ _ _ (h4 j a0 mM) hf).2 (List.all_eq_true.1 eR a0 (List.mem_of_getElem? mM))).1)) rfl
   ·simp at h
  |int k m=>rw[fz]at h<;>(try simp at h)<;>(try subst h)<;>(try(rw[ev hr];exact⟨.fq _ _ (.int _ _),fun _=>⟨.int _ _,rfl⟩⟩))<;>(try(intros;simp_all))
  |bool b=>rw[fz]at h<;>(try simp at h)<;>(try subst h)<;>(try(rw[gH hr];exact⟨.fq _ _ (.bool _),fun _=>⟨.bool _,rfl⟩⟩))<;>(try(intros;simp_all))
  |str b=>rw[fz]at h<;>(try simp at h)<;>(try subst h)<;>(try(rw[ik hr];exact⟨.fq _ _ (.str _),fun _=>⟨.str _,rfl⟩⟩))<;>(try(intros;simp_all))
  |cr=>rw[fz]at h<;>(try simp at h)<;>(try subst h)<;>(try(rw[jX hr];exact⟨.fq _ _ .cr,fun _=>⟨.cr,rfl⟩⟩))<;>(try(intros;simp_all))
  |j9=>rw[fz]at h<;>(try simp at h)<;>(try subst h)<;>(try(rw[AX hr];exact⟨.fq _ _ .j9,fun _=>⟨.j9,rfl⟩⟩))<;>(try(intros;simp_all))
  |kC=>rw[fz]at h<;>(try simp at h)<;>(try subst h)<;>(try(rw[GM hr];exact⟨.fq _ _ .kC,fun _=>⟨.kC,rfl⟩⟩))<;>(try(intros;simp_all))
  |jS=>rw[fz]at h<;>(try simp at h)<;>(try subst h)<;>(try(rw[AW hr];exact⟨.fq _ _ .jS,fun _=>⟨.jS,rfl⟩⟩))<;>(try(intros;simp_all))
  |err g t s=>rw[fz]at h<;>(try simp at h)<;>(try subst h)<;>(try(cases hr with|fq _ _ hr=>exact both (hr.frame (fun _ _=>rfl) hD) rfl))<;>(try(intros;simp_all))
  |yh f ek=>rw[fz]at h<;>(try simp at h)<;>(try(intros;simp_all))
  |jn=>rw[fz]at h<;>(try simp at h)<;>(try subst h)<;>(try(cases hr with|fq _ _ hr=>exact both (hr.frame (fun _ _=>rfl) hD) rfl))<;>(try(intros;simp_all))
  |sl rows=>rw[fz]at h<;>(try simp at h)<;>(try subst h)<;>(try(cases hr with|fq _ _ hr=>exact both (hr.frame (fun _ _=>rfl) hD) rfl))<;>(try(intros;simp_all))
  |er cs=>rw[fz]at h<;>(try simp at h)<;>(try subst h)<;>(try(cases hr with|fq _ _ hr=>exact both (hr.frame (fun _ _=>rfl) hD) rfl))<;>(try(intros;simp_all))
theorem j6:∀{n:Nat} {l r:List AV},fA g n l=some r->r.length=l.length/\∀(j:Nat) (b:AV),r[j]? =some b->∃a,l[j]? =some a/\iy g n a=some b
 |n,[],r,h=>by
  rw[fA]at h;simp at h;subst h;simp
 |n,a::l,r,h=>by
  rw[fA]at h
  split at h
  ·rename_i b hb
   simp only[Option.map_eq_some_iff]at h
   obtain⟨r',hr,rfl⟩:=h
   obtain⟨h1,h2⟩:=j6 hr
   refine⟨by simp[h1],fun j c hj=>?_⟩
   cases j with
   |zero=>simp at hj;subst hj;exact⟨a,rfl,hb⟩
   |succ j=>simp at hj ⊢;exact h2 j c hj
  ·simp at h
theorem xW:∀{n:Nat} {l r:List (List AV)},iK g n l=some r->r.length=l.length/\∀(j:Nat) (b:List AV),r[j]? =some b->∃a,l[j]? =some a/\fA g n a=some b
 |n,[],r,h=>by
  rw[iK]at h;simp at h;subst h;simp
 |n,a::l,r,h=>by
  rw[iK]at h
  split at h
  ·rename_i b hb
   simp only[Option.map_eq_some_iff]at h
   obtain⟨r',hr,rfl⟩:=h
   obtain⟨h1,h2⟩:=xW hr
   refine⟨by simp[h1],fun j c hj=>?_⟩
   cases j with
   |zero=>simp at hj;subst hj;exact⟨a,rfl,hb⟩
   |succ j=>simp at hj ⊢;exact h2 j c hj
  ·simp at h
theorem KX (wE:∀id row,g id=some row->row.w=true->∃B,ι id=some B/\jg P w D ι B row/\D2 B.b):∀(n:Nat) (a:AV) (u:Value) (r:AV),dZ P w D ι a u->iy g n a=some r->dZ P w D2 ι2 r u/\(a.cell=true->lO P w D2 r u/\r.cell=true):=by
 intro n
 induction n with
 |zero=>intro a u r _ h;rw[iy]at h;simp at h
 |succ n ih=>
  intro a u r hr h
  have both:∀{r:AV},lO P w D2 r u->r.cell=true->dZ P w D2 ι2 r u/\(a.cell=true->lO P w D2 r u/\r.cell=true):=fun h1 h2=>⟨.fq _ _ h1,fun _=>⟨h1,h2⟩⟩
  cases a with
  |map id m=>rw[iy]at h<;>simp_all
  |uQ id=>rw[iy]at h<;>simp_all
  |own id off len=>
   rw[iy]at h
   split at h
   ·rename_i row hg
    split at h
    ·rename_i hw
     split at h
     ·rename_i hle
      simp only[Option.map_eq_some_iff]at h
      obtain⟨rows,lv,rfl⟩:=h
      obtain⟨B,hB,R,UH⟩:=wE id row hg hw
      obtain⟨o,cap,B',rfl,eE,h1,h2,h3,h4,hk⟩:=jH hr
      rw[hB]at eE;injection eE with eE;subst eE
      replace R:=R.row hk
      obtain⟨l1,l2⟩:=xW lv
      have hlen:rows.length=len:=by rw[l1];simp;omega
      by_cases h0:rows=[]
      ·subst h0
       simp at hlen;subst hlen
       exact both (.ES _ _ h4) rfl
      ·have hlp:0<len:=by rw[<-hlen];exact List.length_pos_iff.2 h0
       have ho:o=off*B.sz:=by rcases h2 with h2|h2<;>omega
       have src:∀i cs,rows[i]? =some cs->∃c0,row.rows[off+i]? =some c0/\fA g n c0=some cs:=fun i cs hi=>by
        obtain⟨c0,kJ,hf⟩:=l2 i cs hi
        rw[List.getElem?_take]at kJ
        split at kJ
        ·rw[List.getElem?_drop]at kJ;exact⟨c0,kJ,hf⟩
        ·simp at kJ
       have cell:∀i j,i<len->j<row.sz->∃c0 a0 v,row.rows[off+i]? =some c0/\c0[j]? =some a0/\w.cell? ⟨B.b,o+(i*row.sz+j),none⟩=some v/\dZ P w D ι a0 v:=fun i j hi hj=>by
        have uy:off+i<row.rows.length:=ad
        have e1:=List.getElem?_eq_getElem uy
        have P6:j<row.rows[off+i].length:=by rw[R.len _ (List.getElem_mem uy)];exact hj
        obtain⟨v,hv,om⟩:=R.at_ _ _ _ _ e1 (List.getElem?_eq_getElem P6)
        refine⟨_,_,v,e1,List.getElem?_eq_getElem P6,?_,om⟩
        rw[ho,R.sz,<-hv]
        congr 2
        rw[Nat.add_mul];omega
       refine both (.sl rows B.b o len cap row.sz (fun i j=>(w.cell? ⟨B.b,o+(i*row.sz+j),none⟩).getD undef) hlen h1 h4 UH (fun cs eD=>?_) (fun cs eD b hb=>?_) (fun i j hi hj=>?_) (fun i j cs b hi hj=>?_)) rfl
       ·obtain⟨i,hi,rfl⟩:=List.getElem_of_mem eD
        obtain⟨c0,kJ,hf⟩:=src i _ (List.getElem?_eq_getElem hi)
        rw[(j6 hf).1];exact R.len c0 (List.mem_of_getElem? kJ)
       ·obtain⟨i,hi,rfl⟩:=List.getElem_of_mem eD
        obtain⟨c0,kJ,hf⟩:=src i _ (List.getElem?_eq_getElem hi)
        obtain⟨j,hj,rfl⟩:=List.getElem_of_mem hb
        obtain⟨a0,mM,NQ⟩:=(j6 hf).2 j _ (List.getElem?_eq_getElem hj)
        obtain⟨v,_,om⟩:=R.at_ _ _ _ _ kJ mM
        exact((ih _ _ _ om NQ).2 (R.flat c0 (List.mem_of_getElem? kJ) a0 (List.mem_of_getElem? mM))).2
       ·obtain⟨c0,a0,v,_,_,hv,_⟩:=cell i j hi hj
        simp only[hv,Option.getD_some]
       ·obtain⟨c0,kJ,hf⟩:=src i cs hi
        obtain⟨a0,mM,NQ⟩:=(j6 hf).2 j b hj
        have oj:i<len:=by rw[<-hlen];exact(List.getElem?_eq_some_iff.1 hi).1
        have iP:j<row.sz:=by rw[<-R.len c0 (List.mem_of_getElem? kJ)];exact(List.getElem?_eq_some_iff.1 mM).1
        obtain⟨c1,a1,v,e1,e2,hv,om⟩:=cell i j oj iP
        rw[kJ]at e1;injection e1 with e1;subst e1
        rw[mM]at e2;injection e2 with e2;subst e2
        simp only[hv,Option.getD_some]
        exact((ih _ _ _ om NQ).2 (R.flat c0 (List.mem_of_getElem? kJ) a0 (List.mem_of_getElem? mM))).1
     ·simp at h
    ·simp at h
   ·simp at h
  |ptr id i off=>
   rw[iy]at h
   split at h
   ·rename_i row hg
    split at h
    ·rename_i hw
     split at h
     ·rename_i c0 kJ
      simp only[Option.map_eq_some_iff]at h
      obtain⟨cs,eD,rfl⟩:=h
      obtain⟨B,hB,R,UH⟩:=wE id row hg hw
      obtain⟨B',rfl,eE,hk⟩:=jw hr
      rw[hB]at eE;injection eE with eE;subst eE
      replace R:=R.row hk
      obtain⟨l1,l2⟩:=j6 eD
      have at_:∀j b,cs[j]? =some b->∃a0 v,w.cell? ⟨B.b,i*B.sz+off+j,none⟩=some v/\dZ P w D ι a0 v/\a0.cell=true/\iy g n a0=some b:=fun j b hj=>by
       obtain⟨a0,mM,hf⟩:=l2 j b hj
       rw[List.getElem?_drop]at mM
       obtain⟨v,hv,om⟩:=R.at_ _ _ _ _ kJ mM
       refine⟨a0,v,?_,om,R.flat c0 (List.mem_of_getElem? kJ) a0 (List.mem_of_getElem? mM),hf⟩
       rw[R.sz,Nat.add_assoc];exact hv
      refine both (.er cs B.b _ (fun j=>(w.cell? ⟨B.b,i*B.sz+off+j,none⟩).getD undef) UH (fun b hb=>?_) (fun j hj=>?_) (fun j b hj=>?_)) rfl
      ·obtain⟨j,hj,rfl⟩:=List.getElem_of_mem hb
       obtain⟨a0,v,_,om,hc,hf⟩:=at_ j _ (List.getElem?_eq_getElem hj)
       exact((ih _ _ _ om hf).2 hc).2
      ·obtain⟨a0,v,hv,_⟩:=at_ j _ (List.getElem?_eq_getElem hj)
       simp only[hv,Option.getD_some]
      ·obtain⟨a0,v,hv,om,hc,hf⟩:=at_ j b hj
       simp only[hv,Option.getD_some]
       exact((ih _ _ _ om hf).2 hc).1
     ·simp at h
    ·simp at h
   ·simp at h
  |agg cs=>
   rw[iy]at h
   simp only[Option.map_eq_some_iff]at h
   obtain⟨r',mj,rfl⟩:=h
   obtain⟨vs,f,rfl,h1,h2,h3,h4⟩:=jG hr
   obtain⟨l1,l2⟩:=j6 mj
   have hI:lO P w D2 (.agg r') (.agg vs):=.agg r' vs f (by rw[h1,l1]) (fun b hb=>by
    obtain⟨j,hj,rfl⟩:=List.getElem_of_mem hb
    obtain⟨a0,mM,hf⟩:=l2 j _ (List.getElem?_eq_getElem hj)
    exact((ih _ _ _ (h4 j a0 mM) hf).2 (h2 a0 (List.mem_of_getElem? mM))).2) (fun j hj=>h3 j (by rw[<-l1];exact hj)) (fun j b hj=>by
    obtain⟨a0,mM,hf⟩:=l2 j b hj
    exact((ih _ _ _ (h4 j a0 mM) hf).2 (h2 a0 (List.mem_of_getElem? mM))).1)
   exact⟨.fq _ _ hI,fun hc=>by simp[AV.cell]at hc⟩
  |fX cs=>
   rw[iy]at h
   simp only[Option.map_eq_some_iff]at h
   obtain⟨r',mj,rfl⟩:=h
   obtain⟨vs,f,rfl,h1,h3,h4⟩:=zi hr
   obtain⟨l1,l2⟩:=j6 mj
   exact⟨.fX r' vs f (by rw[h1,l1]) (fun j hj=>h3 j (by rw[<-l1];exact hj)) (fun j b hj=>by
    obtain⟨a0,mM,hf⟩:=l2 j b hj
    exact(ih _ _ _ (h4 j a0 mM) hf).1),fun hc=>by simp[AV.cell]at hc⟩
  |fn f ek=>rw[iy]at h<;>(try simp at h)<;>(try(intros;simp_all))
  |int k m=>rw[iy]at h<;>(try simp at h)<;>(try subst h)<;>(try(rw[ev hr];exact⟨.fq _ _ (.int _ _),fun _=>⟨.int _ _,rfl⟩⟩))<;>(try(intros;simp_all))
  |bool b=>rw[iy]at h<;>(try simp at h)<;>(try subst h)<;>(try(rw[gH hr];exact⟨.fq _ _ (.bool _),fun _=>⟨.bool _,rfl⟩⟩))<;>(try(intros;simp_all))
  |str b=>rw[iy]at h<;>(try simp at h)<;>(try subst h)<;>(try(rw[ik hr];exact⟨.fq _ _ (.str _),fun _=>⟨.str _,rfl⟩⟩))<;>(try(intros;simp_all))
  |cr=>rw[iy]at h<;>(try simp at h)<;>(try subst h)<;>(try(rw[jX hr];exact⟨.fq _ _ .cr,fun _=>⟨.cr,rfl⟩⟩))<;>(try(intros;simp_all))
  |j9=>rw[iy]at h<;>(try simp at h)<;>(try subst h)<;>(try(rw[AX hr];exact⟨.fq _ _ .j9,fun _=>⟨.j9,rfl⟩⟩))<;>(try(intros;simp_all))
  |kC=>rw[iy]at h<;>(try simp at h)<;>(try subst h)<;>(try(rw[GM hr];exact⟨.fq _ _ .kC,fun _=>⟨.kC,rfl⟩⟩))<;>(try(intros;simp_all))
  |jS=>rw[iy]at h<;>(try simp at h)<;>(try subst h)<;>(try(rw[AW hr];exact⟨.fq _ _ .jS,fun _=>⟨.jS,rfl⟩⟩))<;>(try(intros;simp_all))
  |err g t s=>rw[iy]at h<;>(try simp at h)<;>(try(intros;simp_all))
  |yh f ek=>rw[iy]at h<;>(try simp at h)<;>(try(intros;simp_all))
  |jn=>rw[iy]at h<;>(try simp at h)<;>(try subst h)<;>(try(cases hr with|fq _ _ hr=>cases hr;exact both .jn rfl))<;>(try(intros;simp_all))
  |sl rows=>rw[iy]at h<;>(try simp at h)<;>(try(intros;simp_all))
  |er cs=>rw[iy]at h<;>(try simp at h)<;>(try(intros;simp_all))
end
end Go.Proofs.YtoodopepphhpoaaGreatDoor.V

namespace Go.Proofs.YtoodopepphhpoaaGreatDoor.V
open Go.RowKit
variable {P:Program} {w w':World} {D D':Nat->Prop} {ι ι':Names}
section
variable {g:Rows} {hs:Nat} {env:Env} {a:Act} {o:Oper} {id:Id} {v:AV}
theorem iD.BV (S:iD P hs D ι g w) {i:Id} {r r':Row} {B:wL} {ob:Obj} (hid:g i=some r) (hw:r.w=true) (hB:ι i=some B)
  (hR:(∀a v,dZ P w D ι a v->dZ P {w with heap:=w.heap.setIfInBounds B.b ob} D ι a v)->(w.heap.setIfInBounds B.b ob)[B.b]? =some ob->jg P {w with heap:=w.heap.setIfInBounds B.b ob} D ι B r'):
  iD P hs D ι (ck g i r') {w with heap:=w.heap.setIfInBounds B.b ob}/\Step hs D ι w D ι {w with heap:=w.heap.setIfInBounds B.b ob}:=by
 obtain⟨B0,Bl,R,kN,qm⟩:=S.row i r hid
 rw[hB]at Bl;injection Bl with Bl;subst Bl
 have other:∀b,b≠B.b->(w.heap.setIfInBounds B.b ob)[b]? =w.heap[b]? :=fun b hb=>by simp[Ne.symm hb]
 have hd:∀b,D b->(w.heap.setIfInBounds B.b ob)[b]? =w.heap[b]? :=fun b hb=>other b (by rintro rfl;exact qm hw hb)
 have hr:∀a v,dZ P w D ι a v->dZ P {w with heap:=w.heap.setIfInBounds B.b ob} D ι a v:=fun a v h=>h.frame hd (fun _ h=>h) (fun _ _ h=>h)
 refine⟨⟨by simpa using S.lo,fun b hb=>by simpa using S.dead b hb,fun j q h=>?_,fun j j' q q' C C' h h' N5 hC yJ he=>?_⟩,⟨⟨rfl,rfl,rfl,by simp,fun k hk=>other k (by have:=kN hw;omega)⟩,hd,fun _ h=>h,fun _ _ h=>h,fun _ h=>.inl h⟩⟩
 ·unfold ck at h
  split at h
  ·rename_i e
   subst e
   injection h with h;subst h
   exact⟨B,hB,hR hr (by simp[R.lt]),fun _=>kN hw,fun _=>qm hw⟩
  ·rename_i e
   obtain⟨C,hC,RC,k1,k2⟩:=S.row j q h
   refine⟨C,hC,RC.frame (other C.b (fun HX=>e ?_)) hr,k1,k2⟩
   exact(S.inj i j r q B C hid h hw hB hC HX.symm).symm
 ·unfold ck at h h'
  have get:∀j p,(if j=i then some r' else g j)=some p->∃p0,g j=some p0/\(p.w=true->p0.w=true):=fun j p hp=>by
   split at hp
   ·rename_i e;subst e;injection hp with hp;subst hp;exact⟨r,hid,fun _=>hw⟩
   ·exact⟨p,hp,fun h=>h⟩
  obtain⟨p,hp,XL⟩:=get _ _ h
  obtain⟨p',Vi,_⟩:=get _ _ h'
  exact S.inj j j' p p' C C' hp Vi (XL N5) hC yJ he
theorem JE {s:TS} {x y:AV} {u v:Value} (he:fD s x y=some true) (hx:dZ P w D ι x u) (hy:dZ P w D ι y v):u=v/\∀n,Instr.sameBits n u v=true:=by
 unfold fD at he
 split at he
 ·split at he
  ·rename_i hk
   subst hk
   simp at he;subst he
   rw[ev hx,ev hy]
   exact⟨rfl,fun n=>by cases n<;>simp[Instr.sameBits]⟩
  ·cases he
 ·simp at he;subst he
  rw[gH hx,gH hy]
  exact⟨rfl,fun n=>by cases n<;>simp[Instr.sameBits]⟩
 ·simp at he;subst he
  rw[ik hx,ik hy]
  exact⟨rfl,fun n=>by cases n<;>simp[Instr.sameBits,M8]⟩
 ·cases he
theorem Fu {n:Nat}:∀{ts:List TS} {xs ys:List AV} {vs us:List Value},eU ts xs ys=some true->vs.length=xs.length->us.length=ys.length->(∀(j:Nat) (a:AV),xs[j]? =some a->∃u,vs[j]? =some u/\dZ P w D ι a u)->(∀(j:Nat) (a:AV),ys[j]? =some a->∃u,us[j]? =some u/\dZ P w D ι a u)->
  us.length=vs.length/\(us.zip vs).all (fun p=>Instr.sameBits n p.1 p.2)=true
 |[],[],[],vs,us,_,h1,h2,_,_=>by
  cases vs<;>cases us<;>simp_all
 |[],x::xs,ys,vs,us,h,_,_,_,_=>by simp[eU]at h
 |[],[],y::ys,vs,us,h,_,_,_,_=>by simp[eU]at h
 |t::ts,[],ys,vs,us,h,_,_,_,_=>by simp[eU]at h
 |t::ts,x::xs,[],vs,us,h,_,_,_,_=>by simp[eU]at h
 |t::ts,x::xs,y::ys,[],us,h,h1,_,_,_=>by simp at h1
 |t::ts,x::xs,y::ys,v::vs,[],h,_,h2,_,_=>by simp at h2
 |t::ts,x::xs,y::ys,v::vs,u::us,h,h1,h2,hx,hy=>by
  unfold eU at h
  split at h
  ·rename_i a b ha hb
   simp only[Option.some.injEq,Bool.and_eq_true]at h
   obtain⟨rfl,rfl⟩:=h
   obtain⟨v',qF,rv⟩:=hx 0 x rfl
   obtain⟨u',JS,ru⟩:=hy 0 y rfl
   simp at qF JS;subst qF;subst JS
   obtain⟨e1,e2⟩:=JE ha rv ru
   obtain⟨q1,q2⟩:=Fu (n:=n) hb (by simpa using h1) (by simpa using h2) (fun j a hj=>by simpa using hx (j+1) a (by simpa using hj)) (fun j a hj=>by simpa using hy (j+1) a (by simpa using hj))
   refine⟨by simp[q1],?_⟩
   simp only[List.zip_cons_cons,List.all_cons,q2,Bool.and_true]
   rw[<-e1]
   have:=e2 n
   rw[<-e1]at this
   exact this
  ·cases h
theorem Gw {m:MK} {key:List AV}:∀{rows:List (List AV)} {i j:Nat},iE m key rows i=some (some j)->∃cs,i<=j/\rows[j-i]? =some cs/\eU m.ts key (cs.take m.ks)=some true
 |[],i,j,h=>by simp[iE]at h
 |cs::rows,i,j,h=>by
  unfold iE at h
  split at h
  ·rename_i hq
   simp at h;subst h
   exact⟨cs,Nat.le_refl _,by simp,hq⟩
  ·obtain⟨c,h1,h2,h3⟩:=Gw h
   exact⟨c,ad,by rw[show j-i=(j-(i+1))+1 by omega];simpa using h2,h3⟩
  ·cases h
theorem AB {m:MK} {k:AV} {rows:List (List AV)} {fi:Option Nat} (h:iz m k rows=some fi):k.isAgg=m.ka/\k.cells.length=m.ks/\(k.cells.all AV.cell=true)/\iE m k.cells rows 0=some fi:=by
 unfold iz at h
 split at h
 ·rename_i hc;exact⟨hc.1,hc.2.1,hc.2.2,h⟩
 ·cases h
theorem OS {m:MK} {k y:AV} (h1:k.isAgg=m.ka) (h2:k.cells.length=m.ks):part m.ka m.ks (k.cells++[y])=some k/\(k.cells++[y])[m.ks]? =some y:=by
 refine⟨?_,by rw[List.getElem?_append_right ad,h2,Nat.sub_self];rfl⟩
 cases hk:m.ka with
 |false=>
  rw[hk]at h1
  rw[zN h1];rfl
 |true=>
  rw[hk]at h1
  cases k<;>simp[AV.isAgg]at h1
  rename_i cs
  simp only[AV.cells]at h2 ⊢
  simp only[part,if_true]
  rw[if_pos (by simp;omega),<-h2,List.take_left']
  rfl
theorem stays {k:TypeId} {m:MK} (hK:Jm P k m) {key kv:AV} {u zh:Value} {cs:List AV} (h1:key.isAgg=m.ka) (hr:dZ P w D ι key u) (hp:part m.ka m.ks cs=some kv) (ho:dZ P w D ι kv zh) (he:eU m.ts key.cells (cs.take m.ks)=some true):(Instr.keyThatStays zh u).run P w=.ok u w:=by
 have hs:Instr.sameBits 10000 zh u=true:=by
  rcases hK with⟨s,rfl,hs⟩|⟨fs,ts,rfl,u9,BL,eA,eR⟩
  ·rw[zN h1]at he
   cases cs with
   |nil=>simp[part]at hp
   |cons c l=>
    simp[part]at hp;subst hp
    simp only[MK.ks,List.length_cons,List.length_nil,Nat.zero_add,List.take_succ_cons,List.take_zero,eU]at he
    cases hq:fD s key c with
    |none=>rw[hq]at he;simp at he
    |some b=>
     rw[hq]at he;simp at he;subst he
     obtain⟨e1,e2⟩:=JE hq hr ho
     rw[<-e1]
     have:=e2 10000
     rwa [<-e1]at this
  ·cases key<;>simp[AV.isAgg]at h1
   rename_i ks
   simp only[part,if_true]at hp
   split at hp
   ·simp only[Option.some.injEq]at hp;subst hp
    obtain⟨vs,rfl,n1,r1⟩:=vU hr
    obtain⟨us,rfl,n2,r2⟩:=vU ho
    obtain⟨q1,q2⟩:=Fu (n:=9999) (vs:=vs.toList) (us:=us.toList) he (by simpa[AV.cells]using n1) (by simpa using n2) (fun j a hj=>by simpa using r1 j a hj) (fun j a hj=>by simpa using r2 j a hj)
    simp only[Instr.sameBits,Bool.and_eq_true,beq_iff_eq]
    exact⟨by simpa using q1,q2⟩
   ·cases hp
 simp[Instr.keyThatStays,hs]
theorem Pv {es:Array MapEntry} {clock:Nat} (h:Jp es clock) (k v:Value):Jp (es.push ⟨k,v,clock⟩) (clock+1):=by
 refine⟨fun x hx=>?_,?_⟩
 ·simp only[Array.toList_push,List.mem_append,List.mem_singleton]at hx
  rcases hx with hx|rfl
  ·have:=h.1 x hx;omega
  ·exact Nat.lt_succ_self _
 ·simp only[Array.toList_push,List.map_append,List.map_cons,List.map_nil]
  refine List.nodup_append.2 ⟨h.2,by simp,fun a ha b hb=>?_⟩
  obtain⟨x,hx,rfl⟩:=List.mem_map.1 ha
  simp at hb;subst hb
  have:=h.1 x hx;omega
theorem IX {es:Array MapEntry} {clock:Nat} (h:Jp es clock) (j:Nat) (k v:Value):Jp (es.modify j fun e=>{e with key:=k,val:=v}) clock:=by
 have e:(es.modify j fun e=>{e with key:=k,val:=v}).toList.map (·.born)=es.toList.map (·.born):=by
  refine List.ext_getElem? fun i=>?_
  simp only[List.getElem?_map,Array.getElem?_toList,Array.getElem?_modify]
  split
  ·cases es[i]? <;>rfl
  ·rfl
 refine⟨fun x hx=>?_,by rw[e];exact h.2⟩
 have hb:x.born∈(es.modify j fun e=>{e with key:=k,val:=v}).toList.map (·.born):=List.mem_map_of_mem hx
 rw[e]at hb
 obtain⟨y,hy,hyb⟩:=List.mem_map.1 hb
 rw[<-hyb];exact h.1 y hy
theorem L0 {es:Array MapEntry} {clock:Nat} (h:Jp es clock) {j:Nat} (hj:j<es.size):Jp (es.eraseIdxIfInBounds j) clock:=by
 have e:(es.eraseIdxIfInBounds j).toList=es.toList.eraseIdx j:=by
  unfold Array.eraseIdxIfInBounds
  rw[dif_pos hj,Array.toList_eraseIdx]
 refine⟨fun x hx=>h.1 x ((List.eraseIdx_sublist _ _).subset (by rwa [e]at hx)),?_⟩
 rw[e]
 exact((List.eraseIdx_sublist es.toList j).map (·.born)).nodup h.2
theorem FB {k y:AV} (h1:k.cells.all AV.cell=true) (h2:y.cell=true):∀a∈k.cells++[y],a.cell=true:=fun a ha=>by
 rcases List.mem_append.1 ha with ha|ha
 ·exact List.all_eq_true.1 h1 a ha
 ·rw[List.mem_singleton.1 ha];exact h2
theorem Un {t:TypeId} {x k y:Operand} {m:MK} {z:K} {x' k' y':O} {g':Rows} (S:iD P hs D ι g w) (E:dy P w D ι env a) (ho:o.op=.mapUpdate t x k y∨o.op=.insert t x k y) (hc:wR P t=some (m,z)) (hx:cO P x=some x') (hk:cO P k=some k') (hy:cO P y=some y')
  (hv:bD (.set m) [dz env x',dz env k',dz env y'] g=some g'):Hm P hs a o w D ι id .undef g':=by
 obtain⟨kt,e,i,zv,ht,hi,Al,hkz,hK⟩:=uN hc
 simp only[bD,Option.bind_eq_some_iff]at hv
 obtain⟨p,hp,fi,Hc,hv⟩:=hv
 split at hv
 ·rename_i hcond
  obtain⟨hw,hyc,_⟩:=hcond
  simp only[Option.some.injEq]at hv;subst hv
  obtain⟨B,hu,hg,hB,zb,es,clock,hb,eY,hlen,hM⟩:=D5 S (ew E hx) hp
  have rk:=ew E hk
  have ry:=ew E hy
  obtain⟨UT,res,hf,hF⟩:=zW (B:=B) hK rk eY hM Hc
  obtain⟨k1,k2,k3,k4⟩:=AB Hc
  obtain⟨B',eE,R,_⟩:=S.row p.1 p.2 hg
  rw[hB]at eE;injection eE with eE;subst eE
  obtain⟨pk1,pk2⟩:=OS (y:=dz env y') k1 k2
  have jc:(getObj B.b).run P w=.ok (.map es clock) w:=MapKept.run_getObj_map hb
  rcases hF with⟨rfl,rfl⟩|⟨j,en,rfl,he,rfl⟩
  ·have qE:=S.BV (ob:=.map (es.push ⟨a.eval k,a.eval y,clock⟩) (clock+1)) (r':={p.2 with rows:=dH p.2.rows ((dz env k').cells++[dz env y']) none}) hg hw hB fun hr mi=>⟨R.sz,fun cs eD=>?_,fun x8=>(by rw[zb]at x8;cases x8),fun m' FX=>?_,fun c hc=>(by rw[zb]at hc;cases hc)⟩
   ·refine⟨undef,_,ι,.inr ⟨?_,rfl⟩,qE.2,qE.1,dZ.undef,fun _ _=>rfl⟩
    rcases ho with ho|ho<;>
    ·simp only[execOp,ho,Instr.mapUpdate,hu,Sem.run_bind,run_underlying ht,Result.andThen_ok,jc,UT,hf,MapKept.run_setObj_map _ hb,Sem.run_pure]
   ·rcases List.mem_append.1 eD with h|h
    ·exact R.flat cs h
    ·rw[List.mem_singleton.1 h];exact FB k3 hyc
   ·rw[zb]at FX;simp only[Option.some.injEq,BK.map.injEq]at FX;subst FX
    refine⟨(R.map m zb).1,_,_,mi,by simp[dH,eY],⟨fun cs eD=>?_,Pv hlen.2 _ _⟩,fun q cs hq=>?_⟩
    ·rcases List.mem_append.1 eD with h|h
     ·exact hlen.1 cs h
     ·rw[List.mem_singleton.1 h];simp[k2]
    ·rcases Nat.lt_or_ge q p.2.rows.length with eP|nk
     ·simp only[dH]at hq
      rw[List.getElem?_append_left eP]at hq
      obtain⟨en,kv,vv,q1,q2,q3,q4,q5⟩:=hM q cs hq
      exact⟨en,kv,vv,by rw[Array.getElem?_push_lt ad];rw[Array.getElem?_eq_getElem ad]at q1;simpa using q1,q2,q3,hr _ _ q4,hr _ _ q5⟩
     ·simp only[dH]at hq
      rw[List.getElem?_append_right nk]at hq
      have Th:q=p.2.rows.length:=by
       have:=(List.getElem?_eq_some_iff.1 hq).1
       simp at this;omega
      subst Th
      simp at hq;subst hq
      exact⟨⟨a.eval k,a.eval y,clock⟩,_,_,by rw[<-eY];simp,pk1,pk2,hr _ _ rk,hr _ _ ry⟩
  ·simp only[Nat.zero_add]at k4 Hc hf ⊢
   obtain⟨cs0,_,QV,heq⟩:=Gw k4
   simp only[Nat.sub_zero]at QV
   obtain⟨Yq,kv,vv,q1,q2,_,q4,_⟩:=hM j cs0 QV
   have S7:Yq=en:=by
    have h1:es.toList[j]? =some Yq:=by simpa using q1
    rw[he]at h1;injection h1 with h1;exact h1.symm
   subst S7
   have eA:=stays (w:=w) hK k1 rk q2 q4 heq
   have qE:=S.BV (ob:=.map (es.modify j fun e=>{e with key:=a.eval k,val:=a.eval y}) clock) (r':={p.2 with rows:=dH p.2.rows ((dz env k').cells++[dz env y']) (some j)}) hg hw hB fun hr mi=>⟨R.sz,fun cs eD=>?_,fun x8=>(by rw[zb]at x8;cases x8),fun m' FX=>?_,fun c hc=>(by rw[zb]at hc;cases hc)⟩
   ·refine⟨undef,_,ι,.inr ⟨?_,rfl⟩,qE.2,qE.1,dZ.undef,fun _ _=>rfl⟩
    rcases ho with ho|ho<;>
    ·simp only[execOp,ho,Instr.mapUpdate,hu,Sem.run_bind,run_underlying ht,Result.andThen_ok,jc,UT,hf,q1,Option.map_some,Option.getD_some,eA,MapKept.run_setObj_map _ hb,Sem.run_pure]
   ·rcases List.mem_or_eq_of_mem_set eD with h|h
    ·exact R.flat cs h
    ·rw[h];exact FB k3 hyc
   ·rw[zb]at FX;simp only[Option.some.injEq,BK.map.injEq]at FX;subst FX
    have iP:=(List.getElem?_eq_some_iff.1 QV).1
    refine⟨(R.map m zb).1,_,_,mi,by simp[dH,eY],⟨fun cs eD=>?_,IX hlen.2 _ _ _⟩,fun q cs hq=>?_⟩
    ·rcases List.mem_or_eq_of_mem_set eD with h|h
     ·exact hlen.1 cs h
     ·rw[h];simp[k2]
    ·simp only[dH,List.getElem?_set]at hq
     split at hq
     ·rename_i XD
      subst XD
      (try rw[if_pos iP]at hq)
      injection hq with hq;subst hq
      exact⟨{Yq with key:=a.eval k,val:=a.eval y},_,_,by rw[Array.getElem?_modify];simp[q1],pk1,pk2,hr _ _ rk,hr _ _ ry⟩
     ·rename_i XD
      obtain⟨en,kv,vv,q1,q2,q3,q4,q5⟩:=hM q cs hq
      exact⟨en,kv,vv,by rw[Array.getElem?_modify];simp[XD,q1],q2,q3,hr _ _ q4,hr _ _ q5⟩
 ·cases hv
theorem Um {t t':TypeId} {x k:Operand} {m:MK} {z:K} {x' k':O} {g':Rows} (S:iD P hs D ι g w) (E:dy P w D ι env a) (ho:o.op=.call {callee:=.builtin .delete,args:= #[x,k],argTypes:= #[t,t']}) (hc:wR P t=some (m,z)) (hx:cO P x=some x') (hk:cO P k=some k')
  (hv:bD (.del m) [dz env x',dz env k'] g=some g'):Hm P hs a o w D ι id .undef g':=by
 obtain⟨kt,e,i,zv,ht,hi,Al,hkz,hK⟩:=uN hc
 simp only[bD,Option.bind_eq_some_iff]at hv
 obtain⟨p,hp,fi,Hc,hv⟩:=hv
 split at hv
 ·rename_i hw
  simp only[Option.some.injEq]at hv;subst hv
  obtain⟨B,hu,hg,hB,zb,es,clock,hb,eY,hlen,hM⟩:=D5 S (ew E hx) hp
  have rk:=ew E hk
  obtain⟨UT,res,hf,hF⟩:=zW (B:=B) hK rk eY hM Hc
  obtain⟨k1,k2,k3,k4⟩:=AB Hc
  obtain⟨B',eE,R,_⟩:=S.row p.1 p.2 hg
  rw[hB]at eE;injection eE with eE;subst eE
  have jc:(getObj B.b).run P w=.ok (.map es clock) w:=MapKept.run_getObj_map hb
  have go:∀ob,(Builtin.delete_ #[t,t'] o.type #[a.eval x,a.eval k]).run P w=.ok (.tuple #[]) {w with heap:=w.heap.setIfInBounds B.b ob}->(execOp a.eval o).run P w=.ok (.value undef) {w with heap:=w.heap.setIfInBounds B.b ob}:=fun ob h=>by
   simp only[execOp,ho,resolve,Sem.run_bind,Sem.run_pure,Result.andThen_ok,invoke,builtin,Array.map]
   simp[h,undef]
  rcases hF with⟨rfl,rfl⟩|⟨j,en,rfl,he,rfl⟩
  ·have qE:=S.BV (ob:=.map es clock) (r':={p.2 with rows:=dI p.2.rows none}) hg hw hB fun hr mi=>⟨R.sz,R.flat,fun x8=>(by rw[zb]at x8;cases x8),fun m' FX=>?_,fun c hc=>(by rw[zb]at hc;cases hc)⟩
   ·refine⟨undef,_,ι,.inl (go _ ?_),qE.2,qE.1,dZ.undef,fun _ _=>rfl⟩
    simp[Builtin.delete_,hu,run_underlying ht,jc,UT,hf,MapKept.run_setObj_map _ hb]
   ·rw[zb]at FX;simp only[Option.some.injEq,BK.map.injEq]at FX;subst FX
    exact⟨(R.map m zb).1,_,_,mi,eY,hlen,fun q cs hq=>by
     obtain⟨en,kv,vv,q1,q2,q3,q4,q5⟩:=hM q cs hq
     exact⟨en,kv,vv,q1,q2,q3,hr _ _ q4,hr _ _ q5⟩⟩
  ·simp only[Nat.zero_add]at hf ⊢
   have iP:j<es.size:=by have:=(List.getElem?_eq_some_iff.1 he).1;simpa using this
   have qE:=S.BV (ob:=.map (es.eraseIdxIfInBounds j) clock) (r':={p.2 with rows:=dI p.2.rows (some j)}) hg hw hB fun hr mi=>⟨R.sz,fun cs eD=>R.flat cs (List.mem_of_mem_eraseIdx eD),fun x8=>(by rw[zb]at x8;cases x8),fun m' FX=>?_,fun c hc=>(by rw[zb]at hc;cases hc)⟩
   ·refine⟨undef,_,ι,.inl (go _ ?_),qE.2,qE.1,dZ.undef,fun _ _=>rfl⟩
    simp[Builtin.delete_,hu,run_underlying ht,jc,UT,hf,MapKept.run_setObj_map _ hb]
   ·rw[zb]at FX;simp only[Option.some.injEq,BK.map.injEq]at FX;subst FX
    have he2:∀q,(es.eraseIdxIfInBounds j)[q]? =(es.toList.eraseIdx j)[q]? :=fun q=>by
     unfold Array.eraseIdxIfInBounds
     rw[dif_pos iP,<-Array.getElem?_toList,Array.toList_eraseIdx]
    refine⟨(R.map m zb).1,_,_,mi,by simp[dI,Array.eraseIdxIfInBounds,iP,List.length_eraseIdx,<-eY],⟨fun cs eD=>hlen.1 cs (List.mem_of_mem_eraseIdx eD),L0 hlen.2 iP⟩,fun q cs hq=>?_⟩
    simp only[dI,List.getElem?_eraseIdx]at hq
    split at hq
    ·rename_i eP
     obtain⟨en,kv,vv,q1,q2,q3,q4,q5⟩:=hM q cs hq
     exact⟨en,kv,vv,by rw[he2,List.getElem?_eraseIdx,if_pos eP];simpa using q1,q2,q3,hr _ _ q4,hr _ _ q5⟩
    ·rename_i eP
     obtain⟨en,kv,vv,q1,q2,q3,q4,q5⟩:=hM (q+1) cs hq
     exact⟨en,kv,vv,by rw[he2,List.getElem?_eraseIdx,if_neg eP];simpa using q1,q2,q3,hr _ _ q4,hr _ _ q5⟩
 ·cases hv
end
end Go.Proofs.YtoodopepphhpoaaGreatDoor.V
