/- A small language in which the program's functions are read by value: its values, its operations, its code, and how the program's code is brought into it. -/
import Derived.WalkKit
import Derived.WalkSpells
import Derived.WalkLawsBesides
import Derived.Lib.Hide
import Derived.Great.BuildSlice
import Derived.Conc.LoneCalls
import Derived.MapKept
import Derived.WideKeyRuns
set_option linter.unusedVariables false
set_option linter.unusedSimpArgs false
set_option maxRecDepth 100000
set_option maxHeartbeats 16000000
namespace Go.Proofs.YtoodopepphhpoaaGreatDoor
namespace V
open Go.RowKit
structure Id where
  site:Nat
  bH:Nat
  deriving DecidableEq,Repr
inductive TS where
  |tI|tB|tS
  deriving Repr,DecidableEq
structure MK where
  ka:Bool
  ts:List TS
  deriving Repr,DecidableEq
inductive AV where
  |int (k:IntKind) (n:Int)
  |bool (b:Bool)
  |str (s:ByteArray)
  |ck|jk|kf
  |sl (rows:List (List AV))
  |own (id:Id) (off len:Nat)
  |ptr (id:Id) (i off:Nat)
  |dZ (cs:List AV)
  |agg (cs:List AV)
  |gG (vs:List AV)
  |fn (f:Nat) (ea:List AV)
  |map (id:Id) (m:MK)
  |kG
  |j4
  |err (g t:Nat) (s:ByteArray)
  |xH (f:Nat) (first:List AV)
  |uB (id:Id)
  deriving Inhabited
def AV.undef:AV:=.gG []
def AV.cell:AV->Bool
  | .agg _| .gG _=>false
  |_=>true
def AV.cells:AV->List AV
  | .agg cs=>cs
  |v=>[v]
inductive K where
  |int (k:IntKind) (n:Int)
  |bool (b:Bool)
  |str (l:List UInt8)
  |ck|jk|kf|kG|j4
  deriving Repr,DecidableEq
def K.val:K->Value
  | .int k n=>.int k n
  | .bool b=>.bool b
  | .str l=>.string ⟨l.toArray⟩
  | .ck=>.slice none 0 0
  | .jk=>.pointer none
  | .kf=>.nilFunc
  | .kG=>.map none
  | .j4=>.nilIface
def K.av:K->AV
  | .int k n=>.int k n
  | .bool b=>.bool b
  | .str l=>.str ⟨l.toArray⟩
  | .ck=>.ck
  | .jk=>.jk
  | .kf=>.kf
  | .kG=>.kG
  | .j4=>.j4
def KZ:Value->Option K
  | .int k n=>some (.int k n)
  | .bool b=>some (.bool b)
  | .string s=>some (.str s.data.toList)
  | .slice none 0 0=>some .ck
  | .pointer none=>some .jk
  | .nilFunc=>some .kf
  | .map none=>some .kG
  | .nilIface=>some .j4
  |_=>none
inductive O where
  |t (n:Nat)
  |k (c:K)
  |ka (cs:List K)
  |f (n:Nat)
  deriving Repr,DecidableEq
inductive MQ where
  |new (m:MK)
  |look (m:MK) (ok:Bool) (zero:K)
  |len (m:MK)
  deriving Repr,DecidableEq
inductive MW where
  |set (m:MK)
  |del (m:MK)
  deriving Repr,DecidableEq
inductive iU where
  |eX (x:O)
  |pick (c a b:O)
  |new (zero:List K)
  |box (x:O)
  |build (zero:List K) (parts:List (Nat×Nat×O))
  |gi (sz len:Nat) (parts:List O)
  |load (agg:Bool) (n:Nat) (a:O)
  |store (n:Nat) (a x:O)
  |Kg (x:O)
  |bin (op:BinOp) (k:IntKind) (x y:O)
  |sh (left:Bool) (x y:O)
  |y4 (op:BinOp) (x y:O)
  |ZV (neg:Bool) (t:TS) (x y:O)
  |ZT (neg:Bool) (ts:List TS) (x y:O)
  |XO (neg Re:Bool) (x:O)
  |ZU (neg:Bool) (x:O)
  |not (x:O)
  |neg (x:O)
  |conv (k:IntKind) (x:O)
  |IX (x:O)
  |slice (sz:Nat) (x:O) (lo hi:Option O)
  |DU (x:O) (lo hi:Option O)
  |fA (off:Nat) (x:O)
  |field (agg:Bool) (off n:Nat) (x:O)
  |lq (sz:Nat) (x i:O)
  |Q7 (len sz:Nat) (x i:O)
  |Ra (x i:O)
  |ei (agg:Bool) (len n:Nat) (x i:O)
  |extract (i:Nat) (x:O)
  |len (x:O)
  |Rk (x:O)
  |append (sz:Nat) (x y:O)
  |copy (sz:Nat) (x y:O)
  |clear (zero:List K) (x:O)
  |Rn (f:Nat) (ea:List O)
  |Ro (f:Nat) (first:List O)
  |sf (zero:List K) (len cap:O)
  |call (f:Nat) (args:List O)
  |xp (x:O) (args:List O)
  |mq (q:MQ) (xs:List O)
  |mw (q:MW) (xs:List O)
  |Oo (x:O)
  |Oi (x:O)
  |snd (x y:O)
  |Vy (x:O)
  |Jc (g:Nat)
  |bad
  deriving Repr,DecidableEq
structure bU where
  dst:Option Nat
  op:iU
  guard:Option (Nat×Bool)
  site:Nat
  hid:List Nat
  deriving Repr,DecidableEq
def q (d:Nat) (op:iU) (s:Nat):bU:=⟨some d,op,none,s,[]⟩
inductive VC where
  |skip
  |gh (draw:Bool) (ops:List bU)
  |seq (a b:VC)
  |cond (c:O) (x y:VC)
  |block (id:Nat) (c:VC)
  |loop (c:VC)
  |exit (id:Nat)
  |ret
  |one (o:bU) (c:VC)
  |both (a b:VC)
  |loc (t s:Nat) (y:O) (c:VC)
  |WV (ops:List bU)
  deriving Repr,DecidableEq
inductive qE where
  |tmp (t:Nat)
  |cell (agg:Bool) (n:Nat) (t:Nat)
  deriving Repr,DecidableEq
structure IL where
  ntmps:Nat
  B9:Nat
  body:VC
  res:List qE
  deriving Repr,DecidableEq
def iw (P:Program) (f:Nat):Bool:=
  match P.funcs[f]? with
  |some fn=>fn.body.isSome&& !(fn.name== "runtime.NumGoroutine")
  |none=>false
def cO (P:Program):Operand->Option O
  | .tmp t=>some (.t t)
  | .const (.agg cs)=>(cs.toList.mapM KZ).map O.ka
  | .const v=>(KZ v).map O.k
  | .global _=>none
  | .func f=>if iw P f then some (.f f)else none
def lk (P:Program) (t:TypeId):Option (List K):=
  match P.info? t with
  |some i=>match i.zero with
    |some v=>if v.cells.size=i.size then v.cells.toList.mapM KZ else none
    |none=>none
  |none=>none
def fe (P:Program) (t:TypeId):Option Nat:=(P.info? t).map (·.size)
def oE (P:Program) (t:TypeId):Option Bool:=
  match P.underlying t with
  |some (.struct _)|some (.array _ _)=>some true
  |some _=>some false
  |none=>none
inductive EqT where
  |sc (t:TS)|ag (ts:List TS)
  deriving Repr,DecidableEq
def gR (P:Program) (t:TypeId):Option TS:=
  match P.underlying t with
  |some .bool=>some .tB
  |some (.int _)=>some .tI
  |some .string=>some .tS
  |_=>none
def Ht (P:Program) (inner:List Field->Option (List TS)):Nat->List Field->Option (List TS)
  |_,[]=>some []
  |off,f::r=>
    if f.offset=off/\f.name≠ "_" then
      match gR P f.type with
      |some t=>if oE P f.type=some false then(Ht P inner (off+1) r).map (t::·)else none
      |none=>match P.underlying f.type with
        |some (.struct fs)=>if !P.stoodInHeld f.type then match inner fs.toList with
          |some ts=>if fe P f.type=some ts.length/\ts≠[]then(Ht P inner (off+ts.length) r).map (ts++·)else none
          |none=>none else none
        |_=>none
    else none
def fN (P:Program):Nat->Nat->List Field->Option (List TS)
  |0,_,[]=>some []
  |0,_,_::_=>none
  |d+1,off,fs=>Ht P (fN P d 0) off fs
def cEq (P:Program) (t:TypeId):Option EqT:=
  match gR P t with
  |some s=>some (.sc s)
  |none=>match P.underlying t with
    |some (.struct fs)=>if !P.stoodInHeld t&& !P.eqGuardType P.depth t then(fN P 4 0 fs.toList).map EqT.ag else none
    |_=>none
def wC (P:Program) (fs:Array Field):List (Nat×O)->Option (List (Nat×Nat×O))
  |[]=>some []
  |(i,x)::r=>match fs[i]? with
    |some f=>match fe P f.type with
      |some n=>(wC P fs r).map ((f.offset,n,x)::·)
      |none=>none
    |none=>none
def wF (P:Program) (ps:Array (Nat×Operand)):Option (List (Nat×O)):=ps.toList.mapM fun(i,x)=>(cO P x).map (i,·)
def uz (P:Program):Option Operand->Option (Option O)
  |none=>some none
  |some x=>(cO P x).map some
def wD (P:Program) (neg:Bool) (t:TypeId) (x y:Operand):Option iU:=
  match y with
  | .const (.slice none 0 0)=>match P.underlying t with
    |some (.slice _)=>(cO P x).map (iU.XO neg false)
    |_=>none
  | .const .nilFunc=>match P.underlying t with
    |some (.func ..)=>(cO P x).map (iU.XO neg true)
    |_=>none
  | .const (.pointer none)=>match P.underlying t with
    |some (.pointer _)=>(cO P x).map (iU.ZU neg)
    |_=>none
  |_=>match cEq P t with
    |some (.sc s)=>do pure (.ZV neg s (<-cO P x) (<-cO P y))
    |some (.ag ts)=>do pure (.ZT neg ts (<-cO P x) (<-cO P y))
    |_=>none
def yT (P:Program) (op:BinOp) (t:TypeId) (x y:Operand):Option iU:=
  match op with
  | .eql=>wD P false t x y
  | .neq=>wD P true t x y
  | .shl=>do pure (.sh true (<-cO P x) (<-cO P y))
  | .shr=>do pure (.sh false (<-cO P x) (<-cO P y))
  |op=>match P.underlying t with
    |some (.int k)=>do pure (.bin op k (<-cO P x) (<-cO P y))
    |some .string=>do pure (.y4 op (<-cO P x) (<-cO P y))
    |_=>none
def wE (P:Program) (t:TypeId):Option (MK×K):=
  match P.underlying t with
  |some (.map k e)=>match oE P e,(P.info? e).bind (·.zero),gR P k,P.underlying k with
    |some false,some zv,some s,_=>(KZ zv).map fun z=>(⟨false,[s]⟩,z)
    |some false,some zv,none,some (.struct fs)=>match fN P 4 0 fs.toList,KZ zv with
      |some ts,some z=>if !P.stoodInHeld k/\fs.toList.all (fun f=>(gR P f.type).isSome)then some (⟨true,ts⟩,z)else none
      |_,_=>none
    |_,_,_,_=>none
  |_=>none
def pW (P:Program) (c:Call):Option iU:=
  match c.callee with
  | .builtin .len=>match c.args.toList,c.argTypes.toList with
    |[x],[t]=>match P.underlying t with
      |some (.slice _)=>(cO P x).map iU.len
      |some .string=>(cO P x).map iU.Rk
      |some (.map _ _)=>match wE P t,cO P x with
        |some (m,_),some x=>some (.mq (.len m) [x])
        |_,_=>none
      |some (.chan _ _)=>(cO P x).map iU.Oi
      |_=>none
    |_,_=>none
  | .builtin .append=>match c.args.toList,c.argTypes.toList with
    |[x,y],[t,u]=>match P.underlying t with
      |some (.slice e)=>match fe P e,lk P e,P.info? e with
        |some (sz+1),some _,some i=>if i.bytes<=32768/\t=u then do pure (.append (sz+1) (<-cO P x) (<-cO P y))else none
        |_,_,_=>none
      |_=>none
    |_,_=>none
  | .builtin .clear=>match c.args.toList,c.argTypes.toList with
    |[x],[t]=>match P.underlying t with
      |some (.slice e)=>match fe P e,lk P e with
        |some (_+1),some z=>(cO P x).map (iU.clear z)
        |_,_=>none
      |_=>none
    |_,_=>none
  | .value (.func f)=>if iw P f then(c.args.toList.mapM (cO P)).map (iU.call f)else none
  | .value (.tmp t)=>(c.args.toList.mapM (cO P)).map (iU.xp (.t t))
  | .builtin .delete=>match c.args.toList,c.argTypes.toList with
    |[x,k],[t,_]=>match wE P t,cO P x,cO P k with
      |some (m,_),some x,some k=>some (.mw (.del m) [x,k])
      |_,_,_=>none
    |_,_=>none
  | .builtin .copy=>match c.args.toList,c.argTypes.toList with
    |[x,y],[t,_]=>match P.underlying t with
      |some (.slice e)=>match fe P e with
        |some (sz+1)=>do pure (.copy (sz+1) (<-cO P x) (<-cO P y))
        |_=>none
      |_=>none
    |_,_=>none
  |_=>none
def ug (P:Program) (o:Op):Option iU:=
  match o with
  | .move x| .assign x=>(cO P x).map iU.eX
  | .pick c a b=>do pure (.pick (<-cO P c) (<-cO P a) (<-cO P b))
  | .alloc e=>(lk P e).map iU.new
  | .box _ x=>(cO P x).map iU.box
  | .load t (.global g)=>if fe P t=some 1/\oE P t=some false then some (.Jc g)else none
  | .load t a=>do pure (.load (<-oE P t) (<-fe P t) (<-cO P a))
  | .store t a x=>do pure (.store (<-fe P t) (<-cO P a) (<-cO P x))
  | .nilCheck x=>(cO P x).map iU.Kg
  | .binOp op t x y _=>yT P op t x y
  | .unOp .not _ x=>(cO P x).map iU.not
  | .unOp .neg _ x=>(cO P x).map iU.neg
  | .convert s d x=>match P.underlying s,P.underlying d with
    |some (.int _),some (.int k)=>(cO P x).map (iU.conv k)
    |some .string,some .string=>(cO P x).map iU.IX
    |_,_=>none
  | .slice t x lo hi none=>match P.underlying t with
    |some (.slice e)=>do
      pure (.slice (<-fe P e) (<-cO P x) (<-uz P lo) (<-uz P hi))
    |some .string=>do pure (.DU (<-cO P x) (<-uz P lo) (<-uz P hi))
    |_=>none
  | .fieldAddr s x i=>match P.underlying s with
    |some (.struct fs)=>match fs[i]? with
      |some f=>match fe P f.type with
        |some (_+1)=>(cO P x).map (iU.fA f.offset)
        |_=>none
      |none=>none
    |_=>none
  | .field s x i=>match P.underlying s with
    |some (.struct fs)=>match fs[i]? with
      |some f=>do pure (.field (<-oE P f.type) f.offset (<-fe P f.type) (<-cO P x))
      |none=>none
    |_=>none
  | .indexAddr t x i=>match P.underlying t with
    |some (.slice e)=>match fe P e with
      |some (m+1)=>do pure (.lq (m+1) (<-cO P x) (<-cO P i))
      |_=>none
    |some (.array len e)=>match fe P e with
      |some (m+1)=>do pure (.Q7 len (m+1) (<-cO P x) (<-cO P i))
      |_=>none
    |_=>none
  | .index t x i=>match P.underlying t with
    |some .string=>do pure (.Ra (<-cO P x) (<-cO P i))
    |some (.array len e)=>do pure (.ei (<-oE P e) len (<-fe P e) (<-cO P x) (<-cO P i))
    |_=>none
  | .extract x i=>(cO P x).map (iU.extract i)
  | .build t ps=>match P.underlying t with
    |some (.struct fs)=>
      match lk P t,wF P ps with
      |some z,some l=>
        if fs.all (fun f=>(P.info? f.type).isSome)then(wC P fs l).map (iU.build z)else none
      |_,_=>none
    |some (.array _ e)=>
      match lk P t,wF P ps,fe P e with
      |some z,some l,some n=>some (.build z (l.map fun(i,x)=>(i*n,n,x)))
      |_,_,_=>none
    |_=>none
  | .buildSlice t len ps=>match P.underlying t with
    |some (.slice e)=>match fe P e,lk P e,wF P ps with
      |some (sz+1),some _,some l=>
        if len*(sz+1)<=4096/\l.map (·.1)=List.range len then some (.gi (sz+1) len (l.map (·.2)))else none
      |_,_,_=>none
    |_=>none
  | .makeFunc (.func f) first ea=>
    if first= #[]/\iw P f then(ea.toList.mapM (cO P)).map (iU.Rn f)else if ea= #[]/\iw P f then(first.toList.mapM (cO P)).map (iU.Ro f)else none
  | .makeSlice t l c=>match P.underlying t with
    |some (.slice e)=>match fe P e,lk P e,P.info? e with
      |some (_+1),some z,some i=>if i.bytes<=32768 then do pure (.sf z (<-cO P l) (<-cO P c))else none
      |_,_,_=>none
    |_=>none
  | .call c=>pW P c
  | .makeChan t n=>match P.underlying t with
    |some (.chan _ e)=>match P.info? e with
      |some i=>if i.bytes<=32768 then(cO P n).map iU.Oo else none
      |none=>none
    |_=>none
  | .send x y=>do pure (.snd (<-cO P x) (<-cO P y))
  | .recv t x false=>match P.underlying t with
    |some (.chan _ e)=>match (P.info? e).bind (·.zero)with
      |some _=>(cO P x).map iU.Vy
      |none=>none
    |_=>none
  | .makeMap t none=>match wE P t with
    |some (m,_)=>some (.mq (.new m) [])
    |none=>none
  | .lookup t x k ok=>match wE P t,cO P x,cO P k with
    |some (m,z),some x,some k=>some (.mq (.look m ok z) [x,k])
    |_,_,_=>none
  | .mapUpdate t x k v| .insert t x k v=>match wE P t,cO P x,cO P k,cO P v with
    |some (m,_),some x,some k,some v=>some (.mw (.set m) [x,k,v])
    |_,_,_,_=>none
  | .makeInterface _ _=>some .bad
  | .panic _=>some .bad
  |_=>none
inductive Cls where
  |pure|look|make|write
  deriving DecidableEq,Repr
def iU.cls:iU->Cls
  | .new _| .box _| .gi .. | .sf .. | .mq (.new _) _| .Oo _=>.make
  | .Jc _| .load .. | .lq .. | .slice .. | .call .. | .xp .. | .mq .. | .Oi _=>.look
  | .store .. | .append .. | .copy .. | .clear .. | .mw .. | .snd .. | .Vy _=>.write
  |_=>.pure
def clash:Cls->Cls->Bool
  | .pure,_|_,.pure=>false
  | .write,_|_,.write=>true
  |_,_=>false
def kF (ops:Array Oper):Array Nat:=Region.before ops
def tN:iU->Bool:=fun o=>o.cls==.make||o.cls==.write
def iU.oh:iU->Bool
  | .call .. | .xp .. =>true
  |_=>false
def Hg (ops:Array Oper) (o:Oper):Option (Option (Nat×Bool)):=
  match o.guard with
  |none=>some none
  |some (i,b)=>match (ops[i]?).bind (·.dst)with
    |some t=>some (some (t,b))
    |none=>none
def mM (P:Program) (ops:Array Oper) (nt site0:Nat) (draw mk:Bool) (bs:Array Nat) (hidden:List (Nat×Bool)) (j:Nat) (o:Oper):Option bU:=do
  let v <-ug P o.op
  let g <-Hg ops o
  if (o.dst.all fun d=>decide (d<nt))then
    pure {dst:=o.dst,op:=v,guard:=g,site:=site0+j,hid:=if draw then(hidden.filter fun(i,m)=>m&& !(bs.getD j 0).testBit i&&(i !=j||mk&&v.oh)).map fun(i,_)=>site0+i else[]}
  else none
def allM {α:Type} (f:Nat->Oper->Option α):List Oper->Nat->Option (List α)
  |[],_=>some []
  |o::r,j=>do pure ((<-f j o)::(<-allM f r (j+1)))
def jq:O->List Nat
  | .t n=>[n]
  |_=>[]
def zV:Option O->List Nat
  |some x=>jq x
  |none=>[]
def iU.ji:iU->List Nat
  | .clear _ x| .eX x| .box x| .load _ _ x| .Kg x| .XO _ _ x| .ZU _ x| .not x| .neg x| .conv _ x| .IX x| .fA _ x| .field _ _ _ x| .extract _ x| .len x| .Rk x| .Oo x| .Oi x| .Vy x=>jq x
  | .pick c a b=>jq c++jq a++jq b
  | .new _| .Jc _| .bad=>[]
  | .build _ ps=>ps.flatMap fun(_,_,x)=>jq x
  | .gi _ _ ps=>ps.flatMap jq
  | .store _ a x| .snd a x=>jq a++jq x
  | .bin _ _ x y| .sh _ x y| .y4 _ x y| .ZV _ _ x y| .ZT _ _ x y| .lq _ x y| .Q7 _ _ x y| .Ra x y| .ei _ _ _ x y| .append _ x y| .copy _ x y| .sf _ x y=>jq x++jq y
  | .slice _ x lo hi| .DU x lo hi=>jq x++zV lo++zV hi
  | .Rn _ l| .Ro _ l| .call _ l| .mq _ l| .mw _ l=>l.flatMap jq
  | .xp x l=>jq x++l.flatMap jq
def bU.ji (v:bU):List Nat:=v.op.ji++(match v.guard with|some (t,_)=>[t]|none=>[])
def xh (x y:bU):Bool:=
  (match x.dst with
   |some d=> !y.ji.contains d&&y.dst !=some d
   |none=>true)&&
  (match y.dst with
   |some d=> !x.ji.contains d
   |none=>true)
def bU.makes (v:bU):Bool:=tN v.op||v.op.oh&&v.hid.contains v.site
def I8 (x y:bU):Bool:=
  xh x y&& !clash x.op.cls y.op.cls&&(!x.makes||y.hid.contains x.site)&&(!y.makes||x.hid.contains y.site)&&x.site !=y.site
def IZ (ops:Array Oper):Bool:=ops.toList.zipIdx.all fun(o,j)=>o.after.all fun e=> !Region.binds .any e||decide (e.on<j)
def qL (ops:Array Oper) (vl:List bU) (bs:Array Nat):Bool:=
  IZ ops&&vl.zipIdx.all fun(y,j)=>vl.zipIdx.all fun(x,i)=> !(decide (i<j))||(bs.getD j 0).testBit i||I8 x y
def uA (P:Program) (nt site0:Nat) (ops:Array Oper) (draw mk:Bool):Option (List bU):=
  let bs:=if draw then kF ops else #[]
  let hidden:=if draw then ops.toList.zipIdx.map fun(o,i)=>(i,((ug P o.op).map fun v=>tN v||mk&&v.oh).getD false)else[]
  match allM (mM P ops nt site0 draw mk bs hidden) ops.toList 0 with
  |some vl=>if !draw||qL ops vl bs then some vl else none
  |none=>none
def nr (v:bU):Bool:= !v.op.oh&&v.op.cls !=.write
def BC (x y:bU):Bool:=xh x y&&x.op.cls==.pure||I8 x y&&nr x&&nr y
def tz (ops:Array Oper) (vl:List bU) (bs:Array Nat) (listed:Array Bool) (i:Nat):Bool:=
  match vl[i]? with
  |some x=>(List.range ops.size).all fun j=>listed.getD j false||j==i||(bs.getD j 0).testBit i||(match vl[j]? with|some y=>BC x y|none=>false)
  |none=>false
def Ti (vl:List bU) (x:bU):Option (Nat×Nat×O):=
  match x.op,x.guard with
  | .append _ (.t t) y,none=>match vl.find? fun v=>v.dst==some t&&v.op.cls==.make with
    |some v=>some (t,v.site,y)
    |none=>none
  |_,_=>none
def I7 (s:Nat) (x y:bU):Bool:=xh x y&&nr y&&y.hid.contains s&&y.hid.contains x.site&&y.site !=s&&y.site !=x.site
def qO (ops:Array Oper) (vl:List bU) (bs:Array Nat) (listed:Array Bool) (i s:Nat):Bool:=
  match vl[i]? with
  |some x=>(List.range ops.size).all fun j=>listed.getD j false||j==i||(bs.getD j 0).testBit i||(match vl[j]? with|some y=>I7 s x y|none=>false)
  |none=>false
def Vk (ops:Array Oper) (vl:List bU) (bs:Array Nat) (listed:Array Bool) (i:Nat):Option (Nat×Nat×Nat×O×bU):=
  match vl[i]? with
  |some x=>match Ti vl x with
    |some (t,s,y)=>if qO ops vl bs listed i s then some (i,t,s,y,x)else none
    |none=>none
  |none=>none
def EK:List VC->Option VC
  |[]=>none
  |[c]=>some c
  |c::r=>(EK r).map (VC.both c)
def xO (ops:Array Oper) (vl:List bU) (bs:Array Nat):Nat->Array Bool->Option VC
  |0,listed=>
    match Region.ready .any ops listed with
    |[]=>some (.gh false [])
    |_::_=>none
  |n+1,listed=>
    match Region.ready .any ops listed with
    |[]=>some (.gh false [])
    |r::rs=>let rdy:=r::rs
      match rdy.find? (tz ops vl bs listed)with
      |some i=>match vl[i]? with
        |some vo=>(xO ops vl bs n (listed.setIfInBounds i true)).map (VC.one vo)
        |none=>none
      |none=>match rdy.findSome? (Vk ops vl bs listed)with
        |some (i,t,s,y,vo)=>(xO ops vl bs n (listed.setIfInBounds i true)).map fun c=>VC.loc t s y (.one vo c)
        |none=>match rdy.mapM fun i=>(vl[i]?).bind fun vo=>(xO ops vl bs n (listed.setIfInBounds i true)).map (VC.one vo)with
          |some l=>EK l
          |none=>none
def Tf:Op->Bool
  | .send .. | .recv .. =>true
  |_=>false
def XF (P:Program) (nt site0:Nat) (ops:Array Oper) (draw:Bool) (mode:Nat):Option VC:=
  if draw&&mode==2 then
    match allM (mM P ops nt site0 true false (kF ops) (ops.toList.zipIdx.map fun(o,i)=>(i,((ug P o.op).map tN).getD false))) ops.toList 0 with
    |some vl=>xO ops vl (kF ops) ops.size (Array.replicate ops.size false)
    |none=>none
  else if !draw&&ops.any (fun o=>Tf o.op)then(uA P nt site0 ops false false).map VC.WV
  else(uA P nt site0 ops draw (mode==1)).map (VC.gh draw)
def wS (md:List (Nat×Nat)) (id:Nat):Nat:=
  match md with
  |[]=>0
  |(i,m)::r=>if i=id then m else wS r id
def jU (P:Program) (md:List (Nat×Nat)) (nt fid:Nat):Code->Option VC
  | .skip=>some .skip
  | .region id ops draw=>XF P nt ((fid*1000+id)*1000) ops draw (wS md id)
  | .seq a b=>do pure (.seq (<-jU P md nt fid a) (<-jU P md nt fid b))
  | .cond c x y=>do pure (.cond (<-cO P c) (<-jU P md nt fid x) (<-jU P md nt fid y))
  | .block id c=>(jU P md nt fid c).map (VC.block id)
  | .loop c=>(jU P md nt fid c).map VC.loop
  | .exit id=>some (.exit id)
  | .ret=>some .ret
  | .label _=>some .skip
  | .scope c=>jU P md nt fid c
  |_=>none
def Hh (P:Program) (r:ResultVar):Option qE:=
  match r with
  | .tmp t=>some (.tmp t)
  | .cell a t=>do pure (.cell (<-oE P t) (<-fe P t) a)
def xV (P:Program) (f:Nat) (md:List (Nat×Nat)):Option IL:=
  match P.funcs[f]? with
  |some fn=>match fn.body with
    |some c=>do
      let b <-jU P md fn.ntmps f c
      let r <-fn.results.toList.mapM (Hh P)
      if fn.params.size+fn.nfree<=fn.ntmps then pure {ntmps:=fn.ntmps,B9:=fn.params.size+fn.nfree,body:=b,res:=r}else none
    |none=>none
  |none=>none
def AJ (P:Program) (f:Nat):Option IL:=xV P f []
theorem ae {P:Prop} (h:P:=by omega):P:=h
theorem aI {P:Prop} (h:P:=by(try dsimp only);omega):P:=h
structure Row where
 w:Bool
 sz:Nat
 rows:List (List AV)
abbrev Rows:=Id->Option Row
structure aw where
 get:Rows
 next:Nat
abbrev Env:=Nat->AV
def upd (env:Env):Option Nat->AV->Env
 |some d,v=>fun t=>if t=d then v else env t
 |none,_=>env
inductive Ex where
 |normal
 |exit (id:Nat)
 |ret
 deriving DecidableEq
def dq (env:Env):O->AV
 | .t n=>env n
 | .k c=>c.av
 | .ka cs=>.agg (cs.map K.av)
 | .f n=>.fn n []
def bJ (g:Rows) (id:Id) (r:Row):Rows:=fun i=>if i=id then some r else g i
def bQ (g:Rows) (id:Id):Rows:=fun i=>if i=id then none else g i
def fc:List Nat->Nat->Rows->Rows
 |[],_,g=>g
 |h::t,n,g=>fun id=>if (h::t).contains id.site=true/\id.bH=n then none else g id
def ro (g:Rows):Rows:=fun id=>(g id).map fun r=>{r with w:=false}
def part (agg:Bool) (n:Nat) (cs:List AV):Option AV:=
 if agg then(if n<=cs.length then some (.agg (cs.take n))else none)else cs.head?
def rowAt (g:Rows) (id:Id) (i:Nat):Option (List AV):=(g id).bind (·.rows[i]?)
def ld (g:Rows) (agg:Bool) (n:Nat):AV->Option AV
 | .ptr id i off=>(rowAt g id i).bind fun cs=>part agg n (cs.drop off)
 | .dZ cs=>part agg n cs
 |_=>none
def dz:BinOp->IntKind->Int->Int->Option AV
 | .add,k,a,b=>some (.int k (k.wrap (a+b)))
 | .sub,k,a,b=>some (.int k (k.wrap (a-b)))
 | .mul,k,a,b=>some (.int k (k.wrap (a*b)))
 | .quo,k,a,b=>if b=0 then none else some (.int k (k.wrap (a.tdiv b)))
 | .rem,k,a,b=>if b=0 then none else some (.int k (a.tmod b))
 | .lss,_,a,b=>some (.bool (decide (a<b)))
 | .leq,_,a,b=>some (.bool (decide (a<=b)))
 | .gtr,_,a,b=>some (.bool (decide (b<a)))
 | .geq,_,a,b=>some (.bool (decide (b<=a)))
 | .and,k,a,b=>some (.int k (k.wrap (BitVec.ofInt k.bits a&&& BitVec.ofInt k.bits b).toNat))
 | .or,k,a,b=>some (.int k (k.wrap (BitVec.ofInt k.bits a|||BitVec.ofInt k.bits b).toNat))
 | .xor,k,a,b=>some (.int k (k.wrap (BitVec.ofInt k.bits a ^^^ BitVec.ofInt k.bits b).toNat))
 |_,_,_,_=>none
def dF (op:BinOp):AV->AV->Option AV
 | .int k a,.int k' b=>if k=k' then dz op k a b else none
 |_,_=>none
def fF (left:Bool):AV->AV->Option AV
 | .int k a,.int _ b=>if b<0 then none else some (.int k (if left then k.wrap (a*2 ^ min b.toNat k.bits)else a.fdiv (2 ^ min b.toNat k.bits)))
 |_,_=>none
def dP:BinOp->ByteArray->ByteArray->Option AV
 | .add,a,b=>if a.size+b.size<=9223372036854775807 then some (.str (a++b))else none
 | .lss,a,b=>some (.bool (Op.bytesLess a.toList b.toList))
 | .leq,a,b=>some (.bool (Op.bytesLess a.toList b.toList||(a.toList==b.toList)))
 | .gtr,a,b=>some (.bool !(Op.bytesLess a.toList b.toList||(a.toList==b.toList)))
 | .geq,a,b=>some (.bool !(Op.bytesLess a.toList b.toList))
 |_,_,_=>none
def cQ (op:BinOp):AV->AV->Option AV
 | .str a,.str b=>dP op a b
 |_,_=>none
def e8:TS->AV->AV->Option Bool
 | .tI,.int k a,.int k' b=>if k=k' then some (decide (a=b))else none
 | .tB,.bool a,.bool b=>some (a==b)
 | .tS,.str a,.str b=>some (decide (a=b))
 |_,_,_=>none
def eF:List TS->List AV->List AV->Option Bool
 |[],[],[]=>some true
 |t::ts,a::r,b::s=>match e8 t a b,eF ts r s with
  |some x,some y=>some (x&&y)
  |_,_=>none
 |_,_,_=>none
def dh (neg b:Bool):Bool:=if neg then !b else b
def cM:AV->Option Bool
 | .ck=>some true
 | .own _ _ _=>some false
 | .sl (_::_)=>some false
 |_=>none
def cL:AV->Option Bool
 | .kf=>some true
 | .fn _ _=>some false
 |_=>none
def Pp:AV->Option Bool
 | .jk=>some true
 | .ptr .. | .dZ _=>some false
 |_=>none
def dI (Re:Bool) (x:AV):Option Bool:=if Re then cL x else cM x
def dr (len:Nat):Option AV->Option Nat
 |none=>some len
 |some (.int _ n)=>if 0<=n/\n<=len then some n.toNat else none
 |_=>none
def du (h:Nat):Option AV->Option Nat
 |none=>some 0
 |some (.int _ n)=>if 0<=n/\n<=h then some n.toNat else none
 |_=>none
def bz (g:Rows) (sz:Nat) (x:AV) (lo hi:Option AV):Option AV:=
 match x with
 | .ck=>(dr 0 hi).bind fun h=>(du h lo).map fun _=>.ck
 | .sl rows=>(dr rows.length hi).bind fun h=>(du h lo).bind fun l=>if ∀cs∈rows,cs.length=sz then some (.sl ((rows.drop l).take (h-l)))else none
 | .own id off len=>(g id).bind fun r=>(dr len hi).bind fun h=>(du h lo).bind fun l=>if r.sz=sz then some (.own id (off+l) (h-l))else none
 |_=>none
def aU (x:AV) (lo hi:Option AV):Option AV:=
 match x with
 | .str s=>(dr s.size hi).bind fun h=>(du h lo).map fun l=>.str (s.extract l h)
 |_=>none
def Ix (off:Nat):AV->Option AV
 | .ptr id i o=>some (.ptr id i (o+off))
 | .dZ cs=>some (.dZ (cs.drop off))
 |_=>none
def bx (g:Rows) (sz:Nat):AV->AV->Option AV
 | .sl rows,.int _ n=>if 0<=n then(rows[n.toNat]?).bind fun cs=>if cs.length=sz then some (.dZ cs)else none else none
 | .own id off len,.int _ n=>if 0<=n/\n<len then(g id).bind fun r=>if r.sz=sz then some (.ptr id (off+n.toNat) 0)else none else none
 |_,_=>none
def cD (len sz:Nat):AV->AV->Option AV
 | .ptr id r off,.int _ n=>if 0<=n/\n<len then some (.ptr id r (off+n.toNat*sz))else none
 | .dZ cs,.int _ n=>if 0<=n/\n<len then some (.dZ (cs.drop (n.toNat*sz)))else none
 |_,_=>none
def cH:AV->AV->Option AV
 | .str s,.int _ n=>if 0<=n then(s[n.toNat]?).map fun b=>.int .u8 b.toNat else none
 |_,_=>none
def cF (agg:Bool) (len n:Nat):AV->AV->Option AV
 | .agg cs,.int _ i=>if 0<=i/\i<len then part agg n (cs.drop (i.toNat*n))else none
 |_,_=>none
def dy:AV->Option Nat
 | .ck=>some 0
 | .sl rows=>some rows.length
 | .own _ _ n=>some n
 |_=>none
def dJ:AV->Option AV
 | .bool b=>some (.bool !b)
 |_=>none
def dH:AV->Option AV
 | .int k n=>some (.int k (k.wrap (0-n)))
 |_=>none
def cB (k:IntKind):AV->Option AV
 | .int _ n=>some (.int k (k.wrap n))
 |_=>none
def bF:AV->Option AV
 | .str s=>some (.str s)
 |_=>none
def cP:AV->AV->AV->Option AV
 | .bool c,a,b=>some (if c then a else b)
 |_,_,_=>none
def dG:AV->Option AV
 | .ptr id i o=>some (.ptr id i o)
 | .dZ cs=>some (.dZ cs)
 |_=>none
def bt (agg:Bool) (off n:Nat):AV->Option AV
 | .agg cs=>if off+n<=cs.length then part agg n (cs.drop off)else none
 |_=>none
def az (i:Nat):AV->Option AV
 | .gG vs=>vs[i]?
 |_=>none
def cJ:AV->Option AV
 | .str s=>some (.int .i64 s.size)
 |_=>none
def rowOf (sz:Nat) (v:AV):Option (List AV):=if v.cells.length=sz/\v.cells.all AV.cell then some v.cells else none
def cz (v:AV):Option (List AV):=if v.cells.all AV.cell then some v.cells else none
def rowsOf (sz:Nat):List AV->Option (List (List AV))
 |[]=>some []
 |v::r=>(rowOf sz v).bind fun c=>(rowsOf sz r).map fun cs=>c::cs
def bY:List AV->List (Nat×Nat×AV)->Option (List AV)
 |cs,[]=>some cs
 |cs,(off,n,v)::r=>if v.cells.length=n/\off+n<=cs.length/\v.cells.all AV.cell then bY (cs.take off++v.cells++cs.drop (off+n)) r else none
def dj:Nat:=16777216
def fE (zero:List K):AV->AV->Option (Nat×Row)
 | .int _ l,.int _ c=>if 0<=l/\l<=c/\c<=dj then some (l.toNat,⟨true,zero.length,List.replicate l.toNat (zero.map K.av)⟩)else none
 |_,_=>none
def Oq:Nat:=1000000000
def MK.ks (m:MK):Nat:=m.ts.length
def MK.j6 (m:MK):Nat:=Oq+m.ks
def AV.isAgg:AV->Bool
 | .agg _=>true
 |_=>false
def ig (m:MK) (key:List AV):List (List AV)->Nat->Option (Option Nat)
 |[],_=>some none
 |r::l,i=>match eF m.ts key (r.take m.ks)with
  |some true=>some (some i)
  |some false=>ig m key l (i+1)
  |none=>none
def dw (g:Rows) (m:MK):AV->Option (Id×Row)
 | .map id m'=>if m'=m then(g id).map fun r=>(id,r)else none
 |_=>none
def gZ (m:MK) (k:AV) (rows:List (List AV)):Option (Option Nat):=if k.isAgg=m.ka/\k.cells.length=m.ks/\k.cells.all AV.cell then ig m k.cells rows 0 else none
def dD (m:MK) (z:K) (rows:List (List AV)):Option Nat->Option AV
 |some i=>(rows[i]?).bind fun cs=>cs[m.ks]?
 |none=>some z.av
def bh (q:MQ) (vs:List AV) (g:Rows) (id:Id):Option (AV×Option Row):=
 match q,vs with
 | .new m,[]=>some (.map id m,some ⟨true,m.j6,[]⟩)
 | .look m ok z,[x,k]=>(dw g m x).bind fun p=>(gZ m k p.2.rows).bind fun fi=>(dD m z p.2.rows fi).map fun v=>(if ok then .gG [v,.bool fi.isSome]else v,none)
 | .len m,[x]=>(dw g m x).map fun p=>(.int .i64 p.2.rows.length,none)
 |_,_=>none
def ET:Nat:=2000000000
def cK:AV->Option Nat
 | .int _ n=>if 0<=n/\n<=1048576 then some n.toNat else none
 |_=>none
def cI (g:Rows):AV->Option AV
 | .uB id=>(g id).map fun r=>.int .i64 r.rows.length
 |_=>none
def dL (g:Rows):AV->AV->Option Rows
 | .uB id,v=>(g id).bind fun r=>if r.w/\ET+r.rows.length<r.sz/\v.cell then some (bJ g id {r with rows:=r.rows++[[v]]})else none
 |_,_=>none
def dK (g:Rows):AV->Option (AV×Rows)
 | .uB id=>(g id).bind fun r=>match r.rows with
  |[v]::rest=>if r.w then some (v,bJ g id {r with rows:=rest})else none
  |_=>none
 |_=>none
def dn (rows:List (List AV)) (e:List AV):Option Nat->List (List AV)
 |some i=>rows.set i e
 |none=>rows++[e]
def dm (rows:List (List AV)):Option Nat->List (List AV)
 |some i=>rows.eraseIdx i
 |none=>rows
def bq (q:MW) (vs:List AV) (g:Rows):Option Rows:=
 match q,vs with
 | .set m,[x,k,v]=>(dw g m x).bind fun p=>(gZ m k p.2.rows).bind fun fi=>if p.2.w/\v.cell/\v.isAgg=false then some (bJ g p.1 {p.2 with rows:=dn p.2.rows (k.cells++[v]) fi})else none
 | .del m,[x,k]=>(dw g m x).bind fun p=>(gZ m k p.2.rows).bind fun fi=>if p.2.w then some (bJ g p.1 {p.2 with rows:=dm p.2.rows fi})else none
 |_,_=>none
def sL (k:Nat):Id:=⟨999000000+k,0⟩
def fD (g:Rows) (k:Nat):Option AV:=(rowAt g (sL k) 0).bind fun cs=>match cs with
 |[.err j t s]=>if j=k then some (.err k t s)else none
 |_=>none
def eA (o:iU) (ρ:O->AV) (g:Rows) (id:Id):Option (AV×Option Row):=
 match o with
 | .eX x=>some (ρ x,none)
 | .pick c a b=>(cP (ρ c) (ρ a) (ρ b)).map (·,none)
 | .new zero=>some (.ptr id 0 0,some ⟨true,zero.length,[zero.map K.av]⟩)
 | .box x=>(cz (ρ x)).map fun cs=>(.ptr id 0 0,some ⟨true,cs.length,[cs]⟩)
 | .build zero parts=>(bY (zero.map K.av) (parts.map fun(o,n,x)=>(o,n,ρ x))).map fun cs=>(.agg cs,none)
 | .gi sz len parts=>(rowsOf sz (parts.map ρ)).map fun rs=>(.own id 0 len,some ⟨true,sz,rs⟩)
 | .load agg n a=>(ld g agg n (ρ a)).map (·,none)
 | .Kg x=>(dG (ρ x)).map (·,none)
 | .bin op _ x y=>(dF op (ρ x) (ρ y)).map (·,none)
 | .sh left x y=>(fF left (ρ x) (ρ y)).map (·,none)
 | .y4 op x y=>(cQ op (ρ x) (ρ y)).map (·,none)
 | .ZV neg t x y=>(e8 t (ρ x) (ρ y)).map fun b=>(.bool (dh neg b),none)
 | .ZT neg ts x y=>match ρ x,ρ y with
  | .agg xs,.agg ys=>(eF ts xs ys).map fun b=>(.bool (dh neg b),none)
  |_,_=>none
 | .XO neg Re x=>(dI Re (ρ x)).map fun b=>(.bool (dh neg b),none)
 | .ZU neg x=>(Pp (ρ x)).map fun b=>(.bool (dh neg b),none)
 | .not x=>(dJ (ρ x)).map (·,none)
 | .neg x=>(dH (ρ x)).map (·,none)
 | .conv k x=>(cB k (ρ x)).map (·,none)
 | .IX x=>(bF (ρ x)).map (·,none)
 | .slice sz x lo hi=>(bz g sz (ρ x) (lo.map ρ) (hi.map ρ)).map (·,none)
 | .DU x lo hi=>(aU (ρ x) (lo.map ρ) (hi.map ρ)).map (·,none)
 | .fA off x=>(Ix off (ρ x)).map (·,none)
 | .field agg off n x=>(bt agg off n (ρ x)).map (·,none)
 | .lq sz x i=>(bx g sz (ρ x) (ρ i)).map (·,none)
 | .Q7 len sz x i=>(cD len sz (ρ x) (ρ i)).map (·,none)
 | .Ra x i=>(cH (ρ x) (ρ i)).map (·,none)
 | .ei agg len n x i=>(cF agg len n (ρ x) (ρ i)).map (·,none)
 | .extract i x=>(az i (ρ x)).map (·,none)
 | .len x=>(dy (ρ x)).map fun(n:Nat)=>(AV.int .i64 (n:Int),none)
 | .Rk x=>(cJ (ρ x)).map (·,none)
 | .Rn f ea=>some (.fn f (ea.map ρ),none)
 | .Ro f first=>some (.xH f (first.map ρ),none)
 | .sf zero l c=>(fE zero (ρ l) (ρ c)).map fun(n,r)=>(.own id 0 n,some r)
 | .mq q xs=>bh q (xs.map ρ) g id
 | .Oo x=>(cK (ρ x)).map fun n=>(.uB id,some ⟨true,ET+n,[]⟩)
 | .Oi x=>(cI g (ρ x)).map (·,none)
 | .Jc k=>(fD g k).map (·,none)
 |_=>none
def bd (g:Rows):AV->Option (List (List AV))
 | .ck=>some []
 | .sl rows=>some rows
 | .own id off len=>(g id).bind fun r=>if off+len<=r.rows.length then some ((r.rows.drop off).take len)else none
 |_=>none
def cr (cs:List AV) (off:Nat) (xs:List AV):List AV:=cs.take off++xs++cs.drop (off+xs.length)
def bD (g:Rows) (n:Nat) (v:AV):AV->Option Rows
 | .ptr id i off=>(g id).bind fun r=>(r.rows[i]?).bind fun cs=>
  if r.w/\v.cells.length=n/\v.cells.all AV.cell/\off+n<=cs.length then some (bJ g id {r with rows:=r.rows.set i (cr cs off v.cells)})else none
 |_=>none
def aP (g:Rows) (id:Id) (sz:Nat) (x:AV) (ys:List (List AV)):Option (AV×Rows):=
 match x with
 | .ck=>match ys with
  |[]=>some (.ck,g)
  |y::r=>if (y::r).length<=dj/\(y::r).all (fun c=>c.length==sz&&c.all AV.cell)then some (.own id 0 (y::r).length,bJ g id ⟨true,sz,y::r⟩)else none
 | .own i 0 len=>(g i).bind fun r=>
  if r.w/\r.sz=sz/\len=r.rows.length/\len+ys.length<=dj/\ys.all (fun c=>c.length==sz&&c.all AV.cell)then some (.own id 0 (len+ys.length),bJ (bQ g i) id ⟨true,sz,r.rows++ys⟩)else none
 |_=>none
def JW (g:Rows) (sz:Nat) (x:AV) (ys:List (List AV)):Option (AV×Rows):=
 match x with
 | .own i off len=>(g i).bind fun r=>
  if r.w/\r.sz=sz/\off+len<=r.rows.length/\ys.all (fun c=>c.length==sz&&c.all AV.cell)then
   some (.int .i64 (min ys.length len:Nat),bJ g i {r with rows:=r.rows.take off++ys.take (min ys.length len)++r.rows.drop (off+min ys.length len)})else none
 |_=>none
def br (g:Rows) (zero:List K) (x:AV):Option Rows:=
 match x with
 | .ck=>some g
 | .own i off len=>(g i).bind fun r=>
  if r.w/\r.sz=zero.length/\off+len<=r.rows.length then
   some (bJ g i {r with rows:=r.rows.take off++List.replicate len (zero.map K.av)++r.rows.drop (off+len)})else none
 |_=>none
def fh (o:iU) (ρ:O->AV) (g:Rows) (id:Id):Option (AV×Rows):=
 match o with
 | .store n a x=>(bD g n (ρ x) (ρ a)).map fun g'=>(.undef,g')
 | .append sz x y=>(bd g (ρ y)).bind fun ys=>aP g id sz (ρ x) ys
 | .copy sz x y=>(bd g (ρ y)).bind fun ys=>JW g sz (ρ x) ys
 | .clear zero x=>(br g zero (ρ x)).map fun g'=>(.undef,g')
 | .mw q xs=>(bq q (xs.map ρ) g).map fun g'=>(.undef,g')
 |_=>none
def yV:AV->List AV->Option (Nat×List AV)
 | .fn f ea,l=>some (f,l++ea)
 | .xH f first,l=>some (f,first++l)
 |_,_=>none
abbrev gO:=Nat->List AV->aw->(AV->aw->Prop)->Prop
mutual
def fz (g:Rows):Nat->AV->Option AV
 |0,_=>none
 |n+1,a=>match a with
  | .own id off len=>match g id with
   |some r=>if r.w then(if off+len<=r.rows.length then(jn g n ((r.rows.drop off).take len)).map AV.sl else none)else none
   |none=>none
  | .ptr id i off=>match g id with
   |some r=>if r.w then(match r.rows[i]? with
    |some cs=>(eM g n (cs.drop off)).map AV.dZ
    |none=>none)else none
   |none=>none
  | .agg cs=>(eM g n cs).map AV.agg
  | .gG vs=>(eM g n vs).map AV.gG
  | .fn f ea=>if ea.all AV.cell then(eM g n ea).map (AV.fn f)else none
  | .map _ _| .xH _ _| .uB _=>none
  |v=>some v
 termination_by n _=>(n,0)
def eM (g:Rows):Nat->List AV->Option (List AV)
 |n,[]=>some []
 |n,a::r=>match fz g n a with
  |some b=>(eM g n r).map (b::·)
  |none=>none
 termination_by n l=>(n,l.length+1)
def jn (g:Rows):Nat->List (List AV)->Option (List (List AV))
 |n,[]=>some []
 |n,c::r=>match eM g n c with
  |some b=>(jn g n r).map (b::·)
  |none=>none
 termination_by n l=>(n,(l.map (fun c=>c.length+2)).sum+1)
 decreasing_by all_goals simp_wf;try omega
end
mutual
def iG (g:Rows):Nat->AV->Option AV
 |0,_=>none
 |n+1,a=>match a with
  | .own id off len=>match g id with
   |some r=>if r.w then(if off+len<=r.rows.length then(iX g n ((r.rows.drop off).take len)).map AV.sl else none)else none
   |none=>none
  | .ptr id i off=>match g id with
   |some r=>if r.w then(match r.rows[i]? with
    |some cs=>(fC g n (cs.drop off)).map AV.dZ
    |none=>none)else none
   |none=>none
  | .agg cs=>(fC g n cs).map AV.agg
  | .gG vs=>(fC g n vs).map AV.gG
  | .int k m=>some (.int k m)
  | .bool b=>some (.bool b)
  | .str s=>some (.str s)
  | .ck=>some .ck
  | .jk=>some .jk
  | .kf=>some .kf
  | .kG=>some .kG
  | .j4=>some .j4
  |_=>none
 termination_by n _=>(n,0)
def fC (g:Rows):Nat->List AV->Option (List AV)
 |n,[]=>some []
 |n,a::r=>match iG g n a with
  |some b=>(fC g n r).map (b::·)
  |none=>none
 termination_by n l=>(n,l.length+1)
def iX (g:Rows):Nat->List (List AV)->Option (List (List AV))
 |n,[]=>some []
 |n,c::r=>match fC g n c with
  |some b=>(iX g n r).map (b::·)
  |none=>none
 termination_by n l=>(n,(l.map (fun c=>c.length+2)).sum+1)
 decreasing_by all_goals simp_wf;try omega
end
def ef (g:Rows):Rows:=fun id=>(g id).map fun r=>{r with w:=true}
def PC (X:gO) (f:Nat) (args:List AV) (σ:aw) (K:AV->Prop):Prop:=
 X f args ⟨ro σ.get,σ.next⟩ fun r σ'=>∃r',fz σ'.get 6 r=some r'/\K r'
def PCv (X:gO) (f:Nat) (args:List AV) (σ:aw) (K:AV->Prop):Prop:=
 ∃args',eM (ef σ.get) 6 args=some args'/\X f args' ⟨fun _=>none,σ.next⟩ fun r σ'=>∃r',iG σ'.get 6 r=some r'/\K r'
def fm (X:gO) (f:Nat) (args:List AV) (σ:aw) (K:AV->Prop):Prop:=PC X f args σ K∨PCv X f args σ K
def aD (g:Option (Nat×Bool)) (env:Env):Bool:=
 match g with
 |none=>true
 |some (t,b)=>match env t with
  | .bool c=>c==b
  |_=>false
def AV.plain:AV->Bool
 | .int .. | .bool _| .str _| .ck| .jk| .kf| .kG| .j4=>true
 |_=>false
def CM (X:gO) (f:Nat) (args:List AV) (σ:aw) (sz:Nat) (rows:List (List AV)):Prop:=
 (∀c∈rows,∀a∈c,a.plain=true)/\∃args',eM (ef σ.get) 6 args=some args'/\X f args' ⟨fun _=>none,σ.next⟩ fun r σ'=>∃id,r=.own id 0 rows.length/\σ'.get id=some ⟨true,sz,rows⟩
def cm (X:gO) (draw:Bool) (hid:List Nat) (site:Nat) (f:Nat) (args:List AV) (σ:aw) (next:AV->aw->Prop):Prop:=
 (∃r,fm X f args ⟨fc hid σ.next σ.get,σ.next+1⟩ (fun r'=>r'=r)/\next r σ)∨
 (draw=false/\X f args ⟨σ.get,σ.next+1⟩ next)∨
 (hid.contains site=true/\∃sz rows,CM X f args ⟨fc hid σ.next σ.get,σ.next+1⟩ sz rows/\next (.own ⟨site,σ.next⟩ 0 rows.length) ⟨bJ σ.get ⟨site,σ.next⟩ ⟨true,sz,rows⟩,σ.next⟩)
def eU (X:gO) (draw:Bool) (o:bU) (env:Env) (σ:aw) (next:AV->aw->Prop):Prop:=
 match o.op with
 | .call f args=>cm X draw o.hid o.site f (args.map (dq env)) σ next
 | .xp x args=>match dq env x with
  | .fn f ea=>cm X draw o.hid o.site f (args.map (dq env)++ea) σ next
  | .xH f first=>cm X draw o.hid o.site f (first++args.map (dq env)) σ next
  |_=>False
 | .store .. | .append .. | .copy .. | .clear .. | .mw .. =>match fh o.op (dq env) σ.get ⟨o.site,σ.next⟩with
  |some (v,g)=>next v ⟨g,σ.next⟩
  |none=>False
 |_=>match eA o.op (dq env) (fc o.hid σ.next σ.get) ⟨o.site,σ.next⟩with
  |some (v,some r)=>next v ⟨bJ σ.get ⟨o.site,σ.next⟩ r,σ.next⟩
  |some (v,none)=>next v σ
  |none=>False
def wpOps (X:gO) (draw:Bool):List bU->(Env->aw->Prop)->Env->aw->Prop
 |[],K,env,σ=>K env ⟨σ.get,σ.next+1⟩
 |o::r,K,env,σ=>
  if aD o.guard env then eU X draw o env σ fun v σ'=>wpOps X draw r K (upd env o.dst v) σ'
  else wpOps X draw r K (upd env o.dst .undef) σ
def bW:List bU->(Env->aw->Prop)->Env->aw->Prop
 |[],K,env,σ=>K env ⟨σ.get,σ.next+1⟩
 |o::r,K,env,σ=>o.guard=none/\match o.op with
  | .snd x y=>match dL σ.get (dq env x) (dq env y)with
   |some g=>bW r K (upd env o.dst .undef) ⟨g,σ.next⟩
   |none=>False
  | .Vy x=>match dK σ.get (dq env x)with
   |some (v,g)=>bW r K (upd env o.dst v) ⟨g,σ.next⟩
   |none=>False
  |op=>match eA op (dq env) σ.get ⟨o.site,σ.next⟩with
   |some (v,none)=>bW r K (upd env o.dst v) σ
   |_=>False
def dc (next:Env->aw->Prop) (Q:Ex->Env->aw->Prop):Ex->Env->aw->Prop
 | .normal=>next
 |e=>Q e
def ba (id:Nat) (Q:Ex->Env->aw->Prop):Ex->Env->aw->Prop
 | .exit lP=>if lP=id then Q .normal else Q (.exit lP)
 |e=>Q e
def zF (W:(Ex->Env->aw->Prop)->Env->aw->Prop) (Q:Ex->Env->aw->Prop):Nat->Env->aw->Prop
 |0=>fun _ _=>False
 |n+1=>W (dc (zF W Q n) Q)
def Rl (t s:Nat) (y:O) (env:Env) (n:Nat):Prop:=(∃len,env t=.own ⟨s,n⟩ 0 len)/\∀id o l,dq env y=.own id o l->id.bH≠n
def dY (X:gO):VC->(Ex->Env->aw->Prop)->Env->aw->Prop
 | .skip,Q=>Q .normal
 | .gh draw ops,Q=>wpOps X draw ops (Q .normal)
 | .seq a b,Q=>dY X a (dc (dY X b Q) Q)
 | .cond c x y,Q=>fun env σ=>match dq env c with
  | .bool b=>if b then dY X x Q env σ else dY X y Q env σ
  |_=>False
 | .block id c,Q=>dY X c (ba id Q)
 | .loop c,Q=>fun env σ=>∃n,zF (dY X c) Q n env σ
 | .exit id,Q=>Q (.exit id)
 | .ret,Q=>Q .ret
 | .one o c,Q=>fun env σ=>if aD o.guard env then eU X false o env σ fun v σ'=>dY X c Q (upd env o.dst v) σ' else dY X c Q (upd env o.dst .undef) σ
 | .both a b,Q=>fun env σ=>dY X a Q env σ/\dY X b Q env σ
 | .loc t s y c,Q=>fun env σ=>Rl t s y env σ.next/\dY X c Q env σ
 | .WV ops,Q=>bW ops (Q .normal)
def jw (env:Env) (g:Rows):qE->Option AV
 | .tmp t=>some (env t)
 | .cell agg n t=>ld g agg n (env t)
def ir (env:Env) (g:Rows):List qE->Option (List AV)
 |[]=>some []
 |r::l=>(jw env g r).bind fun v=>(ir env g l).map (v::·)
def gH:List AV->AV
 |[v]=>v
 |l=>.gG l
def bV (args:List AV):Env:=fun t=>args.getD t .undef
def oj (res:List qE) (K:AV->aw->Prop):Ex->Env->aw->Prop
 | .exit _,_,_=>False
 |_,env,σ=>∃vs,ir env σ.get res=some vs/\K (gH vs) σ
inductive lH (P:Program) (w:World) (D:Nat->Prop):AV->Value->Prop
 |int (k n):lH P w D (.int k n) (.int k n)
 |bool (b):lH P w D (.bool b) (.bool b)
 |str (s):lH P w D (.str s) (.string s)
 |ck:lH P w D .ck (.slice none 0 0)
 |jk:lH P w D .jk (.pointer none)
 |kf:lH P w D .kf .nilFunc
 |Er (a c):c<=maxLen->lH P w D (.sl []) (.slice a 0 c)
 |sl (rows b o n c sz) (vs:Nat->Nat->Value):rows.length=n->n<=c->c<=maxLen->D b->(∀cs∈rows,cs.length=sz)->(∀cs∈rows,∀a∈cs,a.cell=true)->
   (∀i j,i<n->j<sz->w.cell? ⟨b,o+(i*sz+j),none⟩=some (vs i j))->
   (∀i j cs a,rows[i]? =some cs->cs[j]? =some a->lH P w D a (vs i j))->lH P w D (.sl rows) (.slice (some ⟨b,o,none⟩) n c)
 |dZ (cs b o) (vs:Nat->Value):D b->(∀a∈cs,a.cell=true)->(∀j,j<cs.length->w.cell? ⟨b,o+j,none⟩=some (vs j))->
   (∀j a,cs[j]? =some a->lH P w D a (vs j))->lH P w D (.dZ cs) (.pointer (some ⟨b,o,none⟩))
 |agg (cs) (vs:Array Value) (f:Nat->Value):vs.size=cs.length->(∀a∈cs,a.cell=true)->(∀j,j<cs.length->vs[j]? =some (f j))->(∀j a,cs[j]? =some a->lH P w D a (f j))->lH P w D (.agg cs) (.agg vs)
 |fn (f ea) (vs:Array Value) (g:Nat->Value):iw P f=true->vs.size=ea.length->(∀j,j<ea.length->vs[j]? =some (g j))->(∀j a,ea[j]? =some a->lH P w D a (g j))->lH P w D (.fn f ea) (.func (.func f) #[] vs)
 |kG:lH P w D .kG (.map none)
 |j4:lH P w D .j4 .nilIface
 |err (g t s a c ty):D g->w.cell? ⟨g,0,none⟩=some (.iface t (.pointer (some a)))->D a.block->w.heap[a.block]? =some (.cells c ty (0,0))->w.cell? a=some (.string s)->lH P w D (.err g t s) (.iface t (.pointer (some a)))
inductive BK where
 |map (m:MK)
 |chan (cap:Nat)
structure wv where
 b:Nat
 sz:Nat
 C:Nat
 k:Option BK
abbrev Names:=Id->Option wv
inductive dX (P:Program) (w:World) (D:Nat->Prop) (ι:Names):AV->Value->Prop
 |fw (a v):lH P w D a v->dX P w D ι a v
 |own (id off len o cap B):ι id=some B->B.k=none->len<=cap->(cap=0∨o=off*B.sz)->(off+cap)*B.sz<=B.C->cap<=maxLen->dX P w D ι (.own id off len) (.slice (some ⟨B.b,o,none⟩) len cap)
 |ptr (id i off B):ι id=some B->B.k=none->dX P w D ι (.ptr id i off) (.pointer (some ⟨B.b,i*B.sz+off,none⟩))
 |agg (cs) (vs:Array Value) (f:Nat->Value):vs.size=cs.length->(∀a∈cs,a.cell=true)->(∀j,j<cs.length->vs[j]? =some (f j))->(∀j a,cs[j]? =some a->dX P w D ι a (f j))->dX P w D ι (.agg cs) (.agg vs)
 |gG (cs) (vs:Array Value) (f:Nat->Value):vs.size=cs.length->(∀j,j<cs.length->vs[j]? =some (f j))->(∀j a,cs[j]? =some a->dX P w D ι a (f j))->dX P w D ι (.gG cs) (.tuple vs)
 |fn (f ea) (vs:Array Value) (g:Nat->Value):iw P f=true->vs.size=ea.length->(∀j,j<ea.length->vs[j]? =some (g j))->(∀j a,ea[j]? =some a->dX P w D ι a (g j))->dX P w D ι (.fn f ea) (.func (.func f) #[] vs)
 |uB (id c B):ι id=some B->B.k=some (.chan c)->dX P w D ι (.uB id) (.chan (some B.b))
 |map (id m B):ι id=some B->B.k=some (.map m)->dX P w D ι (.map id m) (.map (some B.b))
 |xH (f ea) (vs:Array Value) (g:Nat->Value):iw P f=true->vs.size=ea.length->(∀j,j<ea.length->vs[j]? =some (g j))->(∀j a,ea[j]? =some a->dX P w D ι a (g j))->dX P w D ι (.xH f ea) (.func (.func f) vs #[])
variable {P:Program} {w w':World} {D D':Nat->Prop} {ι ι':Names}
theorem lH.frame (hD:∀b,D b->w'.heap[b]? =w.heap[b]?) (hs:∀b,D b->D' b) {a:AV} {v:Value} (h:lH P w D a v):lH P w' D' a v:=by
 induction h with
 |int k n=>exact .int k n
 |bool b=>exact .bool b
 |str s=>exact .str s
 |ck=>exact .ck
 |jk=>exact .jk
 |kf=>exact .kf
 |kG=>exact .kG
 |j4=>exact .j4
 |err g t s a c ty h1 h2 h3 h4 h5=>exact .err g t s a c ty (hs g h1) ((World.cell?_of_block (hD g h1)).trans h2) (hs _ h3) ((hD _ h3).trans h4) ((World.cell?_of_block (hD _ h3)).trans h5)
 |Er a c h=>exact .Er a c h
 |sl rows b o n c sz vs h1 h2 h3 h4 h5 h5' h6 _ ih=>exact .sl rows b o n c sz vs h1 h2 h3 (hs b h4) h5 h5' (fun i j hi hj=>(World.cell?_of_block (hD b h4)).trans (h6 i j hi hj)) ih
 |dZ cs b o vs h1 h1' h2 _ ih=>exact .dZ cs b o vs (hs b h1) h1' (fun j hj=>(World.cell?_of_block (hD b h1)).trans (h2 j hj)) ih
 |agg cs vs f h1 h2 h3 _ ih=>exact .agg cs vs f h1 h2 h3 ih
 |fn f ea vs g h1 h2 h3 _ ih=>exact .fn f ea vs g h1 h2 h3 ih
theorem dX.frame (hD:∀b,D b->w'.heap[b]? =w.heap[b]?) (hs:∀b,D b->D' b) (hι:∀id B,ι id=some B->ι' id=some B) {a:AV} {v:Value} (h:dX P w D ι a v):dX P w' D' ι' a v:=by
 induction h with
 |fw a v h=>exact .fw a v (h.frame hD hs)
 |map id m B h1 h2=>exact .map id m B (hι _ _ h1) h2
 |uB id c B h1 h2=>exact .uB id c B (hι _ _ h1) h2
 |own id off len o cap B h1 h2 h3 h4 h5 h6=>exact .own id off len o cap B (hι _ _ h1) h2 h3 h4 h5 h6
 |ptr id i off B h1 h2=>exact .ptr id i off B (hι _ _ h1) h2
 |agg cs vs f h1 h2 h3 _ ih=>exact .agg cs vs f h1 h2 h3 ih
 |gG cs vs f h1 h2 _ ih=>exact .gG cs vs f h1 h2 ih
 |fn f ea vs g h1 h2 h3 _ ih=>exact .fn f ea vs g h1 h2 h3 ih
 |xH f ea vs g h1 h2 h3 _ ih=>exact .xH f ea vs g h1 h2 h3 ih
theorem dX.undef:dX P w D ι .undef Go.undef:=.gG [] #[] (fun _=>Go.undef) rfl (fun j hj=>by simp at hj) (fun j a h=>by simp at h)
theorem Ac (c:K):dX P w D ι c.av c.val:=by
 cases c with
 |int k n=>exact .fw _ _ (.int k n)
 |bool b=>exact .fw _ _ (.bool b)
 |str l=>exact .fw _ _ (.str _)
 |ck=>exact .fw _ _ .ck
 |jk=>exact .fw _ _ .jk
 |kf=>exact .fw _ _ .kf
 |kG=>exact .fw _ _ .kG
 |j4=>exact .fw _ _ .j4
theorem K.pe (c:K):c.av.cell=true:=by cases c<;>rfl
theorem Dr {v:Value} {c:K} (h:KZ v=some c):v=c.val:=by
 unfold KZ at h
 split at h<;>simp at h<;>subst h<;>rfl
theorem dX.EO {a:AV} {v:Value} (h:dX P w D ι a v) (hc:a.cell=true):v.cells= #[v]/\(∀vs,v≠.agg vs)/\(∀vs,v≠.tuple vs):=by
 cases h with
 |fw a v h=>cases h<;>simp_all [AV.cell,Value.cells]
 |own=>simp[Value.cells]
 |map=>simp[Value.cells]
 |uB=>simp[Value.cells]
 |ptr=>simp[Value.cells]
 |agg=>simp[AV.cell]at hc
 |gG=>simp[AV.cell]at hc
 |fn=>simp[Value.cells]
 |xH=>simp[Value.cells]
theorem dX.cells {a:AV} {v:Value} (h:dX P w D ι a v) (ha:a.cells.all AV.cell=true):v.cells.size=a.cells.length/\∃f:Nat->Value,(∀j,j<a.cells.length->v.cells[j]? =some (f j))/\∀j x,a.cells[j]? =some x->dX P w D ι x (f j):=by
 have one:∀(a:AV) (v:Value),a.cell=true->a.cells=[a]->dX P w D ι a v->v.cells.size=a.cells.length/\∃f:Nat->Value,(∀j,j<a.cells.length->v.cells[j]? =some (f j))/\∀j x,a.cells[j]? =some x->dX P w D ι x (f j):=by
  intro a v hc eD h;obtain⟨h1,_,_⟩:=h.EO hc;rw[h1,eD];refine⟨rfl,fun _=>v,fun j hj=>?_,fun j x hx=>?_⟩
  ·have:j=0:=by simp at hj;omega
   subst this;rfl
  ·cases j with
   |zero=>simp at hx;subst hx;exact h
   |succ j=>simp at hx
 cases h with
 |fw a v h=>
  cases h with
  |agg cs vs f h1 h2 h3 h4=>exact⟨h1,f,h3,fun j x hx=>.fw _ _ (h4 j x hx)⟩
  |_=>exact one _ _ rfl rfl (.fw _ _ (by constructor<;>assumption))
 |own id off len o cap B h1 h2 h3 h4 h5 h6=>exact one _ _ rfl rfl (.own id off len o cap B h1 h2 h3 h4 h5 h6)
 |ptr id i off B h1 h2=>exact one _ _ rfl rfl (.ptr id i off B h1 h2)
 |map id m B h1 h2=>exact one _ _ rfl rfl (.map id m B h1 h2)
 |uB id c B h1 h2=>exact one _ _ rfl rfl (.uB id c B h1 h2)
 |agg cs vs f h1 h2 h3 h4=>exact⟨h1,f,h3,h4⟩
 |gG cs vs f h1 h2 h3=>simp[AV.cells,AV.cell]at ha
 |fn f ea vs g h1 h2 h3 h4=>exact one _ _ rfl rfl (.fn f ea vs g h1 h2 h3 h4)
 |xH f ea vs g h1 h2 h3 h4=>exact one _ _ rfl rfl (.xH f ea vs g h1 h2 h3 h4)
structure mi (P:Program) (w:World) (D:Nat->Prop) (ι:Names) (B:wv) (r:Row):Prop where
 sz:B.sz=r.sz
 wc:∃cells T,w.heap[B.b]? =some (.cells cells T (0,0))/\cells.size=B.C
 fits:r.rows.length*r.sz<=B.C
 len:∀cs∈r.rows,cs.length=r.sz
 flat:∀cs∈r.rows,∀a∈cs,a.cell=true
 at_:∀i j cs a,r.rows[i]? =some cs->cs[j]? =some a->∃v,w.cell? ⟨B.b,i*r.sz+j,none⟩=some v/\dX P w D ι a v
def IK (es:Array MapEntry) (clock:Nat):Prop:=(∀x∈es.toList,x.born<clock)/\(es.toList.map (·.born)).Nodup
def Sv (P:Program) (w:World) (D:Nat->Prop) (ι:Names) (B:wv) (m:MK) (r:Row):Prop:=
 ∃(es:Array MapEntry) (clock:Nat),w.heap[B.b]? =some (.map es clock)/\es.size=r.rows.length/\((∀cs∈r.rows,cs.length=m.ks+1)/\IK es clock)/\
  ∀(i:Nat) (cs:List AV),r.rows[i]? =some cs->∃(e:MapEntry) (kv vv:AV),es[i]? =some e/\part m.ka m.ks cs=some kv/\cs[m.ks]? =some vv/\dX P w D ι kv e.key/\dX P w D ι vv e.val
def Ms (P:Program) (w:World) (D:Nat->Prop) (ι:Names) (B:wv) (c:Nat) (r:Row):Prop:=
 ∃(buf:Array Value) (s q:Nat),w.heap[B.b]? =some (.chan c buf false s q false)/\buf.size=r.rows.length/\
  ∀(i:Nat) (cs:List AV),r.rows[i]? =some cs->∃(a:AV) (u:Value),cs=[a]/\buf[i]? =some u/\dX P w D ι a u
structure jl (P:Program) (w:World) (D:Nat->Prop) (ι:Names) (B:wv) (r:Row):Prop where
 sz:B.sz=r.sz
 flat:∀cs∈r.rows,∀a∈cs,a.cell=true
 row:B.k=none->mi P w D ι B r
 map:∀m,B.k=some (.map m)->r.sz=m.j6/\Sv P w D ι B m r
 chan:∀c,B.k=some (.chan c)->r.sz=ET+c/\Ms P w D ι B c r
theorem mi.obj {B:wv} {r:Row} (R:mi P w D ι B r) (h:B.k=none):jl P w D ι B r:=⟨R.sz,R.flat,fun _=>R,fun m hm=>(by rw[h]at hm;cases hm),fun m hm=>by rw[h]at hm;cases hm⟩
theorem jl.flag {B:wv} {r:Row} (R:jl P w D ι B r) (b:Bool):jl P w D ι B {r with w:=b}:=⟨R.sz,R.flat,fun h=>⟨R.sz,(R.row h).wc,(R.row h).fits,(R.row h).len,R.flat,(R.row h).at_⟩,R.map,R.chan⟩
theorem jl.Rs {B:wv} {r:Row} (R:jl P w D ι B r) {c:Array Value} {T:TypeId} {z:Nat×Nat} (h:w.heap[B.b]? =some (.cells c T z)):B.k=none:=by
 cases hk:B.k with
 |none=>rfl
 |some m=>
  cases m with
  |map m=>obtain⟨_,es,c,h3,_⟩:=R.map m hk;rw[h]at h3;cases h3
  |chan c=>obtain⟨_,buf,s,q,h3,_⟩:=R.chan c hk;rw[h]at h3;cases h3
theorem jl.lt {B:wv} {r:Row} (R:jl P w D ι B r):B.b<w.heap.size:=by
 cases h:B.k with
 |none=>
  obtain⟨c,T,h3,_⟩:=(R.row h).wc;exact(Array.getElem?_eq_some_iff.1 h3).1
 |some m=>
  cases m with
  |map m=>obtain⟨_,es,c,h3,_⟩:=R.map m h;exact(Array.getElem?_eq_some_iff.1 h3).1
  |chan c=>obtain⟨_,buf,s,q,h3,_⟩:=R.chan c h;exact(Array.getElem?_eq_some_iff.1 h3).1
structure iE (P:Program) (hs:Nat) (D:Nat->Prop) (ι:Names) (g:Rows) (w:World):Prop where
 lo:hs<=w.heap.size
 dead:∀b,D b->b<w.heap.size
 row:∀id r,g id=some r->∃B,ι id=some B/\jl P w D ι B r/\(r.w=true->hs<=B.b)/\(r.w=true->¬D B.b)
 inj:∀id lP r r' B B',g id=some r->g lP=some r'->r.w=true->ι id=some B->ι lP=some B'->B.b=B'.b->id=lP
def Used (ι:Names) (n:Nat) (U:Nat->Prop):Prop:=∀id,ι id≠none->id.bH<n∨(id.bH=n/\U id.site)
structure Step (hs:Nat) (D:Nat->Prop) (ι:Names) (w:World) (D':Nat->Prop) (ι':Names) (w':World):Prop where
 below:Below hs w w'
 yc:∀b,D b->w'.heap[b]? =w.heap[b]?
 dead:∀b,D b->D' b
 names:∀id B,ι id=some B->ι' id=some B
 new:∀b,D' b->D b∨hs<=b
theorem Step.refl (hs:Nat) (D:Nat->Prop) (ι:Names) (w:World):Step hs D ι w D ι w:=⟨Below.refl _ _,fun _ _=>rfl,fun _ h=>h,fun _ _ h=>h,fun _ h=>.inl h⟩
theorem Step.trans {hs:Nat} {D D' D'':Nat->Prop} {ι ι' ZN:Names} {w w' Qa:World} (h:Step hs D ι w D' ι' w') (k:Step hs D' ι' w' D'' ZN Qa):Step hs D ι w D'' ZN Qa:=
 ⟨h.below.trans k.below,fun b hb=>(k.yc b (h.dead b hb)).trans (h.yc b hb),fun b hb=>k.dead b (h.dead b hb),fun id B hB=>k.names id B (h.names id B hB),fun b hb=>by
  rcases k.new b hb with hb|hb
  ·exact h.new b hb
  ·exact .inr hb⟩
theorem Step.rep {hs:Nat} {D D':Nat->Prop} {ι ι':Names} {w w':World} (h:Step hs D ι w D' ι' w') {a:AV} {v:Value} (hr:dX P w D ι a v):dX P w' D' ι' a v:=hr.frame h.yc h.dead h.names
theorem eh {k n} {v:Value} (h:dX P w D ι (.int k n) v):v=.int k n:=by
 cases h with
 |fw _ _ h=>cases h;rfl
theorem gx {b} {v:Value} (h:dX P w D ι (.bool b) v):v=.bool b:=by
 cases h with
 |fw _ _ h=>cases h;rfl
theorem il {s} {v:Value} (h:dX P w D ι (.str s) v):v=.string s:=by
 cases h with
 |fw _ _ h=>cases h;rfl
theorem j8 {v:Value} (h:dX P w D ι .ck v):v=.slice none 0 0:=by
 cases h with
 |fw _ _ h=>cases h;rfl
theorem Ae {v:Value} (h:dX P w D ι .kf v):v=.nilFunc:=by
 cases h with
 |fw _ _ h=>cases h;rfl
theorem jQ {cs} {v:Value} (h:dX P w D ι (.agg cs) v):∃(vs:Array Value) (f:Nat->Value),v=.agg vs/\vs.size=cs.length/\(∀a∈cs,a.cell=true)/\(∀j,j<cs.length->vs[j]? =some (f j))/\∀j a,cs[j]? =some a->dX P w D ι a (f j):=by
 cases h with
 |fw _ _ h=>
  cases h with
  |agg cs vs f h1 h2 h3 h4=>exact⟨vs,f,rfl,h1,h2,h3,fun j a h=>.fw _ _ (h4 j a h)⟩
 |agg cs vs f h1 h2 h3 h4=>exact⟨vs,f,rfl,h1,h2,h3,h4⟩
theorem yC {cs} {v:Value} (h:dX P w D ι (.gG cs) v):∃(vs:Array Value) (f:Nat->Value),v=.tuple vs/\vs.size=cs.length/\(∀j,j<cs.length->vs[j]? =some (f j))/\∀j a,cs[j]? =some a->dX P w D ι a (f j):=by
 cases h with
 |fw _ _ h=>cases h
 |gG cs vs f h1 h2 h3=>exact⟨vs,f,rfl,h1,h2,h3⟩
theorem w7 {f ea} {v:Value} (h:dX P w D ι (.fn f ea) v):∃(vs:Array Value) (g:Nat->Value),v=.func (.func f) #[] vs/\iw P f=true/\vs.size=ea.length/\(∀j,j<ea.length->vs[j]? =some (g j))/\∀j a,ea[j]? =some a->dX P w D ι a (g j):=by
 cases h with
 |fw _ _ h=>
  cases h with
  |fn f ea vs g h1 h2 h3 h4=>exact⟨vs,g,rfl,h1,h2,h3,fun j a h=>.fw _ _ (h4 j a h)⟩
 |fn f ea vs g h1 h2 h3 h4=>exact⟨vs,g,rfl,h1,h2,h3,h4⟩
theorem OM {v:Value} (h:dX P w D ι .jk v):v=.pointer none:=by
 cases h with
 |fw _ _ h=>cases h;rfl
theorem Gh {v:Value} (h:dX P w D ι .kG v):v=.map none:=by
 cases h with
 |fw _ _ h=>cases h;rfl
theorem Ad {v:Value} (h:dX P w D ι .j4 v):v=.nilIface:=by
 cases h with
 |fw _ _ h=>cases h;rfl
theorem sm {g t s} {v:Value} (h:dX P w D ι (.err g t s) v):∃a c ty,v=.iface t (.pointer (some a))/\D g/\w.cell? ⟨g,0,none⟩=some v/\D a.block/\w.heap[a.block]? =some (.cells c ty (0,0))/\w.cell? a=some (.string s):=by
 cases h with
 |fw _ _ h=>cases h with
  |err _ _ _ a c ty h1 h2 h3 h4 h5=>exact⟨a,c,ty,rfl,h1,h2,h3,h4,h5⟩
theorem RL {f ea} {v:Value} (h:dX P w D ι (.xH f ea) v):∃(vs:Array Value) (g:Nat->Value),v=.func (.func f) vs #[]/\iw P f=true/\vs.size=ea.length/\(∀j,j<ea.length->vs[j]? =some (g j))/\∀j a,ea[j]? =some a->dX P w D ι a (g j):=by
 cases h with
 |fw _ _ h=>cases h
 |xH f ea vs g h1 h2 h3 h4=>exact⟨vs,g,rfl,h1,h2,h3,h4⟩
theorem jR {id off len} {v:Value} (h:dX P w D ι (.own id off len) v):∃o cap B,v=.slice (some ⟨B.b,o,none⟩) len cap/\ι id=some B/\len<=cap/\(cap=0∨o=off*B.sz)/\(off+cap)*B.sz<=B.C/\cap<=maxLen/\B.k=none:=by
 cases h with
 |fw _ _ h=>cases h
 |own id off len o cap B h1 h2 h3 h4 h5 h6=>exact⟨o,cap,B,rfl,h1,h3,h4,h5,h6,h2⟩
theorem jG {id i off} {v:Value} (h:dX P w D ι (.ptr id i off) v):∃B,v=.pointer (some ⟨B.b,i*B.sz+off,none⟩)/\ι id=some B/\B.k=none:=by
 cases h with
 |fw _ _ h=>cases h
 |ptr id i off B h1 h2=>exact⟨B,rfl,h1,h2⟩
theorem RJ {id} {v:Value} (h:dX P w D ι (.uB id) v):∃B c,v=.chan (some B.b)/\ι id=some B/\B.k=some (.chan c):=by
 cases h with
 |fw _ _ h=>cases h
 |uB id c B h1 h2=>exact⟨B,c,rfl,h1,h2⟩
theorem DO {id m} {v:Value} (h:dX P w D ι (.map id m) v):∃B,v=.map (some B.b)/\ι id=some B/\B.k=some (.map m):=by
 cases h with
 |fw _ _ h=>cases h
 |map id m B h1 h2=>exact⟨B,rfl,h1,h2⟩
theorem nu {cs} {v:Value} (h:dX P w D ι (.dZ cs) v):∃b o,∃vs:Nat->Value,v=.pointer (some ⟨b,o,none⟩)/\D b/\(∀a∈cs,a.cell=true)/\(∀j,j<cs.length->w.cell? ⟨b,o+j,none⟩=some (vs j))/\∀j a,cs[j]? =some a->lH P w D a (vs j):=by
 cases h with
 |fw _ _ h=>
  cases h with
  |dZ cs b o vs h1 h2 h3 h4=>exact⟨b,o,vs,rfl,h1,h2,h3,h4⟩
theorem Af {rows} {v:Value} (h:dX P w D ι (.sl rows) v):∃A c,v=.slice A rows.length c/\rows.length<=c/\c<=maxLen/\
  (rows=[]∨∃b o sz,∃vs:Nat->Nat->Value,A=some ⟨b,o,none⟩/\D b/\(∀cs∈rows,cs.length=sz)/\(∀cs∈rows,∀a∈cs,a.cell=true)/\
   (∀i j,i<rows.length->j<sz->w.cell? ⟨b,o+(i*sz+j),none⟩=some (vs i j))/\∀i j cs a,rows[i]? =some cs->cs[j]? =some a->lH P w D a (vs i j)):=by
 cases h with
 |fw _ _ h=>
  cases h with
  |Er a c h=>exact⟨a,c,rfl,Nat.zero_le _,h,.inl rfl⟩
  |sl rows b o n c sz vs h1 h2 h3 h4 h5 h5' h6 h7=>subst h1;exact⟨_,c,rfl,h2,h3,.inr ⟨b,o,sz,vs,rfl,h4,h5,h5',h6,h7⟩⟩
inductive fU:AV->Prop
 |int (k n):fU (.int k n)
 |bool (b):fU (.bool b)
 |str (s):fU (.str s)
 |ck:fU .ck
 |jk:fU .jk
 |kf:fU .kf
 |sl (rows):rows.length<=maxLen->(∀cs∈rows,∀a∈cs,fU a)->fU (.sl rows)
 |own (id off len):fU (.own id off len)
 |ptr (id i off):fU (.ptr id i off)
 |dZ (cs):(∀a∈cs,fU a)->fU (.dZ cs)
 |agg (cs):(∀a∈cs,fU a)->fU (.agg cs)
 |gG (cs):(∀a∈cs,fU a)->fU (.gG cs)
 |fn (f ea):(∀a∈ea,fU a)->fU (.fn f ea)
 |map (id m):fU (.map id m)
 |uB (id):fU (.uB id)
 |kG:fU .kG
 |j4:fU .j4
 |err (g t s):fU (.err g t s)
 |xH (f ea):(∀a∈ea,fU a)->fU (.xH f ea)
theorem fU.len {rows:List (List AV)} (h:fU (.sl rows)):rows.length<=9223372036854775807:=by
 cases h with
 |sl _ h _=>unfold maxLen at h;omega
theorem fU.TY {cs:List AV} (h:fU (.agg cs)) {a:AV} (ha:a∈cs):fU a:=by
 cases h with
 |agg _ h=>exact h a ha
theorem fU.FF {cs:List AV} (h:fU (.dZ cs)) {a:AV} (ha:a∈cs):fU a:=by
 cases h with
 |dZ _ h=>exact h a ha
theorem rh {l:List AV} {p:AV->Prop} (h:∀(j:Nat) (a:AV),l[j]? =some a->p a):∀a∈l,p a:=fun a ha=>by
 obtain⟨j,hj,rfl⟩:=List.getElem_of_mem ha;exact h j _ (List.getElem?_eq_getElem hj)
theorem lH.Oh {a:AV} {v:Value} (h:lH P w D a v):fU a:=by
 induction h with
 |int k n=>exact .int k n
 |bool b=>exact .bool b
 |str s=>exact .str s
 |ck=>exact .ck
 |jk=>exact .jk
 |kf=>exact .kf
 |kG=>exact .kG
 |j4=>exact .j4
 |err g t s=>exact .err g t s
 |Er a c h=>exact .sl [] (Nat.zero_le _) (fun cs h=>by cases h)
 |sl rows b o n c sz vs h1 h2 h3 h4 h5 h5' h6 _ ih=>
  exact .sl rows ae fun cs eD a ha=>by
   obtain⟨i,hi,rfl⟩:=List.getElem_of_mem eD;obtain⟨j,hj,rfl⟩:=List.getElem_of_mem ha;exact ih i j _ _ (List.getElem?_eq_getElem hi) (List.getElem?_eq_getElem hj)
 |dZ cs b o vs h1 h1' h2 _ ih=>exact .dZ cs (rh ih)
 |agg cs vs f h1 h2 h3 _ ih=>exact .agg cs (rh ih)
 |fn f ea vs g h1 h2 h3 _ ih=>exact .fn f ea (rh ih)
theorem dX.Oh {a:AV} {v:Value} (h:dX P w D ι a v):fU a:=by
 induction h with
 |fw a v h=>exact h.Oh
 |own id off len o cap B=>exact .own _ _ _
 |ptr id i off B=>exact .ptr _ _ _
 |map id m B=>exact .map _ _
 |uB id c B=>exact .uB _
 |agg cs vs f h1 h2 h3 _ ih=>exact .agg cs (rh ih)
 |gG cs vs f h1 h2 _ ih=>exact .gG cs (rh ih)
 |fn f ea vs g h1 h2 h3 _ ih=>exact .fn f ea (rh ih)
 |xH f ea vs g h1 h2 h3 _ ih=>exact .xH f ea (rh ih)
end V

namespace V
open Go.RowKit
variable {P:Program} {w w':World} {D D':Nat->Prop} {ι ι':Names}
def dR (P:Program) (w:World) (D:Nat->Prop) (ι:Names) (env:Env) (a:Act):Prop:=∀t,dX P w D ι (env t) (a.tmps.getD t undef)
theorem u9 {vs:List Value} {cs:List K} (h:vs.mapM KZ=some cs):cs.length=vs.length/\∀(j:Nat) (c:K),cs[j]? =some c->vs[j]? =some c.val:=by
 induction vs generalizing cs with
 |nil=>simp at h;subst h;simp
 |cons v r ih=>
  simp only[List.mapM_cons,Option.bind_eq_bind,Option.bind_eq_some_iff]at h;obtain⟨c,hc,uD,eD,h⟩:=h
  simp at h;subst h
  obtain⟨h1,h2⟩:=ih eD;refine⟨by simp[h1],fun j d hd=>?_⟩
  cases j with
  |zero=>simp at hd ⊢;subst hd;exact Dr hc
  |succ j=>simp at hd ⊢;exact h2 j d hd
theorem kAgg {vs:List Value} {cs:List K} (h:vs.mapM KZ=some cs):dX P w D ι (.agg (cs.map K.av)) (.agg vs.toArray):=by
 obtain⟨h1,h2⟩:=u9 h;refine .agg _ _ (fun j=>vs.getD j undef) (by simp[h1]) (fun a ha=>?_) (fun j hj=>?_) (fun j a ha=>?_)
 ·obtain⟨c,_,rfl⟩:=List.mem_map.1 ha;exact c.pe
 ·simp at hj;simp[List.getElem?_eq_getElem (show j<vs.length by omega)]
 ·simp only[List.getElem?_map,Option.map_eq_some_iff]at ha;obtain⟨c,hc,rfl⟩:=ha;rw[List.getD_eq_getElem?_getD,h2 j c hc];exact Ac c
theorem eo {env:Env} {a:Act} {x:Operand} {y:O} (E:dR P w D ι env a) (h:cO P x=some y):dX P w D ι (dq env y) (a.eval x):=by
 unfold cO at h
 split at h
 ·simp at h;subst h;exact E _
 ·simp only[Option.map_eq_some_iff]at h;obtain⟨cs,eD,rfl⟩:=h;have:=kAgg (P:=P) (w:=w) (D:=D) (ι:=ι) eD
  simpa[Act.eval,dq]using this
 ·simp only[Option.map_eq_some_iff]at h;obtain⟨c,hc,rfl⟩:=h;simp only[Act.eval,dq];rw[Dr hc];exact Ac c
 ·simp at h
 ·split at h
  ·rename_i hc
   simp at h;subst h
   simp only[Act.eval,dq];exact .fn _ _ _ (fun _=>undef) hc rfl (fun j hj=>by simp at hj) (fun j a h=>by simp at h)
  ·simp at h
def qv (P:Program) (a:Act) (o:Oper) (w:World) (D:Nat->Prop) (ι:Names) (v:AV):Prop:=∃u,(execOp a.eval o).run P w=.ok (.value u) w/\dX P w D ι v u
section
variable {g:Rows} {hs:Nat} {env:Env} {a:Act} {o:Oper} {id:Id} {v:AV}
theorem TG {x:Operand} {y:O} (E:dR P w D ι env a) (ho:o.op=.move x∨o.op=.assign x) (hx:cO P x=some y):qv P a o w D ι (dq env y):=by
 refine⟨a.eval x,?_,eo E hx⟩
 rcases ho with h|h<;>simp[execOp,h,go_sem]
theorem Wc {c x y:Operand} {c' x' y':O} (E:dR P w D ι env a) (ho:o.op=.pick c x y) (hc:cO P c=some c') (hx:cO P x=some x') (hy:cO P y=some y') (hv:cP (dq env c') (dq env x') (dq env y')=some v):qv P a o w D ι v:=by
 unfold cP at hv
 split at hv
 ·rename_i b hb
  simp at hv;subst hv
  have h1:=gx (hb▸eo E hc);refine⟨if b then a.eval x else a.eval y,by simp only[execOp,ho,h1,asBool];rfl,?_⟩
  cases b
  ·exact eo E hy
  ·exact eo E hx
 ·simp at hv
theorem ZD {op:BinOp} {x y:Operand} {x' y':O} {t yt:TypeId} (E:dR P w D ι env a) (ho:o.op=.binOp op t x y yt) (he:op≠.eql) (hn:op≠.neq) (hx:cO P x=some x') (hy:cO P y=some y') (hv:dF op (dq env x') (dq env y')=some v):qv P a o w D ι v:=by
 unfold dF at hv
 split at hv
 ·rename_i k n k' m hb BI
  split at hv
  ·rename_i hk;subst hk;have h1:=eh (hb▸eo E hx);have h2:=eh (BI▸eo E hy)
   have key:∀u,(binOp op t (.int k n) (.int k m)).run P w=.ok u w->(execOp a.eval o).run P w=.ok (.value u) w:=fun u hu=>by
    have e0:eqGuard op t x y (.int k n) (.int k m)=pure ():=by unfold eqGuard;cases op<;>rfl
    simp only[execOp,ho,h1,h2,e0];simp[go_sem,hu]
   cases op<;>simp only[dz]at hv<;>(try(simp at hv;done))<;>(try split at hv)<;>(try(simp at hv;done))<;>simp only[Option.some.injEq]at hv<;>subst hv<;>
    (refine⟨_,key _ (by simp only[binOp,ne_eq,not_true_eq_false,if_false,Op.intArith,Op.intDiv,Op.intBits,Op.intCmp, *];rfl),?_⟩)<;>
    first
     |exact .fw _ _ (.int _ _)
     |exact .fw _ _ (.bool _)
  ·simp at hv
 ·simp at hv
theorem VX {op:BinOp} {x y:Operand} {x' y':O} {t yt:TypeId} (E:dR P w D ι env a) (ho:o.op=.binOp op t x y yt) (he:op≠.eql) (hn:op≠.neq) (hx:cO P x=some x') (hy:cO P y=some y') (hv:cQ op (dq env x') (dq env y')=some v):qv P a o w D ι v:=by
 unfold cQ at hv
 split at hv
 ·rename_i n m hb BI;have h1:=il (hb▸eo E hx);have h2:=il (BI▸eo E hy)
  cases op<;>simp only[dP]at hv<;>(try(simp at hv;done))
  case add=>
   split at hv
   ·rename_i hl;simp only[Option.some.injEq]at hv;subst hv;exact⟨_,by simp only[execOp,ho,h1,h2];simp[eqGuard,binOp,go_sem];exact hl,.fw _ _ (.str _)⟩
   ·simp at hv
  all_goals
   simp only[Option.some.injEq]at hv;subst hv;exact⟨_,by simp only[execOp,ho,h1,h2];simp[eqGuard,binOp,Op.stringOp,go_sem],.fw _ _ (.bool _)⟩
 ·simp at hv
theorem JL (n m:ByteArray):(n.toList==m.toList)=decide (n=m):=by
 rw[ByteArray.toList_eq,ByteArray.toList_eq]
 by_cases h:n=m
 ·subst h;simp
 ·have:n.data.toList≠m.data.toList:=fun he=>h (ByteArray.ext (Array.ext' he));rw[decide_eq_false h];exact beq_eq_false_iff_ne.2 this
theorem sr {t:TypeId} (h:gR P t=some .tB):P.underlying t=some .bool:=by unfold gR at h;split at h<;>simp_all
theorem sx {t:TypeId} (h:gR P t=some .tI):∃k,P.underlying t=some (.int k):=by unfold gR at h;split at h<;>simp_all
theorem sC {t:TypeId} (h:gR P t=some .tS):P.underlying t=some .string:=by unfold gR at h;split at h<;>simp_all
theorem vJ {d:Nat} {t:TypeId} {s:TS} {x y:AV} {u u':Value} {b:Bool} (hx:dX P w D ι x u) (hy:dX P w D ι y u') (hv:e8 s x y=some b) (ht:gR P t=some s):(Op.equalIn (d+1) t u u').run P w=.ok b w:=by
 unfold e8 at hv
 split at hv
 ·rename_i k n k' m
  split at hv
  ·rename_i hk;subst hk
   simp at hv;subst hv
   obtain⟨q,hq⟩:=sx ht;rw[eh hx,eh hy,run_equalIn_int _ _ _ _ _ _ _ hq];rfl
  ·simp at hv
 ·simp at hv;subst hv
  rw[gx hx,gx hy,run_equalIn_bool' _ _ _ _ _ (sr ht)]
 ·simp at hv;subst hv
  rw[il hx,il hy,run_equalIn_string _ _ _ _ _ (sC ht),JL]
 ·simp at hv
def gI (P:Program) (w:World) (D:Nat->Prop) (ι:Names) (xs:List AV) (vs:Array Value):Prop:=vs.size=xs.length/\∀(j:Nat) (a:AV),xs[j]? =some a->∃u,vs[j]? =some u/\dX P w D ι a u
theorem gI.part {xs:List AV} {vs:Array Value} (h:gI P w D ι xs vs) (off n:Nat) (hn:off+n<=xs.length):gI P w D ι ((xs.drop off).take n) (vs.extract off (off+n)):=by
 refine⟨by simp[h.1];omega,fun j a ha=>?_⟩;rw[List.getElem?_take]at ha
 split at ha
 ·rename_i hj;rw[List.getElem?_drop]at ha;obtain⟨u,h1,h2⟩:=h.2 _ _ ha;refine⟨u,?_,h2⟩;rw[Array.getElem?_extract];rw[if_pos (by rw[h.1];omega),h1]
 ·simp at ha
theorem uH:∀{ts:List TS} {xs ys:List AV} {b:Bool},eF ts xs ys=some b->xs.length=ts.length/\ys.length=ts.length
 |[],[],[],_,_=>⟨rfl,rfl⟩
 |t::ts,x::xs,y::ys,b,h=>by
  unfold eF at h
  split at h
  ·rename_i c d h1 h2;have:=uH h2;simp[this.1,this.2]
  ·simp at h
 |[],[],_::_,_,h=>by simp[eF]at h
 |[],_::_,_,_,h=>by simp[eF]at h
 |_::_,[],_,_,h=>by simp[eF]at h
 |_::_,_::_,[],_,h=>by simp[eF]at h
theorem I5:∀{ts us:List TS} {xs ys:List AV} {b:Bool},eF (ts++us) xs ys=some b->∃c d,eF ts (xs.take ts.length) (ys.take ts.length)=some c/\eF us (xs.drop ts.length) (ys.drop ts.length)=some d/\b=(c&&d)
 |[],us,xs,ys,b,h=>⟨true,b,by simp[eF],by simpa using h,by simp⟩
 |t::ts,us,x::xs,y::ys,b,h=>by
  simp only[List.cons_append]at h;unfold eF at h
  split at h
  ·rename_i c d h1 h2;obtain⟨c',d',h3,h4,rfl⟩:=I5 h2
   simp at h;subst h
   exact⟨c&&c',d',by simp[eF,h1,h3],by simpa using h4,by simp[Bool.and_assoc]⟩
  ·simp at h
 |t::ts,us,[],ys,b,h=>by simp[eF]at h
 |t::ts,us,x::xs,[],b,h=>by simp[eF]at h
theorem oQ {t:TypeId} {vs:Array Value} {off:Nat} {u:Value} (ha:oE P t=some false) (hu:vs[off]? =some u):(Go.part t vs off).run P w=.ok u w:=by
 unfold oE at ha
 have hi:(isAgg t).run P w=.ok false w:=by
  split at ha<;>simp at ha
  rename_i d h1 h2 hd;simp only[isAgg,Sem.run_bind,run_underlying hd,Result.andThen_ok]
  cases d<;>simp_all
 simp[Go.part,hi,hu]
theorem w8 {t:TypeId} {b:Bool} (ha:oE P t=some b):(isAgg t).run P w=.ok b w:=by
 unfold oE at ha
 split at ha<;>simp at ha<;>subst ha<;>rename_i hd<;>simp only[isAgg,Sem.run_bind,run_underlying hd,Result.andThen_ok]<;>(try simp)
theorem run_sizeOf {t:TypeId} {n:Nat} (h:fe P t=some n):(sizeOf t).run P w=.ok n w:=by
 unfold fe at h;simp only[Option.map_eq_some_iff]at h;obtain⟨i,hi,rfl⟩:=h;simp[sizeOf,typeInfo,hi]
theorem sq {t:TypeId} {vs:Array Value} {off n:Nat} (ha:oE P t=some true) (hn:fe P t=some n):(Go.part t vs off).run P w=.ok (.agg (vs.extract off (off+n))) w:=by
 simp[Go.part,w8 ha,run_sizeOf hn]
theorem Nd (d off:Nat):fN P (d+1) off []=some []:=rfl
theorem BA (d off:Nat) (f:Field) (r:List Field):fN P (d+1) off (f::r)=(if f.offset=off/\f.name≠ "_" then
   match gR P f.type with
   |some t=>if oE P f.type=some false then(fN P (d+1) (off+1) r).map (t::·)else none
   |none=>match P.underlying f.type with
    |some (.struct fs)=>if !P.stoodInHeld f.type then match fN P d 0 fs.toList with
     |some ts=>if fe P f.type=some ts.length/\ts≠[]then(fN P (d+1) (off+ts.length) r).map (ts++·)else none
     |none=>none else none
    |_=>none
  else none):=rfl
theorem vI:∀(d:Nat) (fs:List Field) (off:Nat) (ts:List TS),fN P d off fs=some ts->∀(N:Nat) (_:d<=N) (xs ys:List AV) (vs us:Array Value) (b:Bool),gI P w D ι xs vs->gI P w D ι ys us->
  eF ts ((xs.drop off).take ts.length) ((ys.drop off).take ts.length)=some b->(Op.eqFields (N+1) vs us fs).run P w=.ok b w:=by
 intro d
 induction d with
 |zero=>
  intro fs off ts hf N _ xs ys vs us b _ _ he
  cases fs with
  |nil=>simp[fN]at hf;subst hf;simp[eF]at he;subst he;simp[Op.eqFields]
  |cons f r=>simp[fN]at hf
 |succ d ihd=>
  intro fs
  induction fs with
  |nil=>
   intro off ts hf N _ xs ys vs us b _ _ he;rw[Nd]at hf;simp at hf;subst hf;simp[eF]at he;subst he;simp[Op.eqFields]
  |cons f r ih=>
   intro off ts hf N hN xs ys vs us b hx hy he;rw[BA]at hf
   split at hf
   ·rename_i hcond;obtain⟨ho,ju⟩:=hcond
    split at hf
    ·rename_i s hs
     split at hf
     ·rename_i sX;simp only[Option.map_eq_some_iff]at hf;obtain⟨P9,hr,rfl⟩:=hf;obtain⟨l1,l2⟩:=uH he;simp only[List.length_cons,List.length_take,List.length_drop]at l1 l2;have uV:off<xs.length:=ae;have hyo:off<ys.length:=ae;rw[List.drop_eq_getElem_cons uV,List.drop_eq_getElem_cons hyo,List.length_cons,List.take_succ_cons,List.take_succ_cons]at he;unfold eF at he
      split at he
      ·rename_i c d' h1 h2
       simp at he;subst he
       obtain⟨u,hu,ru⟩:=hx.2 off _ (List.getElem?_eq_getElem uV);obtain⟨u',Ve,ru'⟩:=hy.2 off _ (List.getElem?_eq_getElem hyo);have:=ih (off+1) P9 hr N hN xs ys vs us d' hx hy h2;simp only[Op.eqFields,if_pos ju,Sem.run_bind,ho,oQ sX hu,oQ sX Ve,Result.andThen_ok,vJ ru ru' h1 hs,Sem.run_ite]
       cases c<;>simp[this]
      ·simp at he
     ·simp at hf
    ·split at hf
     ·rename_i fs' uP
      split at hf
      ·rename_i ez
       split at hf
       ·rename_i ts1 hts1
        split at hf
        ·rename_i eT;simp only[Option.map_eq_some_iff]at hf;obtain⟨P9,hr,rfl⟩:=hf;obtain⟨c,d',h1,h2,rfl⟩:=I5 he;obtain⟨l1,l2⟩:=uH he;simp only[List.length_append,List.length_take,List.length_drop]at l1 l2;have sX:oE P f.type=some true:=by simp[oE,uP]
         have oe:0<ts1.length:=List.length_pos_iff.2 eT.2;have Eo:off+ts1.length<=xs.length:=ae;have hy1:off+ts1.length<=ys.length:=ae;rw[List.drop_take,List.drop_drop,List.drop_take,List.drop_drop]at h2;rw[List.take_take,List.take_take]at h1;simp only[List.length_append]at h1 h2;rw[Nat.min_eq_left ae]at h1;have e2:ts1.length+P9.length-ts1.length=P9.length:=ae;rw[e2]at h2;have:=ih (off+ts1.length) P9 hr N hN xs ys vs us d' hx hy h2;have jI:=ihd fs'.toList 0 ts1 hts1 (N-1) ae _ _ _ _ c (hx.part off ts1.length Eo) (hy.part off ts1.length hy1) (by simpa[List.take_take]using h1);have hN':N-1+1=N:=ae;rw[hN']at jI;have NA:P.fieldsOf f.type=fs':=by simp[Program.fieldsOf,uP]
         simp only[Op.eqFields,if_pos ju,Sem.run_bind,ho,sq sX eT.1,Result.andThen_ok,Sem.run_ite];rw[run_equalIn_struct w N f.type _ _ (by rw[NA];exact uP) (by simpa using ez),NA,jI]
         cases c<;>simp[this]
        ·simp at hf
       ·simp at hf
      ·simp at hf
     ·simp at hf
   ·simp at hf
theorem ZH {x y:Operand} {x' y':O} {t yt:TypeId} {neg:Bool} {s:TS} {b:Bool} (E:dR P w D ι env a) (ho:o.op=.binOp (if neg then .neq else .eql) t x y yt) (hs:gR P t=some s) (hx:cO P x=some x') (hy:cO P y=some y')
  (hv:e8 s (dq env x') (dq env y')=some b):qv P a o w D ι (.bool (dh neg b)):=by
 have rx:=eo E hx;have ry:=eo E hy;refine⟨.bool (dh neg b),?_,.fw _ _ (.bool _)⟩
 have e0:(eqGuard (if neg then .neq else .eql) t x y (a.eval x) (a.eval y)).run P w=.ok () w:=by
  unfold e8 at hv
  split at hv
  ·rename_i k n k' m h1 h2;rw[h1]at rx;rw[h2]at ry;rw[eh rx,eh ry];unfold eqGuard;cases neg<;>simp
  ·rename_i n m h1 h2;rw[h1]at rx;rw[h2]at ry;rw[gx rx,gx ry];unfold eqGuard;cases neg<;>simp
  ·rename_i n m h1 h2;rw[h1]at rx;rw[h2]at ry;rw[il rx,il ry];unfold eqGuard;cases neg<;>simp
  ·simp at hv
 have e1:(binOp (if neg then .neq else .eql) t (a.eval x) (a.eval y)).run P w=.ok (.bool (dh neg b)) w:=by
  have q:=vJ (d:=9999) rx ry hv hs;unfold e8 at hv
  split at hv
  ·rename_i k n k' m h1 h2
   split at hv
   ·rename_i hk;subst hk
    simp at hv;subst hv
    rw[h1]at rx;rw[h2]at ry;rw[eh rx,eh ry]
    cases neg<;>simp only[binOp,ne_eq,not_true_eq_false,if_false,Op.intCmp,dh,if_true,Bool.false_eq_true]<;>simp[bne]<;>rfl
   ·simp at hv
  ·rename_i n m h1 h2;rw[h1]at rx;rw[h2]at ry;rw[gx rx,gx ry]at q ⊢
   cases neg<;>simp only[binOp,dh,if_true,Bool.false_eq_true,if_false,Sem.run_bind]<;>simp[Op.equal,Op.maxDepth,q]
  ·rename_i n m h1 h2
   simp at hv;subst hv
   rw[h1]at rx;rw[h2]at ry;rw[il rx,il ry]
   cases neg<;>simp[binOp,Op.stringOp,dh,JL]
  ·simp at hv
 simp only[execOp,ho,Sem.run_bind,e0,e1,Result.andThen_ok,Sem.run_pure]
theorem ZF {x y:Operand} {x' y':O} {t yt:TypeId} {neg:Bool} {ts:List TS} {fs:Array Field} {xs ys:List AV} {b:Bool} (E:dR P w D ι env a) (ho:o.op=.binOp (if neg then .neq else .eql) t x y yt) (uP:P.underlying t=some (.struct fs)) (ez:P.stoodInHeld t=false) (QT:P.eqGuardType P.depth t=false)
  (Em:fN P 4 0 fs.toList=some ts) (hx:cO P x=some x') (hy:cO P y=some y') (h1:dq env x'=.agg xs) (h2:dq env y'=.agg ys)
  (hv:eF ts xs ys=some b):qv P a o w D ι (.bool (dh neg b)):=by
 obtain⟨vs,f,rx,n1,_,f1,r1⟩:=jQ (h1▸eo E hx);obtain⟨us,f',ry,n2,_,f2,r2⟩:=jQ (h2▸eo E hy);refine⟨.bool (dh neg b),?_,.fw _ _ (.bool _)⟩;obtain⟨l1,l2⟩:=uH hv
 have L:∀(xs:List AV) (vs:Array Value) (f:Nat->Value),vs.size=xs.length->(∀j,j<xs.length->vs[j]? =some (f j))->(∀j a,xs[j]? =some a->dX P w D ι a (f j))->gI P w D ι xs vs:=fun xs vs f h1 h2 h3=>
  ⟨h1,fun j a ha=>⟨f j,h2 j (List.getElem?_eq_some_iff.1 ha).1,h3 j a ha⟩⟩
 have q:=vI (w:=w) 4 fs.toList 0 ts Em 9998 ae xs ys vs us b (L _ _ _ n1 f1 r1) (L _ _ _ n2 f2 r2) (by simpa[List.take_of_length_le,l1,l2]using hv);have NA:P.fieldsOf t=fs:=by simp[Program.fieldsOf,uP]
 have q2:(Op.equal t (.agg vs) (.agg us)).run P w=.ok b w:=by
  unfold Op.equal;rw[show Op.maxDepth=9999+1 from rfl,run_equalIn_struct w 9999 t _ _ (by rw[NA];exact uP) ez,NA,q]
 simp only[execOp,ho,Sem.run_bind,rx,ry,run_eqGuard_agg w _ _ _ _ _ _ QT,Result.andThen_ok]
 cases neg<;>simp[binOp,q2,dh]
theorem V0 {x:Operand} {x':O} {t yt e:TypeId} {neg:Bool} {b:Bool} (E:dR P w D ι env a) (ho:o.op=.binOp (if neg then .neq else .eql) t x (.const (.slice none 0 0)) yt) (ht:P.underlying t=some (.slice e)) (hx:cO P x=some x')
  (hv:cM (dq env x')=some b):qv P a o w D ι (.bool (dh neg b)):=by
 have hr:=eo E hx
 have rx:∃A n c,a.eval x=.slice A n c/\b=A.isNone:=by
  unfold cM at hv
  split at hv<;>simp at hv<;>subst hv<;>rename_i hh
  ·rw[hh]at hr;exact⟨_,_,_,j8 hr,rfl⟩
  ·rw[hh]at hr;obtain⟨o,cap,B,h,_⟩:=jR hr;exact⟨_,_,_,h,rfl⟩
  ·rw[hh]at hr;obtain⟨A,c,h',_,_,h⟩:=Af hr
   rcases h with h|⟨b,o,sz,vs,rfl,_⟩
   ·simp at h
   ·exact⟨_,_,_,h',rfl⟩
 refine⟨.bool (dh neg b),?_,.fw _ _ (.bool _)⟩;obtain⟨A,n,c,h,rfl⟩:=rx
 have hq:(Op.equal t (.slice A n c) (.slice none 0 0)).run P w=.ok A.isNone w:=by
  unfold Op.equal;rw[show Op.maxDepth=9999+1 from rfl,Op.equalIn];simp only[Sem.run_bind,run_underlying ht,Result.andThen_ok]
  cases A<;>rfl
 have hc:a.eval (.const (.slice none 0 0))=.slice none 0 0:=rfl;simp only[execOp,ho,h,hc]
 cases neg<;>simp only[Bool.false_eq_true,if_false,if_true,Bool.not_true,Bool.not_false,eqGuard,binOp,dh,Sem.run_bind,hq,Result.andThen_ok,Sem.run_pure]
theorem ZG {x:Operand} {x':O} {t yt e:TypeId} {neg:Bool} {b:Bool} (E:dR P w D ι env a) (ho:o.op=.binOp (if neg then .neq else .eql) t x (.const (.pointer none)) yt) (ht:P.underlying t=some (.pointer e)) (hx:cO P x=some x')
  (hv:Pp (dq env x')=some b):qv P a o w D ι (.bool (dh neg b)):=by
 have hr:=eo E hx
 have rx:∃A,a.eval x=.pointer A/\b=A.isNone:=by
  unfold Pp at hv
  split at hv<;>simp at hv<;>subst hv<;>rename_i hh
  ·rw[hh]at hr;exact⟨_,OM hr,rfl⟩
  ·rw[hh]at hr;obtain⟨B,h,_⟩:=jG hr;exact⟨_,h,rfl⟩
  ·rw[hh]at hr;obtain⟨_,_,_,h,_⟩:=nu hr;exact⟨_,h,rfl⟩
 refine⟨.bool (dh neg b),?_,.fw _ _ (.bool _)⟩;obtain⟨A,h,rfl⟩:=rx
 have hq:(Op.equal t (.pointer A) (.pointer none)).run P w=.ok A.isNone w:=by
  unfold Op.equal;rw[show Op.maxDepth=9999+1 from rfl,Op.equalIn];simp only[Sem.run_bind,run_underlying ht,Result.andThen_ok]
  cases A<;>rfl
 have hc:a.eval (.const (.pointer none))=.pointer none:=rfl;simp only[execOp,ho,h,hc]
 cases neg<;>simp only[Bool.false_eq_true,if_false,if_true,Bool.not_true,Bool.not_false,eqGuard,binOp,dh,Sem.run_bind,hq,Result.andThen_ok,Sem.run_pure]
theorem VZ {x:Operand} {x':O} {t yt:TypeId} {p r:Array TypeId} {va:Bool} {neg:Bool} {b:Bool} (E:dR P w D ι env a) (ho:o.op=.binOp (if neg then .neq else .eql) t x (.const .nilFunc) yt) (ht:P.underlying t=some (.func p r va)) (hx:cO P x=some x')
  (hv:cL (dq env x')=some b):qv P a o w D ι (.bool (dh neg b)):=by
 have hr:=eo E hx
 have rx:a.eval x=.nilFunc/\b=true∨∃f c,a.eval x=.func f #[] c/\b=false:=by
  unfold cL at hv
  split at hv<;>simp at hv<;>subst hv<;>rename_i hh
  ·rw[hh]at hr;exact .inl ⟨Ae hr,rfl⟩
  ·rw[hh]at hr;obtain⟨vs,g,h,_⟩:=w7 hr;exact .inr ⟨_,_,h,rfl⟩
 refine⟨.bool (dh neg b),?_,.fw _ _ (.bool _)⟩;have hc:a.eval (.const .nilFunc)=.nilFunc:=rfl
 rcases rx with⟨h,rfl⟩|⟨f,c,h,rfl⟩
 ·have hq:(Op.equal t .nilFunc .nilFunc).run P w=.ok true w:=by
   unfold Op.equal;rw[show Op.maxDepth=9999+1 from rfl,Op.equalIn];simp only[Sem.run_bind,run_underlying ht,Result.andThen_ok]
   rfl
  simp only[execOp,ho,h,hc]
  cases neg<;>simp only[Bool.false_eq_true,if_false,if_true,Bool.not_true,Bool.not_false,eqGuard,binOp,dh,Sem.run_bind,hq,Result.andThen_ok,Sem.run_pure]
 ·have hq:(Op.equal t (.func f #[] c) .nilFunc).run P w=.ok false w:=by
   unfold Op.equal;rw[show Op.maxDepth=9999+1 from rfl,Op.equalIn];simp only[Sem.run_bind,run_underlying ht,Result.andThen_ok]
   rfl
  simp only[execOp,ho,h,hc]
  cases neg<;>simp only[Bool.false_eq_true,if_false,if_true,Bool.not_true,Bool.not_false,eqGuard,binOp,dh,Sem.run_bind,hq,Result.andThen_ok,Sem.run_pure]
theorem ZK {x:Operand} {x':O} {t:TypeId} (E:dR P w D ι env a) (ho:o.op=.unOp .not t x) (hx:cO P x=some x') (hv:dJ (dq env x')=some v):qv P a o w D ι v:=by
 have hr:=eo E hx;unfold dJ at hv
 split at hv
 ·rename_i b hb
  simp at hv;subst hv
  rw[hb]at hr;exact⟨_,by simp only[execOp,ho,gx hr];rfl,.fw _ _ (.bool _)⟩
 ·simp at hv
theorem ZJ {x:Operand} {x':O} {t:TypeId} (E:dR P w D ι env a) (ho:o.op=.unOp .neg t x) (hx:cO P x=some x') (hv:dH (dq env x')=some v):qv P a o w D ι v:=by
 have hr:=eo E hx;unfold dH at hv
 split at hv
 ·rename_i k n hb
  simp at hv;subst hv
  rw[hb]at hr;refine⟨_,by simp only[execOp,ho,eh hr];rfl,?_⟩;rw[Int.zero_sub];exact .fw _ _ (.int _ _)
 ·simp at hv
theorem VY {x:Operand} {x':O} {s d:TypeId} {k q:IntKind} (E:dR P w D ι env a) (ho:o.op=.convert s d x) (hs:P.underlying s=some (.int q)) (hd:P.underlying d=some (.int k)) (hx:cO P x=some x') (hv:cB k (dq env x')=some v):qv P a o w D ι v:=by
 have hr:=eo E hx;unfold cB at hv
 split at hv
 ·rename_i k' n hb
  simp at hv;subst hv
  rw[hb]at hr;refine⟨.int k (k.wrap n),?_,.fw _ _ (.int _ _)⟩;simp only[execOp,ho,eh hr,convert,Sem.run_bind,run_underlying hs,run_underlying hd,Result.andThen_ok,Conv.intToInt,Sem.run_pure]
 ·simp at hv
theorem Sb {x:Operand} {x':O} {s:TypeId} {i:Nat} {fs:Array Field} {f:Field} {m:Nat} (E:dR P w D ι env a) (ho:o.op=.fieldAddr s x i) (hs:P.underlying s=some (.struct fs)) (hf:fs[i]? =some f) (hm:fe P f.type=some (m+1)) (hx:cO P x=some x')
  (hv:Ix f.offset (dq env x')=some v):qv P a o w D ι v:=by
 have hr:=eo E hx
 have go:∀b oo,a.eval x=.pointer (some ⟨b,oo,none⟩)->(execOp a.eval o).run P w=.ok (.value (.pointer (some ⟨b,oo+f.offset,none⟩))) w:=fun b oo h=>by
  simp only[execOp,ho,h,Instr.fieldAt,Sem.run_bind,run_underlying hs,Result.andThen_ok,hf,Instr.sureAddr,Sem.run_pure,fieldPlace,run_sizeOf hm,Nat.add_eq_zero_iff,Nat.one_ne_zero,and_false,if_false,Addr.add]
  split
  ·rename_i h0;simp[h0]
  ·rfl
 unfold Ix at hv
 split at hv
 ·rename_i lP i' oo hb
  simp at hv;subst hv
  rw[hb]at hr;obtain⟨B,h,hB,hk⟩:=jG hr;refine⟨_,go _ _ h,?_⟩;rw[Nat.add_assoc];exact .ptr _ _ _ _ hB hk
 ·rename_i cs hb
  simp at hv;subst hv
  rw[hb]at hr;obtain⟨b,oo,vs,h,h1,h2,h3,h4⟩:=nu hr;refine⟨_,go _ _ h,.fw _ _ (.dZ _ _ _ (fun j=>vs (f.offset+j)) h1 (fun a ha=>h2 a (List.mem_of_mem_drop ha)) (fun j hj=>?_) (fun j a ha=>h4 _ _ (by simpa using ha)))⟩;rw[Nat.add_assoc];exact h3 _ (by simp at hj;omega)
 ·simp at hv
theorem Sc {x:Operand} {x':O} {s:TypeId} {i n:Nat} {ag:Bool} {fs:Array Field} {f:Field} (E:dR P w D ι env a) (ho:o.op=.field s x i) (hs:P.underlying s=some (.struct fs)) (hf:fs[i]? =some f) (sX:oE P f.type=some ag) (hm:fe P f.type=some n) (hx:cO P x=some x')
  (hv:bt ag f.offset n (dq env x')=some v):qv P a o w D ι v:=by
 have hr:=eo E hx;unfold bt at hv
 split at hv
 ·rename_i cs hb
  split at hv
  ·rename_i hl;rw[hb]at hr;obtain⟨vs,g,h,n1,fl,f1,r1⟩:=jQ hr;unfold part at hv
   cases ag with
   |true=>
    simp only[if_true]at hv
    split at hv
    ·simp at hv;subst hv
     refine⟨.agg (vs.extract f.offset (f.offset+n)),?_,.agg _ _ (fun j=>g (f.offset+j)) (by simp[n1];omega) (fun a ha=>fl a (List.mem_of_mem_drop (List.mem_of_mem_take ha))) (fun j hj=>?_) (fun j a ha=>?_)⟩
     ·simp only[execOp,ho,h,Instr.field,Sem.run_bind,run_underlying hs,Result.andThen_ok,hf,asAgg,Sem.run_pure,sq sX hm]
     ·simp at hj
      rw[Array.getElem?_extract,if_pos ae];exact f1 _ ae
     ·rw[List.getElem?_take]at ha
      split at ha
      ·exact r1 _ _ (by simpa using ha)
      ·simp at ha
    ·simp at hv
   |false=>
    simp only[Bool.false_eq_true,if_false]at hv;have qq:cs[f.offset]? =some v:=by simpa[List.head?_drop]using hv
    have eG:=(List.getElem?_eq_some_iff.1 qq).1;exact⟨g f.offset,by simp only[execOp,ho,h,Instr.field,Sem.run_bind,run_underlying hs,Result.andThen_ok,hf,asAgg,Sem.run_pure,oQ sX (f1 _ eG)],r1 _ _ qq⟩
  ·simp at hv
 ·simp at hv
theorem ZL {left:Bool} {x y:Operand} {x' y':O} {t yt:TypeId} (E:dR P w D ι env a) (ho:o.op=.binOp (if left then .shl else .shr) t x y yt) (hx:cO P x=some x') (hy:cO P y=some y') (hv:fF left (dq env x') (dq env y')=some v):qv P a o w D ι v:=by
 unfold fF at hv
 split at hv
 ·rename_i k n k' m hb BI
  split at hv
  ·simp at hv
  ·rename_i hm
   simp at hv;subst hv
   have h1:=eh (hb▸eo E hx);have h2:=eh (BI▸eo E hy);refine⟨_,?_,.fw _ _ (.int _ _)⟩;simp only[execOp,ho,h1,h2]
   cases left<;>simp only[Bool.false_eq_true,if_false,if_true,eqGuard,Bool.not_true,Bool.not_false,binOp,Op.shift,hm,Sem.run_bind,Sem.run_pure,Result.andThen_ok]<;>rfl
 ·simp at hv
end
end V

namespace V
open Go.RowKit
variable {P:Program} {w w':World} {D D':Nat->Prop} {ι ι':Names}
theorem lY (b o j:Nat):(⟨b,o,none⟩:Addr).add j=⟨b,o+j,none⟩:=by unfold Addr.add;split<;>simp_all
section
variable {g:Rows} {hs:Nat} {env:Env} {a:Act} {o:Oper} {id:Id} {v:AV}
theorem kZ {t:TypeId} {ag:Bool} {n b oo:Nat} {cs:List AV} {v:AV} {f:Nat->Value} (sX:oE P t=some ag) (hn:fe P t=some n) (hp:part ag n cs=some v) (fl:∀a∈cs,a.cell=true)
  (hc:∀j,j<cs.length->w.cell? ⟨b,oo+j,none⟩=some (f j)) (hr:∀j a,cs[j]? =some a->dX P w D ι a (f j)):∃u,(loadVar t ⟨b,oo,none⟩).run P w=.ok u w/\dX P w D ι v u:=by
 unfold part at hp
 cases ag with
 |true=>
  simp only[if_true]at hp
  split at hp
  ·rename_i hl
   simp at hp;subst hp
   refine⟨.agg ((List.range n).map f).toArray,?_,.agg _ _ f (by simp;omega) (fun a ha=>fl a (List.mem_of_mem_take ha)) (fun j hj=>?_) (fun j a ha=>?_)⟩
   ·simp only[loadVar,Sem.run_bind,w8 sX,Result.andThen_ok,if_true,run_sizeOf hn,Sem.run_pure];rw[run_loadCells w _ n f (fun j hj=>by rw[lY];exact hc j ae)]
    rfl
   ·simp at hj
    have:j<n:=ae;simp[this]
   ·rw[List.getElem?_take]at ha
    split at ha
    ·exact hr _ _ ha
    ·simp at ha
  ·simp at hp
 |false=>
  simp only[Bool.false_eq_true,if_false]at hp
  cases cs with
  |nil=>simp at hp
  |cons c r=>
   simp at hp;subst hp
   refine⟨f 0,?_,hr 0 _ rfl⟩;simp only[loadVar,Sem.run_bind,w8 sX,Result.andThen_ok,Bool.false_eq_true,if_false];have:=hc 0 (by simp)
   simp at this
   rw[run_load,this]
theorem OU {S:iE P hs D ι g w} {i:Nat} {cs:List AV} (h:rowAt g id i=some cs) (hk:∀B,ι id=some B->B.k=none):∃B r,g id=some r/\ι id=some B/\mi P w D ι B r/\r.rows[i]? =some cs/\(∀a∈cs,a.cell=true)/\∃f:Nat->Value,∀j,j<cs.length->w.cell? ⟨B.b,i*B.sz+j,none⟩=some (f j)/\∀a,cs[j]? =some a->dX P w D ι a (f j):=by
 unfold rowAt at h;simp only[Option.bind_eq_some_iff]at h;obtain⟨r,hr,hi⟩:=h;obtain⟨B,hB,R,_,_⟩:=S.row id r hr;replace R:=R.row (hk B hB);refine⟨B,r,hr,hB,R,hi,R.flat cs (List.mem_of_getElem? hi),fun j=>(w.cell? ⟨B.b,i*B.sz+j,none⟩).getD undef,fun j hj=>?_⟩;obtain⟨u,hu,AX⟩:=R.at_ i j cs _ hi (List.getElem?_eq_getElem hj);rw[R.sz,hu];refine⟨by simp only[hu,Option.getD_some],fun a ha=>?_⟩;rw[List.getElem?_eq_getElem hj]at ha;injection ha with ha
 subst ha
 simpa only[hu,Option.getD_some]using AX
theorem V7 {x:Operand} {x':O} {t:TypeId} {ag:Bool} {n:Nat} (S:iE P hs D ι g w) (E:dR P w D ι env a) (ho:o.op=.load t x) (sX:oE P t=some ag) (hn:fe P t=some n) (hx:cO P x=some x') (hv:ld g ag n (dq env x')=some v):qv P a o w D ι v:=by
 have hr:=eo E hx
 have go:∀b oo u,a.eval x=.pointer (some ⟨b,oo,none⟩)->(loadVar t ⟨b,oo,none⟩).run P w=.ok u w->(execOp a.eval o).run P w=.ok (.value u) w:=fun b oo u h h2=>by
  simp only[execOp,ho,h,Instr.loadAt,Instr.sureAddr,Sem.run_bind,Sem.run_pure,Result.andThen_ok,h2]
 unfold ld at hv
 split at hv
 ·rename_i lP i' oo hb;rw[hb]at hr;obtain⟨B,h,hB,hk⟩:=jG hr;simp only[Option.bind_eq_some_iff]at hv;obtain⟨cs,eD,hp⟩:=hv;obtain⟨B',r,Md,eY,R,hi,fl,f,hf⟩:=OU (S:=S) eD (fun B2 h2=>by rw[hB]at h2;injection h2 with h2;subst h2;exact hk);rw[hB]at eY;injection eY with eY;subst eY
  obtain⟨u,h1,h2⟩:=kZ (w:=w) (b:=B.b) (oo:=i'*B.sz+oo) (f:=fun j=>f (oo+j)) sX hn hp (fun a ha=>fl a (List.mem_of_mem_drop ha)) (fun j hj=>by
   rw[Nat.add_assoc];exact(hf _ (by simp at hj;omega)).1) (fun j a ha=>by
   simp at ha;exact(hf _ ((List.getElem?_eq_some_iff.1 ha).1)).2 _ ha)
  exact⟨u,go _ _ _ h h1,h2⟩
 ·rename_i cs hb;rw[hb]at hr;obtain⟨b,oo,vs,h,h1,h2,h3,h4⟩:=nu hr;obtain⟨u,k1,k2⟩:=kZ (w:=w) (b:=b) (oo:=oo) (f:=vs) sX hn hv h2 h3 (fun j a ha=>.fw _ _ (h4 j a ha));exact⟨u,go _ _ _ h k1,k2⟩
 ·simp at hv
theorem RQ (S:iE P hs D ι g w) {id:Id} {i k t:Nat} {s:ByteArray} (h:rowAt g id i=some [.err k t s]):∃u,dX P w D ι (.err k t s) u:=by
 unfold rowAt at h;simp only[Option.bind_eq_some_iff]at h;obtain⟨r,hr,hi⟩:=h;obtain⟨B,hB,R,_⟩:=S.row id r hr
 cases hk:B.k with
 |none=>
  obtain⟨u,_,h2⟩:=(R.row hk).at_ i 0 _ _ hi rfl;exact⟨u,h2⟩
 |some m=>
  cases m with
  |map m=>
   obtain⟨_,es,c,h3,h4,⟨h5,_⟩,h6⟩:=R.map m hk;obtain⟨e,kv,vv,_,_,q3,_,q5⟩:=h6 i _ hi;have h7:=h5 _ (List.mem_of_getElem? hi);have h8:m.ks=0:=by simp at h7;omega
   rw[h8]at q3
   simp at q3
   subst q3;exact⟨_,q5⟩
  |chan c=>
   obtain⟨_,buf,s',q,h3,h4,h5⟩:=R.chan c hk;obtain⟨x,u,q1,_,q3⟩:=h5 i _ hi;injection q1 with q1
   subst q1;exact⟨u,q3⟩
theorem Sd {t:TypeId} {k:Nat} (S:iE P hs D ι g w) (ho:o.op=.load t (.global k)) (hn:fe P t=some 1) (sX:oE P t=some false) (hv:fD g k=some v):qv P a o w D ι v:=by
 unfold fD at hv;simp only[Option.bind_eq_some_iff]at hv;obtain⟨cs,eD,hv⟩:=hv
 split at hv
 ·rename_i j t1 s
  split at hv
  ·rename_i hj;subst hj;injection hv with hv
   subst hv;obtain⟨u,hu⟩:=RQ S eD;obtain⟨_,_,_,tG,_,hc,_⟩:=sm hu
   obtain⟨u',k1,k2⟩:=kZ (w:=w) (b:=j) (oo:=0) (f:=fun _=>u) sX hn (show part false 1 [.err j t1 s]=some (.err j t1 s)from rfl) (fun a ha=>by simp at ha;subst ha;rfl) (fun i hi=>by
    have:i=0:=by simp at hi;omega
    subst this;exact hc) (fun i x hx=>by
    have hi:=(List.getElem?_eq_some_iff.1 hx).1;have:i=0:=by simp at hi;omega
    subst this
    simp at hx
    subst hx
    exact hu)
   exact⟨u',by simp only[execOp,ho,Instr.loadAt,Instr.sureAddr,Act.eval,Sem.run_bind,Sem.run_pure,Result.andThen_ok,k1],k2⟩
  ·simp at hv
 ·simp at hv
theorem ZE {x:Operand} {x':O} (E:dR P w D ι env a) (ho:o.op=.nilCheck x) (hx:cO P x=some x') (hv:dG (dq env x')=some v):qv P a o w D ι v:=by
 have hr:=eo E hx;unfold dG at hv
 split at hv
 ·rename_i lP i' oo hb
  simp at hv;subst hv
  rw[hb]at hr;obtain⟨B,h,hB,hk⟩:=jG hr;exact⟨_,by simp only[execOp,ho,h];rfl,.ptr _ _ _ _ hB hk⟩
 ·rename_i cs hb
  simp at hv;subst hv
  rw[hb]at hr;obtain⟨b,oo,vs,h,_⟩:=nu hr;exact⟨_,by simp only[execOp,ho,h];rfl,h▸hr⟩
 ·simp at hv
theorem Se {x i:Operand} {x' i':O} {t e:TypeId} {m:Nat} (S:iE P hs D ι g w) (E:dR P w D ι env a) (ho:o.op=.indexAddr t x i) (ht:P.underlying t=some (.slice e)) (hm:fe P e=some (m+1)) (hx:cO P x=some x') (hi:cO P i=some i')
  (hv:bx g (m+1) (dq env x') (dq env i')=some v):qv P a o w D ι v:=by
 have hr:=eo E hx;have HM:=eo E hi
 have go:∀b oo n c k (q:Int),a.eval x=.slice (some ⟨b,oo,none⟩) n c->a.eval i=.int k q->0<=q->q<n->(execOp a.eval o).run P w=.ok (.value (.pointer (some ⟨b,oo+q.toNat*(m+1),none⟩))) w:=fun b oo n c k q h h2 h3 h4=>by
  simp only[execOp,ho,h,h2,Instr.indexAt,asIntOf,Sem.run_bind,Sem.run_pure,run_underlying ht,Result.andThen_ok,h3,h4,and_self,if_true,run_sizeOf hm,lY]
 unfold bx at hv
 split at hv
 ·rename_i rows k q hb BI
  split at hv
  ·rename_i hq;simp only[Option.bind_eq_some_iff]at hv;obtain⟨cs,eD,hv⟩:=hv
   split at hv
   ·rename_i hlen
    simp at hv;subst hv
    rw[hb]at hr;rw[BI]at HM;have eG:=(List.getElem?_eq_some_iff.1 eD).1;obtain⟨A,c,h,h1,h2,h3⟩:=Af hr
    rcases h3 with h3|⟨b,oo,sz,vs,rfl,hD,hl,fl,hc,hi⟩
    ·subst h3;simp at eD
    have eT:sz=m+1:=by rw[<-hlen,hl cs (List.mem_of_getElem? eD)]
    refine⟨_,go b oo _ _ k q h (eh HM) hq ae,.fw _ _ (.dZ cs b _ (vs q.toNat) hD (fl cs (List.mem_of_getElem? eD)) (fun j hj=>?_) (fun j a ha=>hi _ _ _ _ eD ha))⟩;have:=hc q.toNat j eG (by rw[<-hl cs (List.mem_of_getElem? eD)];exact hj);rw[eT]at this;rw[Nat.add_assoc];exact this
   ·simp at hv
  ·simp at hv
 ·rename_i lP off len k q hb BI
  split at hv
  ·rename_i hq;simp only[Option.bind_eq_some_iff]at hv;obtain⟨r,Md,hv⟩:=hv
   split at hv
   ·rename_i tF
    simp at hv;subst hv
    rw[hb]at hr;rw[BI]at HM;obtain⟨oo,cap,B,h,hB,h1,h2,h3,h4,hk⟩:=jR hr;obtain⟨B',eY,R,_,_⟩:=S.row _ _ Md;rw[hB]at eY;injection eY with eY;subst eY
    replace R:=R.row hk;have eT:B.sz=m+1:=R.sz.trans tF;refine⟨_,go _ _ _ _ k q h (eh HM) hq.1 hq.2,?_⟩;have Ee:oo=off*B.sz:=by rcases h2 with h2|h2<;>omega
    have:oo+q.toNat*(m+1)=(off+q.toNat)*B.sz+0:=by rw[Ee,<-eT,Nat.add_mul];rfl
    rw[this];exact .ptr _ _ _ _ hB hk
   ·simp at hv
  ·simp at hv
 ·simp at hv
theorem V1 {x i:Operand} {x' i':O} {t e:TypeId} {m len:Nat} (E:dR P w D ι env a) (ho:o.op=.indexAddr t x i) (ht:P.underlying t=some (.array len e)) (hm:fe P e=some (m+1)) (hx:cO P x=some x') (hi:cO P i=some i')
  (hv:cD len (m+1) (dq env x') (dq env i')=some v):qv P a o w D ι v:=by
 have hr:=eo E hx;have HM:=eo E hi
 have go:∀b oo k (q:Int),a.eval x=.pointer (some ⟨b,oo,none⟩)->a.eval i=.int k q->0<=q->q<len->(execOp a.eval o).run P w=.ok (.value (.pointer (some ⟨b,oo+q.toNat*(m+1),none⟩))) w:=fun b oo k q h h2 h3 h4=>by
  simp only[execOp,ho,h,h2,Instr.indexAt,asIntOf,Sem.run_bind,Sem.run_pure,run_underlying ht,Instr.sureAddr,Result.andThen_ok,h3,h4,and_self,if_true,run_sizeOf hm,lY]
 unfold cD at hv
 split at hv
 ·rename_i lP r oo k q hb BI
  split at hv
  ·rename_i hq
   simp at hv;subst hv
   rw[hb]at hr;rw[BI]at HM;obtain⟨B,h,hB,hk⟩:=jG hr;refine⟨_,go _ _ k q h (eh HM) hq.1 hq.2,?_⟩;rw[Nat.add_assoc];exact .ptr _ _ _ _ hB hk
  ·simp at hv
 ·rename_i cs k q hb BI
  split at hv
  ·rename_i hq
   simp at hv;subst hv
   rw[hb]at hr;rw[BI]at HM;obtain⟨b,oo,vs,h,h1,h2,h3,h4⟩:=nu hr;refine⟨_,go _ _ k q h (eh HM) hq.1 hq.2,.fw _ _ (.dZ _ _ _ (fun j=>vs (q.toNat*(m+1)+j)) h1 (fun a ha=>h2 a (List.mem_of_mem_drop ha)) (fun j hj=>?_) (fun j a ha=>h4 _ _ (by simpa using ha)))⟩;rw[Nat.add_assoc];exact h3 _ (by simp at hj;omega)
  ·simp at hv
 ·simp at hv
theorem V3 {x i:Operand} {x' i':O} {t:TypeId} (E:dR P w D ι env a) (ho:o.op=.index t x i) (ht:P.underlying t=some .string) (hx:cO P x=some x') (hi:cO P i=some i')
  (hv:cH (dq env x') (dq env i')=some v):qv P a o w D ι v:=by
 have hr:=eo E hx;have HM:=eo E hi;unfold cH at hv
 split at hv
 ·rename_i s k q hb BI
  split at hv
  ·rename_i hq;simp only[Option.map_eq_some_iff]at hv;obtain⟨c,hc,rfl⟩:=hv;rw[hb]at hr;rw[BI]at HM;refine⟨_,?_,.fw _ _ (.int _ _)⟩;simp only[execOp,ho,il hr,eh HM,Instr.index,asIntOf,Sem.run_bind,Sem.run_pure,run_underlying ht,Result.andThen_ok,hq,if_true,hc]
  ·simp at hv
 ·simp at hv
theorem V2 {x i:Operand} {x' i':O} {t e:TypeId} {ag:Bool} {len n:Nat} (E:dR P w D ι env a) (ho:o.op=.index t x i) (ht:P.underlying t=some (.array len e)) (sX:oE P e=some ag) (hn:fe P e=some n) (hx:cO P x=some x') (hi:cO P i=some i')
  (hv:cF ag len n (dq env x') (dq env i')=some v):qv P a o w D ι v:=by
 have hr:=eo E hx;have HM:=eo E hi;unfold cF at hv
 split at hv
 ·rename_i cs k q hb BI
  split at hv
  ·rename_i hq;rw[hb]at hr;rw[BI]at HM;obtain⟨vs,f,h,n1,fl,f1,r1⟩:=jQ hr
   have go:∀u,(Go.part e vs (q.toNat*n)).run P w=.ok u w->(execOp a.eval o).run P w=.ok (.value u) w:=fun u hu=>by
    simp only[execOp,ho,h,eh HM,Instr.index,asIntOf,Sem.run_bind,Sem.run_pure,run_underlying ht,Result.andThen_ok,hq,and_self,if_true,run_sizeOf hn,hu]
   unfold part at hv
   cases ag with
   |true=>
    simp only[if_true]at hv
    split at hv
    ·rename_i hl
     simp at hv;subst hv
     simp only[List.length_drop]at hl
     by_cases GJ:n=0
     ·subst GJ;refine⟨_,go _ (sq sX hn),.agg _ _ (fun _=>undef) (by simp) (fun a ha=>by simp at ha) (fun j hj=>by simp at hj) (fun j a ha=>by simp at ha)⟩
     refine⟨_,go _ (sq sX hn),.agg _ _ (fun j=>f (q.toNat*n+j)) (by simp[n1];omega) (fun a ha=>fl a (List.mem_of_mem_drop (List.mem_of_mem_take ha))) (fun j hj=>?_) (fun j a ha=>?_)⟩
     ·simp at hj
      rw[Array.getElem?_extract,if_pos ae];exact f1 _ ae
     ·rw[List.getElem?_take]at ha
      split at ha
      ·exact r1 _ _ (by simpa using ha)
      ·simp at ha
    ·simp at hv
   |false=>
    simp only[Bool.false_eq_true,if_false]at hv;have qq:cs[q.toNat*n]? =some v:=by simpa[List.head?_drop]using hv
    have eG:=(List.getElem?_eq_some_iff.1 qq).1;exact⟨_,go _ (oQ sX (f1 _ eG)),r1 _ _ qq⟩
  ·simp at hv
 ·simp at hv
theorem LZ {x:Operand} {x':O} {i:Nat} (E:dR P w D ι env a) (ho:o.op=.extract x i) (hx:cO P x=some x') (hv:az i (dq env x')=some v):qv P a o w D ι v:=by
 have hr:=eo E hx;unfold az at hv
 split at hv
 ·rename_i vs hb;rw[hb]at hr;obtain⟨us,f,h,h1,h2,h3⟩:=yC hr;have eG:=(List.getElem?_eq_some_iff.1 hv).1;exact⟨_,by simp only[execOp,ho,h,Instr.extract,h2 _ eG];rfl,h3 _ _ hv⟩
 ·simp at hv
theorem ZI {x:Operand} {x':O} {t:TypeId} {e:TypeId} {n:Nat} (E:dR P w D ι env a) (ho:o.op=.call {callee:=.builtin .len,args:= #[x],argTypes:= #[t]}) (ht:P.underlying t=some (.slice e)) (hx:cO P x=some x') (hv:dy (dq env x')=some n):qv P a o w D ι (.int .i64 n):=by
 have hr:=eo E hx
 have go:∀A c,a.eval x=.slice A n c->(execOp a.eval o).run P w=.ok (.value (.int .i64 n)) w:=fun A c h=>by
  simp only[execOp,ho,resolve,Sem.run_bind,Sem.run_pure,Result.andThen_ok,invoke,builtin,Array.map,h];simp[Builtin.len_,run_underlying ht,goInt,h]
 refine⟨.int .i64 n,?_,.fw _ _ (.int _ _)⟩;unfold dy at hv
 split at hv<;>simp at hv<;>subst hv<;>rename_i hb<;>rw[hb]at hr
 ·exact go _ _ (j8 hr)
 ·obtain⟨A,c,h,_⟩:=Af hr;exact go _ _ h
 ·obtain⟨oo,cap,B,h,_⟩:=jR hr;exact go _ _ h
theorem V6 {x:Operand} {x':O} {t:TypeId} (E:dR P w D ι env a) (ho:o.op=.call {callee:=.builtin .len,args:= #[x],argTypes:= #[t]}) (ht:P.underlying t=some .string) (hx:cO P x=some x') (hv:cJ (dq env x')=some v):qv P a o w D ι v:=by
 have hr:=eo E hx;unfold cJ at hv
 split at hv
 ·rename_i s hb
  simp at hv;subst hv
  rw[hb]at hr;have h:=il hr;refine⟨_,?_,.fw _ _ (.int _ _)⟩;simp only[execOp,ho,resolve,Sem.run_bind,Sem.run_pure,Result.andThen_ok,invoke,builtin,Array.map,h];simp[Builtin.len_,run_underlying ht,goInt,h]
 ·simp at hv
theorem pJ {isS:Bool} {len cap h l:Nat} {lo hi:Option Operand} {Th yq:Option O} (E:dR P w D ι env a) (lp:uz P lo=some Th) (De:uz P hi=some yq) (hh:dr len (yq.map (dq env))=some h) (hl:du h (Th.map (dq env))=some l) (hc:len<=cap):
  (Instr.sliceBounds isS len cap (lo.map a.eval) (hi.map a.eval) none).run P w=.ok (l,h,cap) w/\l<=h/\h<=len:=by
 have bound:∀(x:Operand) (y:O) (k:IntKind) (n:Int) (m:Nat) (c:BoundsCode),cO P x=some y->dq env y=.int k n->0<=n->n<=m->(Instr.sliceBound (a.eval x) m c).run P w=.ok n.toNat w:=fun x y k n m c hx hy h0 h1=>by
  have hr:=eo E hx;rw[hy]at hr;simp only[Instr.sliceBound,eh hr,asIntOf,Sem.run_bind,Sem.run_pure,Result.andThen_ok,h0,h1,and_self,if_true]
 have H:h<=len/\((hi=none/\h=len)∨∃x,hi=some x/\∀c,(Instr.sliceBound (a.eval x) cap c).run P w=.ok h w):=by
  cases hi with
  |none=>
   simp[uz]at De;subst De;simp[dr]at hh;subst hh;exact⟨Nat.le_refl _,.inl ⟨rfl,rfl⟩⟩
  |some x=>
   simp only[uz,Option.map_eq_some_iff]at De;obtain⟨y,hy,rfl⟩:=De;simp only[Option.map_some,dr]at hh
   split at hh
   ·rename_i e;cases e
   ·rename_i k n e;injection e with e
    split at hh
    ·rename_i hn
     simp at hh;subst hh
     exact⟨ae,.inr ⟨x,rfl,fun c=>bound x y k n _ _ hy e hn.1 ae⟩⟩
    ·simp at hh
   ·simp at hh
 have L:l<=h/\((lo=none/\l=0)∨∃x,lo=some x/\∀c,(Instr.sliceBound (a.eval x) h c).run P w=.ok l w):=by
  cases lo with
  |none=>
   simp[uz]at lp;subst lp;simp[du]at hl;subst hl;exact⟨Nat.zero_le _,.inl ⟨rfl,rfl⟩⟩
  |some x=>
   simp only[uz,Option.map_eq_some_iff]at lp;obtain⟨y,hy,rfl⟩:=lp;simp only[Option.map_some,du]at hl
   split at hl
   ·rename_i e;cases e
   ·rename_i k n e;injection e with e
    split at hl
    ·rename_i hn
     simp at hl;subst hl
     exact⟨ae,.inr ⟨x,rfl,fun c=>bound x y k n h _ hy e hn.1 hn.2⟩⟩
    ·simp at hl
   ·simp at hl
 refine⟨?_,L.1,H.1⟩;unfold Instr.sliceBounds
 rcases H.2 with⟨rfl,rfl⟩|⟨x,rfl,hx⟩<;>rcases L.2 with⟨rfl,rfl⟩|⟨y,rfl,hy⟩<;>
  simp only[Option.map_none,Option.map_some,Sem.run_bind,Sem.run_pure,Result.andThen_ok, *]
theorem Sf {x:Operand} {x':O} {lo hi:Option Operand} {Th yq:Option O} {t e:TypeId} {m:Nat} (S:iE P hs D ι g w) (E:dR P w D ι env a) (ho:o.op=.slice t x lo hi none) (ht:P.underlying t=some (.slice e)) (hm:fe P e=some m) (hx:cO P x=some x') (lp:uz P lo=some Th) (De:uz P hi=some yq)
  (hv:bz g m (dq env x') (Th.map (dq env)) (yq.map (dq env))=some v):qv P a o w D ι v:=by
 have hr:=eo E hx
 have go:∀A len cap l h,a.eval x=.slice A len cap->(Instr.sliceBounds true len cap (lo.map a.eval) (hi.map a.eval) none).run P w=.ok (l,h,cap) w->(execOp a.eval o).run P w=.ok (.value (.slice (if cap=l then A else A.map (·.add (l*m))) (h-l) (cap-l))) w:=fun A len cap l h h1 h2=>by
  simp only[execOp,ho,h1,Instr.sliceAt,Instr.slice,Sem.run_bind,Sem.run_pure,run_underlying ht,Result.andThen_ok,Option.map_none,h2,run_sizeOf hm]
 unfold bz at hv
 split at hv
 ·rename_i hb;rw[hb]at hr;simp only[Option.bind_eq_some_iff,Option.map_eq_some_iff]at hv;obtain⟨h,hh,l,hl,rfl⟩:=hv;obtain⟨q,q1,q2⟩:=pJ (w:=w) (isS:=true) (cap:=0) E lp De hh hl (Nat.le_refl _);have h0:h=0:=ae;have l0:l=0:=ae;subst h0;subst l0;refine⟨_,go _ _ _ _ _ (j8 hr) q,?_⟩
  simp;exact .fw _ _ .ck
 ·rename_i rows hb;rw[hb]at hr;simp only[Option.bind_eq_some_iff,Option.map_eq_some_iff]at hv;obtain⟨h,hh,l,hl,hv⟩:=hv
  split at hv
  ·rename_i fy
   simp at hv;subst hv
   obtain⟨A,c,he,c1,c2,h3⟩:=Af hr;obtain⟨q,q1,q2⟩:=pJ (w:=w) (isS:=true) (cap:=c) E lp De hh hl c1;refine⟨_,go _ _ _ _ _ he q,.fw _ _ ?_⟩;have hlen:((rows.drop l).take (h-l)).length=h-l:=by simp;omega
   by_cases hz:h-l=0
   ·have:(rows.drop l).take (h-l)=[]:=by rw[hz];simp
    rw[this,hz];exact .Er _ _ ae
   ·rcases h3 with h3|⟨b,oo,sz,vs,rfl,hD,UW,fl,hc,hi⟩
    ·subst h3;simp at q2;omega
    rw[if_neg ae];simp only[Option.map_some,lY]
    have Fq:sz=m:=by
     have eG:l<rows.length:=ae;have:=fy rows[l] (List.getElem_mem eG);rw[<-this,UW _ (List.getElem_mem eG)]
    subst Fq;refine .sl _ b _ _ _ sz (fun i j=>vs (l+i) j) hlen ae ae hD (fun cs eD=>UW cs (List.mem_of_mem_drop (List.mem_of_mem_take eD))) (fun cs eD=>fl cs (List.mem_of_mem_drop (List.mem_of_mem_take eD))) (fun i j hi hj=>?_) (fun i j cs a eD ha=>?_)
    ·rw[<-hc (l+i) j ae hj,Nat.add_mul]
     congr 2;omega
    ·rw[List.getElem?_take]at eD
     split at eD
     ·exact hi _ _ _ _ (by simpa using eD) ha
     ·simp at eD
  ·simp at hv
 ·rename_i lP off len hb;rw[hb]at hr;simp only[Option.bind_eq_some_iff,Option.map_eq_some_iff]at hv;obtain⟨r,Md,h,hh,l,hl,hv⟩:=hv
  split at hv
  ·rename_i tF
   simp at hv;subst hv
   obtain⟨oo,cap,B,he,hB,h1,h2,h3,h4,hk⟩:=jR hr;obtain⟨B',eY,R,_,_⟩:=S.row _ _ Md;rw[hB]at eY;injection eY with eY;subst eY
   replace R:=R.row hk;have eT:B.sz=m:=R.sz.trans tF;obtain⟨q,q1,q2⟩:=pJ (w:=w) (isS:=true) (cap:=cap) E lp De hh hl h1;refine⟨_,go _ _ _ _ _ he q,?_⟩;have e1:(off+l+(cap-l))*B.sz<=B.C:=by rw[show off+l+(cap-l)=off+cap by omega];exact h3
   by_cases mJ:cap=l
   ·rw[if_pos mJ];exact .own _ _ _ _ _ B hB hk ae (.inl ae) e1 ae
   ·rw[if_neg mJ];simp only[Option.map_some,lY];have Ee:oo=off*B.sz:=by rcases h2 with h2|h2<;>omega
    exact .own _ _ _ _ _ B hB hk ae (.inr (by rw[Ee,eT,Nat.add_mul])) e1 ae
  ·simp at hv
 ·simp at hv
theorem PE {x:Operand} {x':O} {lo hi:Option Operand} {Th yq:Option O} {t:TypeId} (E:dR P w D ι env a) (ho:o.op=.slice t x lo hi none) (ht:P.underlying t=some .string) (hx:cO P x=some x') (lp:uz P lo=some Th) (De:uz P hi=some yq)
  (hv:aU (dq env x') (Th.map (dq env)) (yq.map (dq env))=some v):qv P a o w D ι v:=by
 have hr:=eo E hx;unfold aU at hv
 split at hv
 ·rename_i s hb;rw[hb]at hr;simp only[Option.bind_eq_some_iff,Option.map_eq_some_iff]at hv;obtain⟨h,hh,l,hl,rfl⟩:=hv;obtain⟨q,_,_⟩:=pJ (w:=w) (isS:=false) E lp De hh hl (Nat.le_refl _);refine⟨_,?_,.fw _ _ (.str _)⟩;simp only[execOp,ho,il hr,Instr.sliceAt,Instr.slice,Sem.run_bind,Sem.run_pure,run_underlying ht,Result.andThen_ok,Option.map_none,Option.isSome_none,Bool.false_eq_true,if_false,q]
 ·simp at hv
theorem Ic {xs:List Operand} {ys:List O} (E:dR P w D ι env a) (h:xs.mapM (cO P)=some ys):(xs.map a.eval).length=ys.length/\∀j y,ys[j]? =some y->dX P w D ι (dq env y) ((xs.map a.eval).getD j undef):=by
 induction xs generalizing ys with
 |nil=>simp at h;subst h;simp
 |cons x r ih=>
  simp only[List.mapM_cons,Option.bind_eq_bind,Option.bind_eq_some_iff]at h;obtain⟨c,hc,uD,eD,h⟩:=h
  simp at h;subst h
  obtain⟨h1,h2⟩:=ih eD;refine⟨by simpa using h1,fun j d hd=>?_⟩
  cases j with
  |zero=>simp at hd ⊢;subst hd;exact eo E hc
  |succ j=>simp at hd ⊢;simpa using h2 j d hd
theorem V9 {f:Nat} {first ea:Array Operand} {EN:List O} (E:dR P w D ι env a) (ho:o.op=.makeFunc (.func f) first ea) (hf:first= #[]) (hc:iw P f=true) (hx:ea.toList.mapM (cO P)=some EN):qv P a o w D ι (.fn f (EN.map (dq env))):=by
 subst hf;obtain⟨h1,h2⟩:=Ic E hx;refine⟨.func (.func f) #[] (ea.map a.eval),by simp only[execOp,ho,Instr.makeFunc,Sem.run_bind,Sem.run_pure,Result.andThen_ok];simp,.fn _ _ _ (fun j=>(ea.toList.map a.eval).getD j undef) hc (by simpa using h1) (fun j hj=>?_) (fun j x Y0=>?_)⟩
 ·simp at hj h1
  have:j<ea.size:=ae;simp[this]
 ·simp only[List.getElem?_map,Option.map_eq_some_iff]at Y0;obtain⟨y,hy,rfl⟩:=Y0;exact h2 j y hy
theorem Wa {f:Nat} {first ea:Array Operand} {EN:List O} (E:dR P w D ι env a) (ho:o.op=.makeFunc (.func f) first ea) (hf:ea= #[]) (hc:iw P f=true) (hx:first.toList.mapM (cO P)=some EN):qv P a o w D ι (.xH f (EN.map (dq env))):=by
 subst hf;obtain⟨h1,h2⟩:=Ic E hx;refine⟨.func (.func f) (first.map a.eval) #[],by simp only[execOp,ho,Instr.makeFunc,Sem.run_bind,Sem.run_pure,Result.andThen_ok];simp,.xH _ _ _ (fun j=>(first.toList.map a.eval).getD j undef) hc (by simpa using h1) (fun j hj=>?_) (fun j x Y0=>?_)⟩
 ·simp at hj h1
  have:j<first.size:=ae
  simp[this]
 ·simp only[List.getElem?_map,Option.map_eq_some_iff]at Y0;obtain⟨y,hy,rfl⟩:=Y0;exact h2 j y hy
end
end V

namespace V
open Go.RowKit
variable {P:Program} {w w':World} {D D':Nat->Prop} {ι ι':Names}
def Mk (P:Program) (a:Act) (o:Oper) (w:World) (D:Nat->Prop) (ι:Names) (id:Id) (v:AV) (r:Row):Prop:=
 ∃u cells T,(execOp a.eval o).run P w=.ok (.value u) (w.alloc (.cells cells T))/\r.w=true/\r.rows.length*r.sz<=cells.size/\(∀cs∈r.rows,cs.length=r.sz)/\(∀cs∈r.rows,∀a∈cs,a.cell=true)/\
  (∀i j cs a,r.rows[i]? =some cs->cs[j]? =some a->∃x,cells[i*r.sz+j]? =some x/\dX P w D ι a x)/\∀ι':Names,ι' id=some ⟨w.heap.size,r.sz,cells.size,none⟩->dX P w D ι' v u
section
variable {g:Rows} {hs:Nat} {env:Env} {a:Act} {o:Oper} {id:Id} {v:AV}
theorem kL {vs:List Value} {cs:List K} (h:vs.mapM KZ=some cs):gI P w D ι (cs.map K.av) vs.toArray:=by
 obtain⟨h1,h2⟩:=u9 h;refine⟨by simp[h1],fun j a ha=>?_⟩;simp only[List.getElem?_map,Option.map_eq_some_iff]at ha;obtain⟨c,hc,rfl⟩:=ha;exact⟨c.val,by simpa using h2 j c hc,Ac c⟩
theorem lG {t:TypeId} {z:List K} (h:lk P t=some z):∃i v,P.info? t=some i/\i.zero=some v/\v.cells.size=i.size/\v.cells.toList.mapM KZ=some z/\z.length=i.size:=by
 unfold lk at h
 split at h
 ·rename_i i hi
  split at h
  ·rename_i v hv
   split at h
   ·rename_i hs;exact⟨i,v,hi,hv,hs,h,by rw[(u9 h).1];simpa using hs⟩
   ·simp at h
  ·simp at h
 ·simp at h
theorem Jy {cs:List AV} {cells:Array Value} (h:gI P w D ι cs cells):∀i j c a,[cs][i]? =some c->c[j]? =some a->∃x,cells[i*cs.length+j]? =some x/\dX P w D ι a x:=by
 intro i j c a hi hj
 cases i with
 |zero=>simp at hi;subst hi;simpa using h.2 j a hj
 |succ i=>simp at hi
theorem Y8 {t:TypeId} {z:List K} (ho:o.op=.alloc t) (hz:lk P t=some z):Mk P a o w D ι id (.ptr id 0 0) ⟨true,z.length,[z.map K.av]⟩:=by
 obtain⟨i,v,hi,hv,hs,hm,hl⟩:=lG hz;have hk:=kL (P:=P) (w:=w) (D:=D) (ι:=ι) hm;refine⟨.pointer (some ⟨w.heap.size,0,none⟩),v.cells,t,?_,rfl,?_,?_,?_,?_,?_⟩
 ·simp only[execOp,ho,Instr.alloc,zeroValue,typeInfo,Sem.run_bind];simp[hi,hv,newVar,newRow]
 ·simp[hl,hs]
 ·intro cs eD;simp at eD;subst eD;simp
 ·intro cs eD x hx;simp at eD;subst eD;obtain⟨c,_,rfl⟩:=List.mem_map.1 hx;exact c.pe
 ·have:=Jy hk;simpa using this
 ·intro ι' hι;have:=dX.ptr (P:=P) (w:=w) (D:=D) (ι:=ι') id 0 0 _ hι rfl
  simpa using this
theorem ub {x:AV} {u:Value} (h:dX P w D ι x u) (hc:x.cells.all AV.cell=true):gI P w D ι x.cells u.cells:=by
 obtain⟨h1,f,h2,h3⟩:=h.cells hc;exact⟨h1,fun j a ha=>⟨f j,h2 j (List.getElem?_eq_some_iff.1 ha).1,h3 j a ha⟩⟩
theorem Y6 {t:TypeId} {x:Operand} {x':O} {cs:List AV} (E:dR P w D ι env a) (ho:o.op=.box t x) (hx:cO P x=some x') (hb:cz (dq env x')=some cs):Mk P a o w D ι id (.ptr id 0 0) ⟨true,cs.length,[cs]⟩:=by
 have hr:=eo E hx;unfold cz at hb
 split at hb
 ·rename_i fy
  simp at hb;subst hb
  have hk:=ub hr fy;refine⟨.pointer (some ⟨w.heap.size,0,none⟩),(a.eval x).cells,t,?_,rfl,?_,?_,?_,?_,?_⟩
  ·simp only[execOp,ho,Instr.box,Sem.run_bind];simp[newVar,newRow]
  ·simp[hk.1]
  ·intro cs eD;simp at eD;subst eD;rfl
  ·intro cs eD y hy;simp at eD;subst eD;exact List.all_eq_true.1 fy y hy
  ·exact Jy hk
  ·intro ι' hι;have:=dX.ptr (P:=P) (w:=w) (D:=D) (ι:=ι') id 0 0 _ hι rfl
   simpa using this
 ·simp at hb
theorem foldl_set:∀(vs:List Value) (n off:Nat) (cells:Array Value),off+n+vs.length<=cells.size->((vs.zipIdx n).foldl (fun cs (x:Value×Nat)=>cs.setIfInBounds (off+x.2) x.1) cells).size=cells.size/\
  ∀k,((vs.zipIdx n).foldl (fun cs (x:Value×Nat)=>cs.setIfInBounds (off+x.2) x.1) cells)[k]? =if off+n<=k/\k<off+n+vs.length then vs[k-(off+n)]? else cells[k]?
 |[],n,off,cells,_=>⟨rfl,fun k=>by simp;intro h1 h2;omega⟩
 |v::r,n,off,cells,h=>by
  simp only[List.length_cons]at h;obtain⟨h1,h2⟩:=foldl_set r (n+1) off (cells.setIfInBounds (off+n) v) (by simp;omega);simp only[List.zipIdx_cons,List.foldl_cons];refine⟨by rw[h1];simp,fun k=>?_⟩;rw[h2 k];simp only[List.length_cons]
  by_cases hk:k=off+n
  ·subst hk;rw[if_neg ae,if_pos ae];simp[show off+n<cells.size by omega]
  ·by_cases qU:off+n<=k/\k<off+n+(r.length+1)
   ·rw[if_pos ae,if_pos qU];have:k-(off+n)=(k-(off+(n+1)))+1:=ae;rw[this,List.getElem?_cons_succ]
   ·rw[if_neg ae,if_neg qU,Array.getElem?_setIfInBounds_ne ae]
theorem zd (place:Nat->Option (Nat×Nat)):∀(ps:List (Nat×Value)) (qs:List (Nat×Nat×AV)) (cells:Array Value) (cs res:List AV),gI P w D ι cs cells->(∀a∈cs,a.cell=true)->ps.length=qs.length->
  (∀(k:Nat) i u o' n x,ps[k]? =some (i,u)->qs[k]? =some (o',n,x)->place i=some (o',n)/\dX P w D ι x u)->bY cs qs=some res->∃kK,Instr.fill place cells ps=some kK/\gI P w D ι res kK/\(∀a∈res,a.cell=true)/\res.length=cs.length:=by
 intro ps
 induction ps with
 |nil=>
  intro qs cells cs res hR hf hl _ hv
  cases qs with
  |nil=>simp[bY]at hv;subst hv;exact⟨cells,rfl,hR,hf,rfl⟩
  |cons q r=>simp at hl
 |cons p ps ih=>
  intro qs cells cs res hR hf hl hp hv
  cases qs with
  |nil=>simp at hl
  |cons q qs=>
   obtain⟨i,u⟩:=p;obtain⟨oo,n,x⟩:=q;obtain⟨mA,hr⟩:=hp 0 i u oo n x rfl rfl;unfold bY at hv
   split at hv
   ·rename_i hc;obtain⟨c1,c2,c3⟩:=hc;have hk:=ub hr c3;have Xk:u.cells.size=n:=by rw[hk.1,c1]
    have eD:cells.size=cs.length:=hR.1;unfold Instr.fill;simp only[mA];rw[if_neg (by rw[Xk,eD];simp;omega)];obtain⟨s1,s2⟩:=foldl_set u.cells.toList 0 oo cells (by simp;omega)
    have e0:(u.cells.zipIdx.foldl (fun cs (x:Value×Nat)=>cs.setIfInBounds (oo+x.2) x.1) cells)=(u.cells.toList.zipIdx 0).foldl (fun cs (x:Value×Nat)=>cs.setIfInBounds (oo+x.2) x.1) cells:=by
     rw[<-Array.foldl_toList];simp
    have sZ:=ih qs (u.cells.zipIdx.foldl (fun cs (x:Value×Nat)=>cs.setIfInBounds (oo+x.2) x.1) cells) (cs.take oo++x.cells++cs.drop (oo+n)) res ?_ ?_ (by simpa using hl) (fun k i u o' n x h1 h2=>hp (k+1) i u o' n x (by simpa using h1) (by simpa using h2)) hv
    ·obtain⟨kK,h1,h2,h3,h4⟩:=sZ;refine⟨kK,h1,h2,h3,?_⟩;rw[h4];simp;omega
    ·rw[e0];refine⟨by rw[s1,eD];simp;omega,fun j a ha=>?_⟩;rw[s2 j];simp only[Nat.add_zero,Array.length_toList]
     by_cases hj:oo<=j/\j<oo+u.cells.size
     ·rw[if_pos hj];rw[List.append_assoc,List.getElem?_append_right (by simp;omega),List.getElem?_append_left (by simp;omega)]at ha;simp only[List.length_take]at ha;rw[show min oo cs.length=oo by omega]at ha
      simpa using hk.2 _ _ ha
     ·rw[if_neg hj]
      by_cases QU:j<oo
      ·rw[List.append_assoc,List.getElem?_append_left (by simp;omega),List.getElem?_take,if_pos QU]at ha;exact hR.2 _ _ ha
      ·rw[List.getElem?_append_right (by simp;omega)]at ha;simp only[List.length_append,List.length_take,List.getElem?_drop]at ha;rw[show oo+n+(j-(min oo cs.length+x.cells.length))=j by omega]at ha;exact hR.2 _ _ ha
    ·intro b hb
     rcases List.mem_append.1 hb with hb|hb
     ·rcases List.mem_append.1 hb with hb|hb
      ·exact hf b (List.mem_of_mem_take hb)
      ·exact List.all_eq_true.1 c3 b hb
     ·exact hf b (List.mem_of_mem_drop hb)
   ·simp at hv
theorem AN {fs:List Field} (h:∀f∈fs,(P.info? f.type).isSome=true):∃places,fs.mapM (fun f=>(P.info? f.type).map fun i=>(f.offset,i.size))=some places/\∀(i:Nat) (f:Field) (n:Nat),fs[i]? =some f->fe P f.type=some n->places[i]? =some (f.offset,n):=by
 induction fs with
 |nil=>exact⟨[],rfl,fun i f n h=>by simp at h⟩
 |cons f r ih=>
  obtain⟨q,h1,h2⟩:=ih (fun x hx=>h x (List.mem_cons_of_mem _ hx));obtain⟨i,hi⟩:=Option.isSome_iff_exists.1 (h f (by simp));refine⟨(f.offset,i.size)::q,by simp[hi,h1],fun k x n hk hn=>?_⟩
  cases k with
  |zero=>simp at hk;subst hk;simp[fe,hi]at hn;subst hn;rfl
  |succ k=>simp at hk ⊢;exact h2 k x n hk hn
theorem tn {ps:List (Nat×Operand)} {l:List (Nat×O)} (E:dR P w D ι env a) (h:ps.mapM (fun(x:Nat×Operand)=>(cO P x.2).map (x.1,·))=some l):l.length=ps.length/\∀(k i:Nat) (y:O),l[k]? =some (i,y)->∃x,ps[k]? =some (i,x)/\cO P x=some y:=by
 induction ps generalizing l with
 |nil=>simp at h;subst h;simp
 |cons p r ih=>
  simp only[List.mapM_cons,Option.bind_eq_bind,Option.bind_eq_some_iff]at h;obtain⟨c,hc,uD,eD,h⟩:=h
  simp at h;subst h
  obtain⟨h1,h2⟩:=ih eD;simp only[Option.map_eq_some_iff]at hc;obtain⟨y,hy,rfl⟩:=hc;refine⟨by simp[h1],fun k i z hk=>?_⟩
  cases k with
  |zero=>simp at hk;obtain⟨rfl,rfl⟩:=hk;exact⟨p.2,rfl,hy⟩
  |succ k=>simp at hk ⊢;exact h2 k i z hk
theorem Hf {fs:Array Field} {l:List (Nat×O)} {q:List (Nat×Nat×O)} (h:wC P fs l=some q):q.length=l.length/\∀(k oo n:Nat) (y:O),q[k]? =some (oo,n,y)->∃(i:Nat) (f:Field),l[k]? =some (i,y)/\fs[i]? =some f/\f.offset=oo/\fe P f.type=some n:=by
 induction l generalizing q with
 |nil=>simp[wC]at h;subst h;simp
 |cons p r ih=>
  obtain⟨i,x⟩:=p;unfold wC at h
  split at h
  ·rename_i f hf
   split at h
   ·rename_i n hn;simp only[Option.map_eq_some_iff]at h;obtain⟨q',Q0,rfl⟩:=h;obtain⟨h1,h2⟩:=ih Q0;refine⟨by simp[h1],fun k oo m y hk=>?_⟩
    cases k with
    |zero=>simp at hk;obtain⟨rfl,rfl,rfl⟩:=hk;exact⟨i,f,rfl,hf,rfl,hn⟩
    |succ k=>simp only[List.getElem?_cons_succ]at hk ⊢;exact h2 k oo m y hk
   ·simp at h
  ·simp at h
theorem gI.agg {xs:List AV} {vs:Array Value} (h:gI P w D ι xs vs) (hf:∀a∈xs,a.cell=true):dX P w D ι (.agg xs) (.agg vs):=
 .agg xs vs (fun j=>vs.getD j undef) h.1 hf (fun j hj=>by
  have:j<vs.size:=by rw[h.1];exact hj
  simp[this]) (fun j a ha=>by
  obtain⟨u,h1,h2⟩:=h.2 j a ha
  simpa[Array.getD_eq_getD_getElem?,h1]using h2)
theorem Sa {t:TypeId} {ps:Array (Nat×Operand)} {fs:Array Field} {z:List K} {l:List (Nat×O)} {q:List (Nat×Nat×O)} {cs:List AV} (E:dR P w D ι env a) (ho:o.op=.build t ps) (ht:P.underlying t=some (.struct fs)) (hz:lk P t=some z) (hl:wF P ps=some l)
  (uP:∀f∈fs.toList,(P.info? f.type).isSome=true) (hq:wC P fs l=some q) (hv:bY (z.map K.av) (q.map fun(o,n,x)=>(o,n,dq env x))=some cs):qv P a o w D ι (.agg cs):=by
 obtain⟨it,zv,hi,zu,hs,hm,Jn⟩:=lG hz;obtain⟨places,mA,hpl2⟩:=AN uP;have hk:=kL (P:=P) (w:=w) (D:=D) (ι:=ι) hm;obtain⟨n1,r1⟩:=tn E hl;obtain⟨n2,r2⟩:=Hf hq
 obtain⟨kK,h1,h2,h3,_⟩:=zd (P:=P) (w:=w) (D:=D) (ι:=ι) (places.toArray[·]?) (ps.toList.map fun(i,x)=>(i,a.eval x)) (q.map fun(o,n,x)=>(o,n,dq env x)) zv.cells _ cs (by simpa using hk)
  (fun b hb=>by obtain⟨c,_,rfl⟩:=List.mem_map.1 hb;exact c.pe) (by simp[n2,n1]) (fun k i u o' n x xD qU=>by
   simp only[List.getElem?_map,Option.map_eq_some_iff]at xD qU;obtain⟨⟨i',x'⟩,hp,e1⟩:=xD;obtain⟨⟨o2,n',y⟩,Q0,e2⟩:=qU;simp only[Prod.mk.injEq]at e1 e2;obtain⟨rfl,rfl⟩:=e1;obtain⟨rfl,rfl,rfl⟩:=e2;obtain⟨i2,f,KM,hf,rfl,hn⟩:=r2 _ _ _ _ Q0;obtain⟨x2,qf,hc⟩:=r1 _ _ _ KM;rw[hp]at qf;simp only[Option.some.injEq,Prod.mk.injEq]at qf;obtain⟨rfl,rfl⟩:=qf
   exact⟨by simpa using hpl2 _ _ _ (by simpa using hf) hn,eo E hc⟩) hv
 refine⟨.agg kK,?_,h2.agg h3⟩
 have hb:P.built t ((ps.map fun(i,x)=>(i,a.eval x)).toList)=some kK:=by
  unfold Program.built;simp only[hi,ht,zu,mA]
  simpa using h1
 simp only[execOp,ho,Sem.run_bind,run_build w t _ _ hb,Result.andThen_ok,Sem.run_pure]
theorem PD {t e:TypeId} {len n:Nat} {ps:Array (Nat×Operand)} {z:List K} {l:List (Nat×O)} {cs:List AV} (E:dR P w D ι env a) (ho:o.op=.build t ps) (ht:P.underlying t=some (.array len e)) (hz:lk P t=some z) (hl:wF P ps=some l) (hn:fe P e=some n)
  (hv:bY (z.map K.av) ((l.map fun(x:Nat×O)=>(x.1*n,n,x.2)).map fun(o,n,x)=>(o,n,dq env x))=some cs):qv P a o w D ι (.agg cs):=by
 obtain⟨it,zv,hi,zu,hs,hm,Jn⟩:=lG hz;have hk:=kL (P:=P) (w:=w) (D:=D) (ι:=ι) hm;obtain⟨n1,r1⟩:=tn E hl;obtain⟨ie,Jf,eT⟩:∃ie,P.info? e=some ie/\ie.size=n:=by simpa[fe]using hn
 obtain⟨kK,h1,h2,h3,_⟩:=zd (P:=P) (w:=w) (D:=D) (ι:=ι) (fun i=>some (i*ie.size,ie.size)) (ps.toList.map fun(i,x)=>(i,a.eval x)) ((l.map fun(x:Nat×O)=>(x.1*n,n,x.2)).map fun(o,n,x)=>(o,n,dq env x)) zv.cells _ cs (by simpa using hk)
  (fun b hb=>by obtain⟨c,_,rfl⟩:=List.mem_map.1 hb;exact c.pe) (by simp[n1]) (fun k i u o' n' x xD qU=>by
   simp only[List.getElem?_map,Option.map_eq_some_iff]at xD qU;obtain⟨⟨i',x'⟩,hp,e1⟩:=xD;obtain⟨⟨o2,n2,y⟩,⟨⟨i2,y2⟩,KM,e3⟩,e2⟩:=qU;simp only[Prod.mk.injEq]at e1 e2 e3;obtain⟨rfl,rfl⟩:=e1;obtain⟨rfl,rfl,rfl⟩:=e2;obtain⟨rfl,rfl,rfl⟩:=e3;obtain⟨x2,qf,hc⟩:=r1 _ _ _ KM;rw[hp]at qf;simp only[Option.some.injEq,Prod.mk.injEq]at qf;obtain⟨rfl,rfl⟩:=qf
   exact⟨by rw[eT],eo E hc⟩) hv
 refine⟨.agg kK,?_,h2.agg h3⟩
 have hb:P.built t ((ps.map fun(i,x)=>(i,a.eval x)).toList)=some kK:=by
  unfold Program.built;simp only[hi,ht,zu,Jf]
  simpa using h1
 simp only[execOp,ho,Sem.run_bind,run_build w t _ _ hb,Result.andThen_ok,Sem.run_pure]
theorem zb:∀(vs:List AV) (sz i:Nat) (rs:List (List AV)) (cs:List AV),0<sz->cs.length=(i+vs.length)*sz->rowsOf sz vs=some rs->
  bY cs ((vs.zipIdx i).map fun(v,j)=>(j*sz,sz,v))=some (cs.take (i*sz)++rs.flatten)/\rs.length=vs.length/\(∀c∈rs,c.length=sz)/\∀c∈rs,∀x∈c,x.cell=true
 |[],sz,i,rs,cs,_,hl,h=>by
  simp[rowsOf]at h;subst h
  simp at hl
  simp[bY,List.take_of_length_le (show cs.length<=i*sz by omega)]
 |v::r,sz,i,rs,cs,eT,hl,h=>by
  simp only[rowsOf,Option.bind_eq_some_iff,Option.map_eq_some_iff]at h;obtain⟨c,hc,Zq,tF,rfl⟩:=h;unfold rowOf at hc
  split at hc
  ·rename_i Yd
   simp at hc;subst hc
   obtain⟨uh,xC⟩:=Yd;simp only[List.length_cons]at hl;have hmul:(i+(r.length+1))*sz=i*sz+sz+r.length*sz:=by rw[Nat.add_mul,Nat.add_mul];omega
   have ih:=zb r sz (i+1) Zq (cs.take (i*sz)++v.cells++cs.drop (i*sz+sz)) eT (by
    simp[uh];rw[Nat.add_mul,Nat.add_mul];omega) tF
   refine⟨?_,by simp[ih.2.1],?_,?_⟩
   ·simp only[List.zipIdx_cons,List.map_cons,bY];rw[if_pos ⟨uh,ae,xC⟩,ih.1]
    congr 1
    rw[List.flatten_cons,<-List.append_assoc]
    congr 1
    rw[Nat.add_mul,Nat.one_mul,List.take_append_of_le_length (by simp[uh];omega)];rw[List.take_of_length_le (by simp[uh];omega)]
   ·intro c' l7;rcases List.mem_cons.1 l7 with rfl|l7
    ·exact uh
    ·exact ih.2.2.1 c' l7
   ·intro c' l7;rcases List.mem_cons.1 l7 with rfl|l7
    ·exact List.all_eq_true.1 xC
    ·exact ih.2.2.2 c' l7
  ·simp at hc
theorem flat_get {α:Type} {qK:List (List α)} {sz:Nat} (h:∀cs∈qK,cs.length=sz) {i j:Nat} {cs:List α} {a:α} (hi:qK[i]? =some cs) (hj:cs[j]? =some a):qK.flatten[i*sz+j]? =some a:=by
 induction qK generalizing i with
 |nil=>simp at hi
 |cons c r ih=>
  have hc:c.length=sz:=h c (by simp)
  cases i with
  |zero=>
   simp at hi;subst hi
   have eG:=(List.getElem?_eq_some_iff.1 hj).1;rw[List.flatten_cons,List.getElem?_append_left ae];simpa using hj
  |succ i=>
   rw[List.flatten_cons,List.getElem?_append_right (by rw[hc,Nat.succ_mul];omega)];have:(i+1)*sz+j-c.length=i*sz+j:=by rw[hc,Nat.succ_mul];omega
   rw[this];exact ih (fun cs eD=>h cs (List.mem_cons_of_mem _ eD)) (by simpa using hi)
theorem Nc {α:Type} {qK:List (List α)} {sz:Nat} (h:∀cs∈qK,cs.length=sz):qK.flatten.length=qK.length*sz:=by
 induction qK with
 |nil=>simp
 |cons c r ih=>
  rw[List.flatten_cons,List.length_append,h c (by simp),ih (fun cs eD=>h cs (List.mem_cons_of_mem _ eD)),List.length_cons,Nat.succ_mul];omega
theorem rK {zv:Value} {z:List K} {n:Nat} (hm:zv.cells.toList.mapM KZ=some z) (oe:0<z.length):∀k,k<n->∃c,z[k % z.length]? =some c/\((Array.range n).map (zv.cells[· % zv.cells.size]!))[k]? =some c.val:=by
 intro k hk;obtain⟨h1,h2⟩:=u9 hm;have eT:zv.cells.size=z.length:=by simpa using h1.symm
 have eG:k % z.length<z.length:=Nat.mod_lt _ oe;refine⟨z[k % z.length],List.getElem?_eq_getElem eG,?_⟩;have h3:=h2 _ _ (List.getElem?_eq_getElem eG);simp only[Array.getElem?_toList]at h3;have Fp:k % z.length<zv.cells.size:=by rw[eT];exact eG
 rw[Array.getElem?_map,Array.getElem?_range,if_pos hk];simp only[Option.map_some];rw[eT,getElem!_pos zv.cells (k % z.length) Fp];rw[Array.getElem?_eq_getElem Fp]at h3;exact h3
theorem On {t e:TypeId} {len sz:Nat} {ps:Array (Nat×Operand)} {z:List K} {l:List (Nat×O)} {rs:List (List AV)} (E:dR P w D ι env a) (ho:o.op=.buildSlice t len ps) (ht:P.underlying t=some (.slice e)) (eT:fe P e=some (sz+1)) (hz:lk P e=some z)
  (hl:wF P ps=some l) (GN:len*(sz+1)<=4096) (YO:l.map (·.1)=List.range len) (hv:rowsOf (sz+1) (l.map fun x=>dq env x.2)=some rs):Mk P a o w D ι id (.own id 0 len) ⟨true,sz+1,rs⟩:=by
 obtain⟨it,zv,hi,zu,hs,hm,Jn⟩:=lG hz;have lf:it.size=sz+1:=by simpa[fe,hi]using eT
 obtain⟨n1,r1⟩:=tn E hl;have P0:l.length=len:=by have:=congrArg List.length YO;simpa using this
 by_cases h0:len=0
 ·subst h0;have wM:l=[]:=List.length_eq_zero_iff.1 P0;subst wM;simp[rowsOf]at hv;subst hv
  have U4:ps= #[]:=by
   apply Array.ext';apply List.eq_nil_of_length_eq_zero;rw[<-n1];rfl
  subst U4;refine⟨.slice (some ⟨w.heap.size,0,none⟩) 0 0, #[],e,?_,rfl,by simp,by simp,by simp,fun i j cs x hi=>by simp at hi,fun ι' hι=>?_⟩
  ·simp[execOp,ho,Instr.buildSlice,run_underlying ht,sizeOf,typeInfo,hi,Instr.fill,newRow,Array.range_zero']
  ·exact .own _ 0 0 0 0 _ hι rfl (Nat.le_refl _) (.inl rfl) (by simp) (by simp[maxLen])
 ·have A5:gI P w D ι ((List.range (len*(sz+1))).map fun k=>(z.getD (k % z.length) .ck).av) ((Array.range (len*(sz+1))).map (zv.cells[· % zv.cells.size]!)):=by
   refine⟨by simp,fun j x hx=>?_⟩;simp only[List.getElem?_map,Option.map_eq_some_iff]at hx;obtain⟨k,hk,rfl⟩:=hx;have l8:=(List.getElem?_eq_some_iff.1 hk).1
   simp at l8
   rw[List.getElem?_range l8]at hk;injection hk with hk
   subst hk;obtain⟨c,hc,QP⟩:=rK hm (by rw[Jn,lf];omega) j l8;exact⟨c.val,QP,by rw[List.getD_eq_getElem?_getD,hc];exact Ac c⟩
  obtain⟨f1,f2,f3,f4⟩:=zb (l.map fun x=>dq env x.2) (sz+1) 0 rs ((List.range (len*(sz+1))).map fun k=>(z.getD (k % z.length) .ck).av) ae (by simp[P0]) hv
  obtain⟨kK,h1,h2,h3,h4⟩:=zd (P:=P) (w:=w) (D:=D) (ι:=ι) (fun i=>some (i*it.size,it.size)) (ps.toList.map fun(i,x)=>(i,a.eval x)) _ _ _ _ A5
   (fun b hb=>by obtain⟨c,_,rfl⟩:=List.mem_map.1 hb;exact K.pe _) (by simp[n1]) (fun k i u o' n x xD qU=>by
   simp only[List.getElem?_map,Option.map_eq_some_iff]at xD qU;obtain⟨⟨i',x'⟩,hp,e1⟩:=xD;obtain⟨⟨v2,j2⟩,Q0,e2⟩:=qU;simp only[Prod.mk.injEq]at e1 e2;obtain⟨rfl,rfl⟩:=e1;obtain⟨rfl,rfl,rfl⟩:=e2;rw[List.getElem?_zipIdx]at Q0;simp only[List.getElem?_map,Option.map_map,Option.map_eq_some_iff,Function.comp_apply,Prod.mk.injEq,Nat.zero_add]at Q0;obtain⟨⟨i2,y⟩,KM,rfl,rfl⟩:=Q0;obtain⟨x2,qf,hc⟩:=r1 _ _ _ KM;rw[hp]at qf;simp only[Option.some.injEq,Prod.mk.injEq]at qf;obtain⟨rfl,rfl⟩:=qf;have BL:(l.map (·.1))[k]? =some i':=by rw[List.getElem?_map,KM];rfl
   have l8:=(List.getElem?_eq_some_iff.1 BL).1;rw[YO]at BL
   simp at l8
   rw[List.getElem?_range ae]at BL;injection BL with BL
   subst BL
   exact⟨by rw[lf],eo E hc⟩) f1
  simp only[Nat.zero_mul,List.take_zero,List.nil_append,List.length_map]at h2 h3 h4 f2;have eD:kK.size=len*(sz+1):=by rw[h2.1,h4];simp
  refine⟨.slice (some ⟨w.heap.size,0,none⟩) len len,kK,e,?_,rfl,?_,f3,f4,fun i j cs x yq hj=>h2.2 _ _ (flat_get f3 yq hj),fun ι' hι=>?_⟩
  ·have gW:=run_buildSlice (P:=P) w t e len (ps.map fun(i,x)=>(i,a.eval x)) kK it zv ht hi zu (by rw[lf];omega) (by rw[lf];exact Nat.mul_ne_zero h0 ae) (by rw[<-lf]at h1;simpa using h1);simp only[execOp,ho,Sem.run_bind,gW,Result.andThen_ok,Sem.run_pure]
  ·dsimp only;rw[f2,P0,eD];exact Nat.le_refl _
  ·refine .own _ 0 len 0 len _ hι rfl (Nat.le_refl _) (.inr (by simp)) ?_ (by simp only[maxLen];have:=Nat.le_mul_of_pos_right len (show 0<sz+1 by omega);omega);dsimp only;rw[eD];simp
theorem Lm {t e:TypeId} {it:TypeInfo} {m:Nat} {z:List K} {l c:Operand} {l' c':O} {n:Nat} {r:Row} (E:dR P w D ι env a) (ho:o.op=.makeSlice t l c) (ht:P.underlying t=some (.slice e)) (eT:fe P e=some (m+1)) (hz:lk P e=some z) (Mf:P.info? e=some it) (hby:it.bytes<=32768)
  (hl:cO P l=some l') (hc:cO P c=some c') (hv:fE z (dq env l') (dq env c')=some (n,r)):Mk P a o w D ι id (.own id 0 n) r:=by
 obtain⟨it',zv,hi,zu,hs,hm,Jn⟩:=lG hz;rw[Mf]at hi;injection hi with hi;subst hi
 have lf:it.size=m+1:=by simpa[fe,Mf]using eT
 unfold fE at hv
 split at hv
 ·rename_i k1 ln k2 cn e1 e2
  split at hv
  ·rename_i hb;obtain⟨b1,b2,b3⟩:=hb
   simp at hv
   obtain⟨rfl,rfl⟩:=hv;have r1:=eh (e1▸eo E hl);have r2:=eh (e2▸eo E hc);unfold dj at b3
   have GG:(it.bytes:Int)*cn<=281474976710656:=by
    have h1:(it.bytes:Int)<=32768:=ae;have h2:(it.bytes:Int)*cn<=32768*16777216:=Int.mul_le_mul h1 ae ae ae;omega
   have gW:=run_make (P:=P) w t e it zv ht Mf zu k1 k2 ln cn b1 b2 GG ae;have nM:∀k,k<cn.toNat*it.size->∃x,z[k % z.length]? =some x/\(madeCells zv.cells (cn.toNat*it.size))[k]? =some x.val:=fun k hk=>rK hm (by rw[Jn,lf];omega) k hk;refine⟨.slice (some ⟨w.heap.size,0,none⟩) ln.toNat cn.toNat,madeCells zv.cells (cn.toNat*it.size),e,by simp only[execOp,ho,r1,r2,Sem.run_bind,gW,Result.andThen_ok,Sem.run_pure],rfl,?_,?_,?_,?_,fun ι' hι=>?_⟩
   ·simp only[List.length_replicate,size_madeCells,Jn];exact Nat.mul_le_mul_right _ ae
   ·intro cs eD;have:=List.eq_of_mem_replicate eD;subst this;simp
   ·intro cs eD x hx;have:=List.eq_of_mem_replicate eD;subst this;obtain⟨c,_,rfl⟩:=List.mem_map.1 hx;exact c.pe
   ·intro i j cs x yq hj;have sO:=(List.getElem?_eq_some_iff.1 yq).1;have:=List.eq_of_mem_replicate (List.mem_of_getElem? yq);subst this;simp only[List.length_replicate]at sO;simp only[List.getElem?_map,Option.map_eq_some_iff]at hj;obtain⟨q,hq,rfl⟩:=hj;have iL:=(List.getElem?_eq_some_iff.1 hq).1;dsimp only
    obtain⟨x,hx,qf⟩:=nM (i*z.length+j) (by
     rw[<-Jn]
     calc i*z.length+j<i*z.length+z.length:=ae
      _=(i+1)*z.length:=by rw[Nat.add_mul,Nat.one_mul]
      _<=cn.toNat*z.length:=Nat.mul_le_mul_right _ ae)
    rw[Nat.mul_comm i,Nat.mul_add_mod,Nat.mod_eq_of_lt iL,hq]at hx;injection hx with hx;subst hx
    exact⟨_,by rw[Nat.mul_comm i]at qf ⊢;exact qf,Ac q⟩
   ·refine .own _ 0 _ 0 _ _ hι rfl ae (.inr (by simp)) ?_ (by simp only[maxLen];omega);dsimp only;rw[size_madeCells,Jn];simp
  ·simp at hv
 ·simp at hv
end
end V

namespace V
open Go.RowKit
variable {P:Program} {w w':World} {D D':Nat->Prop} {ι ι':Names}
def IH (P:Program) (k:TypeId) (m:MK):Prop:=
 (∃s,m=⟨false,[s]⟩/\gR P k=some s)∨
 (∃fs ts,m=⟨true,ts⟩/\P.underlying k=some (.struct fs)/\fN P 4 0 fs.toList=some ts/\P.stoodInHeld k=false/\∀f∈fs.toList,(gR P f.type).isSome=true)
theorem uy {t:TypeId} {m:MK} {z:K} (h:wE P t=some (m,z)):∃k e i zv,P.underlying t=some (.map k e)/\P.info? e=some i/\i.zero=some zv/\KZ zv=some z/\IH P k m:=by
 unfold wE at h
 split at h
 ·rename_i k e ht
  split at h
  ·rename_i zv s h1 h2 h3;simp only[Option.map_eq_some_iff,Prod.mk.injEq]at h;obtain⟨z',hz,rfl,rfl⟩:=h;simp only[Option.bind_eq_some_iff]at h2;obtain⟨i,hi,zu⟩:=h2;exact⟨k,e,i,zv,ht,hi,zu,hz,.inl ⟨s,rfl,h3⟩⟩
  ·rename_i zv fs h1 h2 h3 h4
   split at h
   ·rename_i ts z' Em hz
    split at h
    ·rename_i hc;simp only[Option.some.injEq,Prod.mk.injEq]at h;obtain⟨rfl,rfl⟩:=h;simp only[Option.bind_eq_some_iff]at h2;obtain⟨i,hi,zu⟩:=h2;simp only[Bool.not_eq_true',List.all_eq_true]at hc;exact⟨k,e,i,zv,ht,hi,zu,hz,.inr ⟨fs,ts,rfl,h4,Em,hc.1,hc.2⟩⟩
    ·cases h
   ·cases h
  ·cases h
 ·cases h
theorem Ai {t:TypeId} {s:TS} (ht:gR P t=some s) (em:Bool) (n:Nat) (v:Value):(Instr.checkKey em (n+1) t v).run P w=.ok () w:=by
 unfold Instr.checkKey
 cases s with
 |tB=>simp[run_underlying (sr ht)]
 |tS=>simp[run_underlying (sC ht)]
 |tI=>
  obtain⟨q,hq⟩:=sx ht;simp[run_underlying hq]
theorem Aj (em:Bool) (n:Nat) (vs:Array Value):∀(d:Nat) (fs:List Field) (off:Nat) (ts:List TS),fN P (d+1) off fs=some ts->(∀f∈fs,(gR P f.type).isSome=true)->off+ts.length<=vs.size->
  Sem.run P (forIn fs PUnit.unit fun f (_:PUnit)=>if f.name≠ "_" then do
    let x <-Go.part f.type vs f.offset
    Instr.checkKey em (n+1) f.type x
    pure (ForInStep.yield PUnit.unit)
   else pure (ForInStep.yield PUnit.unit)) w=Result.ok PUnit.unit w
 |d,[],off,ts,_,_,_=>by simp
 |d,f::r,off,ts,hf,hs,hl=>by
  rw[BA]at hf
  split at hf
  ·rename_i hcond;obtain⟨ho,ju⟩:=hcond
   split at hf
   ·rename_i s Mi
    split at hf
    ·rename_i sX;simp only[Option.map_eq_some_iff]at hf;obtain⟨P9,hr,rfl⟩:=hf;simp only[List.length_cons]at hl;have ih:=Aj em n vs d r (off+1) P9 hr (fun f hf=>hs f (List.mem_cons_of_mem _ hf)) ae;have hu:vs[off]? =some vs[off]:=by simp
     simp only[List.forIn_cons,Sem.run_bind,if_pos ju,ho,oQ sX hu,Result.andThen_ok,Ai Mi,Sem.run_pure];exact ih
    ·cases hf
   ·rename_i hn;have:=hs f (by simp);rw[hn]at this;cases this
  ·cases hf
theorem Ij {k:TypeId} {m:MK} (hk:IH P k m) (em:Bool) (key:AV) (u:Value) (sX:key.isAgg=m.ka) (hlen:key.cells.length=m.ks) (hr:dX P w D ι key u):(Instr.checkKey em 10000 k u).run P w=.ok () w:=by
 rcases hk with⟨s,rfl,hs⟩|⟨fs,ts,rfl,uP,Em,ez,fy⟩
 ·exact Ai hs em 9999 u
 ·cases key<;>simp[AV.isAgg]at sX
  rename_i cs;obtain⟨vs,f,rfl,h1,_⟩:=jQ hr;unfold Instr.checkKey;simp only[Sem.run_bind,run_underlying uP,Result.andThen_ok];rw[<-Array.forIn_toList];have h:=Aj (P:=P) (w:=w) em 9998 vs 3 fs.toList 0 ts Em fy (by simp[AV.cells,MK.ks]at hlen;omega);rw[h]
  rfl
theorem ML (a b:ByteArray):(a==b)=decide (a=b):=by
 by_cases h:a=b
 ·subst h;rw[decide_eq_true rfl];obtain⟨x⟩:=a;show(x==x)=true
  simp
 ·rw[decide_eq_false h,Bool.eq_false_iff];intro hc;obtain⟨x⟩:=a;obtain⟨y⟩:=b;exact h (by rw[show x=y by simpa using(show(x==y)=true from hc)])
theorem OV {t:TypeId} {s:TS} {x y:AV} {u v:Value} {b:Bool} {d:TypeDesc} (ht:gR P t=some s) (hd:P.underlying t=some d) (he:e8 s x y=some b) (hx:dX P w D ι x u) (hy:dX P w D ι y v):Instr.sameNow d u v=some b:=by
 unfold e8 at he
 split at he
 ·rename_i k n k' n'
  split at he
  ·rename_i hk;subst hk
   simp at he;subst he
   obtain⟨q,hq⟩:=sx ht;rw[hd]at hq;injection hq with hq;subst hq
   rw[eh hx,eh hy];simp[Instr.sameNow]
   rfl
  ·cases he
 ·simp at he;subst he
  have hq:=sr ht;rw[hd]at hq;injection hq with hq;subst hq
  rw[gx hx,gx hy];rfl
 ·rename_i a c
  simp at he;subst he
  have hq:=sC ht;rw[hd]at hq;injection hq with hq;subst hq
  rw[il hx,il hy];simp only[Instr.sameNow,ML]
 ·cases he
def Found (es:List MapEntry) (i:Nat) (r:Option Nat) (res:Option (Nat×Value)):Prop:=(r=none/\res=none)∨∃j e,r=some (i+j)/\es[j]? =some e/\res=some (i+j,e.val)
theorem zg {e:MapEntry} {es:List MapEntry} {i:Nat} {r:Option Nat} {res:Option (Nat×Value)} (h:Found es (i+1) r res):Found (e::es) i r res:=by
 rcases h with h|⟨j,x,h1,h2,h3⟩
 ·exact .inl h
 ·exact .inr ⟨j+1,x,by rw[h1];congr 1;omega,by simpa using h2,by rw[h3];congr 2;omega⟩
theorem E0 {t:TypeId} {s:TS} {d:TypeDesc} {x:AV} {u:Value} (ht:gR P t=some s) (hd:P.underlying t=some d) (hx:dX P w D ι x u):∀(rows:List (List AV)) (es:List MapEntry) (i:Nat) (r:Option Nat),es.length=rows.length->
  (∀(j:Nat) (cs:List AV),rows[j]? =some cs->∃(e:MapEntry) (kv:AV),es[j]? =some e/\cs.head? =some kv/\dX P w D ι kv e.key)->ig ⟨false,[s]⟩ [x] rows i=some r->∃res,Instr.findNow d u es i=some res/\Found es i r res
 |[],[],i,r,_,_,h=>by
  simp[ig]at h;subst h;exact⟨none,rfl,.inl ⟨rfl,rfl⟩⟩
 |[],e::es,i,r,hl,_,h=>by simp at hl
 |cs::rows,[],i,r,hl,_,h=>by simp at hl
 |cs::rows,e::es,i,r,hl,hr,h=>by
  obtain⟨e',kv,Fi,hk,jv⟩:=hr 0 cs rfl
  simp at Fi;subst Fi
  have eD:cs.take (MK.ks ⟨false,[s]⟩)=[kv]:=by
   cases cs with
   |nil=>simp at hk
   |cons a l=>simp at hk;subst hk;simp[MK.ks]
  unfold ig at h;rw[eD]at h
  cases hq:e8 s x kv with
  |none=>simp[eF,hq]at h
  |some b=>
   have hs:=OV ht hd hq hx jv
   cases b with
   |true=>
    simp[eF,hq]at h;subst h;exact⟨some (i,e.val),by simp[Instr.findNow,hs],.inr ⟨0,e,rfl,rfl,rfl⟩⟩
   |false=>
    simp[eF,hq]at h;obtain⟨res,h1,h2⟩:=E0 ht hd hx rows es (i+1) r (by simpa using hl) (fun j cs hj=>hr (j+1) cs (by simpa using hj)) h;exact⟨res,by simp[Instr.findNow,hs,h1],zg h2⟩
theorem td {t:TypeId} {fs:Array Field} {ts:List TS} {xs ys:List AV} {vs us:Array Value} {b:Bool} (uP:P.underlying t=some (.struct fs)) (ez:P.stoodInHeld t=false) (Em:fN P 4 0 fs.toList=some ts) (hx:gI P w D ι xs vs) (hy:gI P w D ι ys us) (hv:eF ts xs ys=some b):(Op.equal t (.agg vs) (.agg us)).run P w=.ok b w:=by
 obtain⟨l1,l2⟩:=uH hv;have q:=vI (w:=w) 4 fs.toList 0 ts Em 9998 ae xs ys vs us b hx hy (by simpa[List.take_of_length_le,l1,l2]using hv);have NA:P.fieldsOf t=fs:=by simp[Program.fieldsOf,uP]
 unfold Op.equal;rw[show Op.maxDepth=9999+1 from rfl,run_equalIn_struct w 9999 t _ _ (by rw[NA];exact uP) ez,NA,q]
theorem vG {cs:List AV} {v:Value} (h:dX P w D ι (.agg cs) v):∃vs,v=.agg vs/\gI P w D ι cs vs:=by
 obtain⟨vs,f,rfl,n1,_,f1,r1⟩:=jQ h;exact⟨vs,rfl,n1,fun j a ha=>⟨f j,f1 j (List.getElem?_eq_some_iff.1 ha).1,r1 j a ha⟩⟩
theorem EZ {t:TypeId} {fs:Array Field} {ts:List TS} {xs:List AV} {vs:Array Value} (uP:P.underlying t=some (.struct fs)) (ez:P.stoodInHeld t=false) (Em:fN P 4 0 fs.toList=some ts) (hx:gI P w D ι xs vs):∀(rows:List (List AV)) (es:List MapEntry) (i:Nat) (r:Option Nat),es.length=rows.length->
  (∀(j:Nat) (cs:List AV),rows[j]? =some cs->∃e:MapEntry,es[j]? =some e/\dX P w D ι (.agg (cs.take ts.length)) e.key)->ig ⟨true,ts⟩ xs rows i=some r->∃res,(Instr.findAsking t (.agg vs) es i).run P w=.ok res w/\Found es i r res
 |[],[],i,r,_,_,h=>by
  simp[ig]at h;subst h;exact⟨none,by simp[Instr.findAsking],.inl ⟨rfl,rfl⟩⟩
 |[],e::es,i,r,hl,_,h=>by simp at hl
 |cs::rows,[],i,r,hl,_,h=>by simp at hl
 |cs::rows,e::es,i,r,hl,hr,h=>by
  obtain⟨e',Fi,jv⟩:=hr 0 cs rfl
  simp at Fi;subst Fi
  obtain⟨us,hk,hy⟩:=vG jv;unfold ig at h;simp only[MK.ks]at h
  split at h
  ·rename_i hq
   simp at h;subst h
   have q:=td uP ez Em hx hy hq;exact⟨some (i,e.val),by simp[Instr.findAsking,hk,q],.inr ⟨0,e,rfl,rfl,rfl⟩⟩
  ·rename_i hq;have q:=td uP ez Em hx hy hq;obtain⟨res,h1,h2⟩:=EZ uP ez Em hx rows es (i+1) r (by simpa using hl) (fun j cs hj=>hr (j+1) cs (by simpa using hj)) h;exact⟨res,by simp[Instr.findAsking,hk,q,h1],zg h2⟩
  ·cases h
theorem yZ {a:AV} (h:a.isAgg=false):a.cells=[a]:=by cases a<;>simp_all [AV.isAgg,AV.cells]
theorem ze {k:TypeId} {m:MK} {B:wv} {r:Row} (hk:IH P k m) {key:AV} {u:Value} (hr:dX P w D ι key u) {es:Array MapEntry} (eT:es.size=r.rows.length)
  (hM:∀(i:Nat) (cs:List AV),r.rows[i]? =some cs->∃(e:MapEntry) (kv vv:AV),es[i]? =some e/\part m.ka m.ks cs=some kv/\cs[m.ks]? =some vv/\dX P w D ι kv e.key/\dX P w D ι vv e.val) {fi:Option Nat} (h:gZ m key r.rows=some fi):
  (∀em,(Instr.checkKey em 10000 k u).run P w=.ok () w)/\∃res,(Instr.findKey k u es.toList).run P w=.ok res w/\Found es.toList 0 fi res:=by
 unfold gZ at h
 split at h
 ·rename_i hc;obtain⟨c1,c2,c3⟩:=hc;refine⟨fun em=>Ij hk em key u c1 c2 hr,?_⟩
  rcases hk with⟨s,rfl,hs⟩|⟨fs,ts,rfl,uP,Em,ez,fy⟩
  ·rw[yZ c1]at h
   have hd:∃d,P.underlying k=some d:=by
    cases s with
    |tB=>exact⟨_,sr hs⟩
    |tS=>exact⟨_,sC hs⟩
    |tI=>obtain⟨q,hq⟩:=sx hs;exact⟨_,hq⟩
   obtain⟨d,hd⟩:=hd
   obtain⟨res,h1,h2⟩:=E0 hs hd hr r.rows es.toList 0 fi (by simpa using eT) (fun j cs hj=>by
    obtain⟨e,kv,vv,q1,q2,_,q4,_⟩:=hM j cs hj
    exact⟨e,kv,by simpa using q1,by simpa[part]using q2,q4⟩) h
   exact⟨res,by simp[Instr.findKey,run_underlying hd,h1],h2⟩
  ·cases key<;>simp[AV.isAgg]at c1
   rename_i cs;obtain⟨vs,rfl,hL⟩:=vG hr
   obtain⟨res,h1,h2⟩:=EZ uP ez Em hL r.rows es.toList 0 fi (by simpa using eT) (fun j cs hj=>by
    obtain⟨e,kv,vv,q1,q2,_,q4,_⟩:=hM j cs hj;unfold part at q2;simp only[if_true]at q2
    split at q2
    ·simp only[Option.some.injEq]at q2;subst q2;exact⟨e,by simpa using q1,q4⟩
    ·cases q2) h
   exact⟨res,(run_findKey_eq w (by simp[uP]) _ _).trans h1,h2⟩
 ·cases h
section
variable {g:Rows} {hs:Nat} {env:Env} {a:Act} {o:Oper} {id:Id} {v:AV}
theorem Dz {m:MK} {x:AV} {u:Value} {p:Id×Row} (S:iE P hs D ι g w) (hr:dX P w D ι x u) (h:dw g m x=some p):∃B,u=.map (some B.b)/\g p.1=some p.2/\ι p.1=some B/\B.k=some (.map m)/\Sv P w D ι B m p.2:=by
 unfold dw at h
 split at h
 ·rename_i i m'
  split at h
  ·rename_i hm;subst hm;simp only[Option.map_eq_some_iff]at h;obtain⟨r,hg,rfl⟩:=h;obtain⟨B,rfl,hB,hk⟩:=DO hr;obtain⟨B',eY,R,_⟩:=S.row i r hg;rw[hB]at eY;injection eY with eY;subst eY
   exact⟨B,rfl,hg,hB,hk,(R.map _ hk).2⟩
  ·cases h
 ·cases h
theorem V8 {t:TypeId} {x k:Operand} {ok:Bool} {m:MK} {z:K} {x' k':O} {mr:Option Row} (S:iE P hs D ι g w) (E:dR P w D ι env a) (ho:o.op=.lookup t x k ok) (hc:wE P t=some (m,z)) (hx:cO P x=some x') (hk:cO P k=some k')
  (hv:bh (.look m ok z) [dq env x',dq env k'] g id=some (v,mr)):mr=none/\qv P a o w D ι v:=by
 obtain⟨kt,e,i,zv,ht,hi,zu,hkz,hK⟩:=uy hc;simp only[bh,Option.bind_eq_some_iff,Option.map_eq_some_iff,Prod.mk.injEq]at hv;obtain⟨p,hp,fi,Dd,y,hy,rfl,rfl⟩:=hv;obtain⟨B,hu,hg,hB,xY,es,clock,hb,eT,hlen,hM⟩:=Dz S (eo E hx) hp;obtain⟨UM,res,hf,hF⟩:=ze (B:=B) hK (eo E hk) eT hM Dd
 have key:∃val,(match res with|some (_,v)=>(v,true)|none=>(zv,false))=(val,fi.isSome)/\dX P w D ι y val:=by
  rcases hF with⟨rfl,rfl⟩|⟨j,en,rfl,he,rfl⟩
  ·simp only[dD,Option.some.injEq]at hy;subst hy;refine⟨zv,rfl,?_⟩;rw[Dr hkz];exact Ac z
  ·simp only[dD,Option.bind_eq_some_iff,Nat.zero_add]at hy;obtain⟨cs,eD,hy⟩:=hy;obtain⟨e',kv,vv,q1,_,q3,_,q5⟩:=hM _ cs eD;rw[hy]at q3;injection q3 with q3;subst q3
   have:e'=en:=by
    have h1:es.toList[j]? =some e':=by simpa using q1
    rw[he]at h1;injection h1 with h1;exact h1.symm
   subst this;exact⟨_,rfl,q5⟩
 obtain⟨val,FA,qA⟩:=key;have ib:(getObj B.b).run P w=.ok (.map es clock) w:=MapKept.run_getObj_map hb;have hz:(zeroValue e).run P w=.ok zv w:=by simp[zeroValue,typeInfo,hi,zu]
 refine⟨rfl,if ok then .tuple #[val,.bool fi.isSome]else val,?_,?_⟩
 ·simp only[execOp,ho,hu,Instr.lookup,Sem.run_bind,run_underlying ht,Result.andThen_ok,ib,Sem.run_pure,UM,hf]
  rcases hF with⟨rfl,rfl⟩|⟨j,en,rfl,he,rfl⟩
  ·simp only[Prod.mk.injEq]at FA;simp[hz,FA.1]
  ·simp only[Prod.mk.injEq]at FA;simp[FA.1]
 ·cases ok with
  |false=>exact qA
  |true=>
   refine .gG _ _ (fun j=>if j=0 then val else .bool fi.isSome) rfl (fun j hj=>?_) (fun j b hj=>?_)
   ·have:j=0∨j=1:=by simp at hj;omega
    rcases this with rfl|rfl<;>rfl
   ·match j,hj with
    |0,hj=>simp at hj;subst hj;exact qA
    |1,hj=>simp at hj;subst hj;exact .fw _ _ (.bool _)
    |j+2,hj=>simp at hj
theorem Wb {t:TypeId} {x:Operand} {m:MK} {z:K} {x':O} {mr:Option Row} (S:iE P hs D ι g w) (E:dR P w D ι env a) (ho:o.op=.call {callee:=.builtin .len,args:= #[x],argTypes:= #[t]}) (hc:wE P t=some (m,z)) (hx:cO P x=some x')
  (hv:bh (.len m) [dq env x'] g id=some (v,mr)):mr=none/\qv P a o w D ι v:=by
 obtain⟨kt,e,i,zv,ht,hi,zu,hkz,hK⟩:=uy hc;simp only[bh,Option.map_eq_some_iff,Prod.mk.injEq]at hv;obtain⟨p,hp,rfl,rfl⟩:=hv;obtain⟨B,hu,hg,hB,xY,es,clock,hb,eT,hlen,hM⟩:=Dz S (eo E hx) hp;have ib:(getObj B.b).run P w=.ok (.map es clock) w:=MapKept.run_getObj_map hb;refine⟨rfl,.int .i64 (es.size:Int),?_,by rw[eT];exact .fw _ _ (.int _ _)⟩;simp only[execOp,ho,resolve,Sem.run_bind,Sem.run_pure,Result.andThen_ok,invoke,builtin,Array.map,hu];simp[Builtin.len_,run_underlying ht,goInt,hu,ib]
def MkM (P:Program) (a:Act) (o:Oper) (w:World) (id:Id) (v:AV) (r:Row):Prop:=
 ∃m,(execOp a.eval o).run P w=.ok (.value (.map (some w.heap.size))) (w.alloc (.map #[] 0))/\v=.map id m/\r=⟨true,m.j6,[]⟩
theorem Y7 {t:TypeId} {m:MK} (ho:o.op=.makeMap t none):MkM P a o w id (.map id m) ⟨true,m.j6,[]⟩:=by
 refine⟨m,?_,rfl,rfl⟩;simp[execOp,ho,Instr.makeMap,go_sem]
def MkC (P:Program) (a:Act) (o:Oper) (w:World) (id:Id) (v:AV) (r:Row):Prop:=
 ∃n,(execOp a.eval o).run P w=.ok (.value (.chan (some w.heap.size))) (w.alloc (.chan n #[] false 0 0 false))/\v=.uB id/\r=⟨true,ET+n,[]⟩
theorem Vm {t e:TypeId} {x:Operand} {x':O} {dir:ChanDir} {i:TypeInfo} {n:Nat} (E:dR P w D ι env a) (ho:o.op=.makeChan t x) (ht:P.underlying t=some (.chan dir e)) (hi:P.info? e=some i) (hb:i.bytes<=32768) (hx:cO P x=some x') (hn:cK (dq env x')=some n):MkC P a o w id (.uB id) ⟨true,ET+n,[]⟩:=by
 refine⟨n,?_,rfl,rfl⟩;have hr:=eo E hx;unfold cK at hn
 split at hn
 ·rename_i k m hm;rw[hm]at hr
  split at hn
  ·rename_i hc;simp only[Option.some.injEq]at hn;subst hn;have HK:((m.toNat:Nat):Int)=m:=ae
   have eG:(i.bytes:Int)*(m.toNat:Nat)<=281474976710544:=by
    have h1:i.bytes*m.toNat<=32768*1048576:=Nat.mul_le_mul hb ae;have h2:((i.bytes*m.toNat:Nat):Int)<=281474976710544:=ae
    rwa [Int.natCast_mul]at h2
   have h:=Conc.run_makeChan (P:=P) (w:=w) ht hi k m.toNat ae eG;rw[HK]at h;simp only[execOp,ho,eh hr,Sem.run_bind,h,Result.andThen_ok,Sem.run_pure]
  ·cases hn
 ·cases hn
theorem CP {x:AV} {u:Value} {i:Id} {r:Row} (S:iE P hs D ι g w) (hr:dX P w D ι x u) (hx:x=.uB i) (hg:g i=some r):∃B c,u=.chan (some B.b)/\ι i=some B/\B.k=some (.chan c)/\r.sz=ET+c/\Ms P w D ι B c r:=by
 subst hx;obtain⟨B,c,rfl,hB,hk⟩:=RJ hr;obtain⟨B',eY,R,_⟩:=S.row i r hg;rw[hB]at eY;injection eY with eY;subst eY
 exact⟨B,c,rfl,hB,hk,R.chan c hk⟩
theorem V4 {t e:TypeId} {dir:ChanDir} {x:Operand} {x':O} (S:iE P hs D ι g w) (E:dR P w D ι env a) (ho:o.op=.call {callee:=.builtin .len,args:= #[x],argTypes:= #[t]}) (ht:P.underlying t=some (.chan dir e)) (hx:cO P x=some x') (hv:cI g (dq env x')=some v):qv P a o w D ι v:=by
 have hr:=eo E hx;unfold cI at hv
 split at hv
 ·rename_i i he;simp only[Option.map_eq_some_iff]at hv;obtain⟨r,hg,rfl⟩:=hv;obtain⟨B,c,hu,hB,hk,eT,buf,s,q,hb,PV,_⟩:=CP S hr he hg;have ib:(getObj B.b).run P w=.ok (.chan c buf false s q false) w:=by simp[getObj,Sem.run,hb]
  refine⟨.int .i64 (buf.size:Int),?_,by rw[PV];exact .fw _ _ (.int _ _)⟩;simp only[execOp,ho,resolve,Sem.run_bind,Sem.run_pure,Result.andThen_ok,invoke,builtin,Array.map,hu];simp[Builtin.len_,run_underlying ht,goInt,hu,ib]
 ·cases hv
end
end V

namespace V
open Go.RowKit
variable {P:Program} {w w':World} {D D':Nat->Prop} {ι ι':Names}
def Qh (P:Program) (a:Act) (o:Oper) (w:World) (D:Nat->Prop) (ι:Names) (id:Id) (v:AV):Option Row->Prop
 |none=>qv P a o w D ι v
 |some r=>Mk P a o w D ι id v r∨MkM P a o w id v r∨MkC P a o w id v r
section
variable {g:Rows} {hs:Nat} {env:Env} {a:Act} {o:Oper} {id:Id} {v:AV}
theorem nq {x:Option AV} {mr:Option Row} (h:x.map (·,(none:Option Row))=some (v,mr)) (H:x=some v->qv P a o w D ι v):Qh P a o w D ι id v mr:=by
 cases x with
 |none=>simp at h
 |some y=>simp at h;obtain⟨rfl,rfl⟩:=h;exact H rfl
theorem Zm {neg:Bool} {t yt:TypeId} {x y:Operand} {vo:iU} {mr:Option Row} (ho:o.op=.binOp (if neg then .neq else .eql) t x y yt) (hc:wD P neg t x y=some vo) (hq:eA vo (dq env) g id=some (v,mr)) (E:dR P w D ι env a):Qh P a o w D ι id v mr:=by
 unfold wD at hc
 split at hc
 ·split at hc
  ·rename_i e ht;simp only[Option.map_eq_some_iff]at hc;obtain⟨x',hx,rfl⟩:=hc;simp only[eA,dI,Bool.false_eq_true,if_false,Option.map_eq_some_iff,Prod.mk.injEq]at hq;obtain⟨b,hb,rfl,rfl⟩:=hq;exact V0 E ho ht hx hb
  ·simp at hc
 ·split at hc
  ·rename_i ht;simp only[Option.map_eq_some_iff]at hc;obtain⟨x',hx,rfl⟩:=hc;simp only[eA,dI,if_true,Option.map_eq_some_iff,Prod.mk.injEq]at hq;obtain⟨b,hb,rfl,rfl⟩:=hq;exact VZ E ho ht hx hb
  ·simp at hc
 ·split at hc
  ·rename_i ht;simp only[Option.map_eq_some_iff]at hc;obtain⟨x',hx,rfl⟩:=hc;simp only[eA,Option.map_eq_some_iff,Prod.mk.injEq]at hq;obtain⟨b,hb,rfl,rfl⟩:=hq;exact ZG E ho ht hx hb
  ·simp at hc
 ·split at hc
  ·rename_i s hs;simp only[Option.bind_eq_bind,Option.bind_eq_some_iff,Option.pure_def,Option.some.injEq]at hc;obtain⟨x',hx,y',hy,rfl⟩:=hc;simp only[eA,Option.map_eq_some_iff,Prod.mk.injEq]at hq;obtain⟨b,hb,rfl,rfl⟩:=hq
   have Fv:gR P t=some s:=by
    unfold cEq at hs
    split at hs
    ·rename_i s' h;simp at hs;subst hs;exact h
    ·split at hs
     ·split at hs
      ·simp at hs
      ·simp at hs
     ·simp at hs
   exact ZH E ho Fv hx hy hb
  ·rename_i ts hs;simp only[Option.bind_eq_bind,Option.bind_eq_some_iff,Option.pure_def,Option.some.injEq]at hc;obtain⟨x',hx,y',hy,rfl⟩:=hc;simp only[eA]at hq
   split at hq
   ·rename_i xs ys h1 h2;simp only[Option.map_eq_some_iff,Prod.mk.injEq]at hq;obtain⟨b,hb,rfl,rfl⟩:=hq;unfold cEq at hs
    split at hs
    ·simp at hs
    ·split at hs
     ·rename_i fs uP
      split at hs
      ·rename_i hg;simp only[Option.map_eq_some_iff,EqT.ag.injEq]at hs;obtain⟨P9,Em,rfl⟩:=hs;simp only[Bool.and_eq_true,Bool.not_eq_true']at hg;exact ZF E ho uP hg.1 hg.2 Em hx hy h1 h2 hb
      ·simp at hs
     ·simp at hs
   ·simp at hq
  ·simp at hc
theorem Vw {c:Call} {vo:iU} {mr:Option Row} (ho:o.op=.call c) (hc:pW P c=some vo) (hq:eA vo (dq env) g id=some (v,mr)) (S:iE P hs D ι g w) (E:dR P w D ι env a):Qh P a o w D ι id v mr:=by
 unfold pW at hc
 split at hc
 ·rename_i mz
  split at hc
  ·rename_i x t h1 h2
   have hce:c={callee:=.builtin .len,args:= #[x],argTypes:= #[t]}:=by
    obtain⟨a,b,c⟩:=c
    simp only at h1 h2 mz
    subst mz
    congr
    ·exact Array.ext' h1
    ·exact Array.ext' h2
   rw[hce]at ho
   split at hc
   ·rename_i e ht;simp only[Option.map_eq_some_iff]at hc;obtain⟨x',hx,rfl⟩:=hc;simp only[eA,Option.map_eq_some_iff,Prod.mk.injEq]at hq;obtain⟨n,hn,rfl,rfl⟩:=hq;exact ZI E ho ht hx hn
   ·rename_i ht;simp only[Option.map_eq_some_iff]at hc;obtain⟨x',hx,rfl⟩:=hc;exact nq hq fun h=>V6 E ho ht hx h
   ·split at hc
    ·rename_i m z x' hm hx;simp only[Option.some.injEq]at hc;subst hc;obtain⟨rfl,h⟩:=Wb (id:=id) S E ho hm hx hq;exact h
    ·cases hc
   ·rename_i ht;simp only[Option.map_eq_some_iff]at hc;obtain⟨x',hx,rfl⟩:=hc;exact nq hq fun h=>V4 S E ho ht hx h
   ·simp at hc
  ·simp at hc
 ·split at hc
  ·split at hc
   ·split at hc
    ·split at hc
     ·simp only[Option.bind_eq_bind,Option.bind_eq_some_iff,Option.pure_def,Option.some.injEq]at hc;obtain⟨x',hx,y',hy,rfl⟩:=hc;simp[eA]at hq
     ·simp at hc
    ·simp at hc
   ·simp at hc
  ·simp at hc
 ·split at hc
  ·split at hc
   ·split at hc
    ·simp only[Option.map_eq_some_iff]at hc;obtain⟨x',hx,rfl⟩:=hc;simp[eA]at hq
    ·simp at hc
   ·simp at hc
  ·simp at hc
 ·split at hc
  ·simp only[Option.map_eq_some_iff]at hc;obtain⟨x',hx,rfl⟩:=hc;simp[eA]at hq
  ·simp at hc
 ·simp only[Option.map_eq_some_iff]at hc;obtain⟨x',hx,rfl⟩:=hc;simp[eA]at hq
 ·split at hc
  ·split at hc
   ·simp only[Option.some.injEq]at hc;subst hc;simp[eA]at hq
   ·cases hc
  ·cases hc
 ·split at hc
  ·split at hc
   ·split at hc
    ·simp only[Option.bind_eq_bind,Option.bind_eq_some_iff,Option.pure_def,Option.some.injEq]at hc;obtain⟨x',hx,y',hy,rfl⟩:=hc;simp[eA]at hq
    ·simp at hc
   ·simp at hc
  ·simp at hc
 ·simp at hc
theorem Ck {vo:iU} {mr:Option Row} (hc:ug P o.op=some vo) (hq:eA vo (dq env) g id=some (v,mr)) (S:iE P hs D ι g w) (E:dR P w D ι env a):Qh P a o w D ι id v mr:=by
 unfold ug at hc
 split at hc
 ·rename_i ho;simp only[Option.map_eq_some_iff]at hc;obtain⟨x',hx,rfl⟩:=hc;simp[eA]at hq;obtain⟨rfl,rfl⟩:=hq;exact TG E (.inl ho) hx
 ·rename_i ho;simp only[Option.map_eq_some_iff]at hc;obtain⟨x',hx,rfl⟩:=hc;simp[eA]at hq;obtain⟨rfl,rfl⟩:=hq;exact TG E (.inr ho) hx
 ·rename_i ho;simp only[Option.bind_eq_bind,Option.bind_eq_some_iff,Option.pure_def,Option.some.injEq]at hc;obtain⟨c',h1,x',h2,y',h3,rfl⟩:=hc;exact nq hq fun h=>Wc E ho h1 h2 h3 h
 ·rename_i ho;simp only[Option.map_eq_some_iff]at hc;obtain⟨z,hz,rfl⟩:=hc;simp only[eA,Option.some.injEq,Prod.mk.injEq]at hq;obtain⟨rfl,rfl⟩:=hq;exact .inl (Y8 ho hz)
 ·rename_i ho;simp only[Option.map_eq_some_iff]at hc;obtain⟨x',hx,rfl⟩:=hc;simp only[eA,Option.map_eq_some_iff,Prod.mk.injEq]at hq;obtain⟨cs,eD,rfl,rfl⟩:=hq;exact .inl (Y6 E ho hx eD)
 ·rename_i ho
  split at hc
  ·rename_i hh;simp only[Option.some.injEq]at hc;subst hc;exact nq hq fun h=>Sd S ho hh.1 hh.2 h
  ·simp at hc
 ·rename_i ho;simp only[Option.bind_eq_bind,Option.bind_eq_some_iff,Option.pure_def,Option.some.injEq]at hc;obtain⟨ag,h1,n,h2,x',h3,rfl⟩:=hc;exact nq hq fun h=>V7 S E ho h1 h2 h3 h
 ·rename_i ho;simp only[Option.bind_eq_bind,Option.bind_eq_some_iff,Option.pure_def,Option.some.injEq]at hc;obtain⟨n,h2,x',h3,y',h4,rfl⟩:=hc;simp[eA]at hq
 ·rename_i ho;simp only[Option.map_eq_some_iff]at hc;obtain⟨x',hx,rfl⟩:=hc;exact nq hq fun h=>ZE E ho hx h
 ·rename_i op t x y yt ho;unfold yT at hc
  split at hc
  ·exact Zm (neg:=false) ho hc hq E
  ·exact Zm (neg:=true) ho hc hq E
  ·simp only[Option.bind_eq_bind,Option.bind_eq_some_iff,Option.pure_def,Option.some.injEq]at hc;obtain⟨x',h3,y',h4,rfl⟩:=hc;exact nq hq fun h=>ZL (left:=true) E ho h3 h4 h
  ·simp only[Option.bind_eq_bind,Option.bind_eq_some_iff,Option.pure_def,Option.some.injEq]at hc;obtain⟨x',h3,y',h4,rfl⟩:=hc;exact nq hq fun h=>ZL (left:=false) E ho h3 h4 h
  ·rename_i n1 n2 n3 n4
   split at hc
   ·simp only[Option.bind_eq_bind,Option.bind_eq_some_iff,Option.pure_def,Option.some.injEq]at hc;obtain⟨x',h3,y',h4,rfl⟩:=hc;exact nq hq fun h=>ZD E ho n1 n2 h3 h4 h
   ·simp only[Option.bind_eq_bind,Option.bind_eq_some_iff,Option.pure_def,Option.some.injEq]at hc;obtain⟨x',h3,y',h4,rfl⟩:=hc;exact nq hq fun h=>VX E ho n1 n2 h3 h4 h
   ·simp at hc
 ·rename_i ho;simp only[Option.map_eq_some_iff]at hc;obtain⟨x',hx,rfl⟩:=hc;exact nq hq fun h=>ZK E ho hx h
 ·rename_i ho;simp only[Option.map_eq_some_iff]at hc;obtain⟨x',hx,rfl⟩:=hc;exact nq hq fun h=>ZJ E ho hx h
 ·rename_i ho
  split at hc
  ·rename_i q k h1 h2;simp only[Option.map_eq_some_iff]at hc;obtain⟨x',hx,rfl⟩:=hc;exact nq hq fun h=>VY E ho h1 h2 hx h
  ·rename_i h1 h2;simp only[Option.map_eq_some_iff]at hc;obtain⟨x',hx,rfl⟩:=hc
   exact nq hq fun h=>by
    have hr:=eo E hx;unfold bF at h
    split at h
    ·rename_i s hb
     simp at h;subst h
     rw[hb]at hr;exact⟨.string s,by simp only[execOp,ho,il hr,convert,Sem.run_bind,run_underlying h1,run_underlying h2,Result.andThen_ok,Sem.run_pure],.fw _ _ (.str _)⟩
    ·simp at h
  ·simp at hc
 ·rename_i ho
  split at hc
  ·rename_i e ht;simp only[Option.bind_eq_bind,Option.bind_eq_some_iff,Option.pure_def,Option.some.injEq]at hc;obtain⟨n,h1,x',h2,lo,h3,hi,h4,rfl⟩:=hc;exact nq hq fun h=>Sf S E ho ht h1 h2 h3 h4 h
  ·rename_i ht;simp only[Option.bind_eq_bind,Option.bind_eq_some_iff,Option.pure_def,Option.some.injEq]at hc;obtain⟨x',h2,lo,h3,hi,h4,rfl⟩:=hc;exact nq hq fun h=>PE E ho ht h2 h3 h4 h
  ·simp at hc
 ·rename_i ho
  split at hc
  ·rename_i fs uP
   split at hc
   ·rename_i f hf
    split at hc
    ·rename_i m hm;simp only[Option.map_eq_some_iff]at hc;obtain⟨x',hx,rfl⟩:=hc;exact nq hq fun h=>Sb E ho uP hf hm hx h
    ·simp at hc
   ·simp at hc
  ·simp at hc
 ·rename_i ho
  split at hc
  ·rename_i fs uP
   split at hc
   ·rename_i f hf;simp only[Option.bind_eq_bind,Option.bind_eq_some_iff,Option.pure_def,Option.some.injEq]at hc;obtain⟨ag,h1,n,h2,x',h3,rfl⟩:=hc;exact nq hq fun h=>Sc E ho uP hf h1 h2 h3 h
   ·simp at hc
  ·simp at hc
 ·rename_i ho
  split at hc
  ·rename_i e ht
   split at hc
   ·rename_i m hm;simp only[Option.bind_eq_bind,Option.bind_eq_some_iff,Option.pure_def,Option.some.injEq]at hc;obtain⟨x',h1,i',h2,rfl⟩:=hc;exact nq hq fun h=>Se S E ho ht hm h1 h2 h
   ·simp at hc
  ·rename_i len e ht
   split at hc
   ·rename_i m hm;simp only[Option.bind_eq_bind,Option.bind_eq_some_iff,Option.pure_def,Option.some.injEq]at hc;obtain⟨x',h1,i',h2,rfl⟩:=hc;exact nq hq fun h=>V1 E ho ht hm h1 h2 h
   ·simp at hc
  ·simp at hc
 ·rename_i ho
  split at hc
  ·rename_i ht;simp only[Option.bind_eq_bind,Option.bind_eq_some_iff,Option.pure_def,Option.some.injEq]at hc;obtain⟨x',h1,i',h2,rfl⟩:=hc;exact nq hq fun h=>V3 E ho ht h1 h2 h
  ·rename_i len e ht;simp only[Option.bind_eq_bind,Option.bind_eq_some_iff,Option.pure_def,Option.some.injEq]at hc;obtain⟨ag,h0,n,h1,x',h2,i',h3,rfl⟩:=hc;exact nq hq fun h=>V2 E ho ht h0 h1 h2 h3 h
  ·simp at hc
 ·rename_i ho;simp only[Option.map_eq_some_iff]at hc;obtain⟨x',hx,rfl⟩:=hc;exact nq hq fun h=>LZ E ho hx h
 ·rename_i ho
  split at hc
  ·rename_i fs uP
   split at hc
   ·rename_i z l hz hl
    split at hc
    ·rename_i fy;simp only[Option.map_eq_some_iff]at hc;obtain⟨q,Q0,rfl⟩:=hc;simp only[eA,Option.map_eq_some_iff,Prod.mk.injEq]at hq;obtain⟨cs,eD,rfl,rfl⟩:=hq
     exact Sa E ho uP hz hl (fun f hf=>by
      rw[Array.all_eq_true_iff_forall_mem]at fy
      exact fy f (Array.mem_toList_iff.1 hf)) Q0 eD
    ·simp at hc
   ·simp at hc
  ·rename_i len e ht
   split at hc
   ·rename_i z l n hz hl hn;simp only[Option.some.injEq]at hc;subst hc;simp only[eA,Option.map_eq_some_iff,Prod.mk.injEq]at hq;obtain⟨cs,eD,rfl,rfl⟩:=hq;exact PD E ho ht hz hl hn eD
   ·simp at hc
  ·simp at hc
 ·rename_i ho
  split at hc
  ·rename_i e ht
   split at hc
   ·rename_i sz z l h1 h2 h3
    split at hc
    ·rename_i hh;simp only[Option.some.injEq]at hc;subst hc;simp only[eA,Option.map_eq_some_iff,Prod.mk.injEq]at hq;obtain⟨rs,tF,rfl,rfl⟩:=hq;exact .inl (On E ho ht h1 h2 h3 hh.1 hh.2 (by rw[List.map_map]at tF;exact tF))
    ·simp at hc
   ·simp at hc
  ·simp at hc
 ·rename_i ho
  split at hc
  ·rename_i hh;simp only[Option.map_eq_some_iff]at hc;obtain⟨l,hl,rfl⟩:=hc;simp[eA]at hq;obtain⟨rfl,rfl⟩:=hq;exact V9 E ho hh.1 hh.2 hl
  ·split at hc
   ·rename_i hh;simp only[Option.map_eq_some_iff]at hc;obtain⟨l,hl,rfl⟩:=hc;simp[eA]at hq;obtain⟨rfl,rfl⟩:=hq;exact Wa E ho hh.1 hh.2 hl
   ·simp at hc
 ·rename_i ho
  split at hc
  ·rename_i e ht
   split at hc
   ·rename_i m z i h1 h2 h3
    split at hc
    ·rename_i hb;simp only[Option.bind_eq_bind,Option.bind_eq_some_iff,Option.pure_def,Option.some.injEq]at hc;obtain⟨l',h4,c',h5,rfl⟩:=hc;simp only[eA,Option.map_eq_some_iff,Prod.mk.injEq]at hq;obtain⟨⟨n,r⟩,hr,rfl,rfl⟩:=hq;exact .inl (Lm E ho ht h1 h2 h3 hb h4 h5 hr)
    ·simp at hc
   ·simp at hc
  ·simp at hc
 ·rename_i ho;exact Vw ho hc hq S E
 ·rename_i ho
  split at hc
  ·rename_i dir e ht
   split at hc
   ·rename_i i hi
    split at hc
    ·rename_i hb;simp only[Option.map_eq_some_iff]at hc;obtain⟨x',hx,rfl⟩:=hc;simp only[eA,Option.map_eq_some_iff,Prod.mk.injEq]at hq;obtain⟨n,hn,rfl,rfl⟩:=hq;exact .inr (.inr (Vm E ho ht hi hb hx hn))
    ·cases hc
   ·cases hc
  ·cases hc
 ·simp only[Option.bind_eq_bind,Option.bind_eq_some_iff,Option.pure_def,Option.some.injEq]at hc;obtain⟨x',_,y',_,rfl⟩:=hc;simp[eA]at hq
 ·split at hc
  ·split at hc
   ·simp only[Option.map_eq_some_iff]at hc;obtain⟨x',_,rfl⟩:=hc;simp[eA]at hq
   ·cases hc
  ·cases hc
 ·rename_i ho
  split at hc
  ·rename_i m z hm;simp only[Option.some.injEq]at hc;subst hc;simp only[eA,List.map_nil,bh,Option.some.injEq,Prod.mk.injEq]at hq;obtain⟨rfl,rfl⟩:=hq;exact .inr (.inl (Y7 ho))
  ·cases hc
 ·rename_i ho
  split at hc
  ·rename_i m z x' k' hm hx hk;simp only[Option.some.injEq]at hc;subst hc;obtain⟨rfl,h⟩:=V8 (id:=id) S E ho hm hx hk hq;exact h
  ·cases hc
 ·split at hc
  ·simp only[Option.some.injEq]at hc;subst hc;simp[eA]at hq
  ·cases hc
 ·split at hc
  ·simp only[Option.some.injEq]at hc;subst hc;simp[eA]at hq
  ·cases hc
 ·simp only[Option.some.injEq]at hc;subst hc;simp[eA]at hq
 ·simp only[Option.some.injEq]at hc;subst hc;simp[eA]at hq
 ·simp at hc
end
end V

namespace V
open Go.RowKit
variable {P:Program} {w w':World} {D D':Nat->Prop} {ι ι':Names}
def lT (ι:Names) (id:Id) (B:wv):Names:=fun i=>if i=id then some B else ι i
theorem fa (ι:Names) (id:Id) (B:wv):lT ι id B id=some B:=if_pos rfl
theorem gq {ι:Names} {id:Id} {B:wv} (h:ι id=none):∀i B',ι i=some B'->lT ι id B i=some B':=fun i B' hi=>by
 have:i≠id:=by rintro rfl;rw[h]at hi;cases hi
 rw[lT,if_neg this];exact hi
theorem iM {ι:Names} {id i:Id} {B:wv} (h:i≠id):lT ι id B i=ι i:=if_neg h
section
variable {g:Rows} {hs:Nat} {env:Env} {a:Act} {o:Oper} {id:Id} {v:AV}
theorem mi.frame {B:wv} {r:Row} (h:mi P w D ι B r) (hb:w'.heap[B.b]? =w.heap[B.b]?) (hr:∀a v,dX P w D ι a v->dX P w' D' ι' a v):mi P w' D' ι' B r:=
 ⟨h.sz,by obtain⟨c,T,h1,h2⟩:=h.wc;exact⟨c,T,hb.trans h1,h2⟩,h.fits,h.len,h.flat,fun i j cs a hi hj=>by
  obtain⟨v,h1,h2⟩:=h.at_ i j cs a hi hj
  exact⟨v,(World.cell?_of_block (a:=⟨B.b,i*r.sz+j,none⟩) hb).trans h1,hr _ _ h2⟩⟩
theorem jl.frame {B:wv} {r:Row} (h:jl P w D ι B r) (hb:w'.heap[B.b]? =w.heap[B.b]?) (hr:∀a v,dX P w D ι a v->dX P w' D' ι' a v):jl P w' D' ι' B r:=
 ⟨h.sz,h.flat,fun hk=>(h.row hk).frame hb hr,fun m hm=>by
  obtain⟨h1,es,c,h2,h3,h5,h4⟩:=h.map m hm;refine⟨h1,es,c,hb.trans h2,h3,h5,fun i cs hi=>?_⟩;obtain⟨e,kv,vv,q1,q2,q3,q4,q5⟩:=h4 i cs hi
  exact⟨e,kv,vv,q1,q2,q3,hr _ _ q4,hr _ _ q5⟩,fun c hc=>by
  obtain⟨h1,buf,s,q,h2,h3,h4⟩:=h.chan c hc;refine⟨h1,buf,s,q,hb.trans h2,h3,fun i cs hi=>?_⟩;obtain⟨a,u,q1,q2,q3⟩:=h4 i cs hi
  exact⟨a,u,q1,q2,hr _ _ q3⟩⟩
theorem iE.kill (S:iE P hs D ι g w) (i:Id):iE P hs D ι (bQ g i) w:=by
 refine⟨S.lo,S.dead,fun id r h=>?_,fun id lP r r' B B' h h' hw hB eY hb=>?_⟩
 ·unfold bQ at h;split at h
  ·cases h
  ·exact S.row id r h
 ·unfold bQ at h h'
  split at h
  ·cases h
  ·split at h'
   ·cases h'
   ·exact S.inj id lP r r' B B' h h' hw hB eY hb
theorem iE.sub {g':Rows} (S:iE P hs D ι g w) (h:∀id r,g' id=some r->g id=some r):iE P hs D ι g' w:=
 ⟨S.lo,S.dead,fun id r hr=>S.row id r (h id r hr),fun id lP r r' B B' h1 h2=>S.inj id lP r r' B B' (h _ _ h1) (h _ _ h2)⟩
theorem DZ {hid:List Nat} {n:Nat} {g:Rows}:∀id r,fc hid n g id=some r->g id=some r:=fun id r h=>by
 cases hid with
 |nil=>exact h
 |cons a l=>
  have e:fc (a::l) n g id=if (a::l).contains id.site=true/\id.bH=n then none else g id:=rfl
  rw[e]at h
  by_cases hc:(a::l).contains id.site=true/\id.bH=n
  ·rw[if_pos hc]at h;cases h
  ·rw[if_neg hc]at h;exact h
theorem iE.stay (S:iE P hs D ι g w) (hb:∀b,b<w.heap.size->w'.heap[b]? =w.heap[b]?) (hz:w.heap.size<=w'.heap.size) (hD:∀b,D b->D' b) (hD':∀b,D' b->b<w'.heap.size) (l9:∀b,D' b->D b∨w.heap.size<=b) (hι:∀id B,ι id=some B->ι' id=some B):iE P hs D' ι' g w':=by
 have hr:∀a v,dX P w D ι a v->dX P w' D' ι' a v:=fun a v h=>h.frame (fun b hd=>hb b (S.dead b hd)) hD hι
 have lt:∀{id r B},g id=some r->ι id=some B->B.b<w.heap.size:=fun {id r B} h hB=>by
  obtain⟨B',eY,R,_⟩:=S.row id r h;rw[hB]at eY;injection eY with eY;subst eY
  exact R.lt
 refine⟨Nat.le_trans S.lo hz,hD',fun id r h=>?_,fun id lP r r' B B' h h' hw hB eY he=>?_⟩
 ·obtain⟨B,hB,R,h1,h2⟩:=S.row id r h
  exact⟨B,hι _ _ hB,R.frame (hb _ (lt h hB)) hr,h1,fun hw hd=>by
   rcases l9 _ hd with hd|hd
   ·exact h2 hw hd
   ·have:=lt h hB;omega⟩
 ·obtain⟨C,hC,_⟩:=S.row id r h;obtain⟨C',xZ,_⟩:=S.row lP r' h';have e1:=hι _ _ hC;have e2:=hι _ _ xZ;rw[hB]at e1;injection e1 with e1;subst e1
  rw[eY]at e2;injection e2 with e2;subst e2
  exact S.inj id lP r r' _ _ h h' hw hC xZ he
theorem Step.stay (S:iE P hs D ι g w) (hb:∀b,b<w.heap.size->w'.heap[b]? =w.heap[b]?) (hz:w.heap.size<=w'.heap.size) (e1:w'.os=w.os) (e2:w'.tape=w.tape) (e3:w'.output=w.output) (hD:∀b,D b->D' b) (l9:∀b,D' b->D b∨w.heap.size<=b) (hι:∀id B,ι id=some B->ι' id=some B):Step hs D ι w D' ι' w':=
 ⟨⟨e1,e2,e3,hz,fun k hk=>hb k (Nat.lt_of_lt_of_le hk S.lo)⟩,fun b hd=>hb b (S.dead b hd),hD,hι,fun b h=>(l9 b h).imp_right (Nat.le_trans S.lo)⟩
theorem iE.alloc (S:iE P hs D ι g w) {cells:Array Value} {T:TypeId} {r:Row} (hh:w'.heap=w.heap.push (.cells cells T (0,0))) (hn:ι id=none) (hw:r.w=true) (h1:r.rows.length*r.sz<=cells.size) (h2:∀cs∈r.rows,cs.length=r.sz) (h3:∀cs∈r.rows,∀a∈cs,a.cell=true)
  (h4:∀i j cs a,r.rows[i]? =some cs->cs[j]? =some a->∃x,cells[i*r.sz+j]? =some x/\dX P w D ι a x):iE P hs D (lT ι id ⟨w.heap.size,r.sz,cells.size,none⟩) (bJ g id r) w':=by
 have hb:∀b,b<w.heap.size->w'.heap[b]? =w.heap[b]? :=fun b eG=>by rw[hh,Array.getElem?_push,if_neg ae]
 have hz:w.heap.size<=w'.heap.size:=by rw[hh];simp
 have S':=S.stay (D':=D) (ι':=lT ι id ⟨w.heap.size,r.sz,cells.size,none⟩) hb hz (fun _ h=>h) (fun b hd=>Nat.lt_of_lt_of_le (S.dead b hd) hz) (fun _ h=>.inl h) (gq hn);have hr:∀a v,dX P w D ι a v->dX P w' D (lT ι id ⟨w.heap.size,r.sz,cells.size,none⟩) a v:=fun a v h=>h.frame (fun b hd=>hb b (S.dead b hd)) (fun _ h=>h) (gq hn);have l9:w'.heap[w.heap.size]? =some (.cells cells T (0,0)):=by rw[hh];simp
 have gone:g id=none:=by
  cases hg:g id with
  |none=>rfl
  |some q=>
   obtain⟨B,hB,_⟩:=S.row id q hg;rw[hn]at hB;cases hB
 have lt:∀{i q B},g i=some q->ι i=some B->B.b<w.heap.size:=fun {i q B} h hB=>by
  obtain⟨B',eY,R,_⟩:=S.row i q h;rw[hB]at eY;injection eY with eY;subst eY
  exact R.lt
 refine⟨S'.lo,S'.dead,fun i q h=>?_,fun i i' q q' B B' h h' NN hB eY he=>?_⟩
 ·unfold bJ at h
  split at h
  ·rename_i e;subst e;injection h with h;subst h
   refine⟨_,fa _ _ _,mi.obj ⟨rfl,⟨cells,T,l9,rfl⟩,h1,h2,h3,fun k j cs a hk hj=>?_⟩ rfl,fun _=>S.lo,fun _ hd=>?_⟩
   ·obtain⟨x,hx,hrx⟩:=h4 k j cs a hk hj;exact⟨x,by simp[World.cell?,l9,hx],hr _ _ hrx⟩
   ·have:=S.dead _ hd;simp at this
  ·exact S'.row i q h
 ·unfold bJ at h h'
  split at h
  ·rename_i e
   split at h'
   ·rename_i e';exact e.trans e'.symm
   ·exfalso;rename_i e';subst e;rw[fa]at hB;injection hB with hB;subst hB
    rw[iM e']at eY;have:=lt h' eY
    simp at he;omega
  ·rename_i e
   split at h'
   ·exfalso;rename_i e';subst e';rw[fa]at eY;injection eY with eY;subst eY
    rw[iM e]at hB;have:=lt h hB
    simp at he;omega
   ·exact S'.inj i i' q q' B B' h h' NN hB eY he
theorem iE.put (S:iE P hs D ι g w) {r r':Row} {B:wv} {cur cur':Array Value} {T:TypeId} (hid:g id=some r) (hw:r.w=true) (hB:ι id=some B) (hblk:w.heap[B.b]? =some (.cells cur T (0,0))) (eT:cur'.size=cur.size)
  (h0:r'.w=true) (h1:r'.sz=r.sz) (h2:r'.rows.length*r'.sz<=B.C) (h3:∀cs∈r'.rows,cs.length=r'.sz) (h4:∀cs∈r'.rows,∀a∈cs,a.cell=true)
  (h5:∀i j cs a,r'.rows[i]? =some cs->cs[j]? =some a->∃v,cur'[i*r.sz+j]? =some v/\dX P w D ι a v):iE P hs D ι (bJ g id r') (w.setRow B.b cur')/\Step hs D ι w D ι (w.setRow B.b cur'):=by
 obtain⟨B0,Fe,RO,lp,uk⟩:=S.row id r hid;rw[hB]at Fe;injection Fe with Fe;subst Fe
 have qy:=RO.Rs hblk;have R:=RO.row qy;have hd:∀b,D b->(w.setRow B.b cur').heap[b]? =w.heap[b]? :=fun b hb=>setRow_other w B.b b cur' (by rintro rfl;exact uk hw hb);have hr:∀a v,dX P w D ι a v->dX P (w.setRow B.b cur') D ι a v:=fun a v h=>h.frame hd (fun _ h=>h) (fun _ _ h=>h)
 have hC:cur.size=B.C:=by
  obtain⟨c,T',h1,h2⟩:=R.wc;rw[hblk]at h1;injection h1 with h1;injection h1 with h1 h1';subst h1;exact h2
 refine⟨⟨by simpa using S.lo,fun b hb=>by simpa using S.dead b hb,fun i q h=>?_,fun i i' q q' C C' h h' NN hC xZ he=>?_⟩,⟨⟨by simp,by simp,by simp,by simp,fun k hk=>setRow_other w B.b k cur' (by have:=lp hw;omega)⟩,hd,fun _ h=>h,fun _ _ h=>h,fun _ h=>.inl h⟩⟩
 ·unfold bJ at h
  split at h
  ·rename_i e;subst e;injection h with h;subst h
   refine⟨B,hB,mi.obj ⟨by rw[h1];exact R.sz,⟨cur',T,setRow_heap w B.b cur cur' T _ hblk,by rw[eT];exact hC⟩,h2,h3,h4,fun k j cs a hk hj=>?_⟩ qy,fun _=>lp hw,fun _=>uk hw⟩;obtain⟨v,hv,qA⟩:=h5 k j cs a hk hj;exact⟨v,by rw[cell_setRow_same w B.b _ cur cur' T _ hblk,h1];exact hv,hr _ _ qA⟩
  ·rename_i e;obtain⟨C,hC,RC,k1,k2⟩:=S.row i q h;refine⟨C,hC,RC.frame (setRow_other w B.b C.b cur' (fun GG=>e ?_)) hr,k1,k2⟩;exact(S.inj id i r q B C hid h hw hB hC GG.symm).symm
 ·unfold bJ at h h'
  have get:∀j p,(if j=id then some r' else g j)=some p->∃p0,g j=some p0/\(p.w=true->p0.w=true):=fun j p hp=>by
   split at hp
   ·rename_i e;subst e;injection hp with hp;subst hp;exact⟨r,hid,fun _=>hw⟩
   ·exact⟨p,hp,fun h=>h⟩
  obtain⟨p,hp,Xh⟩:=get _ _ h;obtain⟨p',U3,_⟩:=get _ _ h';exact S.inj i i' p p' C C' hp U3 (Xh NN) hC xZ he
theorem iE.rename (S:iE P hs D ι g w) {i:Id} {r:Row} {B:wv} (hi:g i=some r) (hw:r.w=true) (hB:ι i=some B) (hn:ι id=none):iE P hs D (lT ι id B) (bJ (bQ g i) id r) w:=by
 have S':=S.stay (w':=w) (D':=D) (ι':=lT ι id B) (fun _ _=>rfl) (Nat.le_refl _) (fun _ h=>h) S.dead (fun _ h=>.inl h) (gq hn);have ju:i≠id:=by rintro rfl;rw[hn]at hB;cases hB
 obtain⟨B1,Ef,R,k1,k2⟩:=S'.row i r hi;rw[iM ju,hB]at Ef;injection Ef with Ef;subst Ef
 have get:∀j p,bJ (bQ g i) id r j=some p->(j=id/\p=r)∨(j≠id/\j≠i/\g j=some p):=fun j p hp=>by
  unfold bJ bQ at hp
  split at hp
  ·rename_i e;injection hp with hp;exact .inl ⟨e,hp.symm⟩
  ·rename_i e
   split at hp
   ·cases hp
   ·rename_i e';exact .inr ⟨e,e',hp⟩
 refine⟨S.lo,S.dead,fun j p h=>?_,fun j j' p p' C C' h h' Xh hC xZ he=>?_⟩
 ·rcases get j p h with⟨rfl,rfl⟩|⟨_,_,hp⟩
  ·exact⟨B,fa _ _ _,R,k1,k2⟩
  ·exact S'.row j p hp
 ·rcases get j p h with⟨rfl,rfl⟩|⟨q1,q2,hp⟩
  ·rcases get j' p' h' with⟨rfl,rfl⟩|⟨q1',q2',U3⟩
   ·rfl
   ·exfalso;rw[fa]at hC;injection hC with hC;subst hC
    rw[iM q1']at xZ;exact q2' (S.inj i j' p p' B C' hi U3 hw hB xZ he).symm
  ·rcases get j' p' h' with⟨rfl,rfl⟩|⟨q1',q2',U3⟩
   ·exfalso;rw[fa]at xZ;injection xZ with xZ;subst xZ
    rw[iM q1]at hC;exact q2 (S.inj j i p p' C B hp hi Xh hC hB he)
   ·rw[iM q1]at hC;rw[iM q1']at xZ;exact S.inj j j' p p' C C' hp U3 Xh hC xZ he
def GX (P:Program) (hs:Nat) (a:Act) (o:Oper) (w:World) (D:Nat->Prop) (ι:Names) (id:Id) (v:AV) (g':Rows):Prop:=
 ∃u w' ι',((execOp a.eval o).run P w=.ok (.value u) w'∨(execOp a.eval o).run P w=.ok .skip w'/\u=undef)/\Step hs D ι w D ι' w'/\iE P hs D ι' g' w'/\dX P w' D ι' v u/\∀i,i≠id->ι' i=ι i
theorem Gf {xs:List AV} {vs:Array Value} (h:gI P w D ι xs vs) (hf:∀a∈xs,a.cell=true):∀v∈vs.toList,v.oneCell'=true:=by
 intro v hv;obtain⟨j,hj,rfl⟩:=List.getElem_of_mem hv;have PW:j<xs.length:=by rw[<-h.1];simpa using hj
 obtain⟨u,hu,hr⟩:=h.2 j _ (List.getElem?_eq_getElem PW);have hc:=hr.EO (hf _ (List.getElem_mem PW))
 have:vs.toList[j]=u:=by
  have:vs.toList[j]? =some u:=by simpa using hu
  rw[List.getElem?_eq_getElem hj]at this;injection this
 rw[this]
 cases u<;>simp_all [Value.oneCell']
theorem lB {i j n m:Nat} (h:i<n) (hj:j<m):i*m+j<n*m:=by
 have:(i+1)*m<=n*m:=Nat.mul_le_mul_right _ h;rw[Nat.add_mul,Nat.one_mul]at this;omega
theorem mi.cur {B:wv} {r:Row} (R:mi P w D ι B r):∃cur T,w.heap[B.b]? =some (.cells cur T (0,0))/\cur.size=B.C/\∀i j cs a,r.rows[i]? =some cs->cs[j]? =some a->∃v,cur[i*r.sz+j]? =some v/\dX P w D ι a v:=by
 obtain⟨cur,T,h1,h2⟩:=R.wc;refine⟨cur,T,h1,h2,fun i j cs a hi hj=>?_⟩;obtain⟨v,hv,hr⟩:=R.at_ i j cs a hi hj;exact⟨v,by simpa[World.cell?,h1]using hv,hr⟩
theorem Qz {t:TypeId} {n:Nat} {x y:Operand} {x' y':O} {g':Rows} (S:iE P hs D ι g w) (E:dR P w D ι env a) (ho:o.op=.store t x y) (hn:fe P t=some n) (hx:cO P x=some x') (hy:cO P y=some y')
  (hv:bD g n (dq env y') (dq env x')=some g'):GX P hs a o w D ι id .undef g':=by
 have rx:=eo E hx;have ry:=eo E hy;unfold bD at hv
 split at hv
 ·rename_i i k off hp;rw[hp]at rx;simp only[Option.bind_eq_some_iff]at hv;obtain⟨r,hg,cs,eD,hv⟩:=hv
  split at hv
  ·rename_i hc;obtain⟨c1,c2,c3,c4⟩:=hc
   simp at hv;subst hv
   obtain⟨B,he,hB,hk⟩:=jG rx;obtain⟨B',eY,R,lp,uk⟩:=S.row i r hg;rw[hB]at eY;injection eY with eY;subst eY
   replace R:=R.row hk;obtain⟨cur,T,hblk,hC,zl⟩:=R.cur;have hL:=ub ry c3;have h1:=Gf hL (List.all_eq_true.1 c3);have Q6:(a.eval y).cells.size=n:=by rw[hL.1,c2]
   have l8:=(List.getElem?_eq_some_iff.1 eD).1;have hlen:=R.len cs (List.mem_of_getElem? eD)
   have hbound:k*r.sz+r.sz<=r.rows.length*r.sz:=by
    have:(k+1)*r.sz<=r.rows.length*r.sz:=Nat.mul_le_mul_right _ l8
    rwa [Nat.add_mul,Nat.one_mul]at this
   have hf:=R.fits;have ez:=run_storeCells_at P B.b (k*B.sz+off) T (a.eval y).cells.toList 0 cur w hblk (by rw[R.sz];simp only[Array.length_toList];omega) h1;simp only[Nat.add_zero,Array.length_toList]at ez
   have zq:=S.put (r':={r with rows:=r.rows.set k (cr cs off (dq env y').cells)}) hg c1 hB hblk (cur':=(cur.toList.take (k*B.sz+off)++(a.eval y).cells.toList++cur.toList.drop (k*B.sz+off+(a.eval y).cells.size)).toArray)
    (by rw[R.sz];simp;omega) c1 rfl (by simpa using R.fits) (fun c Ye=>by
     rcases List.mem_or_eq_of_mem_set Ye with h|rfl
     ·exact R.len c h
     ·simp[cr];omega) (fun c Ye b hb=>by
     rcases List.mem_or_eq_of_mem_set Ye with h|rfl
     ·exact R.flat c h b hb
     ·unfold cr at hb
      rcases List.mem_append.1 hb with hb|hb
      ·rcases List.mem_append.1 hb with hb|hb
       ·exact R.flat cs (List.mem_of_getElem? eD) b (List.mem_of_mem_take hb)
       ·exact List.all_eq_true.1 c3 b hb
      ·exact R.flat cs (List.mem_of_getElem? eD) b (List.mem_of_mem_drop hb)) (fun i2 j c b wh hj=>by
     rw[R.sz];simp only[List.getElem?_toArray]
     by_cases BL:i2=k
     ·subst BL;rw[List.getElem?_set_self l8]at wh;injection wh with wh;subst wh
      unfold cr at hj
      by_cases hjo:j<off
      ·rw[List.append_assoc,List.getElem?_append_left (by simp;omega),List.getElem?_take,if_pos hjo]at hj;rw[List.append_assoc,List.getElem?_append_left (by simp;omega),List.getElem?_take,if_pos ae]
       simpa using zl _ _ _ _ eD hj
      ·by_cases oy:j<off+n
       ·rw[List.append_assoc,List.getElem?_append_right (by simp;omega),List.getElem?_append_left (by simp;omega)]at hj;rw[List.append_assoc,List.getElem?_append_right (by simp;omega),List.getElem?_append_left (by simp;omega)];simp only[List.length_take]at hj ⊢;rw[show j-min off cs.length=j-off by omega]at hj;rw[show i2*r.sz+j-min (i2*r.sz+off) cur.toList.length=j-off by simp;omega]
        simpa using hL.2 _ _ hj
       ·rw[List.getElem?_append_right (by simp;omega)]at hj;rw[List.getElem?_append_right (by simp;omega)];simp only[List.length_append,List.length_take,List.getElem?_drop,Array.length_toList]at hj ⊢;rw[show off+(dq env y').cells.length+(j-(min off cs.length+(dq env y').cells.length))=j by omega]at hj;rw[show i2*r.sz+off+(a.eval y).cells.size+(i2*r.sz+j-(min (i2*r.sz+off) cur.size+(a.eval y).cells.size))=i2*r.sz+j by omega]
        simpa using zl _ _ _ _ eD hj
     ·rw[List.getElem?_set_ne (fun e=>BL e.symm)]at wh;have hi2l:=(List.getElem?_eq_some_iff.1 wh).1;have iL:j<r.sz:=by rw[<-R.len c (List.mem_of_getElem? wh)];exact(List.getElem?_eq_some_iff.1 hj).1
      have:=zl _ _ _ _ wh hj
      rcases Nat.lt_or_gt_of_ne BL with eG|QT
      ·have h2:i2*r.sz+j<k*r.sz:=lB eG iL;rw[List.append_assoc,List.getElem?_append_left (by simp;omega),List.getElem?_take,if_pos ae]
       simpa using this
      ·have h2:k*r.sz+r.sz<=i2*r.sz:=by
        have:(k+1)*r.sz<=i2*r.sz:=Nat.mul_le_mul_right _ QT
        rwa [Nat.add_mul,Nat.one_mul]at this
       rw[List.getElem?_append_right (by simp;omega)];simp only[List.length_append,List.length_take,List.getElem?_drop,Array.length_toList];rw[show k*r.sz+off+(a.eval y).cells.size+(i2*r.sz+j-(min (k*r.sz+off) cur.size+(a.eval y).cells.size))=i2*r.sz+j by omega]
       simpa using this)
   refine⟨undef,_,ι,.inr ⟨?_,rfl⟩,zq.2,zq.1,dX.undef,fun _ _=>rfl⟩;simp only[execOp,ho,he,Instr.storeAt,Instr.sureAddr,storeVar,Sem.run_bind,Sem.run_pure,Result.andThen_ok,run_sizeOf hn,Q6,ne_eq,not_true_eq_false,if_false,ez]
  ·simp at hv
 ·simp at hv
end
end V

namespace V
open Go.RowKit
variable {P:Program} {w w':World} {D D':Nat->Prop} {ι ι':Names}
section
variable {g:Rows} {hs:Nat} {env:Env} {a:Act} {o:Oper} {id:Id} {v:AV}
theorem vH (S:iE P hs D ι g w) {y:AV} {u:Value} {ys:List (List AV)} {sz:Nat} (hr:dX P w D ι y u) (hy:bd g y=some ys) (hl:∀c∈ys,c.length=sz) (hf:∀c∈ys,∀b∈c,b.cell=true):
  ∃A c,u=.slice A ys.length c/\(ys=[]∨∃b o,∃news:List Value,A=some ⟨b,o,none⟩/\news.length=ys.length*sz/\(∀j v,news[j]? =some v->w.cell? ⟨b,o+j,none⟩=some v)/\gI P w D ι ys.flatten news.toArray/\∀v∈news,v.oneCell'=true):=by
 have fin:∀b o,ys≠[]->(∀i j cs x,ys[i]? =some cs->cs[j]? =some x->∃v,w.cell? ⟨b,o+(i*sz+j),none⟩=some v/\dX P w D ι x v)->
   ∃news:List Value,news.length=ys.length*sz/\(∀j v,news[j]? =some v->w.cell? ⟨b,o+j,none⟩=some v)/\gI P w D ι ys.flatten news.toArray/\∀v∈news,v.oneCell'=true:=by
  intro b o _ h;have hlen:=Nc hl
  have at_:∀k,k<ys.length*sz->∃x,ys.flatten[k]? =some x/\∃v,w.cell? ⟨b,o+k,none⟩=some v/\dX P w D ι x v:=by
   intro k hk
   have oe:0<sz:=by
    rcases Nat.eq_zero_or_pos sz with h0|h0
    ·subst h0;simp at hk
    ·exact h0
   have hi:k / sz<ys.length:=Nat.div_lt_of_lt_mul (by rw[Nat.mul_comm];exact hk);have hj:k % sz<sz:=Nat.mod_lt _ oe;have eD:=List.getElem?_eq_getElem hi;have iL:k % sz<ys[k / sz].length:=by rw[hl _ (List.getElem_mem hi)];exact hj
   have hx:=List.getElem?_eq_getElem iL;have e:k / sz*sz+k % sz=k:=by rw[Nat.mul_comm];exact Nat.div_add_mod _ _
   refine⟨_,by rw[<-flat_get hl eD hx,e],?_⟩;obtain⟨v,hv,qA⟩:=h _ _ _ _ eD hx;rw[e]at hv;exact⟨v,hv,qA⟩
  let news:=(List.range (ys.length*sz)).map fun k=>(w.cell? ⟨b,o+k,none⟩).getD undef
  have hn:∀k,k<ys.length*sz->∀v,w.cell? ⟨b,o+k,none⟩=some v->news[k]? =some v:=fun k hk v hv=>by
   simp only[news,List.getElem?_map,List.getElem?_range hk,Option.map_some,hv,Option.getD_some]
  have hR:gI P w D ι ys.flatten news.toArray:=⟨by simp[news,hlen],fun j x hx=>by
   have iL:=(List.getElem?_eq_some_iff.1 hx).1;rw[hlen]at iL;obtain⟨x',xE,v,hv,qA⟩:=at_ j iL;rw[hx]at xE;injection xE with xE;subst xE
   exact⟨v,by simpa using hn j iL v hv,qA⟩⟩
  refine⟨news,by simp[news],fun j v hj=>?_,hR,?_⟩
  ·have iL:j<ys.length*sz:=by have:=(List.getElem?_eq_some_iff.1 hj).1;simpa[news]using this
   obtain⟨x,_,v',qq,_⟩:=at_ j iL;rw[hn j iL v' qq]at hj;injection hj with hj
   rw[<-hj];exact qq
  ·have:=Gf hR (fun x hx=>by
    obtain⟨c,hc,hxc⟩:=List.mem_flatten.1 hx
    exact hf c hc x hxc)
   simpa using this
 unfold bd at hy
 split at hy
 ·simp at hy;subst hy
  exact⟨none,0,j8 hr,.inl rfl⟩
 ·rename_i rows
  simp at hy;subst hy
  obtain⟨A,c,he,_,_,h3⟩:=Af hr;refine⟨A,c,he,?_⟩
  rcases h3 with h3|⟨b,oo,sz',vs,rfl,hD,UW,_,hc,hi⟩
  ·exact .inl h3
  ·by_cases h0:rows=[]
   ·exact .inl h0
   ·have Fv:sz'=sz:=by
     cases rows with
     |nil=>exact(h0 rfl).elim
     |cons c r=>rw[<-UW c (by simp),hl c (by simp)]
    subst Fv;obtain⟨news,q1,q2,q3,q4⟩:=fin b oo h0 (fun i j cs x eD hx=>⟨_,hc i j (List.getElem?_eq_some_iff.1 eD).1 (by rw[<-UW cs (List.mem_of_getElem? eD)];exact(List.getElem?_eq_some_iff.1 hx).1),.fw _ _ (hi i j cs x eD hx)⟩);exact .inr ⟨b,oo,news,rfl,q1,q2,q3,q4⟩
 ·rename_i i off len;simp only[Option.bind_eq_some_iff]at hy;obtain⟨r,hg,hy⟩:=hy
  split at hy
  ·rename_i hle
   simp at hy;subst hy
   obtain⟨oo,cap,B,he,hB,h1,h2,h3,h4,hk⟩:=jR hr;obtain⟨B',eY,R,_,_⟩:=S.row i r hg;rw[hB]at eY;injection eY with eY;subst eY
   replace R:=R.row hk;have hlen:((r.rows.drop off).take len).length=len:=by simp;omega
   refine⟨some ⟨B.b,oo,none⟩,cap,by rw[hlen];exact he,?_⟩
   by_cases h0:(r.rows.drop off).take len=[]
   ·exact .inl h0
   ·have Fv:r.sz=sz:=by
     cases hq:(r.rows.drop off).take len with
     |nil=>exact(h0 hq).elim
     |cons c q=>
      have hm:c∈(r.rows.drop off).take len:=by rw[hq];simp
      rw[<-hl c hm,R.len c (List.mem_of_mem_drop (List.mem_of_mem_take hm))]
    have hlp:0<len:=by rw[<-hlen];exact List.length_pos_iff.2 h0
    have Ee:oo=off*B.sz:=by rcases h2 with h2|h2<;>omega
    obtain⟨news,q1,q2,q3,q4⟩:=fin B.b oo h0 (fun i2 j cs x eD hx=>by
     rw[List.getElem?_take]at eD
     split at eD
     ·rw[List.getElem?_drop]at eD;obtain⟨v,hv,qA⟩:=R.at_ _ _ _ _ eD hx;refine⟨v,?_,qA⟩;rw[Ee,R.sz,<-Fv];rw[Nat.add_mul]at hv;rw[<-Nat.add_assoc];exact hv
     ·simp at eD)
    exact .inr ⟨B.b,oo,news,rfl,q1,q2,q3,q4⟩
  ·simp at hy
 ·simp at hy
theorem rm {t ty e:TypeId} {i:TypeInfo} (ht:P.underlying t=some (.slice e)) (hi:P.info? e=some i) (A:Option Addr) (n c:Nat) (hn:n<=c) (B:Option Addr) (d:Nat):
  (Builtin.append_ #[t,t] ty #[.slice A n c,.slice B 0 d]).run P w=.ok (.slice A n c) w:=by
 have hf:(Builtin.firstCells i.size 0 (.slice B 0 d)).run P w=.ok #[] w:=by
  cases B<;>simp[Builtin.firstCells,loadCells,loadCellsFrom]
 cases A with
 |none=>simp[Builtin.append_,run_underlying ht,sizeOf,typeInfo,hi,Builtin.lenOf,hn,hf]
 |some A=>simp[Builtin.append_,run_underlying ht,sizeOf,typeInfo,hi,Builtin.lenOf,hn,hf,storeCells]
theorem A9 {t ty e T:TypeId} {i:TypeInfo} (ht:P.underlying t=some (.slice e)) (hi:P.info? e=some i) (b vK Ik:Nat) (cur:Array Value) (hg:w.heap[b]? =some (.cells cur T (0,0)))
  (x:Addr) (m c:Nat) (news:List Value) (hl:news.length=m*i.size) (YG:∀j u,news[j]? =some u->w.cell? (x.add j)=some u) (h1:∀u∈news,u.oneCell'=true)
  (mj:vK+m<=Ik) (wL:vK*i.size+news.length<=cur.size):
  (Builtin.append_ #[t,t] ty #[.slice (some ⟨b,0,none⟩) vK Ik,.slice (some x) m c]).run P w=
   .ok (.slice (some ⟨b,0,none⟩) (vK+m) Ik) (w.setRow b (cur.toList.take (vK*i.size)++news++cur.toList.drop (vK*i.size+news.length)).toArray):=by
 have hf:=run_firstCells_some (P:=P) w i.size m x m c news hl YG;have ez:=run_storeCells_at P b (vK*i.size) T news 0 cur w hg (by simpa using wL) h1;simp only[Nat.add_zero]at ez;simp[Builtin.append_,run_underlying ht,sizeOf,typeInfo,hi,Builtin.lenOf,mj,hf,lY,ez]
theorem Fc (w:World) (Lp F9:Nat) (e:TypeId) (h:Lp<=dj):Lp<=grownCap w Lp F9 e/\grownCap w Lp F9 e<=maxLen:=by
 unfold dj at h;simp only[grownCap,Question.cut,maxLen];have:=Nat.mod_lt (w.tape w.drawn (.appendCap Lp F9 e)) (show 0<2 ^ 63-Lp by omega);omega
theorem iH {x y:Operand} {t:TypeId} {u:Value} (ho:o.op=.call {callee:=.builtin .append,args:= #[x,y],argTypes:= #[t,t]}) (h:(Builtin.append_ #[t,t] o.type #[a.eval x,a.eval y]).run P w=.ok u w'):(execOp a.eval o).run P w=.ok (.value u) w':=by
 simp only[execOp,ho,resolve,Sem.run_bind,Sem.run_pure,Result.andThen_ok,invoke,builtin];simp only[List.map_toArray,List.map_cons,List.map_nil];rw[h];rfl
theorem Gn {T:TypeId} (S:iE P hs D ι g w) (cells:Array Value) (hn:ι id=none) (B:wv):Step hs D ι w D (lT ι id B) (w.drew.alloc (.cells cells T)):=
 Step.stay S (fun k hk=>by show(w.heap.push _)[k]? = _;rw[Array.getElem?_push,if_neg ae]) (by show _<=(w.heap.push _).size;simp) rfl rfl rfl (fun _ h=>h) (fun _ h=>.inl h) (gq hn)
theorem M1 {x y:Operand} {x' y':O} {t e:TypeId} {m:Nat} {z:List K} {i:TypeInfo} {ys:List (List AV)} {g':Rows} (S:iE P hs D ι g w) (E:dR P w D ι env a) (hn:ι id=none) (ho:o.op=.call {callee:=.builtin .append,args:= #[x,y],argTypes:= #[t,t]})
  (ht:P.underlying t=some (.slice e)) (eT:fe P e=some (m+1)) (hz:lk P e=some z) (hi:P.info? e=some i) (hby:i.bytes<=32768) (hx:cO P x=some x') (hy:cO P y=some y') (GP:bd g (dq env y')=some ys)
  (hv:aP g id (m+1) (dq env x') ys=some (v,g')):GX P hs a o w D ι id v g':=by
 have rx:=eo E hx;have ry:=eo E hy;obtain⟨it,zv,yq,zu,Xm,hm,Jn⟩:=lG hz;rw[hi]at yq;injection yq with yq;subst yq
 have lf:i.size=m+1:=by simpa[fe,hi]using eT
 have fits:∀n,n<=dj->n*i.bytes<=140737488355328:=fun n h=>by
  unfold dj at h
  have:=Nat.mul_le_mul h hby;omega
 have e63:∀n,n<=dj->(n:Int)<=9223372036854775807:=fun n h=>by unfold dj at h;omega
 have same:∀(w1:World) (cells:Array Value),w1=w.drew.alloc (.cells cells e)->w1.heap=w.heap.push (.cells cells e (0,0)):=fun w1 cells h=>by subst h;rfl
 have XB:∀l:List (List AV),(l.all fun c=>c.length==m+1&&c.all AV.cell)=true->(∀c∈l,c.length=m+1)/\∀c∈l,∀b∈c,b.cell=true:=fun l h=>by
  rw[List.all_eq_true]at h;refine⟨fun c hc=>?_,fun c hc b hb=>?_⟩
  ·have:=h c hc;simp at this;exact this.1
  ·have:=h c hc;simp at this;exact this.2 b hb
 unfold aP at hv
 split at hv
 ·rename_i hb;rw[hb]at rx;have ex:=j8 rx
  split at hv
  ·simp at hv
   obtain⟨rfl,rfl⟩:=hv;obtain⟨A,c,ey,_⟩:=vH (sz:=m+1) S ry GP (fun c h=>by cases h) (fun c h=>by cases h);refine⟨_,w,ι,.inl (iH ho (by rw[ex,ey];exact rm ht hi none 0 0 (Nat.le_refl _) A c)),Step.refl _ _ _ _,S,.fw _ _ .ck,fun _ _=>rfl⟩
  ·rename_i y0 yr
   split at hv
   ·rename_i hc;simp only[Option.some.injEq,Prod.mk.injEq]at hv;obtain⟨rfl,rfl⟩:=hv;obtain⟨hl,hf⟩:=XB _ hc.2;obtain⟨A,c,ey,h2⟩:=vH (sz:=m+1) S ry GP hl hf
    rcases h2 with h2|⟨b,oo,news,rfl,q1,q2,q3,q4⟩
    ·cases h2
    have gW:=run_append_nil (P:=P) w t o.type e i zv ht hi zu ⟨b,oo,none⟩ (y0::yr).length c news (by rw[lf];exact q1) (fun j v hj=>by rw[lY];exact q2 j v hj) (by simp) (e63 _ hc.1) (by have:=fits _ hc.1;omega);obtain⟨g1,g2⟩:=Fc w (y0::yr).length 0 e hc.1
    have eD:(news.toArray++Builtin.zeroCells zv.cells (grownCap w (y0::yr).length 0 e-(y0::yr).length)).size=grownCap w (y0::yr).length 0 e*(m+1):=by
     rw[Array.size_append,size_zeroCells,Xm,lf];simp only[List.size_toArray,q1];rw[<-Nat.add_mul];congr 1;omega
    have S1:=S.alloc (w':=w.drew.alloc (.cells (news.toArray++Builtin.zeroCells zv.cells (grownCap w (y0::yr).length 0 e-(y0::yr).length)) e)) (r:=⟨true,m+1,y0::yr⟩) rfl hn rfl (by rw[eD];exact Nat.mul_le_mul_right _ g1) hl hf
     (fun k j cs b2 hk hj=>by
      obtain⟨u,hu,AX⟩:=q3.2 _ _ (flat_get hl hk hj);refine⟨u,?_,AX⟩;have eG:=(Array.getElem?_eq_some_iff.1 hu).1;dsimp only
      rw[Array.getElem?_append_left eG];exact hu)
    have ez:=Gn (T:=e) S (news.toArray++Builtin.zeroCells zv.cells (grownCap w (y0::yr).length 0 e-(y0::yr).length)) hn ⟨w.heap.size,m+1,(news.toArray++Builtin.zeroCells zv.cells (grownCap w (y0::yr).length 0 e-(y0::yr).length)).size,none⟩;refine⟨_,_,_,.inl (iH ho (by rw[ex,ey];exact gW)),ez,S1,?_,fun _ h=>iM h⟩;refine .own _ _ _ _ _ _ (fa _ _ _) rfl g1 (.inr (by simp)) ?_ g2;dsimp only;rw[eD];simp
   ·simp at hv
 ·rename_i i0 len hb;rw[hb]at rx;simp only[Option.bind_eq_some_iff]at hv;obtain⟨r,hg,hv⟩:=hv
  split at hv
  ·rename_i hc;obtain⟨c1,c2,c3,c4,c5⟩:=hc;simp only[Option.some.injEq,Prod.mk.injEq]at hv;obtain⟨rfl,rfl⟩:=hv;obtain⟨hl,hf⟩:=XB _ c5;obtain⟨A,c,ey,h2⟩:=vH (sz:=m+1) S ry GP hl hf;obtain⟨oo,cap,B,ex,hB,h1,Ee,h3,h4,hk⟩:=jR rx;obtain⟨B',eY,R,lp,uk⟩:=S.row _ _ hg;rw[hB]at eY;injection eY with eY;subst eY
   replace R:=R.row hk;have Nq:B.sz=m+1:=R.sz.trans c2
   have Dv:∀cs∈r.rows++ys,cs.length=m+1:=fun cs eD=>by
    rcases List.mem_append.1 eD with h|h
    ·rw[<-c2];exact R.len cs h
    ·exact hl cs h
   have SG:∀cs∈r.rows++ys,∀b∈cs,b.cell=true:=fun cs eD=>by
    rcases List.mem_append.1 eD with h|h
    ·exact R.flat cs h
    ·exact hf cs h
   rcases h2 with rfl|⟨yb,yo,news,rfl,q1,q2,q3,q4⟩
   ·have KP:=S.rename hg c1 hB hn;refine⟨_,w,lT ι id B,.inl (iH ho (by rw[ex,ey];exact rm ht hi _ _ _ h1 A c)),⟨Below.refl _ _,fun _ _=>rfl,fun _ h=>h,gq hn,fun _ h=>.inl h⟩,?_,?_,fun _ h=>iM h⟩
    ·have:(⟨true,m+1,r.rows++[]⟩:Row)=r:=by cases r;simp_all
     rw[this];exact KP
    ·simp only[List.length_nil,Nat.add_zero];exact .own _ _ _ _ _ B (fa _ _ _) hk h1 Ee h3 h4
   ·obtain⟨cur,T,hblk,hC,zl⟩:=R.cur
    by_cases mj:len+ys.length<=cap
    ·have hoo:ys≠[]->oo=0:=fun h=>by
      rcases Ee with Ee|Ee
      ·have:=List.length_pos_iff.2 h;omega
      ·simpa using Ee
     by_cases hy0:ys=[]
     ·subst hy0;have KP:=S.rename hg c1 hB hn;refine⟨_,w,lT ι id B,.inl (iH ho (by rw[ex,ey];exact rm ht hi _ _ _ h1 _ c)),⟨Below.refl _ _,fun _ _=>rfl,fun _ h=>h,gq hn,fun _ h=>.inl h⟩,?_,?_,fun _ h=>iM h⟩
      ·have:(⟨true,m+1,r.rows++[]⟩:Row)=r:=by cases r;simp_all
       rw[this];exact KP
      ·simp only[List.length_nil,Nat.add_zero];exact .own _ _ _ _ _ B (fa _ _ _) hk h1 Ee h3 h4
     have ho0:=hoo hy0;subst ho0
     have wL:len*i.size+news.length<=cur.size:=by
      rw[lf,q1,hC,<-Nat.add_mul];refine Nat.le_trans ?_ h3;rw[Nq,Nat.zero_add];exact Nat.mul_le_mul_right _ mj
     have gW:=A9 (ty:=o.type) ht hi B.b len cap cur hblk ⟨yb,yo,none⟩ ys.length c news (by rw[lf];exact q1) (fun j v hj=>by rw[lY];exact q2 j v hj) q4 mj wL;have mJ:cur.toList.length=cur.size:=Array.length_toList;simp only[lf]at gW wL
     obtain⟨P1,P2⟩:=S.put (r':=⟨true,m+1,r.rows++ys⟩) hg c1 hB hblk (cur':=(cur.toList.take (len*(m+1))++news++cur.toList.drop (len*(m+1)+news.length)).toArray) (by simp only[List.size_toArray,List.length_append,List.length_take,List.length_drop,mJ];omega) rfl c2.symm
      (by dsimp only;rw[List.length_append,<-c3,<-Nq];refine Nat.le_trans (Nat.mul_le_mul_right _ mj) (Nat.le_trans (by simp) h3)) Dv SG (fun k j cs b2 hk hj=>by
       simp only[List.getElem?_toArray];have iL:j<m+1:=by rw[<-Dv cs (List.mem_of_getElem? hk)];exact(List.getElem?_eq_some_iff.1 hj).1
       rw[c2]
       by_cases l8:k<r.rows.length
       ·rw[List.getElem?_append_left l8]at hk;have h2:k*(m+1)+j<len*(m+1):=lB ae iL;rw[List.append_assoc,List.getElem?_append_left (by simp only[List.length_take,mJ];omega),List.getElem?_take,if_pos h2];have:=zl k j cs b2 hk hj;rw[c2]at this;simpa using this
       ·rw[List.getElem?_append_right ae]at hk;have qU:=(List.getElem?_eq_some_iff.1 hk).1;have jV:len*(m+1)<=k*(m+1):=Nat.mul_le_mul_right _ ae
        have mV:k*(m+1)+j-len*(m+1)=(k-r.rows.length)*(m+1)+j:=by
         rw[<-c3,Nat.sub_mul];omega
        obtain⟨u,hu,AX⟩:=q3.2 _ _ (flat_get hl hk hj);refine⟨u,?_,AX⟩;have Ve:news[(k-r.rows.length)*(m+1)+j]? =some u:=by simpa using hu
        have eG:=(List.getElem?_eq_some_iff.1 Ve).1;rw[List.append_assoc,List.getElem?_append_right (by simp only[List.length_take,mJ];omega),List.getElem?_append_left (by simp only[List.length_take,mJ];omega)];rw[<-Ve]
        congr 1
        simp only[List.length_take,mJ]
        omega)
     have fV:bJ (bQ (bJ g i0 ⟨true,m+1,r.rows++ys⟩) i0) id ⟨true,m+1,r.rows++ys⟩=bJ (bQ g i0) id ⟨true,m+1,r.rows++ys⟩:=by
      funext q;simp only[bJ,bQ]
      by_cases h:q=id<;>by_cases h':q=i0<;>simp[h,h']
     have KP:=P1.rename (i:=i0) (id:=id) (r:=⟨true,m+1,r.rows++ys⟩) (by simp[bJ]) rfl hB hn;rw[fV]at KP;refine⟨_,_,_,.inl (iH ho (by rw[ex,ey];exact gW)),P2.trans ⟨Below.refl _ _,fun _ _=>rfl,fun _ h=>h,gq hn,fun _ h=>.inl h⟩,KP,?_,fun _ h=>iM h⟩;exact .own _ _ _ _ _ B (fa _ _ _) hk mj (.inr (by simp)) h3 h4
    ·
     have holds:∃yd:List Value,yd.length=len*(m+1)/\(∀j v,yd[j]? =some v->w.cell? ⟨B.b,oo+j,none⟩=some v)/\gI P w D ι r.rows.flatten yd.toArray:=by
      obtain⟨A2,c2',e2,h2⟩:=vH (sz:=m+1) (u:=.slice (some ⟨B.b,oo,none⟩) len cap) S (.own i0 0 len oo cap B hB hk h1 Ee h3 h4) (ys:=r.rows) (by simp[bd,hg,c3]) (fun cs h=>by rw[<-c2];exact R.len cs h) R.flat
      rcases h2 with h2|⟨b2,o2,yd,rfl,p1,p2,p3,_⟩
      ·refine⟨[],by simp[c3,h2],fun j v h=>by simp at h,by rw[h2];exact⟨rfl,fun j a h=>by simp at h⟩⟩
      ·injection e2 with e2 _ _
       injection e2 with e2
       injection e2 with e21 e22 _
       subst e21;subst e22;exact⟨yd,by rw[p1,c3],p2,p3⟩
     obtain⟨yd,p1,p2,p3⟩:=holds;have gW:=run_append_grow (P:=P) w t o.type e i zv ht hi zu ⟨B.b,oo,none⟩ len cap yd (by rw[lf];exact p1) (fun j v hj=>by rw[lY];exact p2 j v hj) ⟨yb,yo,none⟩ ys.length c news (by rw[lf];exact q1) (fun j v hj=>by rw[lY];exact q2 j v hj) ae (e63 _ c4) (growslice_fits ae (fits _ c4));obtain⟨g1,g2⟩:=Fc w (len+ys.length) cap e c4
     have eD:(yd.toArray++news.toArray++Builtin.zeroCells zv.cells (grownCap w (len+ys.length) cap e-(len+ys.length))).size=grownCap w (len+ys.length) cap e*(m+1):=by
      rw[Array.size_append,Array.size_append,size_zeroCells,Xm,lf];simp only[List.size_toArray,q1,p1];rw[<-Nat.add_mul,<-Nat.add_mul];congr 1;omega
     have S1:=(S.kill i0).alloc (id:=id) (w':=w.drew.alloc (.cells (yd.toArray++news.toArray++Builtin.zeroCells zv.cells (grownCap w (len+ys.length) cap e-(len+ys.length))) e)) (r:=⟨true,m+1,r.rows++ys⟩) rfl hn rfl (by dsimp only;rw[eD,List.length_append,<-c3];exact Nat.mul_le_mul_right _ g1) Dv SG
      (fun k j cs b2 hk hj=>by
       have GH:=flat_get Dv hk hj;rw[List.flatten_append]at GH;have S6:yd.length=r.rows.flatten.length:=by have:=p3.1;simpa using this
       dsimp only
       by_cases eG:k*(m+1)+j<r.rows.flatten.length
       ·rw[List.getElem?_append_left eG]at GH;obtain⟨u,hu,AX⟩:=p3.2 _ _ GH;refine⟨u,?_,AX⟩;rw[Array.getElem?_append_left (by simp;omega),Array.getElem?_append_left (by simp;omega)];exact hu
       ·rw[List.getElem?_append_right ae]at GH;obtain⟨u,hu,AX⟩:=q3.2 _ _ GH;refine⟨u,?_,AX⟩;have Fp:=(Array.getElem?_eq_some_iff.1 hu).1;simp only[List.size_toArray]at Fp;rw[Array.getElem?_append_left (by simp;omega),Array.getElem?_append_right (by simp;omega)]
        simp only[List.size_toArray,S6];exact hu)
     have ez:=Gn (T:=e) S (yd.toArray++news.toArray++Builtin.zeroCells zv.cells (grownCap w (len+ys.length) cap e-(len+ys.length))) hn ⟨w.heap.size,m+1,(yd.toArray++news.toArray++Builtin.zeroCells zv.cells (grownCap w (len+ys.length) cap e-(len+ys.length))).size,none⟩;refine⟨_,_,_,.inl (iH ho (by rw[ex,ey];exact gW)),ez,S1,?_,fun _ h=>iM h⟩;refine .own _ _ _ _ _ _ (fa _ _ _) rfl g1 (.inr (by simp)) ?_ g2;dsimp only;rw[eD];simp
  ·simp at hv
 ·simp at hv
theorem nv {x:Operand} {t:TypeId} {u:Value} (ho:o.op=.call {callee:=.builtin .clear,args:= #[x],argTypes:= #[t]}) (h:(Builtin.clear_ #[t] o.type #[a.eval x]).run P w=.ok u w'):(execOp a.eval o).run P w=.ok (.value u) w':=by
 simp only[execOp,ho,resolve,Sem.run_bind,Sem.run_pure,Result.andThen_ok,invoke,builtin];simp only[List.map_toArray,List.map_cons,List.map_nil];rw[h];rfl
theorem Qy {x:Operand} {x':O} {t e:TypeId} {m:Nat} {z:List K} {g':Rows} (S:iE P hs D ι g w) (E:dR P w D ι env a) (ho:o.op=.call {callee:=.builtin .clear,args:= #[x],argTypes:= #[t]})
  (ht:P.underlying t=some (.slice e)) (eT:fe P e=some (m+1)) (hz:lk P e=some z) (hx:cO P x=some x') (hv:br g z (dq env x')=some g'):GX P hs a o w D ι id .undef g':=by
 have rx:=eo E hx;obtain⟨it,zv,hi,zu,Xm,hm,Jn⟩:=lG hz;have lf:it.size=m+1:=by simpa[fe,hi]using eT
 unfold br at hv
 split at hv
 ·rename_i hb;rw[hb]at rx
  simp at hv;subst hv
  refine⟨undef,w,ι,.inl (nv ho (by rw[j8 rx];simp only[Builtin.clear_,Sem.run_bind];simp[run_underlying ht,undef])),Step.refl _ _ _ _,S,dX.undef,fun _ _=>rfl⟩
 ·rename_i i off len hb;rw[hb]at rx;simp only[Option.bind_eq_some_iff]at hv;obtain⟨r,hg,hv⟩:=hv
  split at hv
  ·rename_i hc;obtain⟨c1,c2,c3⟩:=hc;simp only[Option.some.injEq]at hv;subst hv;obtain⟨oo,cap,B,ex,hB,h1,h2,h3,h4,hk⟩:=jR rx;obtain⟨B',eY,R,lp,uk⟩:=S.row _ _ hg;rw[hB]at eY;injection eY with eY;subst eY
   replace R:=R.row hk;obtain⟨cur,T,hblk,hC,zl⟩:=R.cur
   by_cases h0:len=0
   ·subst h0;have e1:({r with rows:=r.rows.take off++List.replicate 0 (z.map K.av)++r.rows.drop (off+0)}:Row)=r:=by cases r;simp
    rw[e1]
    have e2:bJ g i r=g:=by
     funext q;unfold bJ;split
     ·rename_i h;rw[h,hg]
     ·rfl
    rw[e2];refine⟨undef,w,ι,.inl (nv ho (by rw[ex];simp only[Builtin.clear_,Sem.run_bind];simp[run_underlying ht,undef])),Step.refl _ _ _ _,S,dX.undef,fun _ _=>rfl⟩
   ·have El:oo=off*B.sz:=by rcases h2 with h2|h2<;>omega
    have Nq:B.sz=m+1:=by rw[R.sz,c2,Jn,lf]
    have tF:r.sz=m+1:=by rw[<-R.sz,Nq]
    have Y3:zv.cells.size=m+1:=by rw[Xm,lf]
    have A5:(Builtin.zeroCells zv.cells len).toList.length=len*(m+1):=by rw[Array.length_toList,size_zeroCells,Y3]
    have Y2:∀k,k<len*(m+1)->∃c,z[k % z.length]? =some c/\(Builtin.zeroCells zv.cells len).toList[k]? =some c.val:=fun k hk=>by
     obtain⟨c,uh,xC⟩:=rK (n:=len*zv.cells.size) hm (by rw[Jn,lf];omega) k (by rw[Y3];exact hk);exact⟨c,uh,by rw[Array.getElem?_toList];exact xC⟩
    have hbound:(off+len)*(m+1)<=r.rows.length*(m+1):=Nat.mul_le_mul_right _ c3;have zn:=R.fits;rw[tF]at zn;have hexp:(off+len)*(m+1)=off*(m+1)+len*(m+1):=Nat.add_mul _ _ _
    have ez:=run_storeCells_at P B.b oo T (Builtin.zeroCells zv.cells len).toList 0 cur w hblk (by rw[A5,hC,El,Nq];omega) (by
     intro v hv;obtain⟨k,hk,rfl⟩:=List.getElem_of_mem hv;obtain⟨c,_,xC⟩:=Y2 k (by rw[<-A5];exact hk);rw[List.getElem?_eq_getElem hk]at xC;injection xC with xC
     rw[xC];cases c<;>rfl)
    simp only[Nat.add_zero]at ez;have mJ:cur.toList.length=cur.size:=Array.length_toList
    obtain⟨P1,P2⟩:=S.put (r':={r with rows:=r.rows.take off++List.replicate len (z.map K.av)++r.rows.drop (off+len)}) hg c1 hB hblk (cur':=(cur.toList.take oo++(Builtin.zeroCells zv.cells len).toList++cur.toList.drop (oo+(Builtin.zeroCells zv.cells len).toList.length)).toArray)
     (by simp only[List.size_toArray,List.length_append,List.length_take,List.length_drop,mJ,A5];rw[El,Nq];omega) c1 rfl (by
      have:(r.rows.take off++List.replicate len (z.map K.av)++r.rows.drop (off+len)).length=r.rows.length:=by simp;omega
      dsimp only;rw[this];exact R.fits) (fun cs eD=>by
      rcases List.mem_append.1 eD with h|h
      ·rcases List.mem_append.1 h with h|h
       ·exact R.len cs (List.mem_of_mem_take h)
       ·rw[List.eq_of_mem_replicate h];simp[c2]
      ·exact R.len cs (List.mem_of_mem_drop h)) (fun cs eD b hb=>by
      rcases List.mem_append.1 eD with h|h
      ·rcases List.mem_append.1 h with h|h
       ·exact R.flat cs (List.mem_of_mem_take h) b hb
       ·rw[List.eq_of_mem_replicate h]at hb;obtain⟨c,_,rfl⟩:=List.mem_map.1 hb;exact c.pe
      ·exact R.flat cs (List.mem_of_mem_drop h) b hb) (fun k j cs b hk hj=>by
      simp only[List.getElem?_toArray];rw[tF];rw[El,Nq,A5]
      by_cases xD:k<off
      ·rw[List.append_assoc,List.getElem?_append_left (by simp;omega),List.getElem?_take,if_pos xD]at hk;have iL:j<m+1:=by rw[<-tF,<-R.len cs (List.mem_of_getElem? hk)];exact(List.getElem?_eq_some_iff.1 hj).1
       have h2:=lB xD iL;rw[List.append_assoc,List.getElem?_append_left (by simp only[List.length_take,mJ];omega),List.getElem?_take,if_pos h2];have:=zl k j cs b hk hj;rw[tF]at this;simpa using this
      ·by_cases qU:k<off+len
       ·rw[List.append_assoc,List.getElem?_append_right (by simp;omega),List.getElem?_append_left (by simp;omega)]at hk;have jv:=List.eq_of_mem_replicate (List.mem_of_getElem? hk);subst jv;simp only[List.getElem?_map,Option.map_eq_some_iff]at hj;obtain⟨q,hq,rfl⟩:=hj;have iL:=(List.getElem?_eq_some_iff.1 hq).1;rw[Jn,lf]at iL;have jV:off*(m+1)<=k*(m+1):=Nat.mul_le_mul_right _ ae;have mV:k*(m+1)+j-off*(m+1)=(k-off)*(m+1)+j:=by rw[Nat.sub_mul];omega
        have Fp:(k-off)*(m+1)+j<len*(m+1):=lB ae iL;rw[List.append_assoc,List.getElem?_append_right (by simp only[List.length_take,mJ];omega),List.getElem?_append_left (by simp only[List.length_take,mJ,A5];omega)];obtain⟨c,uh,xC⟩:=Y2 _ Fp;rw[Jn,lf,Nat.mul_comm (k-off),Nat.mul_add_mod,Nat.mod_eq_of_lt iL,hq]at uh;injection uh with uh;subst uh
        refine⟨q.val,?_,Ac q⟩;rw[<-xC]
        congr 1
        simp only[List.length_take,mJ];omega
       ·rw[List.getElem?_append_right (by simp;omega)]at hk;simp only[List.length_append,List.length_take,List.length_replicate,List.getElem?_drop]at hk;rw[show off+len+(k-(min off r.rows.length+len))=k by omega]at hk;have l8:=(List.getElem?_eq_some_iff.1 hk).1;have jV:(off+len)*(m+1)<=k*(m+1):=Nat.mul_le_mul_right _ ae;rw[List.getElem?_append_right (by simp only[List.length_append,List.length_take,mJ,A5];omega)];simp only[List.length_append,List.length_take,mJ,A5,List.getElem?_drop];rw[show off*(m+1)+len*(m+1)+(k*(m+1)+j-(min (off*(m+1)) cur.size+len*(m+1)))=k*(m+1)+j by omega];have:=zl k j cs b hk hj
        rw[tF]at this;simpa using this)
    refine⟨undef,_,ι,.inl (nv ho ?_),P2,P1,dX.undef,fun _ _=>rfl⟩;rw[ex]
    cases len with
    |zero=>exact(h0 rfl).elim
    |succ len=>
     simp only[Builtin.clear_,Sem.run_bind];simp[run_underlying ht,zeroValue,typeInfo,hi,zu,ez,undef]
  ·simp at hv
 ·simp at hv
theorem LC {dT sT ty e:TypeId} {it:TypeInfo} (hu:P.underlying dT=some (.slice e)) (hi:P.info? e=some it) (A B:Option Addr) (vK Ik Kn Uf:Nat) (h0:Nat.min vK Kn=0):
  (Builtin.copy_ #[dT,sT] ty #[.slice A Kn Uf,.slice B vK Ik]).run P w=.ok (goInt 0) w:=by
 cases A<;>cases B<;>simp[Builtin.copy_,run_underlying hu,Builtin.lenOf,Builtin.firstCells,sizeOf,typeInfo,hi,h0,storeCells,loadCells,loadCellsFrom]
theorem LD {dT sT ty e:TypeId} {it:TypeInfo} (hu:P.underlying dT=some (.slice e)) (hi:P.info? e=some it) (A B:Addr) (vK Ik Kn Uf:Nat) (cs:List Value) (hn:cs.length=Nat.min vK Kn*it.size) (hl:(loadCells B cs.length).run P w=.ok cs.toArray w) (hs:(storeCells A cs).run P w=.ok () w'):
  (Builtin.copy_ #[dT,sT] ty #[.slice (some A) Kn Uf,.slice (some B) vK Ik]).run P w=.ok (goInt (Nat.min vK Kn)) w':=by
 simp[Builtin.copy_,run_underlying hu,Builtin.lenOf,Builtin.firstCells,sizeOf,typeInfo,hi,<-hn,hl,hs]
theorem tf {x y:Operand} {t t2:TypeId} {u:Value} (ho:o.op=.call {callee:=.builtin .copy,args:= #[x,y],argTypes:= #[t,t2]}) (h:(Builtin.copy_ #[t,t2] o.type #[a.eval x,a.eval y]).run P w=.ok u w'):(execOp a.eval o).run P w=.ok (.value u) w':=by
 simp only[execOp,ho,resolve,Sem.run_bind,Sem.run_pure,Result.andThen_ok,invoke,builtin];simp only[List.map_toArray,List.map_cons,List.map_nil];rw[h];rfl
theorem Ug {x y:Operand} {x' y':O} {t t2 e:TypeId} {m:Nat} {ys:List (List AV)} {v:AV} {g':Rows} (S:iE P hs D ι g w) (E:dR P w D ι env a) (ho:o.op=.call {callee:=.builtin .copy,args:= #[x,y],argTypes:= #[t,t2]})
  (ht:P.underlying t=some (.slice e)) (eT:fe P e=some (m+1)) (hx:cO P x=some x') (hy:cO P y=some y') (GP:bd g (dq env y')=some ys) (hv:JW g (m+1) (dq env x') ys=some (v,g')):GX P hs a o w D ι id v g':=by
 have rx:=eo E hx;have ry:=eo E hy
 obtain⟨it,hi,lf⟩:∃it,P.info? e=some it/\it.size=m+1:=by
  cases hq:P.info? e with
  |none=>simp[fe,hq]at eT
  |some it=>exact⟨it,rfl,by simpa[fe,hq]using eT⟩
 unfold JW at hv
 split at hv
 ·rename_i i off len hb;rw[hb]at rx;simp only[Option.bind_eq_some_iff]at hv;obtain⟨r,hg,hv⟩:=hv
  split at hv
  ·rename_i hc;obtain⟨c1,c2,c3,c4⟩:=hc;simp only[Option.some.injEq,Prod.mk.injEq]at hv;obtain⟨rfl,rfl⟩:=hv;rw[List.all_eq_true]at c4;have hl:∀c∈ys,c.length=m+1:=fun c hc=>by have:=c4 c hc;simp at this;exact this.1
   have hf:∀c∈ys,∀b∈c,b.cell=true:=fun c hc b hb=>by have:=c4 c hc;simp at this;exact this.2 b hb
   obtain⟨oo,cap,B,ex,hB,h1,h2,h3,h4,hk⟩:=jR rx;obtain⟨B',eY,R,lp,uk⟩:=S.row _ _ hg;rw[hB]at eY;injection eY with eY;subst eY
   replace R:=R.row hk;obtain⟨cur,T,hblk,hC,zl⟩:=R.cur;obtain⟨A,sc,hu,hA⟩:=vH S ry GP hl hf
   by_cases h0:min ys.length len=0
   ·rw[h0];have e1:({r with rows:=r.rows.take off++ys.take 0++r.rows.drop (off+0)}:Row)=r:=by cases r;simp
    rw[e1]
    have e2:bJ g i r=g:=by
     funext q;unfold bJ;split
     ·rename_i h;rw[h,hg]
     ·rfl
    rw[e2];refine⟨goInt 0,w,ι,.inl (tf ho (by rw[ex,hu];exact LC ht hi _ _ _ _ _ _ h0)),Step.refl _ _ _ _,S,.fw _ _ (.int _ _),fun _ _=>rfl⟩
   ·rcases hA with rfl|⟨b,o2,news,rfl,o9,hsrc,hR,h1c⟩
    ·simp at h0
    have YD:Nat.min ys.length len=min ys.length len:=rfl;have hky:min ys.length len<=ys.length:=Nat.min_le_left _ _;have l8:min ys.length len<=len:=Nat.min_le_right _ _;generalize QW:min ys.length len=kk at *;have hlen0:len≠0:=ae;have El:oo=off*B.sz:=by rcases h2 with h2|h2<;>omega
    have Nq:B.sz=m+1:=by rw[R.sz,c2]
    have tF:r.sz=m+1:=c2;have Yz:kk*(m+1)<=ys.length*(m+1):=Nat.mul_le_mul_right _ hky;have A5:(news.take (kk*(m+1))).length=kk*(m+1):=by rw[List.length_take,o9];omega
    have hbound:(off+kk)*(m+1)<=r.rows.length*(m+1):=Nat.mul_le_mul_right _ ae;have zn:=R.fits;rw[tF]at zn;have hexp:(off+kk)*(m+1)=off*(m+1)+kk*(m+1):=Nat.add_mul _ _ _;have ez:=run_storeCells_at P B.b oo T (news.take (kk*(m+1))) 0 cur w hblk (by rw[A5,hC,El,Nq];omega) (fun v hv=>h1c v (List.mem_of_mem_take hv))
    have hld:=run_loadCells_list (P:=P) w ⟨b,o2,none⟩ (news.take (kk*(m+1))) (fun j v hj=>by
     rw[List.getElem?_take]at hj
     split at hj
     ·have:=hsrc j v hj
      cases j with
      |zero=>simpa[Addr.add]using this
      |succ j=>simpa[Addr.add]using this
     ·cases hj)
    simp only[Nat.add_zero]at ez;have mJ:cur.toList.length=cur.size:=Array.length_toList;have AE:(ys.take kk).length=kk:=by rw[List.length_take];omega
    obtain⟨P1,P2⟩:=S.put (r':={r with rows:=r.rows.take off++ys.take kk++r.rows.drop (off+kk)}) hg c1 hB hblk (cur':=(cur.toList.take oo++news.take (kk*(m+1))++cur.toList.drop (oo+(news.take (kk*(m+1))).length)).toArray)
     (by simp only[List.size_toArray,List.length_append,List.length_drop,mJ,A5];rw[List.length_take,mJ,El,Nq];omega) c1 rfl (by
      have:(r.rows.take off++ys.take kk++r.rows.drop (off+kk)).length=r.rows.length:=by simp;omega
      dsimp only;rw[this];exact R.fits) (fun cs eD=>by
      rcases List.mem_append.1 eD with h|h
      ·rcases List.mem_append.1 h with h|h
       ·exact R.len cs (List.mem_of_mem_take h)
       ·rw[hl cs (List.mem_of_mem_take h)];exact c2.symm
      ·exact R.len cs (List.mem_of_mem_drop h)) (fun cs eD b hb=>by
      rcases List.mem_append.1 eD with h|h
      ·rcases List.mem_append.1 h with h|h
       ·exact R.flat cs (List.mem_of_mem_take h) b hb
       ·exact hf cs (List.mem_of_mem_take h) b hb
      ·exact R.flat cs (List.mem_of_mem_drop h) b hb) (fun k j cs b hk hj=>by
      simp only[List.getElem?_toArray];rw[tF];rw[El,Nq,A5]
      by_cases xD:k<off
      ·rw[List.append_assoc,List.getElem?_append_left (by simp;omega),List.getElem?_take,if_pos xD]at hk;have iL:j<m+1:=by rw[<-tF,<-R.len cs (List.mem_of_getElem? hk)];exact(List.getElem?_eq_some_iff.1 hj).1
       have h2:=lB xD iL;rw[List.append_assoc,List.getElem?_append_left (by simp only[List.length_take,mJ];omega),List.getElem?_take,if_pos h2];have:=zl k j cs b hk hj;rw[tF]at this;simpa using this
      ·by_cases qU:k<off+kk
       ·rw[List.append_assoc,List.getElem?_append_right (by simp;omega),List.getElem?_append_left (by simp;omega)]at hk;simp only[List.length_take]at hk;rw[show k-min off r.rows.length=k-off by omega,List.getElem?_take,if_pos ae]at hk;have iL:j<m+1:=by rw[<-hl cs (List.mem_of_getElem? hk)];exact(List.getElem?_eq_some_iff.1 hj).1
        have jV:off*(m+1)<=k*(m+1):=Nat.mul_le_mul_right _ ae;have mV:k*(m+1)+j-off*(m+1)=(k-off)*(m+1)+j:=by rw[Nat.sub_mul];omega
        have Fp:(k-off)*(m+1)+j<kk*(m+1):=lB ae iL;rw[List.append_assoc,List.getElem?_append_right (by simp only[List.length_take,mJ];omega),List.getElem?_append_left (by rw[A5];simp only[List.length_take,mJ];omega)];obtain⟨u,hu1,hu2⟩:=hR.2 ((k-off)*(m+1)+j) b (flat_get hl hk hj);refine⟨u,?_,hu2⟩;rw[List.getElem?_take];simp only[List.length_take,mJ];rw[show k*(m+1)+j-min (off*(m+1)) cur.size=(k-off)*(m+1)+j by omega,if_pos Fp]
        simpa using hu1
       ·rw[List.getElem?_append_right (by simp;omega)]at hk;simp only[List.length_append,List.length_take,List.getElem?_drop]at hk;rw[show off+kk+(k-(min off r.rows.length+min kk ys.length))=k by omega]at hk;have l8:=(List.getElem?_eq_some_iff.1 hk).1;have jV:(off+kk)*(m+1)<=k*(m+1):=Nat.mul_le_mul_right _ ae;rw[List.getElem?_append_right (by rw[List.length_append,A5];simp only[List.length_take,mJ];omega)];rw[List.getElem?_drop,List.length_append,A5];simp only[List.length_take,mJ];rw[show off*(m+1)+kk*(m+1)+(k*(m+1)+j-(min (off*(m+1)) cur.size+kk*(m+1)))=k*(m+1)+j by omega];have:=zl k j cs b hk hj
        rw[tF]at this;simpa using this)
    refine⟨goInt kk,_,ι,.inl (tf ho ?_),P2,P1,.fw _ _ (.int _ _),fun _ _=>rfl⟩;rw[ex,hu];have:=LD (w:=w) (sT:=t2) (ty:=o.type) ht hi ⟨B.b,oo,none⟩ ⟨b,o2,none⟩ ys.length sc len cap _ (by rw[A5,YD,lf]) hld ez;rw[YD]at this;exact this
  ·simp at hv
 ·simp at hv
end
end V

namespace V
open Go.RowKit
variable {P:Program} {w w':World} {D D' D2:Nat->Prop} {ι ι' ι2:Names}
section
variable {g:Rows} {hs:Nat}
theorem jb:∀{n:Nat} {l r:List AV},eM g n l=some r->r.length=l.length/\∀(j:Nat) (b:AV),r[j]? =some b->∃a,l[j]? =some a/\fz g n a=some b
 |n,[],r,h=>by
  rw[eM]at h;simp at h;subst h;simp
 |n,a::l,r,h=>by
  rw[eM]at h
  split at h
  ·rename_i b hb;simp only[Option.map_eq_some_iff]at h;obtain⟨r',hr,rfl⟩:=h;obtain⟨h1,h2⟩:=jb hr;refine⟨by simp[h1],fun j c hj=>?_⟩
   cases j with
   |zero=>simp at hj;subst hj;exact⟨a,rfl,hb⟩
   |succ j=>simp at hj ⊢;exact h2 j c hj
  ·simp at h
theorem zh:∀{n:Nat} {l r:List (List AV)},jn g n l=some r->r.length=l.length/\∀(j:Nat) (b:List AV),r[j]? =some b->∃a,l[j]? =some a/\eM g n a=some b
 |n,[],r,h=>by
  rw[jn]at h;simp at h;subst h;simp
 |n,a::l,r,h=>by
  rw[jn]at h
  split at h
  ·rename_i b hb;simp only[Option.map_eq_some_iff]at h;obtain⟨r',hr,rfl⟩:=h;obtain⟨h1,h2⟩:=zh hr;refine⟨by simp[h1],fun j c hj=>?_⟩
   cases j with
   |zero=>simp at hj;subst hj;exact⟨a,rfl,hb⟩
   |succ j=>simp at hj ⊢;exact h2 j c hj
  ·simp at h
theorem uM (hD:∀b,D b->D2 b) (wc:∀id row,g id=some row->row.w=true->∃B,ι id=some B/\jl P w D ι B row/\D2 B.b):∀(n:Nat) (a:AV) (u:Value) (r:AV),dX P w D ι a u->fz g n a=some r->dX P w D2 ι2 r u/\(a.cell=true->lH P w D2 r u/\r.cell=true):=by
 intro n
 induction n with
 |zero=>intro a u r _ h;rw[fz]at h;simp at h
 |succ n ih=>
  intro a u r hr h
  have both:∀{r:AV},lH P w D2 r u->r.cell=true->dX P w D2 ι2 r u/\(a.cell=true->lH P w D2 r u/\r.cell=true):=fun h1 h2=>⟨.fw _ _ h1,fun _=>⟨h1,h2⟩⟩
  cases a with
  |map id m=>rw[fz]at h;cases h
  |uB id=>rw[fz]at h;cases h
  |own id off len=>
   rw[fz]at h
   split at h
   ·rename_i row hg
    split at h
    ·rename_i hw
     split at h
     ·rename_i hle;simp only[Option.map_eq_some_iff]at h;obtain⟨rows,km,rfl⟩:=h;obtain⟨B,hB,R,Uw⟩:=wc id row hg hw;obtain⟨o,cap,B',rfl,eY,h1,h2,h3,h4,hk⟩:=jR hr;rw[hB]at eY;injection eY with eY;subst eY
      replace R:=R.row hk;obtain⟨l1,l2⟩:=zh km;have hlen:rows.length=len:=by rw[l1];simp;omega
      by_cases h0:rows=[]
      ·subst h0
       simp at hlen;subst hlen
       exact both (.Er _ _ h4) rfl
      ·have hlp:0<len:=by rw[<-hlen];exact List.length_pos_iff.2 h0
       have ho:o=off*B.sz:=by rcases h2 with h2|h2<;>omega
       have src:∀i cs,rows[i]? =some cs->∃c0,row.rows[off+i]? =some c0/\eM g n c0=some cs:=fun i cs hi=>by
        obtain⟨c0,mv,hf⟩:=l2 i cs hi;rw[List.getElem?_take]at mv
        split at mv
        ·rw[List.getElem?_drop]at mv;exact⟨c0,mv,hf⟩
        ·simp at mv
       have cell:∀i j,i<len->j<row.sz->∃c0 a0 v,row.rows[off+i]? =some c0/\c0[j]? =some a0/\w.cell? ⟨B.b,o+(i*row.sz+j),none⟩=some v/\dX P w D ι a0 v:=fun i j hi hj=>by
        have yq:off+i<row.rows.length:=ae;have e1:=List.getElem?_eq_getElem yq;have PW:j<row.rows[off+i].length:=by rw[R.len _ (List.getElem_mem yq)];exact hj
        obtain⟨v,hv,qA⟩:=R.at_ _ _ _ _ e1 (List.getElem?_eq_getElem PW);refine⟨_,_,v,e1,List.getElem?_eq_getElem PW,?_,qA⟩;rw[ho,R.sz,<-hv]
        congr 2
        rw[Nat.add_mul];omega
       refine both (.sl rows B.b o len cap row.sz (fun i j=>(w.cell? ⟨B.b,o+(i*row.sz+j),none⟩).getD undef) hlen h1 h4 Uw (fun cs eD=>?_) (fun cs eD b hb=>?_) (fun i j hi hj=>?_) (fun i j cs b hi hj=>?_)) rfl
       ·obtain⟨i,hi,rfl⟩:=List.getElem_of_mem eD;obtain⟨c0,mv,hf⟩:=src i _ (List.getElem?_eq_getElem hi);rw[(jb hf).1];exact R.len c0 (List.mem_of_getElem? mv)
       ·obtain⟨i,hi,rfl⟩:=List.getElem_of_mem eD;obtain⟨c0,mv,hf⟩:=src i _ (List.getElem?_eq_getElem hi);obtain⟨j,hj,rfl⟩:=List.getElem_of_mem hb;obtain⟨a0,mH,Ny⟩:=(jb hf).2 j _ (List.getElem?_eq_getElem hj);obtain⟨v,_,qA⟩:=R.at_ _ _ _ _ mv mH;exact((ih _ _ _ qA Ny).2 (R.flat c0 (List.mem_of_getElem? mv) a0 (List.mem_of_getElem? mH))).2
       ·obtain⟨c0,a0,v,_,_,hv,_⟩:=cell i j hi hj;simp only[hv,Option.getD_some]
       ·obtain⟨c0,mv,hf⟩:=src i cs hi;obtain⟨a0,mH,Ny⟩:=(jb hf).2 j b hj;have sO:i<len:=by rw[<-hlen];exact(List.getElem?_eq_some_iff.1 hi).1
        have iL:j<row.sz:=by rw[<-R.len c0 (List.mem_of_getElem? mv)];exact(List.getElem?_eq_some_iff.1 mH).1
        obtain⟨c1,a1,v,e1,e2,hv,qA⟩:=cell i j sO iL;rw[mv]at e1;injection e1 with e1;subst e1
        rw[mH]at e2;injection e2 with e2;subst e2
        simp only[hv,Option.getD_some];exact((ih _ _ _ qA Ny).2 (R.flat c0 (List.mem_of_getElem? mv) a0 (List.mem_of_getElem? mH))).1
     ·simp at h
    ·simp at h
   ·simp at h
  |ptr id i off=>
   rw[fz]at h
   split at h
   ·rename_i row hg
    split at h
    ·rename_i hw
     split at h
     ·rename_i c0 mv;simp only[Option.map_eq_some_iff]at h;obtain⟨cs,eD,rfl⟩:=h;obtain⟨B,hB,R,Uw⟩:=wc id row hg hw;obtain⟨B',rfl,eY,hk⟩:=jG hr;rw[hB]at eY;injection eY with eY;subst eY
      replace R:=R.row hk;obtain⟨l1,l2⟩:=jb eD
      have at_:∀j b,cs[j]? =some b->∃a0 v,w.cell? ⟨B.b,i*B.sz+off+j,none⟩=some v/\dX P w D ι a0 v/\a0.cell=true/\fz g n a0=some b:=fun j b hj=>by
       obtain⟨a0,mH,hf⟩:=l2 j b hj;rw[List.getElem?_drop]at mH;obtain⟨v,hv,qA⟩:=R.at_ _ _ _ _ mv mH;refine⟨a0,v,?_,qA,R.flat c0 (List.mem_of_getElem? mv) a0 (List.mem_of_getElem? mH),hf⟩;rw[R.sz,Nat.add_assoc];exact hv
      refine both (.dZ cs B.b _ (fun j=>(w.cell? ⟨B.b,i*B.sz+off+j,none⟩).getD undef) Uw (fun b hb=>?_) (fun j hj=>?_) (fun j b hj=>?_)) rfl
      ·obtain⟨j,hj,rfl⟩:=List.getElem_of_mem hb;obtain⟨a0,v,_,qA,hc,hf⟩:=at_ j _ (List.getElem?_eq_getElem hj);exact((ih _ _ _ qA hf).2 hc).2
      ·obtain⟨a0,v,hv,_⟩:=at_ j _ (List.getElem?_eq_getElem hj);simp only[hv,Option.getD_some]
      ·obtain⟨a0,v,hv,qA,hc,hf⟩:=at_ j b hj;simp only[hv,Option.getD_some];exact((ih _ _ _ qA hf).2 hc).1
     ·simp at h
    ·simp at h
   ·simp at h
  |agg cs=>
   rw[fz]at h;simp only[Option.map_eq_some_iff]at h;obtain⟨r',qz,rfl⟩:=h;obtain⟨vs,f,rfl,h1,h2,h3,h4⟩:=jQ hr;obtain⟨l1,l2⟩:=jb qz
   have hI:lH P w D2 (.agg r') (.agg vs):=.agg r' vs f (by rw[h1,l1]) (fun b hb=>by
    obtain⟨j,hj,rfl⟩:=List.getElem_of_mem hb;obtain⟨a0,mH,hf⟩:=l2 j _ (List.getElem?_eq_getElem hj)
    exact((ih _ _ _ (h4 j a0 mH) hf).2 (h2 a0 (List.mem_of_getElem? mH))).2) (fun j hj=>h3 j (by rw[<-l1];exact hj)) (fun j b hj=>by
    obtain⟨a0,mH,hf⟩:=l2 j b hj
    exact((ih _ _ _ (h4 j a0 mH) hf).2 (h2 a0 (List.mem_of_getElem? mH))).1)
   exact⟨.fw _ _ hI,fun hc=>by simp[AV.cell]at hc⟩
  |gG cs=>
   rw[fz]at h;simp only[Option.map_eq_some_iff]at h;obtain⟨r',qz,rfl⟩:=h;obtain⟨vs,f,rfl,h1,h3,h4⟩:=yC hr;obtain⟨l1,l2⟩:=jb qz
   exact⟨.gG r' vs f (by rw[h1,l1]) (fun j hj=>h3 j (by rw[<-l1];exact hj)) (fun j b hj=>by
    obtain⟨a0,mH,hf⟩:=l2 j b hj
    exact(ih _ _ _ (h4 j a0 mH) hf).1),fun hc=>by simp[AV.cell]at hc⟩
  |fn f ea=>
   rw[fz]at h
   split at h
   ·rename_i fy;simp only[Option.map_eq_some_iff]at h;obtain⟨r',qz,rfl⟩:=h;obtain⟨vs,q,rfl,h0,h1,h3,h4⟩:=w7 hr;obtain⟨l1,l2⟩:=jb qz
    exact both (.fn f r' vs q h0 (by rw[h1,l1]) (fun j hj=>h3 j (by rw[<-l1];exact hj)) (fun j b hj=>by
     obtain⟨a0,mH,hf⟩:=l2 j b hj
     exact((ih _ _ _ (h4 j a0 mH) hf).2 (List.all_eq_true.1 fy a0 (List.mem_of_getElem? mH))).1)) rfl
   ·simp at h
  |int k m=>rw[fz]at h<;>(try simp at h)<;>(try subst h)<;>(try(rw[eh hr];exact⟨.fw _ _ (.int _ _),fun _=>⟨.int _ _,rfl⟩⟩))<;>(try(intros;simp_all))
  |bool b=>rw[fz]at h<;>(try simp at h)<;>(try subst h)<;>(try(rw[gx hr];exact⟨.fw _ _ (.bool _),fun _=>⟨.bool _,rfl⟩⟩))<;>(try(intros;simp_all))
  |str b=>rw[fz]at h<;>(try simp at h)<;>(try subst h)<;>(try(rw[il hr];exact⟨.fw _ _ (.str _),fun _=>⟨.str _,rfl⟩⟩))<;>(try(intros;simp_all))
  |ck=>rw[fz]at h<;>(try simp at h)<;>(try subst h)<;>(try(rw[j8 hr];exact⟨.fw _ _ .ck,fun _=>⟨.ck,rfl⟩⟩))<;>(try(intros;simp_all))
  |kf=>rw[fz]at h<;>(try simp at h)<;>(try subst h)<;>(try(rw[Ae hr];exact⟨.fw _ _ .kf,fun _=>⟨.kf,rfl⟩⟩))<;>(try(intros;simp_all))
  |kG=>rw[fz]at h<;>(try simp at h)<;>(try subst h)<;>(try(rw[Gh hr];exact⟨.fw _ _ .kG,fun _=>⟨.kG,rfl⟩⟩))<;>(try(intros;simp_all))
  |j4=>rw[fz]at h<;>(try simp at h)<;>(try subst h)<;>(try(rw[Ad hr];exact⟨.fw _ _ .j4,fun _=>⟨.j4,rfl⟩⟩))<;>(try(intros;simp_all))
  |err g t s=>rw[fz]at h<;>(try simp at h)<;>(try subst h)<;>(try(cases hr with|fw _ _ hr=>exact both (hr.frame (fun _ _=>rfl) hD) rfl))<;>(try(intros;simp_all))
  |xH f ea=>rw[fz]at h<;>(try simp at h)<;>(try(intros;simp_all))
  |jk=>rw[fz]at h<;>(try simp at h)<;>(try subst h)<;>(try(cases hr with|fw _ _ hr=>exact both (hr.frame (fun _ _=>rfl) hD) rfl))<;>(try(intros;simp_all))
  |sl rows=>rw[fz]at h<;>(try simp at h)<;>(try subst h)<;>(try(cases hr with|fw _ _ hr=>exact both (hr.frame (fun _ _=>rfl) hD) rfl))<;>(try(intros;simp_all))
  |dZ cs=>rw[fz]at h<;>(try simp at h)<;>(try subst h)<;>(try(cases hr with|fw _ _ hr=>exact both (hr.frame (fun _ _=>rfl) hD) rfl))<;>(try(intros;simp_all))
theorem ke:∀{n:Nat} {l r:List AV},fC g n l=some r->r.length=l.length/\∀(j:Nat) (b:AV),r[j]? =some b->∃a,l[j]? =some a/\iG g n a=some b
 |n,[],r,h=>by
  rw[fC]at h;simp at h;subst h;simp
 |n,a::l,r,h=>by
  rw[fC]at h
  split at h
  ·rename_i b hb;simp only[Option.map_eq_some_iff]at h;obtain⟨r',hr,rfl⟩:=h;obtain⟨h1,h2⟩:=ke hr;refine⟨by simp[h1],fun j c hj=>?_⟩
   cases j with
   |zero=>simp at hj;subst hj;exact⟨a,rfl,hb⟩
   |succ j=>simp at hj ⊢;exact h2 j c hj
  ·simp at h
theorem xx:∀{n:Nat} {l r:List (List AV)},iX g n l=some r->r.length=l.length/\∀(j:Nat) (b:List AV),r[j]? =some b->∃a,l[j]? =some a/\fC g n a=some b
 |n,[],r,h=>by
  rw[iX]at h;simp at h;subst h;simp
 |n,a::l,r,h=>by
  rw[iX]at h
  split at h
  ·rename_i b hb;simp only[Option.map_eq_some_iff]at h;obtain⟨r',hr,rfl⟩:=h;obtain⟨h1,h2⟩:=xx hr;refine⟨by simp[h1],fun j c hj=>?_⟩
   cases j with
   |zero=>simp at hj;subst hj;exact⟨a,rfl,hb⟩
   |succ j=>simp at hj ⊢;exact h2 j c hj
  ·simp at h
theorem KB (wc:∀id row,g id=some row->row.w=true->∃B,ι id=some B/\jl P w D ι B row/\D2 B.b):∀(n:Nat) (a:AV) (u:Value) (r:AV),dX P w D ι a u->iG g n a=some r->dX P w D2 ι2 r u/\(a.cell=true->lH P w D2 r u/\r.cell=true):=by
 intro n
 induction n with
 |zero=>intro a u r _ h;rw[iG]at h;simp at h
 |succ n ih=>
  intro a u r hr h
  have both:∀{r:AV},lH P w D2 r u->r.cell=true->dX P w D2 ι2 r u/\(a.cell=true->lH P w D2 r u/\r.cell=true):=fun h1 h2=>⟨.fw _ _ h1,fun _=>⟨h1,h2⟩⟩
  cases a with
  |map id m=>rw[iG]at h<;>simp_all
  |uB id=>rw[iG]at h<;>simp_all
  |own id off len=>
   rw[iG]at h
   split at h
   ·rename_i row hg
    split at h
    ·rename_i hw
     split at h
     ·rename_i hle;simp only[Option.map_eq_some_iff]at h;obtain⟨rows,km,rfl⟩:=h;obtain⟨B,hB,R,Uw⟩:=wc id row hg hw;obtain⟨o,cap,B',rfl,eY,h1,h2,h3,h4,hk⟩:=jR hr;rw[hB]at eY;injection eY with eY;subst eY
      replace R:=R.row hk;obtain⟨l1,l2⟩:=xx km;have hlen:rows.length=len:=by rw[l1];simp;omega
      by_cases h0:rows=[]
      ·subst h0
       simp at hlen;subst hlen
       exact both (.Er _ _ h4) rfl
      ·have hlp:0<len:=by rw[<-hlen];exact List.length_pos_iff.2 h0
       have ho:o=off*B.sz:=by rcases h2 with h2|h2<;>omega
       have src:∀i cs,rows[i]? =some cs->∃c0,row.rows[off+i]? =some c0/\fC g n c0=some cs:=fun i cs hi=>by
        obtain⟨c0,mv,hf⟩:=l2 i cs hi;rw[List.getElem?_take]at mv
        split at mv
        ·rw[List.getElem?_drop]at mv;exact⟨c0,mv,hf⟩
        ·simp at mv
       have cell:∀i j,i<len->j<row.sz->∃c0 a0 v,row.rows[off+i]? =some c0/\c0[j]? =some a0/\w.cell? ⟨B.b,o+(i*row.sz+j),none⟩=some v/\dX P w D ι a0 v:=fun i j hi hj=>by
        have yq:off+i<row.rows.length:=ae;have e1:=List.getElem?_eq_getElem yq;have PW:j<row.rows[off+i].length:=by rw[R.len _ (List.getElem_mem yq)];exact hj
        obtain⟨v,hv,qA⟩:=R.at_ _ _ _ _ e1 (List.getElem?_eq_getElem PW);refine⟨_,_,v,e1,List.getElem?_eq_getElem PW,?_,qA⟩;rw[ho,R.sz,<-hv]
        congr 2
        rw[Nat.add_mul];omega
       refine both (.sl rows B.b o len cap row.sz (fun i j=>(w.cell? ⟨B.b,o+(i*row.sz+j),none⟩).getD undef) hlen h1 h4 Uw (fun cs eD=>?_) (fun cs eD b hb=>?_) (fun i j hi hj=>?_) (fun i j cs b hi hj=>?_)) rfl
       ·obtain⟨i,hi,rfl⟩:=List.getElem_of_mem eD;obtain⟨c0,mv,hf⟩:=src i _ (List.getElem?_eq_getElem hi);rw[(ke hf).1];exact R.len c0 (List.mem_of_getElem? mv)
       ·obtain⟨i,hi,rfl⟩:=List.getElem_of_mem eD;obtain⟨c0,mv,hf⟩:=src i _ (List.getElem?_eq_getElem hi);obtain⟨j,hj,rfl⟩:=List.getElem_of_mem hb;obtain⟨a0,mH,Ny⟩:=(ke hf).2 j _ (List.getElem?_eq_getElem hj);obtain⟨v,_,qA⟩:=R.at_ _ _ _ _ mv mH;exact((ih _ _ _ qA Ny).2 (R.flat c0 (List.mem_of_getElem? mv) a0 (List.mem_of_getElem? mH))).2
       ·obtain⟨c0,a0,v,_,_,hv,_⟩:=cell i j hi hj;simp only[hv,Option.getD_some]
       ·obtain⟨c0,mv,hf⟩:=src i cs hi;obtain⟨a0,mH,Ny⟩:=(ke hf).2 j b hj;have sO:i<len:=by rw[<-hlen];exact(List.getElem?_eq_some_iff.1 hi).1
        have iL:j<row.sz:=by rw[<-R.len c0 (List.mem_of_getElem? mv)];exact(List.getElem?_eq_some_iff.1 mH).1
        obtain⟨c1,a1,v,e1,e2,hv,qA⟩:=cell i j sO iL;rw[mv]at e1;injection e1 with e1;subst e1
        rw[mH]at e2;injection e2 with e2;subst e2
        simp only[hv,Option.getD_some];exact((ih _ _ _ qA Ny).2 (R.flat c0 (List.mem_of_getElem? mv) a0 (List.mem_of_getElem? mH))).1
     ·simp at h
    ·simp at h
   ·simp at h
  |ptr id i off=>
   rw[iG]at h
   split at h
   ·rename_i row hg
    split at h
    ·rename_i hw
     split at h
     ·rename_i c0 mv;simp only[Option.map_eq_some_iff]at h;obtain⟨cs,eD,rfl⟩:=h;obtain⟨B,hB,R,Uw⟩:=wc id row hg hw;obtain⟨B',rfl,eY,hk⟩:=jG hr;rw[hB]at eY;injection eY with eY;subst eY
      replace R:=R.row hk;obtain⟨l1,l2⟩:=ke eD
      have at_:∀j b,cs[j]? =some b->∃a0 v,w.cell? ⟨B.b,i*B.sz+off+j,none⟩=some v/\dX P w D ι a0 v/\a0.cell=true/\iG g n a0=some b:=fun j b hj=>by
       obtain⟨a0,mH,hf⟩:=l2 j b hj;rw[List.getElem?_drop]at mH;obtain⟨v,hv,qA⟩:=R.at_ _ _ _ _ mv mH;refine⟨a0,v,?_,qA,R.flat c0 (List.mem_of_getElem? mv) a0 (List.mem_of_getElem? mH),hf⟩;rw[R.sz,Nat.add_assoc];exact hv
      refine both (.dZ cs B.b _ (fun j=>(w.cell? ⟨B.b,i*B.sz+off+j,none⟩).getD undef) Uw (fun b hb=>?_) (fun j hj=>?_) (fun j b hj=>?_)) rfl
      ·obtain⟨j,hj,rfl⟩:=List.getElem_of_mem hb;obtain⟨a0,v,_,qA,hc,hf⟩:=at_ j _ (List.getElem?_eq_getElem hj);exact((ih _ _ _ qA hf).2 hc).2
      ·obtain⟨a0,v,hv,_⟩:=at_ j _ (List.getElem?_eq_getElem hj);simp only[hv,Option.getD_some]
      ·obtain⟨a0,v,hv,qA,hc,hf⟩:=at_ j b hj;simp only[hv,Option.getD_some];exact((ih _ _ _ qA hf).2 hc).1
     ·simp at h
    ·simp at h
   ·simp at h
  |agg cs=>
   rw[iG]at h;simp only[Option.map_eq_some_iff]at h;obtain⟨r',qz,rfl⟩:=h;obtain⟨vs,f,rfl,h1,h2,h3,h4⟩:=jQ hr;obtain⟨l1,l2⟩:=ke qz
   have hI:lH P w D2 (.agg r') (.agg vs):=.agg r' vs f (by rw[h1,l1]) (fun b hb=>by
    obtain⟨j,hj,rfl⟩:=List.getElem_of_mem hb;obtain⟨a0,mH,hf⟩:=l2 j _ (List.getElem?_eq_getElem hj)
    exact((ih _ _ _ (h4 j a0 mH) hf).2 (h2 a0 (List.mem_of_getElem? mH))).2) (fun j hj=>h3 j (by rw[<-l1];exact hj)) (fun j b hj=>by
    obtain⟨a0,mH,hf⟩:=l2 j b hj
    exact((ih _ _ _ (h4 j a0 mH) hf).2 (h2 a0 (List.mem_of_getElem? mH))).1)
   exact⟨.fw _ _ hI,fun hc=>by simp[AV.cell]at hc⟩
  |gG cs=>
   rw[iG]at h;simp only[Option.map_eq_some_iff]at h;obtain⟨r',qz,rfl⟩:=h;obtain⟨vs,f,rfl,h1,h3,h4⟩:=yC hr;obtain⟨l1,l2⟩:=ke qz
   exact⟨.gG r' vs f (by rw[h1,l1]) (fun j hj=>h3 j (by rw[<-l1];exact hj)) (fun j b hj=>by
    obtain⟨a0,mH,hf⟩:=l2 j b hj
    exact(ih _ _ _ (h4 j a0 mH) hf).1),fun hc=>by simp[AV.cell]at hc⟩
  |fn f ea=>rw[iG]at h<;>(try simp at h)<;>(try(intros;simp_all))
  |int k m=>rw[iG]at h<;>(try simp at h)<;>(try subst h)<;>(try(rw[eh hr];exact⟨.fw _ _ (.int _ _),fun _=>⟨.int _ _,rfl⟩⟩))<;>(try(intros;simp_all))
  |bool b=>rw[iG]at h<;>(try simp at h)<;>(try subst h)<;>(try(rw[gx hr];exact⟨.fw _ _ (.bool _),fun _=>⟨.bool _,rfl⟩⟩))<;>(try(intros;simp_all))
  |str b=>rw[iG]at h<;>(try simp at h)<;>(try subst h)<;>(try(rw[il hr];exact⟨.fw _ _ (.str _),fun _=>⟨.str _,rfl⟩⟩))<;>(try(intros;simp_all))
  |ck=>rw[iG]at h<;>(try simp at h)<;>(try subst h)<;>(try(rw[j8 hr];exact⟨.fw _ _ .ck,fun _=>⟨.ck,rfl⟩⟩))<;>(try(intros;simp_all))
  |kf=>rw[iG]at h<;>(try simp at h)<;>(try subst h)<;>(try(rw[Ae hr];exact⟨.fw _ _ .kf,fun _=>⟨.kf,rfl⟩⟩))<;>(try(intros;simp_all))
  |kG=>rw[iG]at h<;>(try simp at h)<;>(try subst h)<;>(try(rw[Gh hr];exact⟨.fw _ _ .kG,fun _=>⟨.kG,rfl⟩⟩))<;>(try(intros;simp_all))
  |j4=>rw[iG]at h<;>(try simp at h)<;>(try subst h)<;>(try(rw[Ad hr];exact⟨.fw _ _ .j4,fun _=>⟨.j4,rfl⟩⟩))<;>(try(intros;simp_all))
  |err g t s=>rw[iG]at h<;>(try simp at h)<;>(try(intros;simp_all))
  |xH f ea=>rw[iG]at h<;>(try simp at h)<;>(try(intros;simp_all))
  |jk=>rw[iG]at h<;>(try simp at h)<;>(try subst h)<;>(try(cases hr with|fw _ _ hr=>cases hr;exact both .jk rfl))<;>(try(intros;simp_all))
  |sl rows=>rw[iG]at h<;>(try simp at h)<;>(try(intros;simp_all))
  |dZ cs=>rw[iG]at h<;>(try simp at h)<;>(try(intros;simp_all))
end
end V

namespace V
open Go.RowKit
variable {P:Program} {w w':World} {D D':Nat->Prop} {ι ι':Names}
section
variable {g:Rows} {hs:Nat} {env:Env} {a:Act} {o:Oper} {id:Id} {v:AV}
theorem iE.LP (S:iE P hs D ι g w) {i:Id} {r r':Row} {B:wv} {ob:Obj} (hid:g i=some r) (hw:r.w=true) (hB:ι i=some B)
  (hR:(∀a v,dX P w D ι a v->dX P {w with heap:=w.heap.setIfInBounds B.b ob} D ι a v)->(w.heap.setIfInBounds B.b ob)[B.b]? =some ob->jl P {w with heap:=w.heap.setIfInBounds B.b ob} D ι B r'):
  iE P hs D ι (bJ g i r') {w with heap:=w.heap.setIfInBounds B.b ob}/\Step hs D ι w D ι {w with heap:=w.heap.setIfInBounds B.b ob}:=by
 obtain⟨B0,Fe,R,lp,uk⟩:=S.row i r hid;rw[hB]at Fe;injection Fe with Fe;subst Fe
 have other:∀b,b≠B.b->(w.heap.setIfInBounds B.b ob)[b]? =w.heap[b]? :=fun b hb=>by simp[Ne.symm hb]
 have hd:∀b,D b->(w.heap.setIfInBounds B.b ob)[b]? =w.heap[b]? :=fun b hb=>other b (by rintro rfl;exact uk hw hb);have hr:∀a v,dX P w D ι a v->dX P {w with heap:=w.heap.setIfInBounds B.b ob} D ι a v:=fun a v h=>h.frame hd (fun _ h=>h) (fun _ _ h=>h);refine⟨⟨by simpa using S.lo,fun b hb=>by simpa using S.dead b hb,fun j q h=>?_,fun j j' q q' C C' h h' NN hC xZ he=>?_⟩,⟨⟨rfl,rfl,rfl,by simp,fun k hk=>other k (by have:=lp hw;omega)⟩,hd,fun _ h=>h,fun _ _ h=>h,fun _ h=>.inl h⟩⟩
 ·unfold bJ at h
  split at h
  ·rename_i e;subst e;injection h with h;subst h
   exact⟨B,hB,hR hr (by simp[R.lt]),fun _=>lp hw,fun _=>uk hw⟩
  ·rename_i e;obtain⟨C,hC,RC,k1,k2⟩:=S.row j q h;refine⟨C,hC,RC.frame (other C.b (fun GG=>e ?_)) hr,k1,k2⟩;exact(S.inj i j r q B C hid h hw hB hC GG.symm).symm
 ·unfold bJ at h h'
  have get:∀j p,(if j=i then some r' else g j)=some p->∃p0,g j=some p0/\(p.w=true->p0.w=true):=fun j p hp=>by
   split at hp
   ·rename_i e;subst e;injection hp with hp;subst hp;exact⟨r,hid,fun _=>hw⟩
   ·exact⟨p,hp,fun h=>h⟩
  obtain⟨p,hp,Xh⟩:=get _ _ h;obtain⟨p',U3,_⟩:=get _ _ h';exact S.inj j j' p p' C C' hp U3 (Xh NN) hC xZ he
theorem I4 {s:TS} {x y:AV} {u v:Value} (he:e8 s x y=some true) (hx:dX P w D ι x u) (hy:dX P w D ι y v):u=v/\∀n,Instr.sameBits n u v=true:=by
 unfold e8 at he
 split at he
 ·split at he
  ·rename_i hk;subst hk
   simp at he;subst he
   rw[eh hx,eh hy];exact⟨rfl,fun n=>by cases n<;>simp[Instr.sameBits]⟩
  ·cases he
 ·simp at he;subst he
  rw[gx hx,gx hy];exact⟨rfl,fun n=>by cases n<;>simp[Instr.sameBits]⟩
 ·simp at he;subst he
  rw[il hx,il hy];exact⟨rfl,fun n=>by cases n<;>simp[Instr.sameBits,ML]⟩
 ·cases he
theorem EY {n:Nat}:∀{ts:List TS} {xs ys:List AV} {vs us:List Value},eF ts xs ys=some true->vs.length=xs.length->us.length=ys.length->(∀(j:Nat) (a:AV),xs[j]? =some a->∃u,vs[j]? =some u/\dX P w D ι a u)->(∀(j:Nat) (a:AV),ys[j]? =some a->∃u,us[j]? =some u/\dX P w D ι a u)->
  us.length=vs.length/\(us.zip vs).all (fun p=>Instr.sameBits n p.1 p.2)=true
 |[],[],[],vs,us,_,h1,h2,_,_=>by
  cases vs<;>cases us<;>simp_all
 |[],x::xs,ys,vs,us,h,_,_,_,_=>by simp[eF]at h
 |[],[],y::ys,vs,us,h,_,_,_,_=>by simp[eF]at h
 |t::ts,[],ys,vs,us,h,_,_,_,_=>by simp[eF]at h
 |t::ts,x::xs,[],vs,us,h,_,_,_,_=>by simp[eF]at h
 |t::ts,x::xs,y::ys,[],us,h,h1,_,_,_=>by simp at h1
 |t::ts,x::xs,y::ys,v::vs,[],h,_,h2,_,_=>by simp at h2
 |t::ts,x::xs,y::ys,v::vs,u::us,h,h1,h2,hx,hy=>by
  unfold eF at h
  split at h
  ·rename_i a b ha hb;simp only[Option.some.injEq,Bool.and_eq_true]at h;obtain⟨rfl,rfl⟩:=h;obtain⟨v',qq,rv⟩:=hx 0 x rfl;obtain⟨u',Ve,ru⟩:=hy 0 y rfl
   simp at qq Ve;subst qq;subst Ve
   obtain⟨e1,e2⟩:=I4 ha rv ru;obtain⟨q1,q2⟩:=EY (n:=n) hb (by simpa using h1) (by simpa using h2) (fun j a hj=>by simpa using hx (j+1) a (by simpa using hj)) (fun j a hj=>by simpa using hy (j+1) a (by simpa using hj));refine⟨by simp[q1],?_⟩;simp only[List.zip_cons_cons,List.all_cons,q2,Bool.and_true];rw[<-e1];have:=e2 n;rw[<-e1]at this;exact this
  ·cases h
theorem F2 {m:MK} {key:List AV}:∀{rows:List (List AV)} {i j:Nat},ig m key rows i=some (some j)->∃cs,i<=j/\rows[j-i]? =some cs/\eF m.ts key (cs.take m.ks)=some true
 |[],i,j,h=>by simp[ig]at h
 |cs::rows,i,j,h=>by
  unfold ig at h
  split at h
  ·rename_i hq
   simp at h;subst h
   exact⟨cs,Nat.le_refl _,by simp,hq⟩
  ·obtain⟨c,h1,h2,h3⟩:=F2 h;exact⟨c,ae,by rw[show j-i=(j-(i+1))+1 by omega];simpa using h2,h3⟩
  ·cases h
theorem zL {m:MK} {k:AV} {rows:List (List AV)} {fi:Option Nat} (h:gZ m k rows=some fi):k.isAgg=m.ka/\k.cells.length=m.ks/\(k.cells.all AV.cell=true)/\ig m k.cells rows 0=some fi:=by
 unfold gZ at h
 split at h
 ·rename_i hc;exact⟨hc.1,hc.2.1,hc.2.2,h⟩
 ·cases h
theorem OG {m:MK} {k y:AV} (h1:k.isAgg=m.ka) (h2:k.cells.length=m.ks):part m.ka m.ks (k.cells++[y])=some k/\(k.cells++[y])[m.ks]? =some y:=by
 refine⟨?_,by rw[List.getElem?_append_right ae,h2,Nat.sub_self];rfl⟩
 cases hk:m.ka with
 |false=>
  rw[hk]at h1;rw[yZ h1];rfl
 |true=>
  rw[hk]at h1
  cases k<;>simp[AV.isAgg]at h1
  rename_i cs;simp only[AV.cells]at h2 ⊢;simp only[part,if_true];rw[if_pos (by simp;omega),<-h2,List.take_left']
  rfl
theorem stays {k:TypeId} {m:MK} (hK:IH P k m) {key kv:AV} {u F9:Value} {cs:List AV} (h1:key.isAgg=m.ka) (hr:dX P w D ι key u) (hp:part m.ka m.ks cs=some kv) (ho:dX P w D ι kv F9) (he:eF m.ts key.cells (cs.take m.ks)=some true):(Instr.keyThatStays F9 u).run P w=.ok u w:=by
 have hs:Instr.sameBits 10000 F9 u=true:=by
  rcases hK with⟨s,rfl,hs⟩|⟨fs,ts,rfl,uP,Em,ez,fy⟩
  ·rw[yZ h1]at he
   cases cs with
   |nil=>simp[part]at hp
   |cons c l=>
    simp[part]at hp;subst hp;simp only[MK.ks,List.length_cons,List.length_nil,Nat.zero_add,List.take_succ_cons,List.take_zero,eF]at he
    cases hq:e8 s key c with
    |none=>rw[hq]at he;simp at he
    |some b=>
     rw[hq]at he;simp at he;subst he;obtain⟨e1,e2⟩:=I4 hq hr ho;rw[<-e1];have:=e2 10000
     rwa [<-e1]at this
  ·cases key<;>simp[AV.isAgg]at h1
   rename_i ks;simp only[part,if_true]at hp
   split at hp
   ·simp only[Option.some.injEq]at hp;subst hp;obtain⟨vs,rfl,n1,r1⟩:=vG hr;obtain⟨us,rfl,n2,r2⟩:=vG ho;obtain⟨q1,q2⟩:=EY (n:=9999) (vs:=vs.toList) (us:=us.toList) he (by simpa[AV.cells]using n1) (by simpa using n2) (fun j a hj=>by simpa using r1 j a hj) (fun j a hj=>by simpa using r2 j a hj);simp only[Instr.sameBits,Bool.and_eq_true,beq_iff_eq];exact⟨by simpa using q1,q2⟩
   ·cases hp
 simp[Instr.keyThatStays,hs]
theorem Pd {es:Array MapEntry} {clock:Nat} (h:IK es clock) (k v:Value):IK (es.push ⟨k,v,clock⟩) (clock+1):=by
 refine⟨fun x hx=>?_,?_⟩
 ·simp only[Array.toList_push,List.mem_append,List.mem_singleton]at hx
  rcases hx with hx|rfl
  ·have:=h.1 x hx;omega
  ·exact Nat.lt_succ_self _
 ·simp only[Array.toList_push,List.map_append,List.map_cons,List.map_nil];refine List.nodup_append.2 ⟨h.2,by simp,fun a ha b hb=>?_⟩;obtain⟨x,hx,rfl⟩:=List.mem_map.1 ha
  simp at hb;subst hb
  have:=h.1 x hx;omega
theorem It {es:Array MapEntry} {clock:Nat} (h:IK es clock) (j:Nat) (k v:Value):IK (es.modify j fun e=>{e with key:=k,val:=v}) clock:=by
 have e:(es.modify j fun e=>{e with key:=k,val:=v}).toList.map (·.born)=es.toList.map (·.born):=by
  refine List.ext_getElem? fun i=>?_;simp only[List.getElem?_map,Array.getElem?_toList,Array.getElem?_modify]
  split
  ·cases es[i]? <;>rfl
  ·rfl
 refine⟨fun x hx=>?_,by rw[e];exact h.2⟩;have hb:x.born∈(es.modify j fun e=>{e with key:=k,val:=v}).toList.map (·.born):=List.mem_map_of_mem hx;rw[e]at hb;obtain⟨y,hy,hyb⟩:=List.mem_map.1 hb;rw[<-hyb];exact h.1 y hy
theorem LJ {es:Array MapEntry} {clock:Nat} (h:IK es clock) {j:Nat} (hj:j<es.size):IK (es.eraseIdxIfInBounds j) clock:=by
 have e:(es.eraseIdxIfInBounds j).toList=es.toList.eraseIdx j:=by
  unfold Array.eraseIdxIfInBounds;rw[dif_pos hj,Array.toList_eraseIdx]
 refine⟨fun x hx=>h.1 x ((List.eraseIdx_sublist _ _).subset (by rwa [e]at hx)),?_⟩;rw[e];exact((List.eraseIdx_sublist es.toList j).map (·.born)).nodup h.2
theorem E7 {k y:AV} (h1:k.cells.all AV.cell=true) (h2:y.cell=true):∀a∈k.cells++[y],a.cell=true:=fun a ha=>by
 rcases List.mem_append.1 ha with ha|ha
 ·exact List.all_eq_true.1 h1 a ha
 ·rw[List.mem_singleton.1 ha];exact h2
theorem Ui {t:TypeId} {x k y:Operand} {m:MK} {z:K} {x' k' y':O} {g':Rows} (S:iE P hs D ι g w) (E:dR P w D ι env a) (ho:o.op=.mapUpdate t x k y∨o.op=.insert t x k y) (hc:wE P t=some (m,z)) (hx:cO P x=some x') (hk:cO P k=some k') (hy:cO P y=some y')
  (hv:bq (.set m) [dq env x',dq env k',dq env y'] g=some g'):GX P hs a o w D ι id .undef g':=by
 obtain⟨kt,e,i,zv,ht,hi,zu,hkz,hK⟩:=uy hc;simp only[bq,Option.bind_eq_some_iff]at hv;obtain⟨p,hp,fi,Dd,hv⟩:=hv
 split at hv
 ·rename_i hcond;obtain⟨hw,hyc,_⟩:=hcond;simp only[Option.some.injEq]at hv;subst hv;obtain⟨B,hu,hg,hB,xY,es,clock,hb,eT,hlen,hM⟩:=Dz S (eo E hx) hp;have rk:=eo E hk;have ry:=eo E hy;obtain⟨UM,res,hf,hF⟩:=ze (B:=B) hK rk eT hM Dd;obtain⟨k1,k2,k3,k4⟩:=zL Dd;obtain⟨B',eY,R,_⟩:=S.row p.1 p.2 hg;rw[hB]at eY;injection eY with eY;subst eY
  obtain⟨pk1,pk2⟩:=OG (y:=dq env y') k1 k2;have ib:(getObj B.b).run P w=.ok (.map es clock) w:=MapKept.run_getObj_map hb
  rcases hF with⟨rfl,rfl⟩|⟨j,en,rfl,he,rfl⟩
  ·have qp:=S.LP (ob:=.map (es.push ⟨a.eval k,a.eval y,clock⟩) (clock+1)) (r':={p.2 with rows:=dn p.2.rows ((dq env k').cells++[dq env y']) none}) hg hw hB fun hr l9=>⟨R.sz,fun cs eD=>?_,fun qy=>(by rw[xY]at qy;cases qy),fun m' Fq=>?_,fun c hc=>(by rw[xY]at hc;cases hc)⟩
   ·refine⟨undef,_,ι,.inr ⟨?_,rfl⟩,qp.2,qp.1,dX.undef,fun _ _=>rfl⟩
    rcases ho with ho|ho<;>
    ·simp only[execOp,ho,Instr.mapUpdate,hu,Sem.run_bind,run_underlying ht,Result.andThen_ok,ib,UM,hf,MapKept.run_setObj_map _ hb,Sem.run_pure]
   ·rcases List.mem_append.1 eD with h|h
    ·exact R.flat cs h
    ·rw[List.mem_singleton.1 h];exact E7 k3 hyc
   ·rw[xY]at Fq;simp only[Option.some.injEq,BK.map.injEq]at Fq;subst Fq;refine⟨(R.map m xY).1,_,_,l9,by simp[dn,eT],⟨fun cs eD=>?_,Pd hlen.2 _ _⟩,fun q cs hq=>?_⟩
    ·rcases List.mem_append.1 eD with h|h
     ·exact hlen.1 cs h
     ·rw[List.mem_singleton.1 h];simp[k2]
    ·rcases Nat.lt_or_ge q p.2.rows.length with eG|jV
     ·simp only[dn]at hq;rw[List.getElem?_append_left eG]at hq;obtain⟨en,kv,vv,q1,q2,q3,q4,q5⟩:=hM q cs hq;exact⟨en,kv,vv,by rw[Array.getElem?_push_lt ae];rw[Array.getElem?_eq_getElem ae]at q1;simpa using q1,q2,q3,hr _ _ q4,hr _ _ q5⟩
     ·simp only[dn]at hq;rw[List.getElem?_append_right jV]at hq
      have S7:q=p.2.rows.length:=by
       have:=(List.getElem?_eq_some_iff.1 hq).1
       simp at this;omega
      subst S7
      simp at hq;subst hq
      exact⟨⟨a.eval k,a.eval y,clock⟩,_,_,by rw[<-eT];simp,pk1,pk2,hr _ _ rk,hr _ _ ry⟩
  ·simp only[Nat.zero_add]at k4 Dd hf ⊢;obtain⟨ZR,_,QO,heq⟩:=F2 k4;simp only[Nat.sub_zero]at QO;obtain⟨XN,kv,vv,q1,q2,_,q4,_⟩:=hM j ZR QO
   have SV:XN=en:=by
    have h1:es.toList[j]? =some XN:=by simpa using q1
    rw[he]at h1;injection h1 with h1;exact h1.symm
   subst SV;have ez:=stays (w:=w) hK k1 rk q2 q4 heq
   have qp:=S.LP (ob:=.map (es.modify j fun e=>{e with key:=a.eval k,val:=a.eval y}) clock) (r':={p.2 with rows:=dn p.2.rows ((dq env k').cells++[dq env y']) (some j)}) hg hw hB fun hr l9=>⟨R.sz,fun cs eD=>?_,fun qy=>(by rw[xY]at qy;cases qy),fun m' Fq=>?_,fun c hc=>(by rw[xY]at hc;cases hc)⟩
   ·refine⟨undef,_,ι,.inr ⟨?_,rfl⟩,qp.2,qp.1,dX.undef,fun _ _=>rfl⟩
    rcases ho with ho|ho<;>
    ·simp only[execOp,ho,Instr.mapUpdate,hu,Sem.run_bind,run_underlying ht,Result.andThen_ok,ib,UM,hf,q1,Option.map_some,Option.getD_some,ez,MapKept.run_setObj_map _ hb,Sem.run_pure]
   ·rcases List.mem_or_eq_of_mem_set eD with h|h
    ·exact R.flat cs h
    ·rw[h];exact E7 k3 hyc
   ·rw[xY]at Fq;simp only[Option.some.injEq,BK.map.injEq]at Fq;subst Fq;have iL:=(List.getElem?_eq_some_iff.1 QO).1;refine⟨(R.map m xY).1,_,_,l9,by simp[dn,eT],⟨fun cs eD=>?_,It hlen.2 _ _ _⟩,fun q cs hq=>?_⟩
    ·rcases List.mem_or_eq_of_mem_set eD with h|h
     ·exact hlen.1 cs h
     ·rw[h];simp[k2]
    ·simp only[dn,List.getElem?_set]at hq
     split at hq
     ·rename_i Xa;subst Xa;(try rw[if_pos iL]at hq);injection hq with hq;subst hq
      exact⟨{XN with key:=a.eval k,val:=a.eval y},_,_,by rw[Array.getElem?_modify];simp[q1],pk1,pk2,hr _ _ rk,hr _ _ ry⟩
     ·rename_i Xa;obtain⟨en,kv,vv,q1,q2,q3,q4,q5⟩:=hM q cs hq;exact⟨en,kv,vv,by rw[Array.getElem?_modify];simp[Xa,q1],q2,q3,hr _ _ q4,hr _ _ q5⟩
 ·cases hv
theorem Uh {t t':TypeId} {x k:Operand} {m:MK} {z:K} {x' k':O} {g':Rows} (S:iE P hs D ι g w) (E:dR P w D ι env a) (ho:o.op=.call {callee:=.builtin .delete,args:= #[x,k],argTypes:= #[t,t']}) (hc:wE P t=some (m,z)) (hx:cO P x=some x') (hk:cO P k=some k')
  (hv:bq (.del m) [dq env x',dq env k'] g=some g'):GX P hs a o w D ι id .undef g':=by
 obtain⟨kt,e,i,zv,ht,hi,zu,hkz,hK⟩:=uy hc;simp only[bq,Option.bind_eq_some_iff]at hv;obtain⟨p,hp,fi,Dd,hv⟩:=hv
 split at hv
 ·rename_i hw;simp only[Option.some.injEq]at hv;subst hv;obtain⟨B,hu,hg,hB,xY,es,clock,hb,eT,hlen,hM⟩:=Dz S (eo E hx) hp;have rk:=eo E hk;obtain⟨UM,res,hf,hF⟩:=ze (B:=B) hK rk eT hM Dd;obtain⟨k1,k2,k3,k4⟩:=zL Dd;obtain⟨B',eY,R,_⟩:=S.row p.1 p.2 hg;rw[hB]at eY;injection eY with eY;subst eY
  have ib:(getObj B.b).run P w=.ok (.map es clock) w:=MapKept.run_getObj_map hb
  have go:∀ob,(Builtin.delete_ #[t,t'] o.type #[a.eval x,a.eval k]).run P w=.ok (.tuple #[]) {w with heap:=w.heap.setIfInBounds B.b ob}->(execOp a.eval o).run P w=.ok (.value undef) {w with heap:=w.heap.setIfInBounds B.b ob}:=fun ob h=>by
   simp only[execOp,ho,resolve,Sem.run_bind,Sem.run_pure,Result.andThen_ok,invoke,builtin,Array.map];simp[h,undef]
  rcases hF with⟨rfl,rfl⟩|⟨j,en,rfl,he,rfl⟩
  ·have qp:=S.LP (ob:=.map es clock) (r':={p.2 with rows:=dm p.2.rows none}) hg hw hB fun hr l9=>⟨R.sz,R.flat,fun qy=>(by rw[xY]at qy;cases qy),fun m' Fq=>?_,fun c hc=>(by rw[xY]at hc;cases hc)⟩
   ·refine⟨undef,_,ι,.inl (go _ ?_),qp.2,qp.1,dX.undef,fun _ _=>rfl⟩;simp[Builtin.delete_,hu,run_underlying ht,ib,UM,hf,MapKept.run_setObj_map _ hb]
   ·rw[xY]at Fq;simp only[Option.some.injEq,BK.map.injEq]at Fq;subst Fq
    exact⟨(R.map m xY).1,_,_,l9,eT,hlen,fun q cs hq=>by
     obtain⟨en,kv,vv,q1,q2,q3,q4,q5⟩:=hM q cs hq
     exact⟨en,kv,vv,q1,q2,q3,hr _ _ q4,hr _ _ q5⟩⟩
  ·simp only[Nat.zero_add]at hf ⊢;have iL:j<es.size:=by have:=(List.getElem?_eq_some_iff.1 he).1;simpa using this
   have qp:=S.LP (ob:=.map (es.eraseIdxIfInBounds j) clock) (r':={p.2 with rows:=dm p.2.rows (some j)}) hg hw hB fun hr l9=>⟨R.sz,fun cs eD=>R.flat cs (List.mem_of_mem_eraseIdx eD),fun qy=>(by rw[xY]at qy;cases qy),fun m' Fq=>?_,fun c hc=>(by rw[xY]at hc;cases hc)⟩
   ·refine⟨undef,_,ι,.inl (go _ ?_),qp.2,qp.1,dX.undef,fun _ _=>rfl⟩;simp[Builtin.delete_,hu,run_underlying ht,ib,UM,hf,MapKept.run_setObj_map _ hb]
   ·rw[xY]at Fq;simp only[Option.some.injEq,BK.map.injEq]at Fq;subst Fq
    have Yk:∀q,(es.eraseIdxIfInBounds j)[q]? =(es.toList.eraseIdx j)[q]? :=fun q=>by
     unfold Array.eraseIdxIfInBounds;rw[dif_pos iL,<-Array.getElem?_toList,Array.toList_eraseIdx]
    refine⟨(R.map m xY).1,_,_,l9,by simp[dm,Array.eraseIdxIfInBounds,iL,List.length_eraseIdx,<-eT],⟨fun cs eD=>hlen.1 cs (List.mem_of_mem_eraseIdx eD),LJ hlen.2 iL⟩,fun q cs hq=>?_⟩;simp only[dm,List.getElem?_eraseIdx]at hq
    split at hq
    ·rename_i eG;obtain⟨en,kv,vv,q1,q2,q3,q4,q5⟩:=hM q cs hq;exact⟨en,kv,vv,by rw[Yk,List.getElem?_eraseIdx,if_pos eG];simpa using q1,q2,q3,hr _ _ q4,hr _ _ q5⟩
    ·rename_i eG;obtain⟨en,kv,vv,q1,q2,q3,q4,q5⟩:=hM (q+1) cs hq;exact⟨en,kv,vv,by rw[Yk,List.getElem?_eraseIdx,if_neg eG];simpa using q1,q2,q3,hr _ _ q4,hr _ _ q5⟩
 ·cases hv
end
end V
end Go.Proofs.YtoodopepphhpoaaGreatDoor
