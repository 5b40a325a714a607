/- A small language in which the program's functions are read by value: its values, its operations, its code, and how the program's code is brought into it. -/
import Derived.WalkKit
import Derived.WalkSpells
import Derived.WalkLawsBesides
import Derived.Lib.Hide
import Derived.Great.BuildSlice
import Derived.Conc.LoneCalls
import Derived.MapKept
import Derived.WideKeyRuns
set_option linter.unusedVariables false
set_option linter.unusedSimpArgs false
set_option maxRecDepth 100000
set_option maxHeartbeats 16000000
namespace Go.Proofs.YtainmfbpilopaaaGreatDoor.V
open Go.RowKit
structure Id where
  site:Nat
  bG:Nat
  deriving DecidableEq,Repr
inductive TS where
  |tI|tB|tS
  deriving Repr,DecidableEq
structure MK where
  ka:Bool
  ts:List TS
  deriving Repr,DecidableEq
inductive AV where
  |int (k:IntKind) (n:Int)
  |bool (b:Bool)
  |str (s:ByteArray)
  |bU|iH|jF
  |sl (rows:List (List AV))
  |own (id:Id) (off len:Nat)
  |ptr (id:Id) (i off:Nat)
  |dQ (cs:List AV)
  |agg (cs:List AV)
  |fD (vs:List AV)
  |fn (f:Nat) (dv:List AV)
  |map (id:Id) (m:MK)
  |jS
  |jn
  |err (g t:Nat) (s:ByteArray)
  |xf (f:Nat) (first:List AV)
  |tN (id:Id)
  deriving Inhabited
def AV.undef:AV:=.fD []
def AV.cell:AV->Bool
  | .agg _| .fD _=>false
  |_=>true
def AV.cells:AV->List AV
  | .agg cs=>cs
  |v=>[v]
inductive K where
  |int (k:IntKind) (n:Int)
  |bool (b:Bool)
  |str (l:List UInt8)
  |bU|iH|jF|jS|jn
  deriving Repr,DecidableEq
def K.val:K->Value
  | .int k n=>.int k n
  | .bool b=>.bool b
  | .str l=>.string ⟨l.toArray⟩
  | .bU=>.slice none 0 0
  | .iH=>.pointer none
  | .jF=>.nilFunc
  | .jS=>.map none
  | .jn=>.nilIface
def K.av:K->AV
  | .int k n=>.int k n
  | .bool b=>.bool b
  | .str l=>.str ⟨l.toArray⟩
  | .bU=>.bU
  | .iH=>.iH
  | .jF=>.jF
  | .jS=>.jS
  | .jn=>.jn
def J8:Value->Option K
  | .int k n=>some (.int k n)
  | .bool b=>some (.bool b)
  | .string s=>some (.str s.data.toList)
  | .slice none 0 0=>some .bU
  | .pointer none=>some .iH
  | .nilFunc=>some .jF
  | .map none=>some .jS
  | .nilIface=>some .jn
  |_=>none
inductive O where
  |t (n:Nat)
  |k (c:K)
  |ka (cs:List K)
  |f (n:Nat)
  deriving Repr,DecidableEq
inductive MQ where
  |new (m:MK)
  |look (m:MK) (ok:Bool) (zero:K)
  |len (m:MK)
  deriving Repr,DecidableEq
inductive MW where
  |set (m:MK)
  |del (m:MK)
  deriving Repr,DecidableEq
inductive ib where
  |eb (x:O)
  |pick (c a b:O)
  |new (zero:List K)
  |box (x:O)
  |build (zero:List K) (parts:List (Nat×Nat×O))
  |nD (sz len:Nat) (parts:List O)
  |load (agg:Bool) (n:Nat) (a:O)
  |store (n:Nat) (a x:O)
  |Dg (x:O)
  |bin (op:BinOp) (k:IntKind) (x y:O)
  |sh (left:Bool) (x y:O)
  |Ps (op:BinOp) (x y:O)
  |SR (neg:Bool) (t:TS) (x y:O)
  |Yo (neg:Bool) (ts:List TS) (x y:O)
  |Wp (neg Qh:Bool) (x:O)
  |Yp (neg:Bool) (x:O)
  |not (x:O)
  |neg (x:O)
  |conv (k:IntKind) (x:O)
  |Ie (x:O)
  |slice (sz:Nat) (x:O) (lo hi:Option O)
  |CZ (x:O) (lo hi:Option O)
  |iP (off:Nat) (x:O)
  |field (agg:Bool) (off n:Nat) (x:O)
  |gG (sz:Nat) (x i:O)
  |Qa (len sz:Nat) (x i:O)
  |Qd (x i:O)
  |ez (agg:Bool) (len n:Nat) (x i:O)
  |extract (i:Nat) (x:O)
  |len (x:O)
  |Qq (x:O)
  |append (sz:Nat) (x y:O)
  |copy (sz:Nat) (x y:O)
  |clear (zero:List K) (x:O)
  |Qy (f:Nat) (dv:List O)
  |Qz (f:Nat) (first:List O)
  |k9 (zero:List K) (len cap:O)
  |call (f:Nat) (args:List O)
  |wM (x:O) (args:List O)
  |mq (q:MQ) (xs:List O)
  |mw (q:MW) (xs:List O)
  |Ny (x:O)
  |Nl (x:O)
  |snd (x y:O)
  |UD (x:O)
  |Ip (g:Nat)
  |bad
  deriving Repr,DecidableEq
structure bL where
  dst:Option Nat
  op:ib
  guard:Option (Nat×Bool)
  site:Nat
  hid:List Nat
  deriving Repr,DecidableEq
def q (d:Nat) (op:ib) (s:Nat):bL:=⟨some d,op,none,s,[]⟩
inductive VC where
  |skip
  |fF (draw:Bool) (ops:List bL)
  |seq (a b:VC)
  |cond (c:O) (x y:VC)
  |block (id:Nat) (c:VC)
  |loop (c:VC)
  |exit (id:Nat)
  |ret
  |one (o:bL) (c:VC)
  |both (a b:VC)
  |loc (t s:Nat) (y:O) (c:VC)
  |SL (ops:List bL)
  deriving Repr,DecidableEq
inductive pN where
  |tmp (t:Nat)
  |cell (agg:Bool) (n:Nat) (t:Nat)
  deriving Repr,DecidableEq
structure Df where
  ntmps:Nat
  Bw:Nat
  body:VC
  res:List pN
  deriving Repr,DecidableEq
def gE (P:Program) (f:Nat):Bool:=
  match P.funcs[f]? with
  |some fn=>fn.body.isSome&& !(fn.name== "runtime.NumGoroutine")
  |none=>false
def cO (P:Program):Operand->Option O
  | .tmp t=>some (.t t)
  | .const (.agg cs)=>(cs.toList.mapM J8).map O.ka
  | .const v=>(J8 v).map O.k
  | .global _=>none
  | .func f=>if gE P f then some (.f f)else none
def kF (P:Program) (t:TypeId):Option (List K):=
  match P.info? t with
  |some i=>match i.zero with
    |some v=>if v.cells.size=i.size then v.cells.toList.mapM J8 else none
    |none=>none
  |none=>none
def eF (P:Program) (t:TypeId):Option Nat:=(P.info? t).map (·.size)
def od (P:Program) (t:TypeId):Option Bool:=
  match P.underlying t with
  |some (.struct _)|some (.array _ _)=>some true
  |some _=>some false
  |none=>none
inductive Zr where
  |sc (t:TS)|ag (ts:List TS)
  deriving Repr,DecidableEq
def fY (P:Program) (t:TypeId):Option TS:=
  match P.underlying t with
  |some .bool=>some .tB
  |some (.int _)=>some .tI
  |some .string=>some .tS
  |_=>none
def Gw (P:Program) (inner:List Field->Option (List TS)):Nat->List Field->Option (List TS)
  |_,[]=>some []
  |off,f::r=>
    if f.offset=off/\f.name≠ "_" then
      match fY P f.type with
      |some t=>if od P f.type=some false then(Gw P inner (off+1) r).map (t::·)else none
      |none=>match P.underlying f.type with
        |some (.struct fs)=>if !P.stoodInHeld f.type then match inner fs.toList with
          |some ts=>if eF P f.type=some ts.length/\ts≠[]then(Gw P inner (off+ts.length) r).map (ts++·)else none
          |none=>none else none
        |_=>none
    else none
def eX (P:Program):Nat->Nat->List Field->Option (List TS)
  |0,_,[]=>some []
  |0,_,_::_=>none
  |d+1,off,fs=>Gw P (eX P d 0) off fs
def ZH (P:Program) (t:TypeId):Option Zr:=
  match fY P t with
  |some s=>some (.sc s)
  |none=>match P.underlying t with
    |some (.struct fs)=>if !P.stoodInHeld t&& !P.eqGuardType P.depth t then(eX P 4 0 fs.toList).map Zr.ag else none
    |_=>none
def u9 (P:Program) (fs:Array Field):List (Nat×O)->Option (List (Nat×Nat×O))
  |[]=>some []
  |(i,x)::r=>match fs[i]? with
    |some f=>match eF P f.type with
      |some n=>(u9 P fs r).map ((f.offset,n,x)::·)
      |none=>none
    |none=>none
def vg (P:Program) (ps:Array (Nat×Operand)):Option (List (Nat×O)):=ps.toList.mapM fun(i,x)=>(cO P x).map (i,·)
def tL (P:Program):Option Operand->Option (Option O)
  |none=>some none
  |some x=>(cO P x).map some
def vd (P:Program) (neg:Bool) (t:TypeId) (x y:Operand):Option ib:=
  match y with
  | .const (.slice none 0 0)=>match P.underlying t with
    |some (.slice _)=>(cO P x).map (ib.Wp neg false)
    |_=>none
  | .const .nilFunc=>match P.underlying t with
    |some (.func ..)=>(cO P x).map (ib.Wp neg true)
    |_=>none
  | .const (.pointer none)=>match P.underlying t with
    |some (.pointer _)=>(cO P x).map (ib.Yp neg)
    |_=>none
  |_=>match ZH P t with
    |some (.sc s)=>do pure (.SR neg s (<-cO P x) (<-cO P y))
    |some (.ag ts)=>do pure (.Yo neg ts (<-cO P x) (<-cO P y))
    |_=>none
def yC (P:Program) (op:BinOp) (t:TypeId) (x y:Operand):Option ib:=
  match op with
  | .eql=>vd P false t x y
  | .neq=>vd P true t x y
  | .shl=>do pure (.sh true (<-cO P x) (<-cO P y))
  | .shr=>do pure (.sh false (<-cO P x) (<-cO P y))
  |op=>match P.underlying t with
    |some (.int k)=>do pure (.bin op k (<-cO P x) (<-cO P y))
    |some .string=>do pure (.Ps op (<-cO P x) (<-cO P y))
    |_=>none
def ve (P:Program) (t:TypeId):Option (MK×K):=
  match P.underlying t with
  |some (.map k e)=>match od P e,(P.info? e).bind (·.zero),fY P k,P.underlying k with
    |some false,some zv,some s,_=>(J8 zv).map fun z=>(⟨false,[s]⟩,z)
    |some false,some zv,none,some (.struct fs)=>match eX P 4 0 fs.toList,J8 zv with
      |some ts,some z=>if !P.stoodInHeld k/\fs.toList.all (fun f=>(fY P f.type).isSome)then some (⟨true,ts⟩,z)else none
      |_,_=>none
    |_,_,_,_=>none
  |_=>none
def pC (P:Program) (c:Call):Option ib:=
  match c.callee with
  | .builtin .len=>match c.args.toList,c.argTypes.toList with
    |[x],[t]=>match P.underlying t with
      |some (.slice _)=>(cO P x).map ib.len
      |some .string=>(cO P x).map ib.Qq
      |some (.map _ _)=>match ve P t,cO P x with
        |some (m,_),some x=>some (.mq (.len m) [x])
        |_,_=>none
      |some (.chan _ _)=>(cO P x).map ib.Nl
      |_=>none
    |_,_=>none
  | .builtin .append=>match c.args.toList,c.argTypes.toList with
    |[x,y],[t,u]=>match P.underlying t with
      |some (.slice e)=>match eF P e,kF P e,P.info? e with
        |some (sz+1),some _,some i=>if i.bytes<=32768/\t=u then do pure (.append (sz+1) (<-cO P x) (<-cO P y))else none
        |_,_,_=>none
      |_=>none
    |_,_=>none
  | .builtin .clear=>match c.args.toList,c.argTypes.toList with
    |[x],[t]=>match P.underlying t with
      |some (.slice e)=>match eF P e,kF P e with
        |some (_+1),some z=>(cO P x).map (ib.clear z)
        |_,_=>none
      |_=>none
    |_,_=>none
  | .value (.func f)=>if gE P f then(c.args.toList.mapM (cO P)).map (ib.call f)else none
  | .value (.tmp t)=>(c.args.toList.mapM (cO P)).map (ib.wM (.t t))
  | .builtin .delete=>match c.args.toList,c.argTypes.toList with
    |[x,k],[t,_]=>match ve P t,cO P x,cO P k with
      |some (m,_),some x,some k=>some (.mw (.del m) [x,k])
      |_,_,_=>none
    |_,_=>none
  | .builtin .copy=>match c.args.toList,c.argTypes.toList with
    |[x,y],[t,_]=>match P.underlying t with
      |some (.slice e)=>match eF P e with
        |some (sz+1)=>do pure (.copy (sz+1) (<-cO P x) (<-cO P y))
        |_=>none
      |_=>none
    |_,_=>none
  |_=>none
def tg (P:Program) (o:Op):Option ib:=
  match o with
  | .move x| .assign x=>(cO P x).map ib.eb
  | .pick c a b=>do pure (.pick (<-cO P c) (<-cO P a) (<-cO P b))
  | .alloc e=>(kF P e).map ib.new
  | .box _ x=>(cO P x).map ib.box
  | .load t (.global g)=>if eF P t=some 1/\od P t=some false then some (.Ip g)else none
  | .load t a=>do pure (.load (<-od P t) (<-eF P t) (<-cO P a))
  | .store t a x=>do pure (.store (<-eF P t) (<-cO P a) (<-cO P x))
  | .nilCheck x=>(cO P x).map ib.Dg
  | .binOp op t x y _=>yC P op t x y
  | .unOp .not _ x=>(cO P x).map ib.not
  | .unOp .neg _ x=>(cO P x).map ib.neg
  | .convert s d x=>match P.underlying s,P.underlying d with
    |some (.int _),some (.int k)=>(cO P x).map (ib.conv k)
    |some .string,some .string=>(cO P x).map ib.Ie
    |_,_=>none
  | .slice t x lo hi none=>match P.underlying t with
    |some (.slice e)=>do
      pure (.slice (<-eF P e) (<-cO P x) (<-tL P lo) (<-tL P hi))
    |some .string=>do pure (.CZ (<-cO P x) (<-tL P lo) (<-tL P hi))
    |_=>none
  | .fieldAddr s x i=>match P.underlying s with
    |some (.struct fs)=>match fs[i]? with
      |some f=>match eF P f.type with
        |some (_+1)=>(cO P x).map (ib.iP f.offset)
        |_=>none
      |none=>none
    |_=>none
  | .field s x i=>match P.underlying s with
    |some (.struct fs)=>match fs[i]? with
      |some f=>do pure (.field (<-od P f.type) f.offset (<-eF P f.type) (<-cO P x))
      |none=>none
    |_=>none
  | .indexAddr t x i=>match P.underlying t with
    |some (.slice e)=>match eF P e with
      |some (m+1)=>do pure (.gG (m+1) (<-cO P x) (<-cO P i))
      |_=>none
    |some (.array len e)=>match eF P e with
      |some (m+1)=>do pure (.Qa len (m+1) (<-cO P x) (<-cO P i))
      |_=>none
    |_=>none
  | .index t x i=>match P.underlying t with
    |some .string=>do pure (.Qd (<-cO P x) (<-cO P i))
    |some (.array len e)=>do pure (.ez (<-od P e) len (<-eF P e) (<-cO P x) (<-cO P i))
    |_=>none
  | .extract x i=>(cO P x).map (ib.extract i)
  | .build t ps=>match P.underlying t with
    |some (.struct fs)=>
      match kF P t,vg P ps with
      |some z,some l=>
        if fs.all (fun f=>(P.info? f.type).isSome)then(u9 P fs l).map (ib.build z)else none
      |_,_=>none
    |some (.array _ e)=>
      match kF P t,vg P ps,eF P e with
      |some z,some l,some n=>some (.build z (l.map fun(i,x)=>(i*n,n,x)))
      |_,_,_=>none
    |_=>none
  | .buildSlice t len ps=>match P.underlying t with
    |some (.slice e)=>match eF P e,kF P e,vg P ps with
      |some (sz+1),some _,some l=>
        if len*(sz+1)<=4096/\l.map (·.1)=List.range len then some (.nD (sz+1) len (l.map (·.2)))else none
      |_,_,_=>none
    |_=>none
  | .makeFunc (.func f) first dv=>
    if first= #[]/\gE P f then(dv.toList.mapM (cO P)).map (ib.Qy f)else if dv= #[]/\gE P f then(first.toList.mapM (cO P)).map (ib.Qz f)else none
  | .makeSlice t l c=>match P.underlying t with
    |some (.slice e)=>match eF P e,kF P e,P.info? e with
      |some (_+1),some z,some i=>if i.bytes<=32768 then do pure (.k9 z (<-cO P l) (<-cO P c))else none
      |_,_,_=>none
    |_=>none
  | .call c=>pC P c
  | .makeChan t n=>match P.underlying t with
    |some (.chan _ e)=>match P.info? e with
      |some i=>if i.bytes<=32768 then(cO P n).map ib.Ny else none
      |none=>none
    |_=>none
  | .send x y=>do pure (.snd (<-cO P x) (<-cO P y))
  | .recv t x false=>match P.underlying t with
    |some (.chan _ e)=>match (P.info? e).bind (·.zero)with
      |some _=>(cO P x).map ib.UD
      |none=>none
    |_=>none
  | .makeMap t none=>match ve P t with
    |some (m,_)=>some (.mq (.new m) [])
    |none=>none
  | .lookup t x k ok=>match ve P t,cO P x,cO P k with
    |some (m,z),some x,some k=>some (.mq (.look m ok z) [x,k])
    |_,_,_=>none
  | .mapUpdate t x k v| .insert t x k v=>match ve P t,cO P x,cO P k,cO P v with
    |some (m,_),some x,some k,some v=>some (.mw (.set m) [x,k,v])
    |_,_,_,_=>none
  | .makeInterface _ _=>some .bad
  | .panic _=>some .bad
  |_=>none
inductive Zp where
  |pure|look|make|write
  deriving DecidableEq,Repr
def ib.cls:ib->Zp
  | .new _| .box _| .nD .. | .k9 .. | .mq (.new _) _| .Ny _=>.make
  | .Ip _| .load .. | .gG .. | .slice .. | .call .. | .wM .. | .mq .. | .Nl _=>.look
  | .store .. | .append .. | .copy .. | .clear .. | .mw .. | .snd .. | .UD _=>.write
  |_=>.pure
def clash:Zp->Zp->Bool
  | .pure,_|_,.pure=>false
  | .write,_|_,.write=>true
  |_,_=>false
def jO (ops:Array Oper):Array Nat:=Region.before ops
def sR:ib->Bool:=fun o=>o.cls==.make||o.cls==.write
def ib.nK:ib->Bool
  | .call .. | .wM .. =>true
  |_=>false
def Gk (ops:Array Oper) (o:Oper):Option (Option (Nat×Bool)):=
  match o.guard with
  |none=>some none
  |some (i,b)=>match (ops[i]?).bind (·.dst)with
    |some t=>some (some (t,b))
    |none=>none
def l8 (P:Program) (ops:Array Oper) (nt site0:Nat) (draw mk:Bool) (bs:Array Nat) (hidden:List (Nat×Bool)) (j:Nat) (o:Oper):Option bL:=do
  let v <-tg P o.op
  let g <-Gk ops o
  if (o.dst.all fun d=>decide (d<nt))then
    pure {dst:=o.dst,op:=v,guard:=g,site:=site0+j,hid:=if draw then(hidden.filter fun(i,m)=>m&& !(bs.getD j 0).testBit i&&(i !=j||mk&&v.nK)).map fun(i,_)=>site0+i else[]}
  else none
def allM {α:Type} (f:Nat->Oper->Option α):List Oper->Nat->Option (List α)
  |[],_=>some []
  |o::r,j=>do pure ((<-f j o)::(<-allM f r (j+1)))
def iJ:O->List Nat
  | .t n=>[n]
  |_=>[]
def zq:Option O->List Nat
  |some x=>iJ x
  |none=>[]
def ib.im:ib->List Nat
  | .clear _ x| .eb x| .box x| .load _ _ x| .Dg x| .Wp _ _ x| .Yp _ x| .not x| .neg x| .conv _ x| .Ie x| .iP _ x| .field _ _ _ x| .extract _ x| .len x| .Qq x| .Ny x| .Nl x| .UD x=>iJ x
  | .pick c a b=>iJ c++iJ a++iJ b
  | .new _| .Ip _| .bad=>[]
  | .build _ ps=>ps.flatMap fun(_,_,x)=>iJ x
  | .nD _ _ ps=>ps.flatMap iJ
  | .store _ a x| .snd a x=>iJ a++iJ x
  | .bin _ _ x y| .sh _ x y| .Ps _ x y| .SR _ _ x y| .Yo _ _ x y| .gG _ x y| .Qa _ _ x y| .Qd x y| .ez _ _ _ x y| .append _ x y| .copy _ x y| .k9 _ x y=>iJ x++iJ y
  | .slice _ x lo hi| .CZ x lo hi=>iJ x++zq lo++zq hi
  | .Qy _ l| .Qz _ l| .call _ l| .mq _ l| .mw _ l=>l.flatMap iJ
  | .wM x l=>iJ x++l.flatMap iJ
def bL.im (v:bL):List Nat:=v.op.im++(match v.guard with|some (t,_)=>[t]|none=>[])
def wD (x y:bL):Bool:=
  (match x.dst with
   |some d=> !y.im.contains d&&y.dst !=some d
   |none=>true)&&
  (match y.dst with
   |some d=> !x.im.contains d
   |none=>true)
def bL.makes (v:bL):Bool:=sR v.op||v.op.nK&&v.hid.contains v.site
def Io (x y:bL):Bool:=
  wD x y&& !clash x.op.cls y.op.cls&&(!x.makes||y.hid.contains x.site)&&(!y.makes||x.hid.contains y.site)&&x.site !=y.site
def Ig (ops:Array Oper):Bool:=ops.toList.zipIdx.all fun(o,j)=>o.after.all fun e=> !Region.binds .any e||decide (e.on<j)
def qk (ops:Array Oper) (vl:List bL) (bs:Array Nat):Bool:=
  Ig ops&&vl.zipIdx.all fun(y,j)=>vl.zipIdx.all fun(x,i)=> !(decide (i<j))||(bs.getD j 0).testBit i||Io x y
def tM (P:Program) (nt site0:Nat) (ops:Array Oper) (draw mk:Bool):Option (List bL):=
  let bs:=if draw then jO ops else #[]
  let hidden:=if draw then ops.toList.zipIdx.map fun(o,i)=>(i,((tg P o.op).map fun v=>sR v||mk&&v.nK).getD false)else[]
  match allM (l8 P ops nt site0 draw mk bs hidden) ops.toList 0 with
  |some vl=>if !draw||qk ops vl bs then some vl else none
  |none=>none
def mo (v:bL):Bool:= !v.op.nK&&v.op.cls !=.write
def A6 (x y:bL):Bool:=wD x y&&x.op.cls==.pure||Io x y&&mo x&&mo y
def sF (ops:Array Oper) (vl:List bL) (bs:Array Nat) (listed:Array Bool) (i:Nat):Bool:=
  match vl[i]? with
  |some x=>(List.range ops.size).all fun j=>listed.getD j false||j==i||(bs.getD j 0).testBit i||(match vl[j]? with|some y=>A6 x y|none=>false)
  |none=>false
def R4 (vl:List bL) (x:bL):Option (Nat×Nat×O):=
  match x.op,x.guard with
  | .append _ (.t t) y,none=>match vl.find? fun v=>v.dst==some t&&v.op.cls==.make with
    |some v=>some (t,v.site,y)
    |none=>none
  |_,_=>none
def Im (s:Nat) (x y:bL):Bool:=wD x y&&mo y&&y.hid.contains s&&y.hid.contains x.site&&y.site !=s&&y.site !=x.site
def qm (ops:Array Oper) (vl:List bL) (bs:Array Nat) (listed:Array Bool) (i s:Nat):Bool:=
  match vl[i]? with
  |some x=>(List.range ops.size).all fun j=>listed.getD j false||j==i||(bs.getD j 0).testBit i||(match vl[j]? with|some y=>Im s x y|none=>false)
  |none=>false
def Ur (ops:Array Oper) (vl:List bL) (bs:Array Nat) (listed:Array Bool) (i:Nat):Option (Nat×Nat×Nat×O×bL):=
  match vl[i]? with
  |some x=>match R4 vl x with
    |some (t,s,y)=>if qm ops vl bs listed i s then some (i,t,s,y,x)else none
    |none=>none
  |none=>none
def DJ:List VC->Option VC
  |[]=>none
  |[c]=>some c
  |c::r=>(DJ r).map (VC.both c)
def xq (ops:Array Oper) (vl:List bL) (bs:Array Nat):Nat->Array Bool->Option VC
  |0,listed=>
    match Region.ready .any ops listed with
    |[]=>some (.fF false [])
    |_::_=>none
  |n+1,listed=>
    match Region.ready .any ops listed with
    |[]=>some (.fF false [])
    |r::rs=>let rdy:=r::rs
      match rdy.find? (sF ops vl bs listed)with
      |some i=>match vl[i]? with
        |some vo=>(xq ops vl bs n (listed.setIfInBounds i true)).map (VC.one vo)
        |none=>none
      |none=>match rdy.findSome? (Ur ops vl bs listed)with
        |some (i,t,s,y,vo)=>(xq ops vl bs n (listed.setIfInBounds i true)).map fun c=>VC.loc t s y (.one vo c)
        |none=>match rdy.mapM fun i=>(vl[i]?).bind fun vo=>(xq ops vl bs n (listed.setIfInBounds i true)).map (VC.one vo)with
          |some l=>DJ l
          |none=>none
def R0:Op->Bool
  | .send .. | .recv .. =>true
  |_=>false
def Wg (P:Program) (nt site0:Nat) (ops:Array Oper) (draw:Bool) (mode:Nat):Option VC:=
  if draw&&mode==2 then
    match allM (l8 P ops nt site0 true false (jO ops) (ops.toList.zipIdx.map fun(o,i)=>(i,((tg P o.op).map sR).getD false))) ops.toList 0 with
    |some vl=>xq ops vl (jO ops) ops.size (Array.replicate ops.size false)
    |none=>none
  else if !draw&&ops.any (fun o=>R0 o.op)then(tM P nt site0 ops false false).map VC.SL
  else(tM P nt site0 ops draw (mode==1)).map (VC.fF draw)
def vV (md:List (Nat×Nat)) (id:Nat):Nat:=
  match md with
  |[]=>0
  |(i,m)::r=>if i=id then m else vV r id
def jh (P:Program) (md:List (Nat×Nat)) (nt fid:Nat):Code->Option VC
  | .skip=>some .skip
  | .region id ops draw=>Wg P nt ((fid*1000+id)*1000) ops draw (vV md id)
  | .seq a b=>do pure (.seq (<-jh P md nt fid a) (<-jh P md nt fid b))
  | .cond c x y=>do pure (.cond (<-cO P c) (<-jh P md nt fid x) (<-jh P md nt fid y))
  | .block id c=>(jh P md nt fid c).map (VC.block id)
  | .loop c=>(jh P md nt fid c).map VC.loop
  | .exit id=>some (.exit id)
  | .ret=>some .ret
  | .label _=>some .skip
  | .scope c=>jh P md nt fid c
  |_=>none
def Gl (P:Program) (r:ResultVar):Option pN:=
  match r with
  | .tmp t=>some (.tmp t)
  | .cell a t=>do pure (.cell (<-od P t) (<-eF P t) a)
def Ak (P:Program) (f:Nat) (md:List (Nat×Nat)):Option Df:=
  match P.funcs[f]? with
  |some fn=>match fn.body with
    |some c=>do
      let b <-jh P md fn.ntmps f c
      let r <-fn.results.toList.mapM (Gl P)
      if fn.params.size+fn.nfree<=fn.ntmps then pure {ntmps:=fn.ntmps,Bw:=fn.params.size+fn.nfree,body:=b,res:=r}else none
    |none=>none
  |none=>none
def nU (P:Program) (f:Nat):Option Df:=Ak P f []
theorem ah {P:Prop} (h:P:=by omega):P:=h
theorem bc {P:Prop} (h:P:=by(try dsimp only);omega):P:=h
structure Row where
 w:Bool
 sz:Nat
 rows:List (List AV)
abbrev Rows:=Id->Option Row
structure aw where
 get:Rows
 next:Nat
abbrev Env:=Nat->AV
def upd (env:Env):Option Nat->AV->Env
 |some d,v=>fun t=>if t=d then v else env t
 |none,_=>env
inductive Ex where
 |normal
 |exit (id:Nat)
 |ret
 deriving DecidableEq
def dh (env:Env):O->AV
 | .t n=>env n
 | .k c=>c.av
 | .ka cs=>.agg (cs.map K.av)
 | .f n=>.fn n []
def bJ (g:Rows) (id:Id) (r:Row):Rows:=fun i=>if i=id then some r else g i
def bV (g:Rows) (id:Id):Rows:=fun i=>if i=id then none else g i
def fo:List Nat->Nat->Rows->Rows
 |[],_,g=>g
 |h::t,n,g=>fun id=>if (h::t).contains id.site=true/\id.bG=n then none else g id
def ro (g:Rows):Rows:=fun id=>(g id).map fun r=>{r with w:=false}
def part (agg:Bool) (n:Nat) (cs:List AV):Option AV:=
 if agg then(if n<=cs.length then some (.agg (cs.take n))else none)else cs.head?
def rowAt (g:Rows) (id:Id) (i:Nat):Option (List AV):=(g id).bind (·.rows[i]?)
def ld (g:Rows) (agg:Bool) (n:Nat):AV->Option AV
 | .ptr id i off=>(rowAt g id i).bind fun cs=>part agg n (cs.drop off)
 | .dQ cs=>part agg n cs
 |_=>none
def dn:BinOp->IntKind->Int->Int->Option AV
 | .add,k,a,b=>some (.int k (k.wrap (a+b)))
 | .sub,k,a,b=>some (.int k (k.wrap (a-b)))
 | .mul,k,a,b=>some (.int k (k.wrap (a*b)))
 | .quo,k,a,b=>if b=0 then none else some (.int k (k.wrap (a.tdiv b)))
 | .rem,k,a,b=>if b=0 then none else some (.int k (a.tmod b))
 | .lss,_,a,b=>some (.bool (decide (a<b)))
 | .leq,_,a,b=>some (.bool (decide (a<=b)))
 | .gtr,_,a,b=>some (.bool (decide (b<a)))
 | .geq,_,a,b=>some (.bool (decide (b<=a)))
 | .and,k,a,b=>some (.int k (k.wrap (BitVec.ofInt k.bits a&&& BitVec.ofInt k.bits b).toNat))
 | .or,k,a,b=>some (.int k (k.wrap (BitVec.ofInt k.bits a|||BitVec.ofInt k.bits b).toNat))
 | .xor,k,a,b=>some (.int k (k.wrap (BitVec.ofInt k.bits a ^^^ BitVec.ofInt k.bits b).toNat))
 |_,_,_,_=>none
def dE (op:BinOp):AV->AV->Option AV
 | .int k a,.int k' b=>if k=k' then dn op k a b else none
 |_,_=>none
def fU (left:Bool):AV->AV->Option AV
 | .int k a,.int _ b=>if b<0 then none else some (.int k (if left then k.wrap (a*2 ^ min b.toNat k.bits)else a.fdiv (2 ^ min b.toNat k.bits)))
 |_,_=>none
def dO:BinOp->ByteArray->ByteArray->Option AV
 | .add,a,b=>if a.size+b.size<=9223372036854775807 then some (.str (a++b))else none
 | .lss,a,b=>some (.bool (Op.bytesLess a.toList b.toList))
 | .leq,a,b=>some (.bool (Op.bytesLess a.toList b.toList||(a.toList==b.toList)))
 | .gtr,a,b=>some (.bool !(Op.bytesLess a.toList b.toList||(a.toList==b.toList)))
 | .geq,a,b=>some (.bool !(Op.bytesLess a.toList b.toList))
 |_,_,_=>none
def cQ (op:BinOp):AV->AV->Option AV
 | .str a,.str b=>dO op a b
 |_,_=>none
def fj:TS->AV->AV->Option Bool
 | .tI,.int k a,.int k' b=>if k=k' then some (decide (a=b))else none
 | .tB,.bool a,.bool b=>some (a==b)
 | .tS,.str a,.str b=>some (decide (a=b))
 |_,_,_=>none
def eK:List TS->List AV->List AV->Option Bool
 |[],[],[]=>some true
 |t::ts,a::r,b::s=>match fj t a b,eK ts r s with
  |some x,some y=>some (x&&y)
  |_,_=>none
 |_,_,_=>none
def di (neg b:Bool):Bool:=if neg then !b else b
def cN:AV->Option Bool
 | .bU=>some true
 | .own _ _ _=>some false
 | .sl (_::_)=>some false
 |_=>none
def cL:AV->Option Bool
 | .jF=>some true
 | .fn _ _=>some false
 |_=>none
def OF:AV->Option Bool
 | .iH=>some true
 | .ptr .. | .dQ _=>some false
 |_=>none
def dI (Qh:Bool) (x:AV):Option Bool:=if Qh then cL x else cN x
def dy (len:Nat):Option AV->Option Nat
 |none=>some len
 |some (.int _ n)=>if 0<=n/\n<=len then some n.toNat else none
 |_=>none
def dz (h:Nat):Option AV->Option Nat
 |none=>some 0
 |some (.int _ n)=>if 0<=n/\n<=h then some n.toNat else none
 |_=>none
def bD (g:Rows) (sz:Nat) (x:AV) (lo hi:Option AV):Option AV:=
 match x with
 | .bU=>(dy 0 hi).bind fun h=>(dz h lo).map fun _=>.bU
 | .sl rows=>(dy rows.length hi).bind fun h=>(dz h lo).bind fun l=>if ∀cs∈rows,cs.length=sz then some (.sl ((rows.drop l).take (h-l)))else none
 | .own id off len=>(g id).bind fun r=>(dy len hi).bind fun h=>(dz h lo).bind fun l=>if r.sz=sz then some (.own id (off+l) (h-l))else none
 |_=>none
def aU (x:AV) (lo hi:Option AV):Option AV:=
 match x with
 | .str s=>(dy s.size hi).bind fun h=>(dz h lo).map fun l=>.str (s.extract l h)
 |_=>none
def HS (off:Nat):AV->Option AV
 | .ptr id i o=>some (.ptr id i (o+off))
 | .dQ cs=>some (.dQ (cs.drop off))
 |_=>none
def bB (g:Rows) (sz:Nat):AV->AV->Option AV
 | .sl rows,.int _ n=>if 0<=n then(rows[n.toNat]?).bind fun cs=>if cs.length=sz then some (.dQ cs)else none else none
 | .own id off len,.int _ n=>if 0<=n/\n<len then(g id).bind fun r=>if r.sz=sz then some (.ptr id (off+n.toNat) 0)else none else none
 |_,_=>none
def cF (len sz:Nat):AV->AV->Option AV
 | .ptr id r off,.int _ n=>if 0<=n/\n<len then some (.ptr id r (off+n.toNat*sz))else none
 | .dQ cs,.int _ n=>if 0<=n/\n<len then some (.dQ (cs.drop (n.toNat*sz)))else none
 |_,_=>none
def cH:AV->AV->Option AV
 | .str s,.int _ n=>if 0<=n then(s[n.toNat]?).map fun b=>.int .u8 b.toNat else none
 |_,_=>none
def cG (agg:Bool) (len n:Nat):AV->AV->Option AV
 | .agg cs,.int _ i=>if 0<=i/\i<len then part agg n (cs.drop (i.toNat*n))else none
 |_,_=>none
def dG:AV->Option Nat
 | .bU=>some 0
 | .sl rows=>some rows.length
 | .own _ _ n=>some n
 |_=>none
def dJ:AV->Option AV
 | .bool b=>some (.bool !b)
 |_=>none
def dH:AV->Option AV
 | .int k n=>some (.int k (k.wrap (0-n)))
 |_=>none
def cE (k:IntKind):AV->Option AV
 | .int _ n=>some (.int k (k.wrap n))
 |_=>none
def bF:AV->Option AV
 | .str s=>some (.str s)
 |_=>none
def cP:AV->AV->AV->Option AV
 | .bool c,a,b=>some (if c then a else b)
 |_,_,_=>none
def dF:AV->Option AV
 | .ptr id i o=>some (.ptr id i o)
 | .dQ cs=>some (.dQ cs)
 |_=>none
def bz (agg:Bool) (off n:Nat):AV->Option AV
 | .agg cs=>if off+n<=cs.length then part agg n (cs.drop off)else none
 |_=>none
def aH (i:Nat):AV->Option AV
 | .fD vs=>vs[i]?
 |_=>none
def cJ:AV->Option AV
 | .str s=>some (.int .i64 s.size)
 |_=>none
def rowOf (sz:Nat) (v:AV):Option (List AV):=if v.cells.length=sz/\v.cells.all AV.cell then some v.cells else none
def cC (v:AV):Option (List AV):=if v.cells.all AV.cell then some v.cells else none
def rowsOf (sz:Nat):List AV->Option (List (List AV))
 |[]=>some []
 |v::r=>(rowOf sz v).bind fun c=>(rowsOf sz r).map fun cs=>c::cs
def cm:List AV->List (Nat×Nat×AV)->Option (List AV)
 |cs,[]=>some cs
 |cs,(off,n,v)::r=>if v.cells.length=n/\off+n<=cs.length/\v.cells.all AV.cell then cm (cs.take off++v.cells++cs.drop (off+n)) r else none
def dp:Nat:=16777216
def fS (zero:List K):AV->AV->Option (Nat×Row)
 | .int _ l,.int _ c=>if 0<=l/\l<=c/\c<=dp then some (l.toNat,⟨true,zero.length,List.replicate l.toNat (zero.map K.av)⟩)else none
 |_,_=>none
def xK:Nat:=1000000000
def MK.ks (m:MK):Nat:=m.ts.length
def MK.lP (m:MK):Nat:=xK+m.ks
def AV.isAgg:AV->Bool
 | .agg _=>true
 |_=>false
def gO (m:MK) (key:List AV):List (List AV)->Nat->Option (Option Nat)
 |[],_=>some none
 |r::l,i=>match eK m.ts key (r.take m.ks)with
  |some true=>some (some i)
  |some false=>gO m key l (i+1)
  |none=>none
def dC (g:Rows) (m:MK):AV->Option (Id×Row)
 | .map id m'=>if m'=m then(g id).map fun r=>(id,r)else none
 |_=>none
def gH (m:MK) (k:AV) (rows:List (List AV)):Option (Option Nat):=if k.isAgg=m.ka/\k.cells.length=m.ks/\k.cells.all AV.cell then gO m k.cells rows 0 else none
def dD (m:MK) (z:K) (rows:List (List AV)):Option Nat->Option AV
 |some i=>(rows[i]?).bind fun cs=>cs[m.ks]?
 |none=>some z.av
def br (q:MQ) (vs:List AV) (g:Rows) (id:Id):Option (AV×Option Row):=
 match q,vs with
 | .new m,[]=>some (.map id m,some ⟨true,m.lP,[]⟩)
 | .look m ok z,[x,k]=>(dC g m x).bind fun p=>(gH m k p.2.rows).bind fun fi=>(dD m z p.2.rows fi).map fun v=>(if ok then .fD [v,.bool fi.isSome]else v,none)
 | .len m,[x]=>(dC g m x).map fun p=>(.int .i64 p.2.rows.length,none)
 |_,_=>none
def tP:Nat:=2000000000
def cK:AV->Option Nat
 | .int _ n=>if 0<=n/\n<=1048576 then some n.toNat else none
 |_=>none
def cI (g:Rows):AV->Option AV
 | .tN id=>(g id).map fun r=>.int .i64 r.rows.length
 |_=>none
def dL (g:Rows):AV->AV->Option Rows
 | .tN id,v=>(g id).bind fun r=>if r.w/\tP+r.rows.length<r.sz/\v.cell then some (bJ g id {r with rows:=r.rows++[[v]]})else none
 |_,_=>none
def dK (g:Rows):AV->Option (AV×Rows)
 | .tN id=>(g id).bind fun r=>match r.rows with
  |[v]::rest=>if r.w then some (v,bJ g id {r with rows:=rest})else none
  |_=>none
 |_=>none
def dt (rows:List (List AV)) (e:List AV):Option Nat->List (List AV)
 |some i=>rows.set i e
 |none=>rows++[e]
def dw (rows:List (List AV)):Option Nat->List (List AV)
 |some i=>rows.eraseIdx i
 |none=>rows
def bt (q:MW) (vs:List AV) (g:Rows):Option Rows:=
 match q,vs with
 | .set m,[x,k,v]=>(dC g m x).bind fun p=>(gH m k p.2.rows).bind fun fi=>if p.2.w/\v.cell/\v.isAgg=false then some (bJ g p.1 {p.2 with rows:=dt p.2.rows (k.cells++[v]) fi})else none
 | .del m,[x,k]=>(dC g m x).bind fun p=>(gH m k p.2.rows).bind fun fi=>if p.2.w then some (bJ g p.1 {p.2 with rows:=dw p.2.rows fi})else none
 |_,_=>none
def qt (k:Nat):Id:=⟨999000000+k,0⟩
def fR (g:Rows) (k:Nat):Option AV:=(rowAt g (qt k) 0).bind fun cs=>match cs with
 |[.err j t s]=>if j=k then some (.err k t s)else none
 |_=>none
def eA (o:ib) (ρ:O->AV) (g:Rows) (id:Id):Option (AV×Option Row):=
 match o with
 | .eb x=>some (ρ x,none)
 | .pick c a b=>(cP (ρ c) (ρ a) (ρ b)).map (·,none)
 | .new zero=>some (.ptr id 0 0,some ⟨true,zero.length,[zero.map K.av]⟩)
 | .box x=>(cC (ρ x)).map fun cs=>(.ptr id 0 0,some ⟨true,cs.length,[cs]⟩)
 | .build zero parts=>(cm (zero.map K.av) (parts.map fun(o,n,x)=>(o,n,ρ x))).map fun cs=>(.agg cs,none)
 | .nD sz len parts=>(rowsOf sz (parts.map ρ)).map fun rs=>(.own id 0 len,some ⟨true,sz,rs⟩)
 | .load agg n a=>(ld g agg n (ρ a)).map (·,none)
 | .Dg x=>(dF (ρ x)).map (·,none)
 | .bin op _ x y=>(dE op (ρ x) (ρ y)).map (·,none)
 | .sh left x y=>(fU left (ρ x) (ρ y)).map (·,none)
 | .Ps op x y=>(cQ op (ρ x) (ρ y)).map (·,none)
 | .SR neg t x y=>(fj t (ρ x) (ρ y)).map fun b=>(.bool (di neg b),none)
 | .Yo neg ts x y=>match ρ x,ρ y with
  | .agg xs,.agg ys=>(eK ts xs ys).map fun b=>(.bool (di neg b),none)
  |_,_=>none
 | .Wp neg Qh x=>(dI Qh (ρ x)).map fun b=>(.bool (di neg b),none)
 | .Yp neg x=>(OF (ρ x)).map fun b=>(.bool (di neg b),none)
 | .not x=>(dJ (ρ x)).map (·,none)
 | .neg x=>(dH (ρ x)).map (·,none)
 | .conv k x=>(cE k (ρ x)).map (·,none)
 | .Ie x=>(bF (ρ x)).map (·,none)
 | .slice sz x lo hi=>(bD g sz (ρ x) (lo.map ρ) (hi.map ρ)).map (·,none)
 | .CZ x lo hi=>(aU (ρ x) (lo.map ρ) (hi.map ρ)).map (·,none)
 | .iP off x=>(HS off (ρ x)).map (·,none)
 | .field agg off n x=>(bz agg off n (ρ x)).map (·,none)
 | .gG sz x i=>(bB g sz (ρ x) (ρ i)).map (·,none)
 | .Qa len sz x i=>(cF len sz (ρ x) (ρ i)).map (·,none)
 | .Qd x i=>(cH (ρ x) (ρ i)).map (·,none)
 | .ez agg len n x i=>(cG agg len n (ρ x) (ρ i)).map (·,none)
 | .extract i x=>(aH i (ρ x)).map (·,none)
 | .len x=>(dG (ρ x)).map fun(n:Nat)=>(AV.int .i64 (n:Int),none)
 | .Qq x=>(cJ (ρ x)).map (·,none)
 | .Qy f dv=>some (.fn f (dv.map ρ),none)
 | .Qz f first=>some (.xf f (first.map ρ),none)
 | .k9 zero l c=>(fS zero (ρ l) (ρ c)).map fun(n,r)=>(.own id 0 n,some r)
 | .mq q xs=>br q (xs.map ρ) g id
 | .Ny x=>(cK (ρ x)).map fun n=>(.tN id,some ⟨true,tP+n,[]⟩)
 | .Nl x=>(cI g (ρ x)).map (·,none)
 | .Ip k=>(fR g k).map (·,none)
 |_=>none
def bj (g:Rows):AV->Option (List (List AV))
 | .bU=>some []
 | .sl rows=>some rows
 | .own id off len=>(g id).bind fun r=>if off+len<=r.rows.length then some ((r.rows.drop off).take len)else none
 |_=>none
def cw (cs:List AV) (off:Nat) (xs:List AV):List AV:=cs.take off++xs++cs.drop (off+xs.length)
def bE (g:Rows) (n:Nat) (v:AV):AV->Option Rows
 | .ptr id i off=>(g id).bind fun r=>(r.rows[i]?).bind fun cs=>
  if r.w/\v.cells.length=n/\v.cells.all AV.cell/\off+n<=cs.length then some (bJ g id {r with rows:=r.rows.set i (cw cs off v.cells)})else none
 |_=>none
def aT (g:Rows) (id:Id) (sz:Nat) (x:AV) (ys:List (List AV)):Option (AV×Rows):=
 match x with
 | .bU=>match ys with
  |[]=>some (.bU,g)
  |y::r=>if (y::r).length<=dp/\(y::r).all (fun c=>c.length==sz&&c.all AV.cell)then some (.own id 0 (y::r).length,bJ g id ⟨true,sz,y::r⟩)else none
 | .own i 0 len=>(g i).bind fun r=>
  if r.w/\r.sz=sz/\len=r.rows.length/\len+ys.length<=dp/\ys.all (fun c=>c.length==sz&&c.all AV.cell)then some (.own id 0 (len+ys.length),bJ (bV g i) id ⟨true,sz,r.rows++ys⟩)else none
 |_=>none
def I5 (g:Rows) (sz:Nat) (x:AV) (ys:List (List AV)):Option (AV×Rows):=
 match x with
 | .own i off len=>(g i).bind fun r=>
  if r.w/\r.sz=sz/\off+len<=r.rows.length/\ys.all (fun c=>c.length==sz&&c.all AV.cell)then
   some (.int .i64 (min ys.length len:Nat),bJ g i {r with rows:=r.rows.take off++ys.take (min ys.length len)++r.rows.drop (off+min ys.length len)})else none
 |_=>none
def bx (g:Rows) (zero:List K) (x:AV):Option Rows:=
 match x with
 | .bU=>some g
 | .own i off len=>(g i).bind fun r=>
  if r.w/\r.sz=zero.length/\off+len<=r.rows.length then
   some (bJ g i {r with rows:=r.rows.take off++List.replicate len (zero.map K.av)++r.rows.drop (off+len)})else none
 |_=>none
def fq (o:ib) (ρ:O->AV) (g:Rows) (id:Id):Option (AV×Rows):=
 match o with
 | .store n a x=>(bE g n (ρ x) (ρ a)).map fun g'=>(.undef,g')
 | .append sz x y=>(bj g (ρ y)).bind fun ys=>aT g id sz (ρ x) ys
 | .copy sz x y=>(bj g (ρ y)).bind fun ys=>I5 g sz (ρ x) ys
 | .clear zero x=>(bx g zero (ρ x)).map fun g'=>(.undef,g')
 | .mw q xs=>(bt q (xs.map ρ) g).map fun g'=>(.undef,g')
 |_=>none
def yE:AV->List AV->Option (Nat×List AV)
 | .fn f dv,l=>some (f,l++dv)
 | .xf f first,l=>some (f,first++l)
 |_,_=>none
abbrev gx:=Nat->List AV->aw->(AV->aw->Prop)->Prop
mutual
def fz (g:Rows):Nat->AV->Option AV
 |0,_=>none
 |n+1,a=>match a with
  | .own id off len=>match g id with
   |some r=>if r.w then(if off+len<=r.rows.length then(eJ g n ((r.rows.drop off).take len)).map AV.sl else none)else none
   |none=>none
  | .ptr id i off=>match g id with
   |some r=>if r.w then(match r.rows[i]? with
    |some cs=>(dx g n (cs.drop off)).map AV.dQ
    |none=>none)else none
   |none=>none
  | .agg cs=>(dx g n cs).map AV.agg
  | .fD vs=>(dx g n vs).map AV.fD
  | .fn f dv=>if dv.all AV.cell then(dx g n dv).map (AV.fn f)else none
  | .map _ _| .xf _ _| .tN _=>none
  |v=>some v
 termination_by n _=>(n,0)
def dx (g:Rows):Nat->List AV->Option (List AV)
 |n,[]=>some []
 |n,a::r=>match fz g n a with
  |some b=>(dx g n r).map (b::·)
  |none=>none
 termination_by n l=>(n,l.length+1)
def eJ (g:Rows):Nat->List (List AV)->Option (List (List AV))
 |n,[]=>some []
 |n,c::r=>match dx g n c with
  |some b=>(eJ g n r).map (b::·)
  |none=>none
 termination_by n l=>(n,(l.map (fun c=>c.length+2)).sum+1)
 decreasing_by all_goals simp_wf;try omega
end
mutual
def gS (g:Rows):Nat->AV->Option AV
 |0,_=>none
 |n+1,a=>match a with
  | .own id off len=>match g id with
   |some r=>if r.w then(if off+len<=r.rows.length then(iQ g n ((r.rows.drop off).take len)).map AV.sl else none)else none
   |none=>none
  | .ptr id i off=>match g id with
   |some r=>if r.w then(match r.rows[i]? with
    |some cs=>(eQ g n (cs.drop off)).map AV.dQ
    |none=>none)else none
   |none=>none
  | .agg cs=>(eQ g n cs).map AV.agg
  | .fD vs=>(eQ g n vs).map AV.fD
  | .int k m=>some (.int k m)
  | .bool b=>some (.bool b)
  | .str s=>some (.str s)
  | .bU=>some .bU
  | .iH=>some .iH
  | .jF=>some .jF
  | .jS=>some .jS
  | .jn=>some .jn
  |_=>none
 termination_by n _=>(n,0)
def eQ (g:Rows):Nat->List AV->Option (List AV)
 |n,[]=>some []
 |n,a::r=>match gS g n a with
  |some b=>(eQ g n r).map (b::·)
  |none=>none
 termination_by n l=>(n,l.length+1)
def iQ (g:Rows):Nat->List (List AV)->Option (List (List AV))
 |n,[]=>some []
 |n,c::r=>match eQ g n c with
  |some b=>(iQ g n r).map (b::·)
  |none=>none
 termination_by n l=>(n,(l.map (fun c=>c.length+2)).sum+1)
 decreasing_by all_goals simp_wf;try omega
end
def ea (g:Rows):Rows:=fun id=>(g id).map fun r=>{r with w:=true}
def PC (X:gx) (f:Nat) (args:List AV) (σ:aw) (K:AV->Prop):Prop:=
 X f args ⟨ro σ.get,σ.next⟩ fun r σ'=>∃r',fz σ'.get 6 r=some r'/\K r'
def PCv (X:gx) (f:Nat) (args:List AV) (σ:aw) (K:AV->Prop):Prop:=
 ∃args',dx (ea σ.get) 6 args=some args'/\X f args' ⟨fun _=>none,σ.next⟩ fun r σ'=>∃r',gS σ'.get 6 r=some r'/\K r'
def fu (X:gx) (f:Nat) (args:List AV) (σ:aw) (K:AV->Prop):Prop:=PC X f args σ K∨PCv X f args σ K
def aJ (g:Option (Nat×Bool)) (env:Env):Bool:=
 match g with
 |none=>true
 |some (t,b)=>match env t with
  | .bool c=>c==b
  |_=>false
def AV.plain:AV->Bool
 | .int .. | .bool _| .str _| .bU| .iH| .jF| .jS| .jn=>true
 |_=>false
def CM (X:gx) (f:Nat) (args:List AV) (σ:aw) (sz:Nat) (rows:List (List AV)):Prop:=
 (∀c∈rows,∀a∈c,a.plain=true)/\∃args',dx (ea σ.get) 6 args=some args'/\X f args' ⟨fun _=>none,σ.next⟩ fun r σ'=>∃id,r=.own id 0 rows.length/\σ'.get id=some ⟨true,sz,rows⟩
def cr (X:gx) (draw:Bool) (hid:List Nat) (site:Nat) (f:Nat) (args:List AV) (σ:aw) (next:AV->aw->Prop):Prop:=
 (∃r,fu X f args ⟨fo hid σ.next σ.get,σ.next+1⟩ (fun r'=>r'=r)/\next r σ)∨
 (draw=false/\X f args ⟨σ.get,σ.next+1⟩ next)∨
 (hid.contains site=true/\∃sz rows,CM X f args ⟨fo hid σ.next σ.get,σ.next+1⟩ sz rows/\next (.own ⟨site,σ.next⟩ 0 rows.length) ⟨bJ σ.get ⟨site,σ.next⟩ ⟨true,sz,rows⟩,σ.next⟩)
def fc (X:gx) (draw:Bool) (o:bL) (env:Env) (σ:aw) (next:AV->aw->Prop):Prop:=
 match o.op with
 | .call f args=>cr X draw o.hid o.site f (args.map (dh env)) σ next
 | .wM x args=>match dh env x with
  | .fn f dv=>cr X draw o.hid o.site f (args.map (dh env)++dv) σ next
  | .xf f first=>cr X draw o.hid o.site f (first++args.map (dh env)) σ next
  |_=>False
 | .store .. | .append .. | .copy .. | .clear .. | .mw .. =>match fq o.op (dh env) σ.get ⟨o.site,σ.next⟩with
  |some (v,g)=>next v ⟨g,σ.next⟩
  |none=>False
 |_=>match eA o.op (dh env) (fo o.hid σ.next σ.get) ⟨o.site,σ.next⟩with
  |some (v,some r)=>next v ⟨bJ σ.get ⟨o.site,σ.next⟩ r,σ.next⟩
  |some (v,none)=>next v σ
  |none=>False
def wpOps (X:gx) (draw:Bool):List bL->(Env->aw->Prop)->Env->aw->Prop
 |[],K,env,σ=>K env ⟨σ.get,σ.next+1⟩
 |o::r,K,env,σ=>
  if aJ o.guard env then fc X draw o env σ fun v σ'=>wpOps X draw r K (upd env o.dst v) σ'
  else wpOps X draw r K (upd env o.dst .undef) σ
def cj:List bL->(Env->aw->Prop)->Env->aw->Prop
 |[],K,env,σ=>K env ⟨σ.get,σ.next+1⟩
 |o::r,K,env,σ=>o.guard=none/\match o.op with
  | .snd x y=>match dL σ.get (dh env x) (dh env y)with
   |some g=>cj r K (upd env o.dst .undef) ⟨g,σ.next⟩
   |none=>False
  | .UD x=>match dK σ.get (dh env x)with
   |some (v,g)=>cj r K (upd env o.dst v) ⟨g,σ.next⟩
   |none=>False
  |op=>match eA op (dh env) σ.get ⟨o.site,σ.next⟩with
   |some (v,none)=>cj r K (upd env o.dst v) σ
   |_=>False
def da (next:Env->aw->Prop) (Q:Ex->Env->aw->Prop):Ex->Env->aw->Prop
 | .normal=>next
 |e=>Q e
def aX (id:Nat) (Q:Ex->Env->aw->Prop):Ex->Env->aw->Prop
 | .exit kK=>if kK=id then Q .normal else Q (.exit kK)
 |e=>Q e
def IJ (W:(Ex->Env->aw->Prop)->Env->aw->Prop) (Q:Ex->Env->aw->Prop):Nat->Env->aw->Prop
 |0=>fun _ _=>False
 |n+1=>W (da (IJ W Q n) Q)
def Qr (t s:Nat) (y:O) (env:Env) (n:Nat):Prop:=(∃len,env t=.own ⟨s,n⟩ 0 len)/\∀id o l,dh env y=.own id o l->id.bG≠n
def dW (X:gx):VC->(Ex->Env->aw->Prop)->Env->aw->Prop
 | .skip,Q=>Q .normal
 | .fF draw ops,Q=>wpOps X draw ops (Q .normal)
 | .seq a b,Q=>dW X a (da (dW X b Q) Q)
 | .cond c x y,Q=>fun env σ=>match dh env c with
  | .bool b=>if b then dW X x Q env σ else dW X y Q env σ
  |_=>False
 | .block id c,Q=>dW X c (aX id Q)
 | .loop c,Q=>fun env σ=>∃n,IJ (dW X c) Q n env σ
 | .exit id,Q=>Q (.exit id)
 | .ret,Q=>Q .ret
 | .one o c,Q=>fun env σ=>if aJ o.guard env then fc X false o env σ fun v σ'=>dW X c Q (upd env o.dst v) σ' else dW X c Q (upd env o.dst .undef) σ
 | .both a b,Q=>fun env σ=>dW X a Q env σ/\dW X b Q env σ
 | .loc t s y c,Q=>fun env σ=>Qr t s y env σ.next/\dW X c Q env σ
 | .SL ops,Q=>cj ops (Q .normal)
def iW (env:Env) (g:Rows):pN->Option AV
 | .tmp t=>some (env t)
 | .cell agg n t=>ld g agg n (env t)
def ga (env:Env) (g:Rows):List pN->Option (List AV)
 |[]=>some []
 |r::l=>(iW env g r).bind fun v=>(ga env g l).map (v::·)
def fb:List AV->AV
 |[v]=>v
 |l=>.fD l
def bW (args:List AV):Env:=fun t=>args.getD t .undef
def lU (res:List pN) (K:AV->aw->Prop):Ex->Env->aw->Prop
 | .exit _,_,_=>False
 |_,env,σ=>∃vs,ga env σ.get res=some vs/\K (fb vs) σ
inductive ko (P:Program) (w:World) (D:Nat->Prop):AV->Value->Prop
 |int (k n):ko P w D (.int k n) (.int k n)
 |bool (b):ko P w D (.bool b) (.bool b)
 |str (s):ko P w D (.str s) (.string s)
 |bU:ko P w D .bU (.slice none 0 0)
 |iH:ko P w D .iH (.pointer none)
 |jF:ko P w D .jF .nilFunc
 |Dn (a c):c<=maxLen->ko P w D (.sl []) (.slice a 0 c)
 |sl (rows b o n c sz) (vs:Nat->Nat->Value):rows.length=n->n<=c->c<=maxLen->D b->(∀cs∈rows,cs.length=sz)->(∀cs∈rows,∀a∈cs,a.cell=true)->
   (∀i j,i<n->j<sz->w.cell? ⟨b,o+(i*sz+j),none⟩=some (vs i j))->
   (∀i j cs a,rows[i]? =some cs->cs[j]? =some a->ko P w D a (vs i j))->ko P w D (.sl rows) (.slice (some ⟨b,o,none⟩) n c)
 |dQ (cs b o) (vs:Nat->Value):D b->(∀a∈cs,a.cell=true)->(∀j,j<cs.length->w.cell? ⟨b,o+j,none⟩=some (vs j))->
   (∀j a,cs[j]? =some a->ko P w D a (vs j))->ko P w D (.dQ cs) (.pointer (some ⟨b,o,none⟩))
 |agg (cs) (vs:Array Value) (f:Nat->Value):vs.size=cs.length->(∀a∈cs,a.cell=true)->(∀j,j<cs.length->vs[j]? =some (f j))->(∀j a,cs[j]? =some a->ko P w D a (f j))->ko P w D (.agg cs) (.agg vs)
 |fn (f dv) (vs:Array Value) (g:Nat->Value):gE P f=true->vs.size=dv.length->(∀j,j<dv.length->vs[j]? =some (g j))->(∀j a,dv[j]? =some a->ko P w D a (g j))->ko P w D (.fn f dv) (.func (.func f) #[] vs)
 |jS:ko P w D .jS (.map none)
 |jn:ko P w D .jn .nilIface
 |err (g t s a c ty):D g->w.cell? ⟨g,0,none⟩=some (.iface t (.pointer (some a)))->D a.block->w.heap[a.block]? =some (.cells c ty (0,0))->w.cell? a=some (.string s)->ko P w D (.err g t s) (.iface t (.pointer (some a)))
inductive BK where
 |map (m:MK)
 |chan (cap:Nat)
structure uX where
 b:Nat
 sz:Nat
 C:Nat
 k:Option BK
abbrev Names:=Id->Option uX
inductive dm (P:Program) (w:World) (D:Nat->Prop) (ι:Names):AV->Value->Prop
 |eP (a v):ko P w D a v->dm P w D ι a v
 |own (id off len o cap B):ι id=some B->B.k=none->len<=cap->(cap=0∨o=off*B.sz)->(off+cap)*B.sz<=B.C->cap<=maxLen->dm P w D ι (.own id off len) (.slice (some ⟨B.b,o,none⟩) len cap)
 |ptr (id i off B):ι id=some B->B.k=none->dm P w D ι (.ptr id i off) (.pointer (some ⟨B.b,i*B.sz+off,none⟩))
 |agg (cs) (vs:Array Value) (f:Nat->Value):vs.size=cs.length->(∀a∈cs,a.cell=true)->(∀j,j<cs.length->vs[j]? =some (f j))->(∀j a,cs[j]? =some a->dm P w D ι a (f j))->dm P w D ι (.agg cs) (.agg vs)
 |fD (cs) (vs:Array Value) (f:Nat->Value):vs.size=cs.length->(∀j,j<cs.length->vs[j]? =some (f j))->(∀j a,cs[j]? =some a->dm P w D ι a (f j))->dm P w D ι (.fD cs) (.tuple vs)
 |fn (f dv) (vs:Array Value) (g:Nat->Value):gE P f=true->vs.size=dv.length->(∀j,j<dv.length->vs[j]? =some (g j))->(∀j a,dv[j]? =some a->dm P w D ι a (g j))->dm P w D ι (.fn f dv) (.func (.func f) #[] vs)
 |tN (id c B):ι id=some B->B.k=some (.chan c)->dm P w D ι (.tN id) (.chan (some B.b))
 |map (id m B):ι id=some B->B.k=some (.map m)->dm P w D ι (.map id m) (.map (some B.b))
 |xf (f dv) (vs:Array Value) (g:Nat->Value):gE P f=true->vs.size=dv.length->(∀j,j<dv.length->vs[j]? =some (g j))->(∀j a,dv[j]? =some a->dm P w D ι a (g j))->dm P w D ι (.xf f dv) (.func (.func f) vs #[])
variable {P:Program} {w w':World} {D D':Nat->Prop} {ι ι':Names}
theorem ko.frame (hD:∀b,D b->w'.heap[b]? =w.heap[b]?) (hs:∀b,D b->D' b) {a:AV} {v:Value} (h:ko P w D a v):ko P w' D' a v:=by
 induction h with
 |int k n=>exact .int k n
 |bool b=>exact .bool b
 |str s=>exact .str s
 |bU=>exact .bU
 |iH=>exact .iH
 |jF=>exact .jF
 |jS=>exact .jS
 |jn=>exact .jn
 |err g t s a c ty h1 h2 h3 h4 h5=>exact .err g t s a c ty (hs g h1) ((World.cell?_of_block (hD g h1)).trans h2) (hs _ h3) ((hD _ h3).trans h4) ((World.cell?_of_block (hD _ h3)).trans h5)
 |Dn a c h=>exact .Dn a c h
 |sl rows b o n c sz vs h1 h2 h3 h4 h5 h5' h6 _ ih=>exact .sl rows b o n c sz vs h1 h2 h3 (hs b h4) h5 h5' (fun i j hi hj=>(World.cell?_of_block (hD b h4)).trans (h6 i j hi hj)) ih
 |dQ cs b o vs h1 S9 h2 _ ih=>exact .dQ cs b o vs (hs b h1) S9 (fun j hj=>(World.cell?_of_block (hD b h1)).trans (h2 j hj)) ih
 |agg cs vs f h1 h2 h3 _ ih=>exact .agg cs vs f h1 h2 h3 ih
 |fn f dv vs g h1 h2 h3 _ ih=>exact .fn f dv vs g h1 h2 h3 ih
theorem dm.frame (hD:∀b,D b->w'.heap[b]? =w.heap[b]?) (hs:∀b,D b->D' b) (hι:∀id B,ι id=some B->ι' id=some B) {a:AV} {v:Value} (h:dm P w D ι a v):dm P w' D' ι' a v:=by
 induction h with
 |eP a v h=>exact .eP a v (h.frame hD hs)
 |map id m B h1 h2=>exact .map id m B (hι _ _ h1) h2
 |tN id c B h1 h2=>exact .tN id c B (hι _ _ h1) h2
 |own id off len o cap B h1 h2 h3 h4 h5 h6=>exact .own id off len o cap B (hι _ _ h1) h2 h3 h4 h5 h6
 |ptr id i off B h1 h2=>exact .ptr id i off B (hι _ _ h1) h2
 |agg cs vs f h1 h2 h3 _ ih=>exact .agg cs vs f h1 h2 h3 ih
 |fD cs vs f h1 h2 _ ih=>exact .fD cs vs f h1 h2 ih
 |fn f dv vs g h1 h2 h3 _ ih=>exact .fn f dv vs g h1 h2 h3 ih
 |xf f dv vs g h1 h2 h3 _ ih=>exact .xf f dv vs g h1 h2 h3 ih
theorem dm.undef:dm P w D ι .undef Go.undef:=.fD [] #[] (fun _=>Go.undef) rfl (fun j hj=>by simp at hj) (fun j a h=>by simp at h)
theorem zC (c:K):dm P w D ι c.av c.val:=by
 cases c with
 |int k n=>exact .eP _ _ (.int k n)
 |bool b=>exact .eP _ _ (.bool b)
 |str l=>exact .eP _ _ (.str _)
 |bU=>exact .eP _ _ .bU
 |iH=>exact .eP _ _ .iH
 |jF=>exact .eP _ _ .jF
 |jS=>exact .eP _ _ .jS
 |jn=>exact .eP _ _ .jn
theorem K.oP (c:K):c.av.cell=true:=by cases c<;>rfl
theorem Cv {v:Value} {c:K} (h:J8 v=some c):v=c.val:=by
 unfold J8 at h
 split at h<;>simp at h<;>subst h<;>rfl
theorem dm.DN {a:AV} {v:Value} (h:dm P w D ι a v) (hc:a.cell=true):v.cells= #[v]/\(∀vs,v≠.agg vs)/\(∀vs,v≠.tuple vs):=by
 cases h with
 |eP a v h=>cases h<;>simp_all [AV.cell,Value.cells]
 |own=>simp[Value.cells]
 |map=>simp[Value.cells]
 |tN=>simp[Value.cells]
 |ptr=>simp[Value.cells]
 |agg=>simp[AV.cell]at hc
 |fD=>simp[AV.cell]at hc
 |fn=>simp[Value.cells]
 |xf=>simp[Value.cells]
theorem dm.cells {a:AV} {v:Value} (h:dm P w D ι a v) (ha:a.cells.all AV.cell=true):v.cells.size=a.cells.length/\∃f:Nat->Value,(∀j,j<a.cells.length->v.cells[j]? =some (f j))/\∀j x,a.cells[j]? =some x->dm P w D ι x (f j):=by
 have one:∀(a:AV) (v:Value),a.cell=true->a.cells=[a]->dm P w D ι a v->v.cells.size=a.cells.length/\∃f:Nat->Value,(∀j,j<a.cells.length->v.cells[j]? =some (f j))/\∀j x,a.cells[j]? =some x->dm P w D ι x (f j):=by
  intro a v hc dY h
  obtain⟨h1,_,_⟩:=h.DN hc
  rw[h1,dY]
  refine⟨rfl,fun _=>v,fun j hj=>?_,fun j x hx=>?_⟩
  ·have:j=0:=by simp at hj;omega
   subst this;rfl
  ·cases j with
   |zero=>simp at hx;subst hx;exact h
   |succ j=>simp at hx
 cases h with
 |eP a v h=>
  cases h with
  |agg cs vs f h1 h2 h3 h4=>exact⟨h1,f,h3,fun j x hx=>.eP _ _ (h4 j x hx)⟩
  |_=>exact one _ _ rfl rfl (.eP _ _ (by constructor<;>assumption))
 |own id off len o cap B h1 h2 h3 h4 h5 h6=>exact one _ _ rfl rfl (.own id off len o cap B h1 h2 h3 h4 h5 h6)
 |ptr id i off B h1 h2=>exact one _ _ rfl rfl (.ptr id i off B h1 h2)
 |map id m B h1 h2=>exact one _ _ rfl rfl (.map id m B h1 h2)
 |tN id c B h1 h2=>exact one _ _ rfl rfl (.tN id c B h1 h2)
 |agg cs vs f h1 h2 h3 h4=>exact⟨h1,f,h3,h4⟩
 |fD cs vs f h1 h2 h3=>simp[AV.cells,AV.cell]at ha
 |fn f dv vs g h1 h2 h3 h4=>exact one _ _ rfl rfl (.fn f dv vs g h1 h2 h3 h4)
 |xf f dv vs g h1 h2 h3 h4=>exact one _ _ rfl rfl (.xf f dv vs g h1 h2 h3 h4)
structure lK (P:Program) (w:World) (D:Nat->Prop) (ι:Names) (B:uX) (r:Row):Prop where
 sz:B.sz=r.sz
 uR:∃cells T,w.heap[B.b]? =some (.cells cells T (0,0))/\cells.size=B.C
 fits:r.rows.length*r.sz<=B.C
 len:∀cs∈r.rows,cs.length=r.sz
 flat:∀cs∈r.rows,∀a∈cs,a.cell=true
 at_:∀i j cs a,r.rows[i]? =some cs->cs[j]? =some a->∃v,w.cell? ⟨B.b,i*r.sz+j,none⟩=some v/\dm P w D ι a v
def H6 (es:Array MapEntry) (clock:Nat):Prop:=(∀x∈es.toList,x.born<clock)/\(es.toList.map (·.born)).Nodup
def Rq (P:Program) (w:World) (D:Nat->Prop) (ι:Names) (B:uX) (m:MK) (r:Row):Prop:=
 ∃(es:Array MapEntry) (clock:Nat),w.heap[B.b]? =some (.map es clock)/\es.size=r.rows.length/\((∀cs∈r.rows,cs.length=m.ks+1)/\H6 es clock)/\
  ∀(i:Nat) (cs:List AV),r.rows[i]? =some cs->∃(e:MapEntry) (kv vv:AV),es[i]? =some e/\part m.ka m.ks cs=some kv/\cs[m.ks]? =some vv/\dm P w D ι kv e.key/\dm P w D ι vv e.val
def Ly (P:Program) (w:World) (D:Nat->Prop) (ι:Names) (B:uX) (c:Nat) (r:Row):Prop:=
 ∃(buf:Array Value) (s q:Nat),w.heap[B.b]? =some (.chan c buf false s q false)/\buf.size=r.rows.length/\
  ∀(i:Nat) (cs:List AV),r.rows[i]? =some cs->∃(a:AV) (u:Value),cs=[a]/\buf[i]? =some u/\dm P w D ι a u
structure iv (P:Program) (w:World) (D:Nat->Prop) (ι:Names) (B:uX) (r:Row):Prop where
 sz:B.sz=r.sz
 flat:∀cs∈r.rows,∀a∈cs,a.cell=true
 row:B.k=none->lK P w D ι B r
 map:∀m,B.k=some (.map m)->r.sz=m.lP/\Rq P w D ι B m r
 chan:∀c,B.k=some (.chan c)->r.sz=tP+c/\Ly P w D ι B c r
theorem lK.obj {B:uX} {r:Row} (R:lK P w D ι B r) (h:B.k=none):iv P w D ι B r:=⟨R.sz,R.flat,fun _=>R,fun m hm=>(by rw[h]at hm;cases hm),fun m hm=>by rw[h]at hm;cases hm⟩
theorem iv.flag {B:uX} {r:Row} (R:iv P w D ι B r) (b:Bool):iv P w D ι B {r with w:=b}:=⟨R.sz,R.flat,fun h=>⟨R.sz,(R.row h).uR,(R.row h).fits,(R.row h).len,R.flat,(R.row h).at_⟩,R.map,R.chan⟩
theorem iv.QB {B:uX} {r:Row} (R:iv P w D ι B r) {c:Array Value} {T:TypeId} {z:Nat×Nat} (h:w.heap[B.b]? =some (.cells c T z)):B.k=none:=by
 cases hk:B.k with
 |none=>rfl
 |some m=>
  cases m with
  |map m=>obtain⟨_,es,c,h3,_⟩:=R.map m hk;rw[h]at h3;cases h3
  |chan c=>obtain⟨_,buf,s,q,h3,_⟩:=R.chan c hk;rw[h]at h3;cases h3
theorem iv.lt {B:uX} {r:Row} (R:iv P w D ι B r):B.b<w.heap.size:=by
 cases h:B.k with
 |none=>
  obtain⟨c,T,h3,_⟩:=(R.row h).uR
  exact(Array.getElem?_eq_some_iff.1 h3).1
 |some m=>
  cases m with
  |map m=>obtain⟨_,es,c,h3,_⟩:=R.map m h;exact(Array.getElem?_eq_some_iff.1 h3).1
  |chan c=>obtain⟨_,buf,s,q,h3,_⟩:=R.chan c h;exact(Array.getElem?_eq_some_iff.1 h3).1
structure gK (P:Program) (hs:Nat) (D:Nat->Prop) (ι:Names) (g:Rows) (w:World):Prop where
 lo:hs<=w.heap.size
 dead:∀b,D b->b<w.heap.size
 row:∀id r,g id=some r->∃B,ι id=some B/\iv P w D ι B r/\(r.w=true->hs<=B.b)/\(r.w=true->¬D B.b)
 inj:∀id kK r r' B B',g id=some r->g kK=some r'->r.w=true->ι id=some B->ι kK=some B'->B.b=B'.b->id=kK
def Used (ι:Names) (n:Nat) (U:Nat->Prop):Prop:=∀id,ι id≠none->id.bG<n∨(id.bG=n/\U id.site)
structure Step (hs:Nat) (D:Nat->Prop) (ι:Names) (w:World) (D':Nat->Prop) (ι':Names) (w':World):Prop where
 below:Below hs w w'
 rV:∀b,D b->w'.heap[b]? =w.heap[b]?
 dead:∀b,D b->D' b
 names:∀id B,ι id=some B->ι' id=some B
 new:∀b,D' b->D b∨hs<=b
theorem Step.refl (hs:Nat) (D:Nat->Prop) (ι:Names) (w:World):Step hs D ι w D ι w:=⟨Below.refl _ _,fun _ _=>rfl,fun _ h=>h,fun _ _ h=>h,fun _ h=>.inl h⟩
theorem Step.trans {hs:Nat} {D D' D'':Nat->Prop} {ι ι' Yn:Names} {w w' O7:World} (h:Step hs D ι w D' ι' w') (k:Step hs D' ι' w' D'' Yn O7):Step hs D ι w D'' Yn O7:=
 ⟨h.below.trans k.below,fun b hb=>(k.rV b (h.dead b hb)).trans (h.rV b hb),fun b hb=>k.dead b (h.dead b hb),fun id B hB=>k.names id B (h.names id B hB),fun b hb=>by
  rcases k.new b hb with hb|hb
  ·exact h.new b hb
  ·exact .inr hb⟩
theorem Step.rep {hs:Nat} {D D':Nat->Prop} {ι ι':Names} {w w':World} (h:Step hs D ι w D' ι' w') {a:AV} {v:Value} (hr:dm P w D ι a v):dm P w' D' ι' a v:=hr.frame h.rV h.dead h.names
theorem dR {k n} {v:Value} (h:dm P w D ι (.int k n) v):v=.int k n:=by
 cases h with
 |eP _ _ h=>cases h;rfl
theorem fP {b} {v:Value} (h:dm P w D ι (.bool b) v):v=.bool b:=by
 cases h with
 |eP _ _ h=>cases h;rfl
theorem gq {s} {v:Value} (h:dm P w D ι (.str s) v):v=.string s:=by
 cases h with
 |eP _ _ h=>cases h;rfl
theorem jv {v:Value} (h:dm P w D ι .bU v):v=.slice none 0 0:=by
 cases h with
 |eP _ _ h=>cases h;rfl
theorem zE {v:Value} (h:dm P w D ι .jF v):v=.nilFunc:=by
 cases h with
 |eP _ _ h=>cases h;rfl
theorem jd {cs} {v:Value} (h:dm P w D ι (.agg cs) v):∃(vs:Array Value) (f:Nat->Value),v=.agg vs/\vs.size=cs.length/\(∀a∈cs,a.cell=true)/\(∀j,j<cs.length->vs[j]? =some (f j))/\∀j a,cs[j]? =some a->dm P w D ι a (f j):=by
 cases h with
 |eP _ _ h=>
  cases h with
  |agg cs vs f h1 h2 h3 h4=>exact⟨vs,f,rfl,h1,h2,h3,fun j a h=>.eP _ _ (h4 j a h)⟩
 |agg cs vs f h1 h2 h3 h4=>exact⟨vs,f,rfl,h1,h2,h3,h4⟩
theorem ye {cs} {v:Value} (h:dm P w D ι (.fD cs) v):∃(vs:Array Value) (f:Nat->Value),v=.tuple vs/\vs.size=cs.length/\(∀j,j<cs.length->vs[j]? =some (f j))/\∀j a,cs[j]? =some a->dm P w D ι a (f j):=by
 cases h with
 |eP _ _ h=>cases h
 |fD cs vs f h1 h2 h3=>exact⟨vs,f,rfl,h1,h2,h3⟩
theorem wg {f dv} {v:Value} (h:dm P w D ι (.fn f dv) v):∃(vs:Array Value) (g:Nat->Value),v=.func (.func f) #[] vs/\gE P f=true/\vs.size=dv.length/\(∀j,j<dv.length->vs[j]? =some (g j))/\∀j a,dv[j]? =some a->dm P w D ι a (g j):=by
 cases h with
 |eP _ _ h=>
  cases h with
  |fn f dv vs g h1 h2 h3 h4=>exact⟨vs,g,rfl,h1,h2,h3,fun j a h=>.eP _ _ (h4 j a h)⟩
 |fn f dv vs g h1 h2 h3 h4=>exact⟨vs,g,rfl,h1,h2,h3,h4⟩
theorem NX {v:Value} (h:dm P w D ι .iH v):v=.pointer none:=by
 cases h with
 |eP _ _ h=>cases h;rfl
theorem Fp {v:Value} (h:dm P w D ι .jS v):v=.map none:=by
 cases h with
 |eP _ _ h=>cases h;rfl
theorem zD {v:Value} (h:dm P w D ι .jn v):v=.nilIface:=by
 cases h with
 |eP _ _ h=>cases h;rfl
theorem rm {g t s} {v:Value} (h:dm P w D ι (.err g t s) v):∃a c ty,v=.iface t (.pointer (some a))/\D g/\w.cell? ⟨g,0,none⟩=some v/\D a.block/\w.heap[a.block]? =some (.cells c ty (0,0))/\w.cell? a=some (.string s):=by
 cases h with
 |eP _ _ h=>cases h with
  |err _ _ _ a c ty h1 h2 h3 h4 h5=>exact⟨a,c,ty,rfl,h1,h2,h3,h4,h5⟩
theorem QQ {f dv} {v:Value} (h:dm P w D ι (.xf f dv) v):∃(vs:Array Value) (g:Nat->Value),v=.func (.func f) vs #[]/\gE P f=true/\vs.size=dv.length/\(∀j,j<dv.length->vs[j]? =some (g j))/\∀j a,dv[j]? =some a->dm P w D ι a (g j):=by
 cases h with
 |eP _ _ h=>cases h
 |xf f dv vs g h1 h2 h3 h4=>exact⟨vs,g,rfl,h1,h2,h3,h4⟩
theorem je {id off len} {v:Value} (h:dm P w D ι (.own id off len) v):∃o cap B,v=.slice (some ⟨B.b,o,none⟩) len cap/\ι id=some B/\len<=cap/\(cap=0∨o=off*B.sz)/\(off+cap)*B.sz<=B.C/\cap<=maxLen/\B.k=none:=by
 cases h with
 |eP _ _ h=>cases h
 |own id off len o cap B h1 h2 h3 h4 h5 h6=>exact⟨o,cap,B,rfl,h1,h3,h4,h5,h6,h2⟩
theorem iR {id i off} {v:Value} (h:dm P w D ι (.ptr id i off) v):∃B,v=.pointer (some ⟨B.b,i*B.sz+off,none⟩)/\ι id=some B/\B.k=none:=by
 cases h with
 |eP _ _ h=>cases h
 |ptr id i off B h1 h2=>exact⟨B,rfl,h1,h2⟩
theorem QO {id} {v:Value} (h:dm P w D ι (.tN id) v):∃B c,v=.chan (some B.b)/\ι id=some B/\B.k=some (.chan c):=by
 cases h with
 |eP _ _ h=>cases h
 |tN id c B h1 h2=>exact⟨B,c,rfl,h1,h2⟩
theorem CP {id m} {v:Value} (h:dm P w D ι (.map id m) v):∃B,v=.map (some B.b)/\ι id=some B/\B.k=some (.map m):=by
 cases h with
 |eP _ _ h=>cases h
 |map id m B h1 h2=>exact⟨B,rfl,h1,h2⟩
theorem mv {cs} {v:Value} (h:dm P w D ι (.dQ cs) v):∃b o,∃vs:Nat->Value,v=.pointer (some ⟨b,o,none⟩)/\D b/\(∀a∈cs,a.cell=true)/\(∀j,j<cs.length->w.cell? ⟨b,o+j,none⟩=some (vs j))/\∀j a,cs[j]? =some a->ko P w D a (vs j):=by
 cases h with
 |eP _ _ h=>
  cases h with
  |dQ cs b o vs h1 h2 h3 h4=>exact⟨b,o,vs,rfl,h1,h2,h3,h4⟩
theorem zF {rows} {v:Value} (h:dm P w D ι (.sl rows) v):∃A c,v=.slice A rows.length c/\rows.length<=c/\c<=maxLen/\
  (rows=[]∨∃b o sz,∃vs:Nat->Nat->Value,A=some ⟨b,o,none⟩/\D b/\(∀cs∈rows,cs.length=sz)/\(∀cs∈rows,∀a∈cs,a.cell=true)/\
   (∀i j,i<rows.length->j<sz->w.cell? ⟨b,o+(i*sz+j),none⟩=some (vs i j))/\∀i j cs a,rows[i]? =some cs->cs[j]? =some a->ko P w D a (vs i j)):=by
 cases h with
 |eP _ _ h=>
  cases h with
  |Dn a c h=>exact⟨a,c,rfl,Nat.zero_le _,h,.inl rfl⟩
  |sl rows b o n c sz vs h1 h2 h3 h4 h5 h5' h6 h7=>subst h1;exact⟨_,c,rfl,h2,h3,.inr ⟨b,o,sz,vs,rfl,h4,h5,h5',h6,h7⟩⟩
inductive eZ:AV->Prop
 |int (k n):eZ (.int k n)
 |bool (b):eZ (.bool b)
 |str (s):eZ (.str s)
 |bU:eZ .bU
 |iH:eZ .iH
 |jF:eZ .jF
 |sl (rows):rows.length<=maxLen->(∀cs∈rows,∀a∈cs,eZ a)->eZ (.sl rows)
 |own (id off len):eZ (.own id off len)
 |ptr (id i off):eZ (.ptr id i off)
 |dQ (cs):(∀a∈cs,eZ a)->eZ (.dQ cs)
 |agg (cs):(∀a∈cs,eZ a)->eZ (.agg cs)
 |fD (cs):(∀a∈cs,eZ a)->eZ (.fD cs)
 |fn (f dv):(∀a∈dv,eZ a)->eZ (.fn f dv)
 |map (id m):eZ (.map id m)
 |tN (id):eZ (.tN id)
 |jS:eZ .jS
 |jn:eZ .jn
 |err (g t s):eZ (.err g t s)
 |xf (f dv):(∀a∈dv,eZ a)->eZ (.xf f dv)
theorem eZ.len {rows:List (List AV)} (h:eZ (.sl rows)):rows.length<=9223372036854775807:=by
 cases h with
 |sl _ h _=>unfold maxLen at h;omega
theorem eZ.Sy {cs:List AV} (h:eZ (.agg cs)) {a:AV} (ha:a∈cs):eZ a:=by
 cases h with
 |agg _ h=>exact h a ha
theorem eZ.EJ {cs:List AV} (h:eZ (.dQ cs)) {a:AV} (ha:a∈cs):eZ a:=by
 cases h with
 |dQ _ h=>exact h a ha
theorem qD {l:List AV} {p:AV->Prop} (h:∀(j:Nat) (a:AV),l[j]? =some a->p a):∀a∈l,p a:=fun a ha=>by
 obtain⟨j,hj,rfl⟩:=List.getElem_of_mem ha
 exact h j _ (List.getElem?_eq_getElem hj)
theorem ko.Nk {a:AV} {v:Value} (h:ko P w D a v):eZ a:=by
 induction h with
 |int k n=>exact .int k n
 |bool b=>exact .bool b
 |str s=>exact .str s
 |bU=>exact .bU
 |iH=>exact .iH
 |jF=>exact .jF
 |jS=>exact .jS
 |jn=>exact .jn
 |err g t s=>exact .err g t s
 |Dn a c h=>exact .sl [] (Nat.zero_le _) (fun cs h=>by cases h)
 |sl rows b o n c sz vs h1 h2 h3 h4 h5 h5' h6 _ ih=>
  exact .sl rows ah fun cs dY a ha=>by
   obtain⟨i,hi,rfl⟩:=List.getElem_of_mem dY
   obtain⟨j,hj,rfl⟩:=List.getElem_of_mem ha
   exact ih i j _ _ (List.getElem?_eq_getElem hi) (List.getElem?_eq_getElem hj)
 |dQ cs b o vs h1 S9 h2 _ ih=>exact .dQ cs (qD ih)
 |agg cs vs f h1 h2 h3 _ ih=>exact .agg cs (qD ih)
 |fn f dv vs g h1 h2 h3 _ ih=>exact .fn f dv (qD ih)
theorem dm.Nk {a:AV} {v:Value} (h:dm P w D ι a v):eZ a:=by
 induction h with
 |eP a v h=>exact h.Nk
 |own id off len o cap B=>exact .own _ _ _
 |ptr id i off B=>exact .ptr _ _ _
 |map id m B=>exact .map _ _
 |tN id c B=>exact .tN _
 |agg cs vs f h1 h2 h3 _ ih=>exact .agg cs (qD ih)
 |fD cs vs f h1 h2 _ ih=>exact .fD cs (qD ih)
 |fn f dv vs g h1 h2 h3 _ ih=>exact .fn f dv (qD ih)
 |xf f dv vs g h1 h2 h3 _ ih=>exact .xf f dv (qD ih)
end Go.Proofs.YtainmfbpilopaaaGreatDoor.V

namespace Go.Proofs.YtainmfbpilopaaaGreatDoor.V
open Go.RowKit
variable {P:Program} {w w':World} {D D':Nat->Prop} {ι ι':Names}
def cY (P:Program) (w:World) (D:Nat->Prop) (ι:Names) (env:Env) (a:Act):Prop:=∀t,dm P w D ι (env t) (a.tmps.getD t undef)
theorem uo {vs:List Value} {cs:List K} (h:vs.mapM J8=some cs):cs.length=vs.length/\∀(j:Nat) (c:K),cs[j]? =some c->vs[j]? =some c.val:=by
 induction vs generalizing cs with
 |nil=>simp at h;subst h;simp
 |cons v r ih=>
  simp only[List.mapM_cons,Option.bind_eq_bind,Option.bind_eq_some_iff]at h
  obtain⟨c,hc,r7,dY,h⟩:=h
  simp at h;subst h
  obtain⟨h1,h2⟩:=ih dY
  refine⟨by simp[h1],fun j d hd=>?_⟩
  cases j with
  |zero=>simp at hd ⊢;subst hd;exact Cv hc
  |succ j=>simp at hd ⊢;exact h2 j d hd
theorem kAgg {vs:List Value} {cs:List K} (h:vs.mapM J8=some cs):dm P w D ι (.agg (cs.map K.av)) (.agg vs.toArray):=by
 obtain⟨h1,h2⟩:=uo h
 refine .agg _ _ (fun j=>vs.getD j undef) (by simp[h1]) (fun a ha=>?_) (fun j hj=>?_) (fun j a ha=>?_)
 ·obtain⟨c,_,rfl⟩:=List.mem_map.1 ha;exact c.oP
 ·simp at hj;simp[List.getElem?_eq_getElem (show j<vs.length by omega)]
 ·simp only[List.getElem?_map,Option.map_eq_some_iff]at ha
  obtain⟨c,hc,rfl⟩:=ha
  rw[List.getD_eq_getElem?_getD,h2 j c hc];exact zC c
theorem dV {env:Env} {a:Act} {x:Operand} {y:O} (E:cY P w D ι env a) (h:cO P x=some y):dm P w D ι (dh env y) (a.eval x):=by
 unfold cO at h
 split at h
 ·simp at h;subst h;exact E _
 ·simp only[Option.map_eq_some_iff]at h
  obtain⟨cs,dY,rfl⟩:=h
  have:=kAgg (P:=P) (w:=w) (D:=D) (ι:=ι) dY
  simpa[Act.eval,dh]using this
 ·simp only[Option.map_eq_some_iff]at h
  obtain⟨c,hc,rfl⟩:=h
  simp only[Act.eval,dh]
  rw[Cv hc];exact zC c
 ·simp at h
 ·split at h
  ·rename_i hc
   simp at h;subst h
   simp only[Act.eval,dh]
   exact .fn _ _ _ (fun _=>undef) hc rfl (fun j hj=>by simp at hj) (fun j a h=>by simp at h)
  ·simp at h
def pW (P:Program) (a:Act) (o:Oper) (w:World) (D:Nat->Prop) (ι:Names) (v:AV):Prop:=∃u,(execOp a.eval o).run P w=.ok (.value u) w/\dm P w D ι v u
section
variable {g:Rows} {hs:Nat} {env:Env} {a:Act} {o:Oper} {id:Id} {v:AV}
theorem Si {x:Operand} {y:O} (E:cY P w D ι env a) (ho:o.op=.move x∨o.op=.assign x) (hx:cO P x=some y):pW P a o w D ι (dh env y):=by
 refine⟨a.eval x,?_,dV E hx⟩
 rcases ho with h|h<;>simp[execOp,h,go_sem]
theorem Vi {c x y:Operand} {c' x' y':O} (E:cY P w D ι env a) (ho:o.op=.pick c x y) (hc:cO P c=some c') (hx:cO P x=some x') (hy:cO P y=some y') (hv:cP (dh env c') (dh env x') (dh env y')=some v):pW P a o w D ι v:=by
 unfold cP at hv
 split at hv
 ·rename_i b hb
  simp at hv;subst hv
  have h1:=fP (hb▸dV E hc)
  refine⟨if b then a.eval x else a.eval y,by simp only[execOp,ho,h1,asBool];rfl,?_⟩
  cases b
  ·exact dV E hy
  ·exact dV E hx
 ·simp at hv
theorem Yc {op:BinOp} {x y:Operand} {x' y':O} {t yt:TypeId} (E:cY P w D ι env a) (ho:o.op=.binOp op t x y yt) (he:op≠.eql) (hn:op≠.neq) (hx:cO P x=some x') (hy:cO P y=some y') (hv:dE op (dh env x') (dh env y')=some v):pW P a o w D ι v:=by
 unfold dE at hv
 split at hv
 ·rename_i k n k' m hb vD
  split at hv
  ·rename_i hk
   subst hk
   have h1:=dR (hb▸dV E hx)
   have h2:=dR (vD▸dV E hy)
   have key:∀u,(binOp op t (.int k n) (.int k m)).run P w=.ok u w->(execOp a.eval o).run P w=.ok (.value u) w:=fun u hu=>by
    have e0:eqGuard op t x y (.int k n) (.int k m)=pure ():=by unfold eqGuard;cases op<;>rfl
    simp only[execOp,ho,h1,h2,e0]
    simp[go_sem,hu]
   cases op<;>simp only[dn]at hv<;>(try(simp at hv;done))<;>(try split at hv)<;>(try(simp at hv;done))<;>simp only[Option.some.injEq]at hv<;>subst hv<;>
    (refine⟨_,key _ (by simp only[binOp,ne_eq,not_true_eq_false,if_false,Op.intArith,Op.intDiv,Op.intBits,Op.intCmp, *];rfl),?_⟩)<;>
    first
     |exact .eP _ _ (.int _ _)
     |exact .eP _ _ (.bool _)
  ·simp at hv
 ·simp at hv
theorem U4 {op:BinOp} {x y:Operand} {x' y':O} {t yt:TypeId} (E:cY P w D ι env a) (ho:o.op=.binOp op t x y yt) (he:op≠.eql) (hn:op≠.neq) (hx:cO P x=some x') (hy:cO P y=some y') (hv:cQ op (dh env x') (dh env y')=some v):pW P a o w D ι v:=by
 unfold cQ at hv
 split at hv
 ·rename_i n m hb vD
  have h1:=gq (hb▸dV E hx)
  have h2:=gq (vD▸dV E hy)
  cases op<;>simp only[dO]at hv<;>(try(simp at hv;done))
  case add=>
   split at hv
   ·rename_i hl
    simp only[Option.some.injEq]at hv;subst hv
    exact⟨_,by simp only[execOp,ho,h1,h2];simp[eqGuard,binOp,go_sem];exact hl,.eP _ _ (.str _)⟩
   ·simp at hv
  all_goals
   simp only[Option.some.injEq]at hv;subst hv
   exact⟨_,by simp only[execOp,ho,h1,h2];simp[eqGuard,binOp,Op.stringOp,go_sem],.eP _ _ (.bool _)⟩
 ·simp at hv
theorem IX (n m:ByteArray):(n.toList==m.toList)=decide (n=m):=by
 rw[ByteArray.toList_eq,ByteArray.toList_eq]
 by_cases h:n=m
 ·subst h;simp
 ·have:n.data.toList≠m.data.toList:=fun he=>h (ByteArray.ext (Array.ext' he))
  rw[decide_eq_false h];exact beq_eq_false_iff_ne.2 this
theorem rq {t:TypeId} (h:fY P t=some .tB):P.underlying t=some .bool:=by unfold fY at h;split at h<;>simp_all
theorem rz {t:TypeId} (h:fY P t=some .tI):∃k,P.underlying t=some (.int k):=by unfold fY at h;split at h<;>simp_all
theorem rC {t:TypeId} (h:fY P t=some .tS):P.underlying t=some .string:=by unfold fY at h;split at h<;>simp_all
theorem uF {d:Nat} {t:TypeId} {s:TS} {x y:AV} {u u':Value} {b:Bool} (hx:dm P w D ι x u) (hy:dm P w D ι y u') (hv:fj s x y=some b) (ht:fY P t=some s):(Op.equalIn (d+1) t u u').run P w=.ok b w:=by
 unfold fj at hv
 split at hv
 ·rename_i k n k' m
  split at hv
  ·rename_i hk
   subst hk
   simp at hv;subst hv
   obtain⟨q,hq⟩:=rz ht
   rw[dR hx,dR hy,run_equalIn_int _ _ _ _ _ _ _ hq];rfl
  ·simp at hv
 ·simp at hv;subst hv
  rw[fP hx,fP hy,run_equalIn_bool' _ _ _ _ _ (rq ht)]
 ·simp at hv;subst hv
  rw[gq hx,gq hy,run_equalIn_string _ _ _ _ _ (rC ht),IX]
 ·simp at hv
def fQ (P:Program) (w:World) (D:Nat->Prop) (ι:Names) (xs:List AV) (vs:Array Value):Prop:=vs.size=xs.length/\∀(j:Nat) (a:AV),xs[j]? =some a->∃u,vs[j]? =some u/\dm P w D ι a u
theorem fQ.part {xs:List AV} {vs:Array Value} (h:fQ P w D ι xs vs) (off n:Nat) (hn:off+n<=xs.length):fQ P w D ι ((xs.drop off).take n) (vs.extract off (off+n)):=by
 refine⟨by simp[h.1];omega,fun j a ha=>?_⟩
 rw[List.getElem?_take]at ha
 split at ha
 ·rename_i hj
  rw[List.getElem?_drop]at ha
  obtain⟨u,h1,h2⟩:=h.2 _ _ ha
  refine⟨u,?_,h2⟩
  rw[Array.getElem?_extract]
  rw[if_pos (by rw[h.1];omega),h1]
 ·simp at ha
theorem tU:∀{ts:List TS} {xs ys:List AV} {b:Bool},eK ts xs ys=some b->xs.length=ts.length/\ys.length=ts.length
 |[],[],[],_,_=>⟨rfl,rfl⟩
 |t::ts,x::xs,y::ys,b,h=>by
  unfold eK at h
  split at h
  ·rename_i c d h1 h2
   have:=tU h2
   simp[this.1,this.2]
  ·simp at h
 |[],[],_::_,_,h=>by simp[eK]at h
 |[],_::_,_,_,h=>by simp[eK]at h
 |_::_,[],_,_,h=>by simp[eK]at h
 |_::_,_::_,[],_,h=>by simp[eK]at h
theorem Ik:∀{ts us:List TS} {xs ys:List AV} {b:Bool},eK (ts++us) xs ys=some b->∃c d,eK ts (xs.take ts.length) (ys.take ts.length)=some c/\eK us (xs.drop ts.length) (ys.drop ts.length)=some d/\b=(c&&d)
 |[],us,xs,ys,b,h=>⟨true,b,by simp[eK],by simpa using h,by simp⟩
 |t::ts,us,x::xs,y::ys,b,h=>by
  simp only[List.cons_append]at h
  unfold eK at h
  split at h
  ·rename_i c d h1 h2
   obtain⟨c',d',h3,h4,rfl⟩:=Ik h2
   simp at h;subst h
   exact⟨c&&c',d',by simp[eK,h1,h3],by simpa using h4,by simp[Bool.and_assoc]⟩
  ·simp at h
 |t::ts,us,[],ys,b,h=>by simp[eK]at h
 |t::ts,us,x::xs,[],b,h=>by simp[eK]at h
theorem oE {t:TypeId} {vs:Array Value} {off:Nat} {u:Value} (ha:od P t=some false) (hu:vs[off]? =some u):(Go.part t vs off).run P w=.ok u w:=by
 unfold od at ha
 have hi:(isAgg t).run P w=.ok false w:=by
  split at ha<;>simp at ha
  rename_i d h1 h2 hd
  simp only[isAgg,Sem.run_bind,run_underlying hd,Result.andThen_ok]
  cases d<;>simp_all
 simp[Go.part,hi,hu]
theorem wh {t:TypeId} {b:Bool} (ha:od P t=some b):(isAgg t).run P w=.ok b w:=by
 unfold od at ha
 split at ha<;>simp at ha<;>subst ha<;>rename_i hd<;>simp only[isAgg,Sem.run_bind,run_underlying hd,Result.andThen_ok]<;>(try simp)
theorem run_sizeOf {t:TypeId} {n:Nat} (h:eF P t=some n):(sizeOf t).run P w=.ok n w:=by
 unfold eF at h
 simp only[Option.map_eq_some_iff]at h
 obtain⟨i,hi,rfl⟩:=h
 simp[sizeOf,typeInfo,hi]
theorem rn {t:TypeId} {vs:Array Value} {off n:Nat} (ha:od P t=some true) (hn:eF P t=some n):(Go.part t vs off).run P w=.ok (.agg (vs.extract off (off+n))) w:=by
 simp[Go.part,wh ha,run_sizeOf hn]
theorem Mo (d off:Nat):eX P (d+1) off []=some []:=rfl
theorem A3 (d off:Nat) (f:Field) (r:List Field):eX P (d+1) off (f::r)=(if f.offset=off/\f.name≠ "_" then
   match fY P f.type with
   |some t=>if od P f.type=some false then(eX P (d+1) (off+1) r).map (t::·)else none
   |none=>match P.underlying f.type with
    |some (.struct fs)=>if !P.stoodInHeld f.type then match eX P d 0 fs.toList with
     |some ts=>if eF P f.type=some ts.length/\ts≠[]then(eX P (d+1) (off+ts.length) r).map (ts++·)else none
     |none=>none else none
    |_=>none
  else none):=rfl
theorem uD:∀(d:Nat) (fs:List Field) (off:Nat) (ts:List TS),eX P d off fs=some ts->∀(N:Nat) (_:d<=N) (xs ys:List AV) (vs us:Array Value) (b:Bool),fQ P w D ι xs vs->fQ P w D ι ys us->
  eK ts ((xs.drop off).take ts.length) ((ys.drop off).take ts.length)=some b->(Op.eqFields (N+1) vs us fs).run P w=.ok b w:=by
 intro d
 induction d with
 |zero=>
  intro fs off ts hf N _ xs ys vs us b _ _ he
  cases fs with
  |nil=>simp[eX]at hf;subst hf;simp[eK]at he;subst he;simp[Op.eqFields]
  |cons f r=>simp[eX]at hf
 |succ d ihd=>
  intro fs
  induction fs with
  |nil=>
   intro off ts hf N _ xs ys vs us b _ _ he
   rw[Mo]at hf;simp at hf;subst hf;simp[eK]at he;subst he;simp[Op.eqFields]
  |cons f r ih=>
   intro off ts hf N hN xs ys vs us b hx hy he
   rw[A3]at hf
   split at hf
   ·rename_i hcond
    obtain⟨ho,gM⟩:=hcond
    split at hf
    ·rename_i s hs
     split at hf
     ·rename_i wV
      simp only[Option.map_eq_some_iff]at hf
      obtain⟨O6,hr,rfl⟩:=hf
      obtain⟨l1,l2⟩:=tU he
      simp only[List.length_cons,List.length_take,List.length_drop]at l1 l2
      have Dm:off<xs.length:=ah
      have hyo:off<ys.length:=ah
      rw[List.drop_eq_getElem_cons Dm,List.drop_eq_getElem_cons hyo,List.length_cons,List.take_succ_cons,List.take_succ_cons]at he
      unfold eK at he
      split at he
      ·rename_i c d' h1 h2
       simp at he;subst he
       obtain⟨u,hu,ru⟩:=hx.2 off _ (List.getElem?_eq_getElem Dm)
       obtain⟨u',IB,ru'⟩:=hy.2 off _ (List.getElem?_eq_getElem hyo)
       have:=ih (off+1) O6 hr N hN xs ys vs us d' hx hy h2
       simp only[Op.eqFields,if_pos gM,Sem.run_bind,ho,oE wV hu,oE wV IB,Result.andThen_ok,uF ru ru' h1 hs,Sem.run_ite]
       cases c<;>simp[this]
      ·simp at he
     ·simp at hf
    ·split at hf
     ·rename_i fs' tY
      split at hf
      ·rename_i dZ
       split at hf
       ·rename_i ts1 hts1
        split at hf
        ·rename_i fI
         simp only[Option.map_eq_some_iff]at hf
         obtain⟨O6,hr,rfl⟩:=hf
         obtain⟨c,d',h1,h2,rfl⟩:=Ik he
         obtain⟨l1,l2⟩:=tU he
         simp only[List.length_append,List.length_take,List.length_drop]at l1 l2
         have wV:od P f.type=some true:=by simp[od,tY]
         have lp:0<ts1.length:=List.length_pos_iff.2 fI.2
         have P8:off+ts1.length<=xs.length:=ah
         have hy1:off+ts1.length<=ys.length:=ah
         rw[List.drop_take,List.drop_drop,List.drop_take,List.drop_drop]at h2
         rw[List.take_take,List.take_take]at h1
         simp only[List.length_append]at h1 h2
         rw[Nat.min_eq_left ah]at h1
         have e2:ts1.length+O6.length-ts1.length=O6.length:=ah
         rw[e2]at h2
         have:=ih (off+ts1.length) O6 hr N hN xs ys vs us d' hx hy h2
         have gh:=ihd fs'.toList 0 ts1 hts1 (N-1) ah _ _ _ _ c (hx.part off ts1.length P8) (hy.part off ts1.length hy1) (by simpa[List.take_take]using h1)
         have hN':N-1+1=N:=ah
         rw[hN']at gh
         have MI:P.fieldsOf f.type=fs':=by simp[Program.fieldsOf,tY]
         simp only[Op.eqFields,if_pos gM,Sem.run_bind,ho,rn wV fI.1,Result.andThen_ok,Sem.run_ite]
         rw[run_equalIn_struct w N f.type _ _ (by rw[MI];exact tY) (by simpa using dZ),MI,gh]
         cases c<;>simp[this]
        ·simp at hf
       ·simp at hf
      ·simp at hf
     ·simp at hf
   ·simp at hf
theorem Yg {x y:Operand} {x' y':O} {t yt:TypeId} {neg:Bool} {s:TS} {b:Bool} (E:cY P w D ι env a) (ho:o.op=.binOp (if neg then .neq else .eql) t x y yt) (hs:fY P t=some s) (hx:cO P x=some x') (hy:cO P y=some y')
  (hv:fj s (dh env x') (dh env y')=some b):pW P a o w D ι (.bool (di neg b)):=by
 have rx:=dV E hx
 have ry:=dV E hy
 refine⟨.bool (di neg b),?_,.eP _ _ (.bool _)⟩
 have e0:(eqGuard (if neg then .neq else .eql) t x y (a.eval x) (a.eval y)).run P w=.ok () w:=by
  unfold fj at hv
  split at hv
  ·rename_i k n k' m h1 h2
   rw[h1]at rx;rw[h2]at ry
   rw[dR rx,dR ry];unfold eqGuard;cases neg<;>simp
  ·rename_i n m h1 h2
   rw[h1]at rx;rw[h2]at ry
   rw[fP rx,fP ry];unfold eqGuard;cases neg<;>simp
  ·rename_i n m h1 h2
   rw[h1]at rx;rw[h2]at ry
   rw[gq rx,gq ry];unfold eqGuard;cases neg<;>simp
  ·simp at hv
 have e1:(binOp (if neg then .neq else .eql) t (a.eval x) (a.eval y)).run P w=.ok (.bool (di neg b)) w:=by
  have q:=uF (d:=9999) rx ry hv hs
  unfold fj at hv
  split at hv
  ·rename_i k n k' m h1 h2
   split at hv
   ·rename_i hk
    subst hk
    simp at hv;subst hv
    rw[h1]at rx;rw[h2]at ry
    rw[dR rx,dR ry]
    cases neg<;>simp only[binOp,ne_eq,not_true_eq_false,if_false,Op.intCmp,di,if_true,Bool.false_eq_true]<;>simp[bne]<;>rfl
   ·simp at hv
  ·rename_i n m h1 h2
   rw[h1]at rx;rw[h2]at ry
   rw[fP rx,fP ry]at q ⊢
   cases neg<;>simp only[binOp,di,if_true,Bool.false_eq_true,if_false,Sem.run_bind]<;>simp[Op.equal,Op.maxDepth,q]
  ·rename_i n m h1 h2
   simp at hv;subst hv
   rw[h1]at rx;rw[h2]at ry
   rw[gq rx,gq ry]
   cases neg<;>simp[binOp,Op.stringOp,di,IX]
  ·simp at hv
 simp only[execOp,ho,Sem.run_bind,e0,e1,Result.andThen_ok,Sem.run_pure]
theorem Ye {x y:Operand} {x' y':O} {t yt:TypeId} {neg:Bool} {ts:List TS} {fs:Array Field} {xs ys:List AV} {b:Bool} (E:cY P w D ι env a) (ho:o.op=.binOp (if neg then .neq else .eql) t x y yt) (tY:P.underlying t=some (.struct fs)) (dZ:P.stoodInHeld t=false) (PO:P.eqGuardType P.depth t=false)
  (Aw:eX P 4 0 fs.toList=some ts) (hx:cO P x=some x') (hy:cO P y=some y') (h1:dh env x'=.agg xs) (h2:dh env y'=.agg ys)
  (hv:eK ts xs ys=some b):pW P a o w D ι (.bool (di neg b)):=by
 obtain⟨vs,f,rx,n1,_,f1,r1⟩:=jd (h1▸dV E hx)
 obtain⟨us,f',ry,n2,_,f2,r2⟩:=jd (h2▸dV E hy)
 refine⟨.bool (di neg b),?_,.eP _ _ (.bool _)⟩
 obtain⟨l1,l2⟩:=tU hv
 have L:∀(xs:List AV) (vs:Array Value) (f:Nat->Value),vs.size=xs.length->(∀j,j<xs.length->vs[j]? =some (f j))->(∀j a,xs[j]? =some a->dm P w D ι a (f j))->fQ P w D ι xs vs:=fun xs vs f h1 h2 h3=>
  ⟨h1,fun j a ha=>⟨f j,h2 j (List.getElem?_eq_some_iff.1 ha).1,h3 j a ha⟩⟩
 have q:=uD (w:=w) 4 fs.toList 0 ts Aw 9998 ah xs ys vs us b (L _ _ _ n1 f1 r1) (L _ _ _ n2 f2 r2) (by simpa[List.take_of_length_le,l1,l2]using hv)
 have MI:P.fieldsOf t=fs:=by simp[Program.fieldsOf,tY]
 have q2:(Op.equal t (.agg vs) (.agg us)).run P w=.ok b w:=by
  unfold Op.equal
  rw[show Op.maxDepth=9999+1 from rfl,run_equalIn_struct w 9999 t _ _ (by rw[MI];exact tY) dZ,MI,q]
 simp only[execOp,ho,Sem.run_bind,rx,ry,run_eqGuard_agg w _ _ _ _ _ _ PO,Result.andThen_ok]
 cases neg<;>simp[binOp,q2,di]
theorem U7 {x:Operand} {x':O} {t yt e:TypeId} {neg:Bool} {b:Bool} (E:cY P w D ι env a) (ho:o.op=.binOp (if neg then .neq else .eql) t x (.const (.slice none 0 0)) yt) (ht:P.underlying t=some (.slice e)) (hx:cO P x=some x')
  (hv:cN (dh env x')=some b):pW P a o w D ι (.bool (di neg b)):=by
 have hr:=dV E hx
 have rx:∃A n c,a.eval x=.slice A n c/\b=A.isNone:=by
  unfold cN at hv
  split at hv<;>simp at hv<;>subst hv<;>rename_i hh
  ·rw[hh]at hr;exact⟨_,_,_,jv hr,rfl⟩
  ·rw[hh]at hr;obtain⟨o,cap,B,h,_⟩:=je hr
   exact⟨_,_,_,h,rfl⟩
  ·rw[hh]at hr
   obtain⟨A,c,h',_,_,h⟩:=zF hr
   rcases h with h|⟨b,o,sz,vs,rfl,_⟩
   ·simp at h
   ·exact⟨_,_,_,h',rfl⟩
 refine⟨.bool (di neg b),?_,.eP _ _ (.bool _)⟩
 obtain⟨A,n,c,h,rfl⟩:=rx
 have hq:(Op.equal t (.slice A n c) (.slice none 0 0)).run P w=.ok A.isNone w:=by
  unfold Op.equal
  rw[show Op.maxDepth=9999+1 from rfl,Op.equalIn]
  simp only[Sem.run_bind,run_underlying ht,Result.andThen_ok]
  cases A<;>rfl
 have hc:a.eval (.const (.slice none 0 0))=.slice none 0 0:=rfl
 simp only[execOp,ho,h,hc]
 cases neg<;>simp only[Bool.false_eq_true,if_false,if_true,Bool.not_true,Bool.not_false,eqGuard,binOp,di,Sem.run_bind,hq,Result.andThen_ok,Sem.run_pure]
theorem Yf {x:Operand} {x':O} {t yt e:TypeId} {neg:Bool} {b:Bool} (E:cY P w D ι env a) (ho:o.op=.binOp (if neg then .neq else .eql) t x (.const (.pointer none)) yt) (ht:P.underlying t=some (.pointer e)) (hx:cO P x=some x')
  (hv:OF (dh env x')=some b):pW P a o w D ι (.bool (di neg b)):=by
 have hr:=dV E hx
 have rx:∃A,a.eval x=.pointer A/\b=A.isNone:=by
  unfold OF at hv
  split at hv<;>simp at hv<;>subst hv<;>rename_i hh
  ·rw[hh]at hr;exact⟨_,NX hr,rfl⟩
  ·rw[hh]at hr;obtain⟨B,h,_⟩:=iR hr
   exact⟨_,h,rfl⟩
  ·rw[hh]at hr;obtain⟨_,_,_,h,_⟩:=mv hr
   exact⟨_,h,rfl⟩
 refine⟨.bool (di neg b),?_,.eP _ _ (.bool _)⟩
 obtain⟨A,h,rfl⟩:=rx
 have hq:(Op.equal t (.pointer A) (.pointer none)).run P w=.ok A.isNone w:=by
  unfold Op.equal
  rw[show Op.maxDepth=9999+1 from rfl,Op.equalIn]
  simp only[Sem.run_bind,run_underlying ht,Result.andThen_ok]
  cases A<;>rfl
 have hc:a.eval (.const (.pointer none))=.pointer none:=rfl
 simp only[execOp,ho,h,hc]
 cases neg<;>simp only[Bool.false_eq_true,if_false,if_true,Bool.not_true,Bool.not_false,eqGuard,binOp,di,Sem.run_bind,hq,Result.andThen_ok,Sem.run_pure]
theorem U6 {x:Operand} {x':O} {t yt:TypeId} {p r:Array TypeId} {va:Bool} {neg:Bool} {b:Bool} (E:cY P w D ι env a) (ho:o.op=.binOp (if neg then .neq else .eql) t x (.const .nilFunc) yt) (ht:P.underlying t=some (.func p r va)) (hx:cO P x=some x')
  (hv:cL (dh env x')=some b):pW P a o w D ι (.bool (di neg b)):=by
 have hr:=dV E hx
 have rx:a.eval x=.nilFunc/\b=true∨∃f c,a.eval x=.func f #[] c/\b=false:=by
  unfold cL at hv
  split at hv<;>simp at hv<;>subst hv<;>rename_i hh
  ·rw[hh]at hr;exact .inl ⟨zE hr,rfl⟩
  ·rw[hh]at hr;obtain⟨vs,g,h,_⟩:=wg hr
   exact .inr ⟨_,_,h,rfl⟩
 refine⟨.bool (di neg b),?_,.eP _ _ (.bool _)⟩
 have hc:a.eval (.const .nilFunc)=.nilFunc:=rfl
 rcases rx with⟨h,rfl⟩|⟨f,c,h,rfl⟩
 ·have hq:(Op.equal t .nilFunc .nilFunc).run P w=.ok true w:=by
   unfold Op.equal
   rw[show Op.maxDepth=9999+1 from rfl,Op.equalIn]
   simp only[Sem.run_bind,run_underlying ht,Result.andThen_ok]
   rfl
  simp only[execOp,ho,h,hc]
  cases neg<;>simp only[Bool.false_eq_true,if_false,if_true,Bool.not_true,Bool.not_false,eqGuard,binOp,di,Sem.run_bind,hq,Result.andThen_ok,Sem.run_pure]
 ·have hq:(Op.equal t (.func f #[] c) .nilFunc).run P w=.ok false w:=by
   unfold Op.equal
   rw[show Op.maxDepth=9999+1 from rfl,Op.equalIn]
   simp only[Sem.run_bind,run_underlying ht,Result.andThen_ok]
   rfl
  simp only[execOp,ho,h,hc]
  cases neg<;>simp only[Bool.false_eq_true,if_false,if_true,Bool.not_true,Bool.not_false,eqGuard,binOp,di,Sem.run_bind,hq,Result.andThen_ok,Sem.run_pure]
theorem Yj {x:Operand} {x':O} {t:TypeId} (E:cY P w D ι env a) (ho:o.op=.unOp .not t x) (hx:cO P x=some x') (hv:dJ (dh env x')=some v):pW P a o w D ι v:=by
 have hr:=dV E hx
 unfold dJ at hv
 split at hv
 ·rename_i b hb
  simp at hv;subst hv
  rw[hb]at hr
  exact⟨_,by simp only[execOp,ho,fP hr];rfl,.eP _ _ (.bool _)⟩
 ·simp at hv
theorem Yi {x:Operand} {x':O} {t:TypeId} (E:cY P w D ι env a) (ho:o.op=.unOp .neg t x) (hx:cO P x=some x') (hv:dH (dh env x')=some v):pW P a o w D ι v:=by
 have hr:=dV E hx
 unfold dH at hv
 split at hv
 ·rename_i k n hb
  simp at hv;subst hv
  rw[hb]at hr
  refine⟨_,by simp only[execOp,ho,dR hr];rfl,?_⟩
  rw[Int.zero_sub];exact .eP _ _ (.int _ _)
 ·simp at hv
theorem U5 {x:Operand} {x':O} {s d:TypeId} {k q:IntKind} (E:cY P w D ι env a) (ho:o.op=.convert s d x) (hs:P.underlying s=some (.int q)) (hd:P.underlying d=some (.int k)) (hx:cO P x=some x') (hv:cE k (dh env x')=some v):pW P a o w D ι v:=by
 have hr:=dV E hx
 unfold cE at hv
 split at hv
 ·rename_i k' n hb
  simp at hv;subst hv
  rw[hb]at hr
  refine⟨.int k (k.wrap n),?_,.eP _ _ (.int _ _)⟩
  simp only[execOp,ho,dR hr,convert,Sem.run_bind,run_underlying hs,run_underlying hd,Result.andThen_ok,Conv.intToInt,Sem.run_pure]
 ·simp at hv
theorem Rb {x:Operand} {x':O} {s:TypeId} {i:Nat} {fs:Array Field} {f:Field} {m:Nat} (E:cY P w D ι env a) (ho:o.op=.fieldAddr s x i) (hs:P.underlying s=some (.struct fs)) (hf:fs[i]? =some f) (hm:eF P f.type=some (m+1)) (hx:cO P x=some x')
  (hv:HS f.offset (dh env x')=some v):pW P a o w D ι v:=by
 have hr:=dV E hx
 have go:∀b oo,a.eval x=.pointer (some ⟨b,oo,none⟩)->(execOp a.eval o).run P w=.ok (.value (.pointer (some ⟨b,oo+f.offset,none⟩))) w:=fun b oo h=>by
  simp only[execOp,ho,h,Instr.fieldAt,Sem.run_bind,run_underlying hs,Result.andThen_ok,hf,Instr.sureAddr,Sem.run_pure,fieldPlace,run_sizeOf hm,Nat.add_eq_zero_iff,Nat.one_ne_zero,and_false,if_false,Addr.add]
  split
  ·rename_i h0;simp[h0]
  ·rfl
 unfold HS at hv
 split at hv
 ·rename_i kK i' oo hb
  simp at hv;subst hv
  rw[hb]at hr
  obtain⟨B,h,hB,hk⟩:=iR hr
  refine⟨_,go _ _ h,?_⟩
  rw[Nat.add_assoc]
  exact .ptr _ _ _ _ hB hk
 ·rename_i cs hb
  simp at hv;subst hv
  rw[hb]at hr
  obtain⟨b,oo,vs,h,h1,h2,h3,h4⟩:=mv hr
  refine⟨_,go _ _ h,.eP _ _ (.dQ _ _ _ (fun j=>vs (f.offset+j)) h1 (fun a ha=>h2 a (List.mem_of_mem_drop ha)) (fun j hj=>?_) (fun j a ha=>h4 _ _ (by simpa using ha)))⟩
  rw[Nat.add_assoc]
  exact h3 _ (by simp at hj;omega)
 ·simp at hv
theorem Rc {x:Operand} {x':O} {s:TypeId} {i n:Nat} {ag:Bool} {fs:Array Field} {f:Field} (E:cY P w D ι env a) (ho:o.op=.field s x i) (hs:P.underlying s=some (.struct fs)) (hf:fs[i]? =some f) (wV:od P f.type=some ag) (hm:eF P f.type=some n) (hx:cO P x=some x')
  (hv:bz ag f.offset n (dh env x')=some v):pW P a o w D ι v:=by
 have hr:=dV E hx
 unfold bz at hv
 split at hv
 ·rename_i cs hb
  split at hv
  ·rename_i hl
   rw[hb]at hr
   obtain⟨vs,g,h,n1,fl,f1,r1⟩:=jd hr
   unfold part at hv
   cases ag with
   |true=>
    simp only[if_true]at hv
    split at hv
    ·simp at hv;subst hv
     refine⟨.agg (vs.extract f.offset (f.offset+n)),?_,.agg _ _ (fun j=>g (f.offset+j)) (by simp[n1];omega) (fun a ha=>fl a (List.mem_of_mem_drop (List.mem_of_mem_take ha))) (fun j hj=>?_) (fun j a ha=>?_)⟩
     ·simp only[execOp,ho,h,Instr.field,Sem.run_bind,run_underlying hs,Result.andThen_ok,hf,asAgg,Sem.run_pure,rn wV hm]
     ·simp at hj
      rw[Array.getElem?_extract,if_pos ah];exact f1 _ ah
     ·rw[List.getElem?_take]at ha
      split at ha
      ·exact r1 _ _ (by simpa using ha)
      ·simp at ha
    ·simp at hv
   |false=>
    simp only[Bool.false_eq_true,if_false]at hv
    have pU:cs[f.offset]? =some v:=by simpa[List.head?_drop]using hv
    have eu:=(List.getElem?_eq_some_iff.1 pU).1
    exact⟨g f.offset,by simp only[execOp,ho,h,Instr.field,Sem.run_bind,run_underlying hs,Result.andThen_ok,hf,asAgg,Sem.run_pure,oE wV (f1 _ eu)],r1 _ _ pU⟩
  ·simp at hv
 ·simp at hv
theorem Yk {left:Bool} {x y:Operand} {x' y':O} {t yt:TypeId} (E:cY P w D ι env a) (ho:o.op=.binOp (if left then .shl else .shr) t x y yt) (hx:cO P x=some x') (hy:cO P y=some y') (hv:fU left (dh env x') (dh env y')=some v):pW P a o w D ι v:=by
 unfold fU at hv
 split at hv
 ·rename_i k n k' m hb vD
  split at hv
  ·simp at hv
  ·rename_i hm
   simp at hv;subst hv
   have h1:=dR (hb▸dV E hx)
   have h2:=dR (vD▸dV E hy)
   refine⟨_,?_,.eP _ _ (.int _ _)⟩
   simp only[execOp,ho,h1,h2]
   cases left<;>simp only[Bool.false_eq_true,if_false,if_true,eqGuard,Bool.not_true,Bool.not_false,binOp,Op.shift,hm,Sem.run_bind,Sem.run_pure,Result.andThen_ok]<;>rfl
 ·simp at hv
end
end Go.Proofs.YtainmfbpilopaaaGreatDoor.V

namespace Go.Proofs.YtainmfbpilopaaaGreatDoor.V
open Go.RowKit
variable {P:Program} {w w':World} {D D':Nat->Prop} {ι ι':Names}
theorem lz (b o j:Nat):(⟨b,o,none⟩:Addr).add j=⟨b,o+j,none⟩:=by unfold Addr.add;split<;>simp_all
section
variable {g:Rows} {hs:Nat} {env:Env} {a:Act} {o:Oper} {id:Id} {v:AV}
theorem km {t:TypeId} {ag:Bool} {n b oo:Nat} {cs:List AV} {v:AV} {f:Nat->Value} (wV:od P t=some ag) (hn:eF P t=some n) (hp:part ag n cs=some v) (fl:∀a∈cs,a.cell=true)
  (hc:∀j,j<cs.length->w.cell? ⟨b,oo+j,none⟩=some (f j)) (hr:∀j a,cs[j]? =some a->dm P w D ι a (f j)):∃u,(loadVar t ⟨b,oo,none⟩).run P w=.ok u w/\dm P w D ι v u:=by
 unfold part at hp
 cases ag with
 |true=>
  simp only[if_true]at hp
  split at hp
  ·rename_i hl
   simp at hp;subst hp
   refine⟨.agg ((List.range n).map f).toArray,?_,.agg _ _ f (by simp;omega) (fun a ha=>fl a (List.mem_of_mem_take ha)) (fun j hj=>?_) (fun j a ha=>?_)⟩
   ·simp only[loadVar,Sem.run_bind,wh wV,Result.andThen_ok,if_true,run_sizeOf hn,Sem.run_pure]
    rw[run_loadCells w _ n f (fun j hj=>by rw[lz];exact hc j ah)]
    rfl
   ·simp at hj
    have:j<n:=ah
    simp[this]
   ·rw[List.getElem?_take]at ha
    split at ha
    ·exact hr _ _ ha
    ·simp at ha
  ·simp at hp
 |false=>
  simp only[Bool.false_eq_true,if_false]at hp
  cases cs with
  |nil=>simp at hp
  |cons c r=>
   simp at hp;subst hp
   refine⟨f 0,?_,hr 0 _ rfl⟩
   simp only[loadVar,Sem.run_bind,wh wV,Result.andThen_ok,Bool.false_eq_true,if_false]
   have:=hc 0 (by simp)
   simp at this
   rw[run_load,this]
theorem N7 {S:gK P hs D ι g w} {i:Nat} {cs:List AV} (h:rowAt g id i=some cs) (hk:∀B,ι id=some B->B.k=none):∃B r,g id=some r/\ι id=some B/\lK P w D ι B r/\r.rows[i]? =some cs/\(∀a∈cs,a.cell=true)/\∃f:Nat->Value,∀j,j<cs.length->w.cell? ⟨B.b,i*B.sz+j,none⟩=some (f j)/\∀a,cs[j]? =some a->dm P w D ι a (f j):=by
 unfold rowAt at h
 simp only[Option.bind_eq_some_iff]at h
 obtain⟨r,hr,hi⟩:=h
 obtain⟨B,hB,R,_,_⟩:=S.row id r hr
 replace R:=R.row (hk B hB)
 refine⟨B,r,hr,hB,R,hi,R.flat cs (List.mem_of_getElem? hi),fun j=>(w.cell? ⟨B.b,i*B.sz+j,none⟩).getD undef,fun j hj=>?_⟩
 obtain⟨u,hu,Av⟩:=R.at_ i j cs _ hi (List.getElem?_eq_getElem hj)
 rw[R.sz,hu]
 refine⟨by simp only[hu,Option.getD_some],fun a ha=>?_⟩
 rw[List.getElem?_eq_getElem hj]at ha
 injection ha with ha
 subst ha
 simpa only[hu,Option.getD_some]using Av
theorem Vd {x:Operand} {x':O} {t:TypeId} {ag:Bool} {n:Nat} (S:gK P hs D ι g w) (E:cY P w D ι env a) (ho:o.op=.load t x) (wV:od P t=some ag) (hn:eF P t=some n) (hx:cO P x=some x') (hv:ld g ag n (dh env x')=some v):pW P a o w D ι v:=by
 have hr:=dV E hx
 have go:∀b oo u,a.eval x=.pointer (some ⟨b,oo,none⟩)->(loadVar t ⟨b,oo,none⟩).run P w=.ok u w->(execOp a.eval o).run P w=.ok (.value u) w:=fun b oo u h h2=>by
  simp only[execOp,ho,h,Instr.loadAt,Instr.sureAddr,Sem.run_bind,Sem.run_pure,Result.andThen_ok,h2]
 unfold ld at hv
 split at hv
 ·rename_i kK i' oo hb
  rw[hb]at hr
  obtain⟨B,h,hB,hk⟩:=iR hr
  simp only[Option.bind_eq_some_iff]at hv
  obtain⟨cs,dY,hp⟩:=hv
  obtain⟨B',r,Ln,ec,R,hi,fl,f,hf⟩:=N7 (S:=S) dY (fun B2 h2=>by rw[hB]at h2;injection h2 with h2;subst h2;exact hk)
  rw[hB]at ec;injection ec with ec;subst ec
  obtain⟨u,h1,h2⟩:=km (w:=w) (b:=B.b) (oo:=i'*B.sz+oo) (f:=fun j=>f (oo+j)) wV hn hp (fun a ha=>fl a (List.mem_of_mem_drop ha)) (fun j hj=>by
   rw[Nat.add_assoc];exact(hf _ (by simp at hj;omega)).1) (fun j a ha=>by
   simp at ha;exact(hf _ ((List.getElem?_eq_some_iff.1 ha).1)).2 _ ha)
  exact⟨u,go _ _ _ h h1,h2⟩
 ·rename_i cs hb
  rw[hb]at hr
  obtain⟨b,oo,vs,h,h1,h2,h3,h4⟩:=mv hr
  obtain⟨u,k1,k2⟩:=km (w:=w) (b:=b) (oo:=oo) (f:=vs) wV hn hv h2 h3 (fun j a ha=>.eP _ _ (h4 j a ha))
  exact⟨u,go _ _ _ h k1,k2⟩
 ·simp at hv
theorem QT (S:gK P hs D ι g w) {id:Id} {i k t:Nat} {s:ByteArray} (h:rowAt g id i=some [.err k t s]):∃u,dm P w D ι (.err k t s) u:=by
 unfold rowAt at h
 simp only[Option.bind_eq_some_iff]at h
 obtain⟨r,hr,hi⟩:=h
 obtain⟨B,hB,R,_⟩:=S.row id r hr
 cases hk:B.k with
 |none=>
  obtain⟨u,_,h2⟩:=(R.row hk).at_ i 0 _ _ hi rfl
  exact⟨u,h2⟩
 |some m=>
  cases m with
  |map m=>
   obtain⟨_,es,c,h3,h4,⟨h5,_⟩,h6⟩:=R.map m hk
   obtain⟨e,kv,vv,_,_,q3,_,q5⟩:=h6 i _ hi
   have h7:=h5 _ (List.mem_of_getElem? hi)
   have h8:m.ks=0:=by simp at h7;omega
   rw[h8]at q3
   simp at q3
   subst q3
   exact⟨_,q5⟩
  |chan c=>
   obtain⟨_,buf,s',q,h3,h4,h5⟩:=R.chan c hk
   obtain⟨x,u,q1,_,q3⟩:=h5 i _ hi
   injection q1 with q1
   subst q1
   exact⟨u,q3⟩
theorem Re {t:TypeId} {k:Nat} (S:gK P hs D ι g w) (ho:o.op=.load t (.global k)) (hn:eF P t=some 1) (wV:od P t=some false) (hv:fR g k=some v):pW P a o w D ι v:=by
 unfold fR at hv
 simp only[Option.bind_eq_some_iff]at hv
 obtain⟨cs,dY,hv⟩:=hv
 split at hv
 ·rename_i j t1 s
  split at hv
  ·rename_i hj
   subst hj
   injection hv with hv
   subst hv
   obtain⟨u,hu⟩:=QT S dY
   obtain⟨_,_,_,sP,_,hc,_⟩:=rm hu
   obtain⟨u',k1,k2⟩:=km (w:=w) (b:=j) (oo:=0) (f:=fun _=>u) wV hn (show part false 1 [.err j t1 s]=some (.err j t1 s)from rfl) (fun a ha=>by simp at ha;subst ha;rfl) (fun i hi=>by
    have:i=0:=by simp at hi;omega
    subst this;exact hc) (fun i x hx=>by
    have hi:=(List.getElem?_eq_some_iff.1 hx).1
    have:i=0:=by simp at hi;omega
    subst this
    simp at hx
    subst hx
    exact hu)
   exact⟨u',by simp only[execOp,ho,Instr.loadAt,Instr.sureAddr,Act.eval,Sem.run_bind,Sem.run_pure,Result.andThen_ok,k1],k2⟩
  ·simp at hv
 ·simp at hv
theorem Yd {x:Operand} {x':O} (E:cY P w D ι env a) (ho:o.op=.nilCheck x) (hx:cO P x=some x') (hv:dF (dh env x')=some v):pW P a o w D ι v:=by
 have hr:=dV E hx
 unfold dF at hv
 split at hv
 ·rename_i kK i' oo hb
  simp at hv;subst hv
  rw[hb]at hr
  obtain⟨B,h,hB,hk⟩:=iR hr
  exact⟨_,by simp only[execOp,ho,h];rfl,.ptr _ _ _ _ hB hk⟩
 ·rename_i cs hb
  simp at hv;subst hv
  rw[hb]at hr
  obtain⟨b,oo,vs,h,_⟩:=mv hr
  exact⟨_,by simp only[execOp,ho,h];rfl,h▸hr⟩
 ·simp at hv
theorem Rf {x i:Operand} {x' i':O} {t e:TypeId} {m:Nat} (S:gK P hs D ι g w) (E:cY P w D ι env a) (ho:o.op=.indexAddr t x i) (ht:P.underlying t=some (.slice e)) (hm:eF P e=some (m+1)) (hx:cO P x=some x') (hi:cO P i=some i')
  (hv:bB g (m+1) (dh env x') (dh env i')=some v):pW P a o w D ι v:=by
 have hr:=dV E hx
 have GU:=dV E hi
 have go:∀b oo n c k (q:Int),a.eval x=.slice (some ⟨b,oo,none⟩) n c->a.eval i=.int k q->0<=q->q<n->(execOp a.eval o).run P w=.ok (.value (.pointer (some ⟨b,oo+q.toNat*(m+1),none⟩))) w:=fun b oo n c k q h h2 h3 h4=>by
  simp only[execOp,ho,h,h2,Instr.indexAt,asIntOf,Sem.run_bind,Sem.run_pure,run_underlying ht,Result.andThen_ok,h3,h4,and_self,if_true,run_sizeOf hm,lz]
 unfold bB at hv
 split at hv
 ·rename_i rows k q hb vD
  split at hv
  ·rename_i hq
   simp only[Option.bind_eq_some_iff]at hv
   obtain⟨cs,dY,hv⟩:=hv
   split at hv
   ·rename_i hlen
    simp at hv;subst hv
    rw[hb]at hr;rw[vD]at GU
    have eu:=(List.getElem?_eq_some_iff.1 dY).1
    obtain⟨A,c,h,h1,h2,h3⟩:=zF hr
    rcases h3 with h3|⟨b,oo,sz,vs,rfl,hD,hl,fl,hc,hi⟩
    ·subst h3;simp at dY
    have fI:sz=m+1:=by rw[<-hlen,hl cs (List.mem_of_getElem? dY)]
    refine⟨_,go b oo _ _ k q h (dR GU) hq ah,.eP _ _ (.dQ cs b _ (vs q.toNat) hD (fl cs (List.mem_of_getElem? dY)) (fun j hj=>?_) (fun j a ha=>hi _ _ _ _ dY ha))⟩
    have:=hc q.toNat j eu (by rw[<-hl cs (List.mem_of_getElem? dY)];exact hj)
    rw[fI]at this
    rw[Nat.add_assoc];exact this
   ·simp at hv
  ·simp at hv
 ·rename_i kK off len k q hb vD
  split at hv
  ·rename_i hq
   simp only[Option.bind_eq_some_iff]at hv
   obtain⟨r,Ln,hv⟩:=hv
   split at hv
   ·rename_i Bi
    simp at hv;subst hv
    rw[hb]at hr;rw[vD]at GU
    obtain⟨oo,cap,B,h,hB,h1,h2,h3,h4,hk⟩:=je hr
    obtain⟨B',ec,R,_,_⟩:=S.row _ _ Ln
    rw[hB]at ec;injection ec with ec;subst ec
    replace R:=R.row hk
    have fI:B.sz=m+1:=R.sz.trans Bi
    refine⟨_,go _ _ _ _ k q h (dR GU) hq.1 hq.2,?_⟩
    have FT:oo=off*B.sz:=by rcases h2 with h2|h2<;>omega
    have:oo+q.toNat*(m+1)=(off+q.toNat)*B.sz+0:=by rw[FT,<-fI,Nat.add_mul];rfl
    rw[this]
    exact .ptr _ _ _ _ hB hk
   ·simp at hv
  ·simp at hv
 ·simp at hv
theorem U8 {x i:Operand} {x' i':O} {t e:TypeId} {m len:Nat} (E:cY P w D ι env a) (ho:o.op=.indexAddr t x i) (ht:P.underlying t=some (.array len e)) (hm:eF P e=some (m+1)) (hx:cO P x=some x') (hi:cO P i=some i')
  (hv:cF len (m+1) (dh env x') (dh env i')=some v):pW P a o w D ι v:=by
 have hr:=dV E hx
 have GU:=dV E hi
 have go:∀b oo k (q:Int),a.eval x=.pointer (some ⟨b,oo,none⟩)->a.eval i=.int k q->0<=q->q<len->(execOp a.eval o).run P w=.ok (.value (.pointer (some ⟨b,oo+q.toNat*(m+1),none⟩))) w:=fun b oo k q h h2 h3 h4=>by
  simp only[execOp,ho,h,h2,Instr.indexAt,asIntOf,Sem.run_bind,Sem.run_pure,run_underlying ht,Instr.sureAddr,Result.andThen_ok,h3,h4,and_self,if_true,run_sizeOf hm,lz]
 unfold cF at hv
 split at hv
 ·rename_i kK r oo k q hb vD
  split at hv
  ·rename_i hq
   simp at hv;subst hv
   rw[hb]at hr;rw[vD]at GU
   obtain⟨B,h,hB,hk⟩:=iR hr
   refine⟨_,go _ _ k q h (dR GU) hq.1 hq.2,?_⟩
   rw[Nat.add_assoc]
   exact .ptr _ _ _ _ hB hk
  ·simp at hv
 ·rename_i cs k q hb vD
  split at hv
  ·rename_i hq
   simp at hv;subst hv
   rw[hb]at hr;rw[vD]at GU
   obtain⟨b,oo,vs,h,h1,h2,h3,h4⟩:=mv hr
   refine⟨_,go _ _ k q h (dR GU) hq.1 hq.2,.eP _ _ (.dQ _ _ _ (fun j=>vs (q.toNat*(m+1)+j)) h1 (fun a ha=>h2 a (List.mem_of_mem_drop ha)) (fun j hj=>?_) (fun j a ha=>h4 _ _ (by simpa using ha)))⟩
   rw[Nat.add_assoc]
   exact h3 _ (by simp at hj;omega)
  ·simp at hv
 ·simp at hv
theorem Va {x i:Operand} {x' i':O} {t:TypeId} (E:cY P w D ι env a) (ho:o.op=.index t x i) (ht:P.underlying t=some .string) (hx:cO P x=some x') (hi:cO P i=some i')
  (hv:cH (dh env x') (dh env i')=some v):pW P a o w D ι v:=by
 have hr:=dV E hx
 have GU:=dV E hi
 unfold cH at hv
 split at hv
 ·rename_i s k q hb vD
  split at hv
  ·rename_i hq
   simp only[Option.map_eq_some_iff]at hv
   obtain⟨c,hc,rfl⟩:=hv
   rw[hb]at hr;rw[vD]at GU
   refine⟨_,?_,.eP _ _ (.int _ _)⟩
   simp only[execOp,ho,gq hr,dR GU,Instr.index,asIntOf,Sem.run_bind,Sem.run_pure,run_underlying ht,Result.andThen_ok,hq,if_true,hc]
  ·simp at hv
 ·simp at hv
theorem U9 {x i:Operand} {x' i':O} {t e:TypeId} {ag:Bool} {len n:Nat} (E:cY P w D ι env a) (ho:o.op=.index t x i) (ht:P.underlying t=some (.array len e)) (wV:od P e=some ag) (hn:eF P e=some n) (hx:cO P x=some x') (hi:cO P i=some i')
  (hv:cG ag len n (dh env x') (dh env i')=some v):pW P a o w D ι v:=by
 have hr:=dV E hx
 have GU:=dV E hi
 unfold cG at hv
 split at hv
 ·rename_i cs k q hb vD
  split at hv
  ·rename_i hq
   rw[hb]at hr;rw[vD]at GU
   obtain⟨vs,f,h,n1,fl,f1,r1⟩:=jd hr
   have go:∀u,(Go.part e vs (q.toNat*n)).run P w=.ok u w->(execOp a.eval o).run P w=.ok (.value u) w:=fun u hu=>by
    simp only[execOp,ho,h,dR GU,Instr.index,asIntOf,Sem.run_bind,Sem.run_pure,run_underlying ht,Result.andThen_ok,hq,and_self,if_true,run_sizeOf hn,hu]
   unfold part at hv
   cases ag with
   |true=>
    simp only[if_true]at hv
    split at hv
    ·rename_i hl
     simp at hv;subst hv
     simp only[List.length_drop]at hl
     by_cases Lr:n=0
     ·subst Lr
      refine⟨_,go _ (rn wV hn),.agg _ _ (fun _=>undef) (by simp) (fun a ha=>by simp at ha) (fun j hj=>by simp at hj) (fun j a ha=>by simp at ha)⟩
     refine⟨_,go _ (rn wV hn),.agg _ _ (fun j=>f (q.toNat*n+j)) (by simp[n1];omega) (fun a ha=>fl a (List.mem_of_mem_drop (List.mem_of_mem_take ha))) (fun j hj=>?_) (fun j a ha=>?_)⟩
     ·simp at hj
      rw[Array.getElem?_extract,if_pos ah];exact f1 _ ah
     ·rw[List.getElem?_take]at ha
      split at ha
      ·exact r1 _ _ (by simpa using ha)
      ·simp at ha
    ·simp at hv
   |false=>
    simp only[Bool.false_eq_true,if_false]at hv
    have pU:cs[q.toNat*n]? =some v:=by simpa[List.head?_drop]using hv
    have eu:=(List.getElem?_eq_some_iff.1 pU).1
    exact⟨_,go _ (oE wV (f1 _ eu)),r1 _ _ pU⟩
  ·simp at hv
 ·simp at hv
theorem Lh {x:Operand} {x':O} {i:Nat} (E:cY P w D ι env a) (ho:o.op=.extract x i) (hx:cO P x=some x') (hv:aH i (dh env x')=some v):pW P a o w D ι v:=by
 have hr:=dV E hx
 unfold aH at hv
 split at hv
 ·rename_i vs hb
  rw[hb]at hr
  obtain⟨us,f,h,h1,h2,h3⟩:=ye hr
  have eu:=(List.getElem?_eq_some_iff.1 hv).1
  exact⟨_,by simp only[execOp,ho,h,Instr.extract,h2 _ eu];rfl,h3 _ _ hv⟩
 ·simp at hv
theorem Yh {x:Operand} {x':O} {t:TypeId} {e:TypeId} {n:Nat} (E:cY P w D ι env a) (ho:o.op=.call {callee:=.builtin .len,args:= #[x],argTypes:= #[t]}) (ht:P.underlying t=some (.slice e)) (hx:cO P x=some x') (hv:dG (dh env x')=some n):pW P a o w D ι (.int .i64 n):=by
 have hr:=dV E hx
 have go:∀A c,a.eval x=.slice A n c->(execOp a.eval o).run P w=.ok (.value (.int .i64 n)) w:=fun A c h=>by
  simp only[execOp,ho,resolve,Sem.run_bind,Sem.run_pure,Result.andThen_ok,invoke,builtin,Array.map,h]
  simp[Builtin.len_,run_underlying ht,goInt,h]
 refine⟨.int .i64 n,?_,.eP _ _ (.int _ _)⟩
 unfold dG at hv
 split at hv<;>simp at hv<;>subst hv<;>rename_i hb<;>rw[hb]at hr
 ·exact go _ _ (jv hr)
 ·obtain⟨A,c,h,_⟩:=zF hr;exact go _ _ h
 ·obtain⟨oo,cap,B,h,_⟩:=je hr;exact go _ _ h
theorem Vc {x:Operand} {x':O} {t:TypeId} (E:cY P w D ι env a) (ho:o.op=.call {callee:=.builtin .len,args:= #[x],argTypes:= #[t]}) (ht:P.underlying t=some .string) (hx:cO P x=some x') (hv:cJ (dh env x')=some v):pW P a o w D ι v:=by
 have hr:=dV E hx
 unfold cJ at hv
 split at hv
 ·rename_i s hb
  simp at hv;subst hv
  rw[hb]at hr
  have h:=gq hr
  refine⟨_,?_,.eP _ _ (.int _ _)⟩
  simp only[execOp,ho,resolve,Sem.run_bind,Sem.run_pure,Result.andThen_ok,invoke,builtin,Array.map,h]
  simp[Builtin.len_,run_underlying ht,goInt,h]
 ·simp at hv
theorem pf {isS:Bool} {len cap h l:Nat} {lo hi:Option Operand} {R3 tj:Option O} (E:cY P w D ι env a) (j9:tL P lo=some R3) (FW:tL P hi=some tj) (hh:dy len (tj.map (dh env))=some h) (hl:dz h (R3.map (dh env))=some l) (hc:len<=cap):
  (Instr.sliceBounds isS len cap (lo.map a.eval) (hi.map a.eval) none).run P w=.ok (l,h,cap) w/\l<=h/\h<=len:=by
 have bound:∀(x:Operand) (y:O) (k:IntKind) (n:Int) (m:Nat) (c:BoundsCode),cO P x=some y->dh env y=.int k n->0<=n->n<=m->(Instr.sliceBound (a.eval x) m c).run P w=.ok n.toNat w:=fun x y k n m c hx hy h0 h1=>by
  have hr:=dV E hx
  rw[hy]at hr
  simp only[Instr.sliceBound,dR hr,asIntOf,Sem.run_bind,Sem.run_pure,Result.andThen_ok,h0,h1,and_self,if_true]
 have H:h<=len/\((hi=none/\h=len)∨∃x,hi=some x/\∀c,(Instr.sliceBound (a.eval x) cap c).run P w=.ok h w):=by
  cases hi with
  |none=>
   simp[tL]at FW;subst FW
   simp[dy]at hh;subst hh
   exact⟨Nat.le_refl _,.inl ⟨rfl,rfl⟩⟩
  |some x=>
   simp only[tL,Option.map_eq_some_iff]at FW
   obtain⟨y,hy,rfl⟩:=FW
   simp only[Option.map_some,dy]at hh
   split at hh
   ·rename_i e;cases e
   ·rename_i k n e
    injection e with e
    split at hh
    ·rename_i hn
     simp at hh;subst hh
     exact⟨ah,.inr ⟨x,rfl,fun c=>bound x y k n _ _ hy e hn.1 ah⟩⟩
    ·simp at hh
   ·simp at hh
 have L:l<=h/\((lo=none/\l=0)∨∃x,lo=some x/\∀c,(Instr.sliceBound (a.eval x) h c).run P w=.ok l w):=by
  cases lo with
  |none=>
   simp[tL]at j9;subst j9
   simp[dz]at hl;subst hl
   exact⟨Nat.zero_le _,.inl ⟨rfl,rfl⟩⟩
  |some x=>
   simp only[tL,Option.map_eq_some_iff]at j9
   obtain⟨y,hy,rfl⟩:=j9
   simp only[Option.map_some,dz]at hl
   split at hl
   ·rename_i e;cases e
   ·rename_i k n e
    injection e with e
    split at hl
    ·rename_i hn
     simp at hl;subst hl
     exact⟨ah,.inr ⟨x,rfl,fun c=>bound x y k n h _ hy e hn.1 hn.2⟩⟩
    ·simp at hl
   ·simp at hl
 refine⟨?_,L.1,H.1⟩
 unfold Instr.sliceBounds
 rcases H.2 with⟨rfl,rfl⟩|⟨x,rfl,hx⟩<;>rcases L.2 with⟨rfl,rfl⟩|⟨y,rfl,hy⟩<;>
  simp only[Option.map_none,Option.map_some,Sem.run_bind,Sem.run_pure,Result.andThen_ok, *]
theorem Rg {x:Operand} {x':O} {lo hi:Option Operand} {R3 tj:Option O} {t e:TypeId} {m:Nat} (S:gK P hs D ι g w) (E:cY P w D ι env a) (ho:o.op=.slice t x lo hi none) (ht:P.underlying t=some (.slice e)) (hm:eF P e=some m) (hx:cO P x=some x') (j9:tL P lo=some R3) (FW:tL P hi=some tj)
  (hv:bD g m (dh env x') (R3.map (dh env)) (tj.map (dh env))=some v):pW P a o w D ι v:=by
 have hr:=dV E hx
 have go:∀A len cap l h,a.eval x=.slice A len cap->(Instr.sliceBounds true len cap (lo.map a.eval) (hi.map a.eval) none).run P w=.ok (l,h,cap) w->(execOp a.eval o).run P w=.ok (.value (.slice (if cap=l then A else A.map (·.add (l*m))) (h-l) (cap-l))) w:=fun A len cap l h h1 h2=>by
  simp only[execOp,ho,h1,Instr.sliceAt,Instr.slice,Sem.run_bind,Sem.run_pure,run_underlying ht,Result.andThen_ok,Option.map_none,h2,run_sizeOf hm]
 unfold bD at hv
 split at hv
 ·rename_i hb
  rw[hb]at hr
  simp only[Option.bind_eq_some_iff,Option.map_eq_some_iff]at hv
  obtain⟨h,hh,l,hl,rfl⟩:=hv
  obtain⟨q,q1,q2⟩:=pf (w:=w) (isS:=true) (cap:=0) E j9 FW hh hl (Nat.le_refl _)
  have h0:h=0:=ah
  have l0:l=0:=ah
  subst h0;subst l0
  refine⟨_,go _ _ _ _ _ (jv hr) q,?_⟩
  simp;exact .eP _ _ .bU
 ·rename_i rows hb
  rw[hb]at hr
  simp only[Option.bind_eq_some_iff,Option.map_eq_some_iff]at hv
  obtain⟨h,hh,l,hl,hv⟩:=hv
  split at hv
  ·rename_i ep
   simp at hv;subst hv
   obtain⟨A,c,he,c1,c2,h3⟩:=zF hr
   obtain⟨q,q1,q2⟩:=pf (w:=w) (isS:=true) (cap:=c) E j9 FW hh hl c1
   refine⟨_,go _ _ _ _ _ he q,.eP _ _ ?_⟩
   have hlen:((rows.drop l).take (h-l)).length=h-l:=by simp;omega
   by_cases hz:h-l=0
   ·have:(rows.drop l).take (h-l)=[]:=by rw[hz];simp
    rw[this,hz]
    exact .Dn _ _ ah
   ·rcases h3 with h3|⟨b,oo,sz,vs,rfl,hD,O1,fl,hc,hi⟩
    ·subst h3;simp at q2;omega
    rw[if_neg ah]
    simp only[Option.map_some,lz]
    have Er:sz=m:=by
     have eu:l<rows.length:=ah
     have:=ep rows[l] (List.getElem_mem eu)
     rw[<-this,O1 _ (List.getElem_mem eu)]
    subst Er
    refine .sl _ b _ _ _ sz (fun i j=>vs (l+i) j) hlen ah ah hD (fun cs dY=>O1 cs (List.mem_of_mem_drop (List.mem_of_mem_take dY))) (fun cs dY=>fl cs (List.mem_of_mem_drop (List.mem_of_mem_take dY))) (fun i j hi hj=>?_) (fun i j cs a dY ha=>?_)
    ·rw[<-hc (l+i) j ah hj,Nat.add_mul]
     congr 2;omega
    ·rw[List.getElem?_take]at dY
     split at dY
     ·exact hi _ _ _ _ (by simpa using dY) ha
     ·simp at dY
  ·simp at hv
 ·rename_i kK off len hb
  rw[hb]at hr
  simp only[Option.bind_eq_some_iff,Option.map_eq_some_iff]at hv
  obtain⟨r,Ln,h,hh,l,hl,hv⟩:=hv
  split at hv
  ·rename_i Bi
   simp at hv;subst hv
   obtain⟨oo,cap,B,he,hB,h1,h2,h3,h4,hk⟩:=je hr
   obtain⟨B',ec,R,_,_⟩:=S.row _ _ Ln
   rw[hB]at ec;injection ec with ec;subst ec
   replace R:=R.row hk
   have fI:B.sz=m:=R.sz.trans Bi
   obtain⟨q,q1,q2⟩:=pf (w:=w) (isS:=true) (cap:=cap) E j9 FW hh hl h1
   refine⟨_,go _ _ _ _ _ he q,?_⟩
   have e1:(off+l+(cap-l))*B.sz<=B.C:=by rw[show off+l+(cap-l)=off+cap by omega];exact h3
   by_cases nH:cap=l
   ·rw[if_pos nH]
    exact .own _ _ _ _ _ B hB hk ah (.inl ah) e1 ah
   ·rw[if_neg nH]
    simp only[Option.map_some,lz]
    have FT:oo=off*B.sz:=by rcases h2 with h2|h2<;>omega
    exact .own _ _ _ _ _ B hB hk ah (.inr (by rw[FT,fI,Nat.add_mul])) e1 ah
  ·simp at hv
 ·simp at hv
theorem OM {x:Operand} {x':O} {lo hi:Option Operand} {R3 tj:Option O} {t:TypeId} (E:cY P w D ι env a) (ho:o.op=.slice t x lo hi none) (ht:P.underlying t=some .string) (hx:cO P x=some x') (j9:tL P lo=some R3) (FW:tL P hi=some tj)
  (hv:aU (dh env x') (R3.map (dh env)) (tj.map (dh env))=some v):pW P a o w D ι v:=by
 have hr:=dV E hx
 unfold aU at hv
 split at hv
 ·rename_i s hb
  rw[hb]at hr
  simp only[Option.bind_eq_some_iff,Option.map_eq_some_iff]at hv
  obtain⟨h,hh,l,hl,rfl⟩:=hv
  obtain⟨q,_,_⟩:=pf (w:=w) (isS:=false) E j9 FW hh hl (Nat.le_refl _)
  refine⟨_,?_,.eP _ _ (.str _)⟩
  simp only[execOp,ho,gq hr,Instr.sliceAt,Instr.slice,Sem.run_bind,Sem.run_pure,run_underlying ht,Result.andThen_ok,Option.map_none,Option.isSome_none,Bool.false_eq_true,if_false,q]
 ·simp at hv
theorem Hp {xs:List Operand} {ys:List O} (E:cY P w D ι env a) (h:xs.mapM (cO P)=some ys):(xs.map a.eval).length=ys.length/\∀j y,ys[j]? =some y->dm P w D ι (dh env y) ((xs.map a.eval).getD j undef):=by
 induction xs generalizing ys with
 |nil=>simp at h;subst h;simp
 |cons x r ih=>
  simp only[List.mapM_cons,Option.bind_eq_bind,Option.bind_eq_some_iff]at h
  obtain⟨c,hc,r7,dY,h⟩:=h
  simp at h;subst h
  obtain⟨h1,h2⟩:=ih dY
  refine⟨by simpa using h1,fun j d hd=>?_⟩
  cases j with
  |zero=>simp at hd ⊢;subst hd;exact dV E hc
  |succ j=>simp at hd ⊢;simpa using h2 j d hd
theorem Vf {f:Nat} {first dv:Array Operand} {DM:List O} (E:cY P w D ι env a) (ho:o.op=.makeFunc (.func f) first dv) (hf:first= #[]) (hc:gE P f=true) (hx:dv.toList.mapM (cO P)=some DM):pW P a o w D ι (.fn f (DM.map (dh env))):=by
 subst hf
 obtain⟨h1,h2⟩:=Hp E hx
 refine⟨.func (.func f) #[] (dv.map a.eval),by simp only[execOp,ho,Instr.makeFunc,Sem.run_bind,Sem.run_pure,Result.andThen_ok];simp,.fn _ _ _ (fun j=>(dv.toList.map a.eval).getD j undef) hc (by simpa using h1) (fun j hj=>?_) (fun j x VU=>?_)⟩
 ·simp at hj h1
  have:j<dv.size:=ah
  simp[this]
 ·simp only[List.getElem?_map,Option.map_eq_some_iff]at VU
  obtain⟨y,hy,rfl⟩:=VU
  exact h2 j y hy
theorem Vg {f:Nat} {first dv:Array Operand} {DM:List O} (E:cY P w D ι env a) (ho:o.op=.makeFunc (.func f) first dv) (hf:dv= #[]) (hc:gE P f=true) (hx:first.toList.mapM (cO P)=some DM):pW P a o w D ι (.xf f (DM.map (dh env))):=by
 subst hf
 obtain⟨h1,h2⟩:=Hp E hx
 refine⟨.func (.func f) (first.map a.eval) #[],by simp only[execOp,ho,Instr.makeFunc,Sem.run_bind,Sem.run_pure,Result.andThen_ok];simp,.xf _ _ _ (fun j=>(first.toList.map a.eval).getD j undef) hc (by simpa using h1) (fun j hj=>?_) (fun j x VU=>?_)⟩
 ·simp at hj h1
  have:j<first.size:=ah
  simp[this]
 ·simp only[List.getElem?_map,Option.map_eq_some_iff]at VU
  obtain⟨y,hy,rfl⟩:=VU
  exact h2 j y hy
end
end Go.Proofs.YtainmfbpilopaaaGreatDoor.V

namespace Go.Proofs.YtainmfbpilopaaaGreatDoor.V
open Go.RowKit
variable {P:Program} {w w':World} {D D':Nat->Prop} {ι ι':Names}
def Mk (P:Program) (a:Act) (o:Oper) (w:World) (D:Nat->Prop) (ι:Names) (id:Id) (v:AV) (r:Row):Prop:=
 ∃u cells T,(execOp a.eval o).run P w=.ok (.value u) (w.alloc (.cells cells T))/\r.w=true/\r.rows.length*r.sz<=cells.size/\(∀cs∈r.rows,cs.length=r.sz)/\(∀cs∈r.rows,∀a∈cs,a.cell=true)/\
  (∀i j cs a,r.rows[i]? =some cs->cs[j]? =some a->∃x,cells[i*r.sz+j]? =some x/\dm P w D ι a x)/\∀ι':Names,ι' id=some ⟨w.heap.size,r.sz,cells.size,none⟩->dm P w D ι' v u
section
variable {g:Rows} {hs:Nat} {env:Env} {a:Act} {o:Oper} {id:Id} {v:AV}
theorem kL {vs:List Value} {cs:List K} (h:vs.mapM J8=some cs):fQ P w D ι (cs.map K.av) vs.toArray:=by
 obtain⟨h1,h2⟩:=uo h
 refine⟨by simp[h1],fun j a ha=>?_⟩
 simp only[List.getElem?_map,Option.map_eq_some_iff]at ha
 obtain⟨c,hc,rfl⟩:=ha
 exact⟨c.val,by simpa using h2 j c hc,zC c⟩
theorem k8 {t:TypeId} {z:List K} (h:kF P t=some z):∃i v,P.info? t=some i/\i.zero=some v/\v.cells.size=i.size/\v.cells.toList.mapM J8=some z/\z.length=i.size:=by
 unfold kF at h
 split at h
 ·rename_i i hi
  split at h
  ·rename_i v hv
   split at h
   ·rename_i hs
    exact⟨i,v,hi,hv,hs,h,by rw[(uo h).1];simpa using hs⟩
   ·simp at h
  ·simp at h
 ·simp at h
theorem IP {cs:List AV} {cells:Array Value} (h:fQ P w D ι cs cells):∀i j c a,[cs][i]? =some c->c[j]? =some a->∃x,cells[i*cs.length+j]? =some x/\dm P w D ι a x:=by
 intro i j c a hi hj
 cases i with
 |zero=>simp at hi;subst hi;simpa using h.2 j a hj
 |succ i=>simp at hi
theorem XH {t:TypeId} {z:List K} (ho:o.op=.alloc t) (hz:kF P t=some z):Mk P a o w D ι id (.ptr id 0 0) ⟨true,z.length,[z.map K.av]⟩:=by
 obtain⟨i,v,hi,hv,hs,hm,hl⟩:=k8 hz
 have hk:=kL (P:=P) (w:=w) (D:=D) (ι:=ι) hm
 refine⟨.pointer (some ⟨w.heap.size,0,none⟩),v.cells,t,?_,rfl,?_,?_,?_,?_,?_⟩
 ·simp only[execOp,ho,Instr.alloc,zeroValue,typeInfo,Sem.run_bind]
  simp[hi,hv,newVar,newRow]
 ·simp[hl,hs]
 ·intro cs dY;simp at dY;subst dY;simp
 ·intro cs dY x hx;simp at dY;subst dY
  obtain⟨c,_,rfl⟩:=List.mem_map.1 hx;exact c.oP
 ·have:=IP hk;simpa using this
 ·intro ι' hι
  have:=dm.ptr (P:=P) (w:=w) (D:=D) (ι:=ι') id 0 0 _ hι rfl
  simpa using this
theorem s7 {x:AV} {u:Value} (h:dm P w D ι x u) (hc:x.cells.all AV.cell=true):fQ P w D ι x.cells u.cells:=by
 obtain⟨h1,f,h2,h3⟩:=h.cells hc
 exact⟨h1,fun j a ha=>⟨f j,h2 j (List.getElem?_eq_some_iff.1 ha).1,h3 j a ha⟩⟩
theorem XF {t:TypeId} {x:Operand} {x':O} {cs:List AV} (E:cY P w D ι env a) (ho:o.op=.box t x) (hx:cO P x=some x') (hb:cC (dh env x')=some cs):Mk P a o w D ι id (.ptr id 0 0) ⟨true,cs.length,[cs]⟩:=by
 have hr:=dV E hx
 unfold cC at hb
 split at hb
 ·rename_i ep
  simp at hb;subst hb
  have hk:=s7 hr ep
  refine⟨.pointer (some ⟨w.heap.size,0,none⟩),(a.eval x).cells,t,?_,rfl,?_,?_,?_,?_,?_⟩
  ·simp only[execOp,ho,Instr.box,Sem.run_bind]
   simp[newVar,newRow]
  ·simp[hk.1]
  ·intro cs dY;simp at dY;subst dY;rfl
  ·intro cs dY y hy;simp at dY;subst dY
   exact List.all_eq_true.1 ep y hy
  ·exact IP hk
  ·intro ι' hι
   have:=dm.ptr (P:=P) (w:=w) (D:=D) (ι:=ι') id 0 0 _ hι rfl
   simpa using this
 ·simp at hb
theorem foldl_set:∀(vs:List Value) (n off:Nat) (cells:Array Value),off+n+vs.length<=cells.size->((vs.zipIdx n).foldl (fun cs (x:Value×Nat)=>cs.setIfInBounds (off+x.2) x.1) cells).size=cells.size/\
  ∀k,((vs.zipIdx n).foldl (fun cs (x:Value×Nat)=>cs.setIfInBounds (off+x.2) x.1) cells)[k]? =if off+n<=k/\k<off+n+vs.length then vs[k-(off+n)]? else cells[k]?
 |[],n,off,cells,_=>⟨rfl,fun k=>by simp;intro h1 h2;omega⟩
 |v::r,n,off,cells,h=>by
  simp only[List.length_cons]at h
  obtain⟨h1,h2⟩:=foldl_set r (n+1) off (cells.setIfInBounds (off+n) v) (by simp;omega)
  simp only[List.zipIdx_cons,List.foldl_cons]
  refine⟨by rw[h1];simp,fun k=>?_⟩
  rw[h2 k]
  simp only[List.length_cons]
  by_cases hk:k=off+n
  ·subst hk
   rw[if_neg ah,if_pos ah]
   simp[show off+n<cells.size by omega]
  ·by_cases vJ:off+n<=k/\k<off+n+(r.length+1)
   ·rw[if_pos ah,if_pos vJ]
    have:k-(off+n)=(k-(off+(n+1)))+1:=ah
    rw[this,List.getElem?_cons_succ]
   ·rw[if_neg ah,if_neg vJ,Array.getElem?_setIfInBounds_ne ah]
theorem yP (place:Nat->Option (Nat×Nat)):∀(ps:List (Nat×Value)) (qs:List (Nat×Nat×AV)) (cells:Array Value) (cs res:List AV),fQ P w D ι cs cells->(∀a∈cs,a.cell=true)->ps.length=qs.length->
  (∀(k:Nat) i u o' n x,ps[k]? =some (i,u)->qs[k]? =some (o',n,x)->place i=some (o',n)/\dm P w D ι x u)->cm cs qs=some res->∃j5,Instr.fill place cells ps=some j5/\fQ P w D ι res j5/\(∀a∈res,a.cell=true)/\res.length=cs.length:=by
 intro ps
 induction ps with
 |nil=>
  intro qs cells cs res hR hf hl _ hv
  cases qs with
  |nil=>simp[cm]at hv;subst hv;exact⟨cells,rfl,hR,hf,rfl⟩
  |cons q r=>simp at hl
 |cons p ps ih=>
  intro qs cells cs res hR hf hl hp hv
  cases qs with
  |nil=>simp at hl
  |cons q qs=>
   obtain⟨i,u⟩:=p
   obtain⟨oo,n,x⟩:=q
   obtain⟨lY,hr⟩:=hp 0 i u oo n x rfl rfl
   unfold cm at hv
   split at hv
   ·rename_i hc
    obtain⟨c1,c2,c3⟩:=hc
    have hk:=s7 hr c3
    have hus:u.cells.size=n:=by rw[hk.1,c1]
    have dY:cells.size=cs.length:=hR.1
    unfold Instr.fill
    simp only[lY]
    rw[if_neg (by rw[hus,dY];simp;omega)]
    obtain⟨s1,s2⟩:=foldl_set u.cells.toList 0 oo cells (by simp;omega)
    have e0:(u.cells.zipIdx.foldl (fun cs (x:Value×Nat)=>cs.setIfInBounds (oo+x.2) x.1) cells)=(u.cells.toList.zipIdx 0).foldl (fun cs (x:Value×Nat)=>cs.setIfInBounds (oo+x.2) x.1) cells:=by
     rw[<-Array.foldl_toList];simp
    have xH:=ih qs (u.cells.zipIdx.foldl (fun cs (x:Value×Nat)=>cs.setIfInBounds (oo+x.2) x.1) cells) (cs.take oo++x.cells++cs.drop (oo+n)) res ?_ ?_ (by simpa using hl) (fun k i u o' n x h1 h2=>hp (k+1) i u o' n x (by simpa using h1) (by simpa using h2)) hv
    ·obtain⟨j5,h1,h2,h3,h4⟩:=xH
     refine⟨j5,h1,h2,h3,?_⟩
     rw[h4];simp;omega
    ·rw[e0]
     refine⟨by rw[s1,dY];simp;omega,fun j a ha=>?_⟩
     rw[s2 j]
     simp only[Nat.add_zero,Array.length_toList]
     by_cases hj:oo<=j/\j<oo+u.cells.size
     ·rw[if_pos hj]
      rw[List.append_assoc,List.getElem?_append_right (by simp;omega),List.getElem?_append_left (by simp;omega)]at ha
      simp only[List.length_take]at ha
      rw[show min oo cs.length=oo by omega]at ha
      simpa using hk.2 _ _ ha
     ·rw[if_neg hj]
      by_cases RN:j<oo
      ·rw[List.append_assoc,List.getElem?_append_left (by simp;omega),List.getElem?_take,if_pos RN]at ha
       exact hR.2 _ _ ha
      ·rw[List.getElem?_append_right (by simp;omega)]at ha
       simp only[List.length_append,List.length_take,List.getElem?_drop]at ha
       rw[show oo+n+(j-(min oo cs.length+x.cells.length))=j by omega]at ha
       exact hR.2 _ _ ha
    ·intro b hb
     rcases List.mem_append.1 hb with hb|hb
     ·rcases List.mem_append.1 hb with hb|hb
      ·exact hf b (List.mem_of_mem_take hb)
      ·exact List.all_eq_true.1 c3 b hb
     ·exact hf b (List.mem_of_mem_drop hb)
   ·simp at hv
theorem Ap {fs:List Field} (h:∀f∈fs,(P.info? f.type).isSome=true):∃places,fs.mapM (fun f=>(P.info? f.type).map fun i=>(f.offset,i.size))=some places/\∀(i:Nat) (f:Field) (n:Nat),fs[i]? =some f->eF P f.type=some n->places[i]? =some (f.offset,n):=by
 induction fs with
 |nil=>exact⟨[],rfl,fun i f n h=>by simp at h⟩
 |cons f r ih=>
  obtain⟨q,h1,h2⟩:=ih (fun x hx=>h x (List.mem_cons_of_mem _ hx))
  obtain⟨i,hi⟩:=Option.isSome_iff_exists.1 (h f (by simp))
  refine⟨(f.offset,i.size)::q,by simp[hi,h1],fun k x n hk hn=>?_⟩
  cases k with
  |zero=>simp at hk;subst hk;simp[eF,hi]at hn;subst hn;rfl
  |succ k=>simp at hk ⊢;exact h2 k x n hk hn
theorem so {ps:List (Nat×Operand)} {l:List (Nat×O)} (E:cY P w D ι env a) (h:ps.mapM (fun(x:Nat×Operand)=>(cO P x.2).map (x.1,·))=some l):l.length=ps.length/\∀(k i:Nat) (y:O),l[k]? =some (i,y)->∃x,ps[k]? =some (i,x)/\cO P x=some y:=by
 induction ps generalizing l with
 |nil=>simp at h;subst h;simp
 |cons p r ih=>
  simp only[List.mapM_cons,Option.bind_eq_bind,Option.bind_eq_some_iff]at h
  obtain⟨c,hc,r7,dY,h⟩:=h
  simp at h;subst h
  obtain⟨h1,h2⟩:=ih dY
  simp only[Option.map_eq_some_iff]at hc
  obtain⟨y,hy,rfl⟩:=hc
  refine⟨by simp[h1],fun k i z hk=>?_⟩
  cases k with
  |zero=>simp at hk;obtain⟨rfl,rfl⟩:=hk;exact⟨p.2,rfl,hy⟩
  |succ k=>simp at hk ⊢;exact h2 k i z hk
theorem Gj {fs:Array Field} {l:List (Nat×O)} {q:List (Nat×Nat×O)} (h:u9 P fs l=some q):q.length=l.length/\∀(k oo n:Nat) (y:O),q[k]? =some (oo,n,y)->∃(i:Nat) (f:Field),l[k]? =some (i,y)/\fs[i]? =some f/\f.offset=oo/\eF P f.type=some n:=by
 induction l generalizing q with
 |nil=>simp[u9]at h;subst h;simp
 |cons p r ih=>
  obtain⟨i,x⟩:=p
  unfold u9 at h
  split at h
  ·rename_i f hf
   split at h
   ·rename_i n hn
    simp only[Option.map_eq_some_iff]at h
    obtain⟨q',PY,rfl⟩:=h
    obtain⟨h1,h2⟩:=ih PY
    refine⟨by simp[h1],fun k oo m y hk=>?_⟩
    cases k with
    |zero=>simp at hk;obtain⟨rfl,rfl,rfl⟩:=hk;exact⟨i,f,rfl,hf,rfl,hn⟩
    |succ k=>simp only[List.getElem?_cons_succ]at hk ⊢;exact h2 k oo m y hk
   ·simp at h
  ·simp at h
theorem fQ.agg {xs:List AV} {vs:Array Value} (h:fQ P w D ι xs vs) (hf:∀a∈xs,a.cell=true):dm P w D ι (.agg xs) (.agg vs):=
 .agg xs vs (fun j=>vs.getD j undef) h.1 hf (fun j hj=>by
  have:j<vs.size:=by rw[h.1];exact hj
  simp[this]) (fun j a ha=>by
  obtain⟨u,h1,h2⟩:=h.2 j a ha
  simpa[Array.getD_eq_getD_getElem?,h1]using h2)
theorem Ra {t:TypeId} {ps:Array (Nat×Operand)} {fs:Array Field} {z:List K} {l:List (Nat×O)} {q:List (Nat×Nat×O)} {cs:List AV} (E:cY P w D ι env a) (ho:o.op=.build t ps) (ht:P.underlying t=some (.struct fs)) (hz:kF P t=some z) (hl:vg P ps=some l)
  (tY:∀f∈fs.toList,(P.info? f.type).isSome=true) (hq:u9 P fs l=some q) (hv:cm (z.map K.av) (q.map fun(o,n,x)=>(o,n,dh env x))=some cs):pW P a o w D ι (.agg cs):=by
 obtain⟨it,zv,hi,r9,hs,hm,IE⟩:=k8 hz
 obtain⟨places,lY,hpl2⟩:=Ap tY
 have hk:=kL (P:=P) (w:=w) (D:=D) (ι:=ι) hm
 obtain⟨n1,r1⟩:=so E hl
 obtain⟨n2,r2⟩:=Gj hq
 obtain⟨j5,h1,h2,h3,_⟩:=yP (P:=P) (w:=w) (D:=D) (ι:=ι) (places.toArray[·]?) (ps.toList.map fun(i,x)=>(i,a.eval x)) (q.map fun(o,n,x)=>(o,n,dh env x)) zv.cells _ cs (by simpa using hk)
  (fun b hb=>by obtain⟨c,_,rfl⟩:=List.mem_map.1 hb;exact c.oP) (by simp[n2,n1]) (fun k i u o' n x tk vJ=>by
   simp only[List.getElem?_map,Option.map_eq_some_iff]at tk vJ
   obtain⟨⟨i',x'⟩,hp,e1⟩:=tk
   obtain⟨⟨o2,n',y⟩,PY,e2⟩:=vJ
   simp only[Prod.mk.injEq]at e1 e2
   obtain⟨rfl,rfl⟩:=e1
   obtain⟨rfl,rfl,rfl⟩:=e2
   obtain⟨i2,f,MP,hf,rfl,hn⟩:=r2 _ _ _ _ PY
   obtain⟨x2,F0,hc⟩:=r1 _ _ _ MP
   rw[hp]at F0
   simp only[Option.some.injEq,Prod.mk.injEq]at F0
   obtain⟨rfl,rfl⟩:=F0
   exact⟨by simpa using hpl2 _ _ _ (by simpa using hf) hn,dV E hc⟩) hv
 refine⟨.agg j5,?_,h2.agg h3⟩
 have hb:P.built t ((ps.map fun(i,x)=>(i,a.eval x)).toList)=some j5:=by
  unfold Program.built
  simp only[hi,ht,r9,lY]
  simpa using h1
 simp only[execOp,ho,Sem.run_bind,run_build w t _ _ hb,Result.andThen_ok,Sem.run_pure]
theorem OL {t e:TypeId} {len n:Nat} {ps:Array (Nat×Operand)} {z:List K} {l:List (Nat×O)} {cs:List AV} (E:cY P w D ι env a) (ho:o.op=.build t ps) (ht:P.underlying t=some (.array len e)) (hz:kF P t=some z) (hl:vg P ps=some l) (hn:eF P e=some n)
  (hv:cm (z.map K.av) ((l.map fun(x:Nat×O)=>(x.1*n,n,x.2)).map fun(o,n,x)=>(o,n,dh env x))=some cs):pW P a o w D ι (.agg cs):=by
 obtain⟨it,zv,hi,r9,hs,hm,IE⟩:=k8 hz
 have hk:=kL (P:=P) (w:=w) (D:=D) (ι:=ι) hm
 obtain⟨n1,r1⟩:=so E hl
 obtain⟨ie,GN,fI⟩:∃ie,P.info? e=some ie/\ie.size=n:=by simpa[eF]using hn
 obtain⟨j5,h1,h2,h3,_⟩:=yP (P:=P) (w:=w) (D:=D) (ι:=ι) (fun i=>some (i*ie.size,ie.size)) (ps.toList.map fun(i,x)=>(i,a.eval x)) ((l.map fun(x:Nat×O)=>(x.1*n,n,x.2)).map fun(o,n,x)=>(o,n,dh env x)) zv.cells _ cs (by simpa using hk)
  (fun b hb=>by obtain⟨c,_,rfl⟩:=List.mem_map.1 hb;exact c.oP) (by simp[n1]) (fun k i u o' n' x tk vJ=>by
   simp only[List.getElem?_map,Option.map_eq_some_iff]at tk vJ
   obtain⟨⟨i',x'⟩,hp,e1⟩:=tk
   obtain⟨⟨o2,n2,y⟩,⟨⟨i2,y2⟩,MP,e3⟩,e2⟩:=vJ
   simp only[Prod.mk.injEq]at e1 e2 e3
   obtain⟨rfl,rfl⟩:=e1
   obtain⟨rfl,rfl,rfl⟩:=e2
   obtain⟨rfl,rfl,rfl⟩:=e3
   obtain⟨x2,F0,hc⟩:=r1 _ _ _ MP
   rw[hp]at F0
   simp only[Option.some.injEq,Prod.mk.injEq]at F0
   obtain⟨rfl,rfl⟩:=F0
   exact⟨by rw[fI],dV E hc⟩) hv
 refine⟨.agg j5,?_,h2.agg h3⟩
 have hb:P.built t ((ps.map fun(i,x)=>(i,a.eval x)).toList)=some j5:=by
  unfold Program.built
  simp only[hi,ht,r9,GN]
  simpa using h1
 simp only[execOp,ho,Sem.run_bind,run_build w t _ _ hb,Result.andThen_ok,Sem.run_pure]
theorem yO:∀(vs:List AV) (sz i:Nat) (rs:List (List AV)) (cs:List AV),0<sz->cs.length=(i+vs.length)*sz->rowsOf sz vs=some rs->
  cm cs ((vs.zipIdx i).map fun(v,j)=>(j*sz,sz,v))=some (cs.take (i*sz)++rs.flatten)/\rs.length=vs.length/\(∀c∈rs,c.length=sz)/\∀c∈rs,∀x∈c,x.cell=true
 |[],sz,i,rs,cs,_,hl,h=>by
  simp[rowsOf]at h;subst h
  simp at hl
  simp[cm,List.take_of_length_le (show cs.length<=i*sz by omega)]
 |v::r,sz,i,rs,cs,fI,hl,h=>by
  simp only[rowsOf,Option.bind_eq_some_iff,Option.map_eq_some_iff]at h
  obtain⟨c,hc,rs',Bi,rfl⟩:=h
  unfold rowOf at hc
  split at hc
  ·rename_i Cm
   simp at hc;subst hc
   obtain⟨pY,GH⟩:=Cm
   simp only[List.length_cons]at hl
   have hmul:(i+(r.length+1))*sz=i*sz+sz+r.length*sz:=by rw[Nat.add_mul,Nat.add_mul];omega
   have ih:=yO r sz (i+1) rs' (cs.take (i*sz)++v.cells++cs.drop (i*sz+sz)) fI (by
    simp[pY];rw[Nat.add_mul,Nat.add_mul];omega) Bi
   refine⟨?_,by simp[ih.2.1],?_,?_⟩
   ·simp only[List.zipIdx_cons,List.map_cons,cm]
    rw[if_pos ⟨pY,ah,GH⟩,ih.1]
    congr 1
    rw[List.flatten_cons,<-List.append_assoc]
    congr 1
    rw[Nat.add_mul,Nat.one_mul,List.take_append_of_le_length (by simp[pY];omega)]
    rw[List.take_of_length_le (by simp[pY];omega)]
   ·intro c' lF;rcases List.mem_cons.1 lF with rfl|lF
    ·exact pY
    ·exact ih.2.2.1 c' lF
   ·intro c' lF;rcases List.mem_cons.1 lF with rfl|lF
    ·exact List.all_eq_true.1 GH
    ·exact ih.2.2.2 c' lF
  ·simp at hc
theorem flat_get {α:Type} {qj:List (List α)} {sz:Nat} (h:∀cs∈qj,cs.length=sz) {i j:Nat} {cs:List α} {a:α} (hi:qj[i]? =some cs) (hj:cs[j]? =some a):qj.flatten[i*sz+j]? =some a:=by
 induction qj generalizing i with
 |nil=>simp at hi
 |cons c r ih=>
  have hc:c.length=sz:=h c (by simp)
  cases i with
  |zero=>
   simp at hi;subst hi
   have eu:=(List.getElem?_eq_some_iff.1 hj).1
   rw[List.flatten_cons,List.getElem?_append_left ah];simpa using hj
  |succ i=>
   rw[List.flatten_cons,List.getElem?_append_right (by rw[hc,Nat.succ_mul];omega)]
   have:(i+1)*sz+j-c.length=i*sz+j:=by rw[hc,Nat.succ_mul];omega
   rw[this]
   exact ih (fun cs dY=>h cs (List.mem_cons_of_mem _ dY)) (by simpa using hi)
theorem Mn {α:Type} {qj:List (List α)} {sz:Nat} (h:∀cs∈qj,cs.length=sz):qj.flatten.length=qj.length*sz:=by
 induction qj with
 |nil=>simp
 |cons c r ih=>
  rw[List.flatten_cons,List.length_append,h c (by simp),ih (fun cs dY=>h cs (List.mem_cons_of_mem _ dY)),List.length_cons,Nat.succ_mul];omega
theorem qR {zv:Value} {z:List K} {n:Nat} (hm:zv.cells.toList.mapM J8=some z) (lp:0<z.length):∀k,k<n->∃c,z[k % z.length]? =some c/\((Array.range n).map (zv.cells[· % zv.cells.size]!))[k]? =some c.val:=by
 intro k hk
 obtain⟨h1,h2⟩:=uo hm
 have fI:zv.cells.size=z.length:=by simpa using h1.symm
 have eu:k % z.length<z.length:=Nat.mod_lt _ lp
 refine⟨z[k % z.length],List.getElem?_eq_getElem eu,?_⟩
 have h3:=h2 _ _ (List.getElem?_eq_getElem eu)
 simp only[Array.getElem?_toList]at h3
 have Ep:k % z.length<zv.cells.size:=by rw[fI];exact eu
 rw[Array.getElem?_map,Array.getElem?_range,if_pos hk]
 simp only[Option.map_some]
 rw[fI,getElem!_pos zv.cells (k % z.length) Ep]
 rw[Array.getElem?_eq_getElem Ep]at h3
 exact h3
theorem Nr {t e:TypeId} {len sz:Nat} {ps:Array (Nat×Operand)} {z:List K} {l:List (Nat×O)} {rs:List (List AV)} (E:cY P w D ι env a) (ho:o.op=.buildSlice t len ps) (ht:P.underlying t=some (.slice e)) (fI:eF P e=some (sz+1)) (hz:kF P e=some z)
  (hl:vg P ps=some l) (P0:len*(sz+1)<=4096) (Xp:l.map (·.1)=List.range len) (hv:rowsOf (sz+1) (l.map fun x=>dh env x.2)=some rs):Mk P a o w D ι id (.own id 0 len) ⟨true,sz+1,rs⟩:=by
 obtain⟨it,zv,hi,r9,hs,hm,IE⟩:=k8 hz
 have kC:it.size=sz+1:=by simpa[eF,hi]using fI
 obtain⟨n1,r1⟩:=so E hl
 have Iy:l.length=len:=by have:=congrArg List.length Xp;simpa using this
 by_cases h0:len=0
 ·subst h0
  have O2:l=[]:=List.length_eq_zero_iff.1 Iy
  subst O2
  simp[rowsOf]at hv;subst hv
  have Xl:ps= #[]:=by
   apply Array.ext';apply List.eq_nil_of_length_eq_zero;rw[<-n1];rfl
  subst Xl
  refine⟨.slice (some ⟨w.heap.size,0,none⟩) 0 0, #[],e,?_,rfl,by simp,by simp,by simp,fun i j cs x hi=>by simp at hi,fun ι' hι=>?_⟩
  ·simp[execOp,ho,Instr.buildSlice,run_underlying ht,sizeOf,typeInfo,hi,Instr.fill,newRow,Array.range_zero']
  ·exact .own _ 0 0 0 0 _ hι rfl (Nat.le_refl _) (.inl rfl) (by simp) (by simp[maxLen])
 ·have Ab:fQ P w D ι ((List.range (len*(sz+1))).map fun k=>(z.getD (k % z.length) .bU).av) ((Array.range (len*(sz+1))).map (zv.cells[· % zv.cells.size]!)):=by
   refine⟨by simp,fun j x hx=>?_⟩
   simp only[List.getElem?_map,Option.map_eq_some_iff]at hx
   obtain⟨k,hk,rfl⟩:=hx
   have lN:=(List.getElem?_eq_some_iff.1 hk).1
   simp at lN
   rw[List.getElem?_range lN]at hk
   injection hk with hk
   subst hk
   obtain⟨c,hc,Tw⟩:=qR hm (by rw[IE,kC];omega) j lN
   exact⟨c.val,Tw,by rw[List.getD_eq_getElem?_getD,hc];exact zC c⟩
  obtain⟨f1,f2,f3,f4⟩:=yO (l.map fun x=>dh env x.2) (sz+1) 0 rs ((List.range (len*(sz+1))).map fun k=>(z.getD (k % z.length) .bU).av) ah (by simp[Iy]) hv
  obtain⟨j5,h1,h2,h3,h4⟩:=yP (P:=P) (w:=w) (D:=D) (ι:=ι) (fun i=>some (i*it.size,it.size)) (ps.toList.map fun(i,x)=>(i,a.eval x)) _ _ _ _ Ab
   (fun b hb=>by obtain⟨c,_,rfl⟩:=List.mem_map.1 hb;exact K.oP _) (by simp[n1]) (fun k i u o' n x tk vJ=>by
   simp only[List.getElem?_map,Option.map_eq_some_iff]at tk vJ
   obtain⟨⟨i',x'⟩,hp,e1⟩:=tk
   obtain⟨⟨v2,j2⟩,PY,e2⟩:=vJ
   simp only[Prod.mk.injEq]at e1 e2
   obtain⟨rfl,rfl⟩:=e1
   obtain⟨rfl,rfl,rfl⟩:=e2
   rw[List.getElem?_zipIdx]at PY
   simp only[List.getElem?_map,Option.map_map,Option.map_eq_some_iff,Function.comp_apply,Prod.mk.injEq,Nat.zero_add]at PY
   obtain⟨⟨i2,y⟩,MP,rfl,rfl⟩:=PY
   obtain⟨x2,F0,hc⟩:=r1 _ _ _ MP
   rw[hp]at F0
   simp only[Option.some.injEq,Prod.mk.injEq]at F0
   obtain⟨rfl,rfl⟩:=F0
   have Bf:(l.map (·.1))[k]? =some i':=by rw[List.getElem?_map,MP];rfl
   have lN:=(List.getElem?_eq_some_iff.1 Bf).1
   rw[Xp]at Bf
   simp at lN
   rw[List.getElem?_range ah]at Bf
   injection Bf with Bf
   subst Bf
   exact⟨by rw[kC],dV E hc⟩) f1
  simp only[Nat.zero_mul,List.take_zero,List.nil_append,List.length_map]at h2 h3 h4 f2
  have dY:j5.size=len*(sz+1):=by rw[h2.1,h4];simp
  refine⟨.slice (some ⟨w.heap.size,0,none⟩) len len,j5,e,?_,rfl,?_,f3,f4,fun i j cs x tj hj=>h2.2 _ _ (flat_get f3 tj hj),fun ι' hι=>?_⟩
  ·have gi:=run_buildSlice (P:=P) w t e len (ps.map fun(i,x)=>(i,a.eval x)) j5 it zv ht hi r9 (by rw[kC];omega) (by rw[kC];exact Nat.mul_ne_zero h0 ah) (by rw[<-kC]at h1;simpa using h1)
   simp only[execOp,ho,Sem.run_bind,gi,Result.andThen_ok,Sem.run_pure]
  ·dsimp only;rw[f2,Iy,dY];exact Nat.le_refl _
  ·refine .own _ 0 len 0 len _ hι rfl (Nat.le_refl _) (.inr (by simp)) ?_ (by simp only[maxLen];have:=Nat.le_mul_of_pos_right len (show 0<sz+1 by omega);omega)
   dsimp only;rw[dY];simp
theorem Kn {t e:TypeId} {it:TypeInfo} {m:Nat} {z:List K} {l c:Operand} {l' c':O} {n:Nat} {r:Row} (E:cY P w D ι env a) (ho:o.op=.makeSlice t l c) (ht:P.underlying t=some (.slice e)) (fI:eF P e=some (m+1)) (hz:kF P e=some z) (Lp:P.info? e=some it) (hby:it.bytes<=32768)
  (hl:cO P l=some l') (hc:cO P c=some c') (hv:fS z (dh env l') (dh env c')=some (n,r)):Mk P a o w D ι id (.own id 0 n) r:=by
 obtain⟨it',zv,hi,r9,hs,hm,IE⟩:=k8 hz
 rw[Lp]at hi;injection hi with hi;subst hi
 have kC:it.size=m+1:=by simpa[eF,Lp]using fI
 unfold fS at hv
 split at hv
 ·rename_i k1 ln k2 cn e1 e2
  split at hv
  ·rename_i hb
   obtain⟨b1,b2,b3⟩:=hb
   simp at hv
   obtain⟨rfl,rfl⟩:=hv
   have r1:=dR (e1▸dV E hl)
   have r2:=dR (e2▸dV E hc)
   unfold dp at b3
   have My:(it.bytes:Int)*cn<=281474976710656:=by
    have h1:(it.bytes:Int)<=32768:=ah
    have h2:(it.bytes:Int)*cn<=32768*16777216:=Int.mul_le_mul h1 ah ah ah
    omega
   have gi:=run_make (P:=P) w t e it zv ht Lp r9 k1 k2 ln cn b1 b2 My ah
   have lL:∀k,k<cn.toNat*it.size->∃x,z[k % z.length]? =some x/\(madeCells zv.cells (cn.toNat*it.size))[k]? =some x.val:=fun k hk=>qR hm (by rw[IE,kC];omega) k hk
   refine⟨.slice (some ⟨w.heap.size,0,none⟩) ln.toNat cn.toNat,madeCells zv.cells (cn.toNat*it.size),e,by simp only[execOp,ho,r1,r2,Sem.run_bind,gi,Result.andThen_ok,Sem.run_pure],rfl,?_,?_,?_,?_,fun ι' hι=>?_⟩
   ·simp only[List.length_replicate,size_madeCells,IE]
    exact Nat.mul_le_mul_right _ ah
   ·intro cs dY
    have:=List.eq_of_mem_replicate dY
    subst this;simp
   ·intro cs dY x hx
    have:=List.eq_of_mem_replicate dY
    subst this
    obtain⟨c,_,rfl⟩:=List.mem_map.1 hx;exact c.oP
   ·intro i j cs x tj hj
    have mL:=(List.getElem?_eq_some_iff.1 tj).1
    have:=List.eq_of_mem_replicate (List.mem_of_getElem? tj)
    subst this
    simp only[List.length_replicate]at mL
    simp only[List.getElem?_map,Option.map_eq_some_iff]at hj
    obtain⟨q,hq,rfl⟩:=hj
    have gZ:=(List.getElem?_eq_some_iff.1 hq).1
    dsimp only
    obtain⟨x,hx,F0⟩:=lL (i*z.length+j) (by
     rw[<-IE]
     calc i*z.length+j<i*z.length+z.length:=ah
      _=(i+1)*z.length:=by rw[Nat.add_mul,Nat.one_mul]
      _<=cn.toNat*z.length:=Nat.mul_le_mul_right _ ah)
    rw[Nat.mul_comm i,Nat.mul_add_mod,Nat.mod_eq_of_lt gZ,hq]at hx
    injection hx with hx;subst hx
    exact⟨_,by rw[Nat.mul_comm i]at F0 ⊢;exact F0,zC q⟩
   ·refine .own _ 0 _ 0 _ _ hι rfl ah (.inr (by simp)) ?_ (by simp only[maxLen];omega)
    dsimp only;rw[size_madeCells,IE];simp
  ·simp at hv
 ·simp at hv
end
end Go.Proofs.YtainmfbpilopaaaGreatDoor.V

namespace Go.Proofs.YtainmfbpilopaaaGreatDoor.V
open Go.RowKit
variable {P:Program} {w w':World} {D D':Nat->Prop} {ι ι':Names}
def H3 (P:Program) (k:TypeId) (m:MK):Prop:=
 (∃s,m=⟨false,[s]⟩/\fY P k=some s)∨
 (∃fs ts,m=⟨true,ts⟩/\P.underlying k=some (.struct fs)/\eX P 4 0 fs.toList=some ts/\P.stoodInHeld k=false/\∀f∈fs.toList,(fY P f.type).isSome=true)
theorem tK {t:TypeId} {m:MK} {z:K} (h:ve P t=some (m,z)):∃k e i zv,P.underlying t=some (.map k e)/\P.info? e=some i/\i.zero=some zv/\J8 zv=some z/\H3 P k m:=by
 unfold ve at h
 split at h
 ·rename_i k e ht
  split at h
  ·rename_i zv s h1 h2 h3
   simp only[Option.map_eq_some_iff,Prod.mk.injEq]at h
   obtain⟨z',hz,rfl,rfl⟩:=h
   simp only[Option.bind_eq_some_iff]at h2
   obtain⟨i,hi,r9⟩:=h2
   exact⟨k,e,i,zv,ht,hi,r9,hz,.inl ⟨s,rfl,h3⟩⟩
  ·rename_i zv fs h1 h2 h3 h4
   split at h
   ·rename_i ts z' Aw hz
    split at h
    ·rename_i hc
     simp only[Option.some.injEq,Prod.mk.injEq]at h
     obtain⟨rfl,rfl⟩:=h
     simp only[Option.bind_eq_some_iff]at h2
     obtain⟨i,hi,r9⟩:=h2
     simp only[Bool.not_eq_true',List.all_eq_true]at hc
     exact⟨k,e,i,zv,ht,hi,r9,hz,.inr ⟨fs,ts,rfl,h4,Aw,hc.1,hc.2⟩⟩
    ·cases h
   ·cases h
  ·cases h
 ·cases h
theorem zI {t:TypeId} {s:TS} (ht:fY P t=some s) (em:Bool) (n:Nat) (v:Value):(Instr.checkKey em (n+1) t v).run P w=.ok () w:=by
 unfold Instr.checkKey
 cases s with
 |tB=>simp[run_underlying (rq ht)]
 |tS=>simp[run_underlying (rC ht)]
 |tI=>
  obtain⟨q,hq⟩:=rz ht
  simp[run_underlying hq]
theorem zJ (em:Bool) (n:Nat) (vs:Array Value):∀(d:Nat) (fs:List Field) (off:Nat) (ts:List TS),eX P (d+1) off fs=some ts->(∀f∈fs,(fY P f.type).isSome=true)->off+ts.length<=vs.size->
  Sem.run P (forIn fs PUnit.unit fun f (_:PUnit)=>if f.name≠ "_" then do
    let x <-Go.part f.type vs f.offset
    Instr.checkKey em (n+1) f.type x
    pure (ForInStep.yield PUnit.unit)
   else pure (ForInStep.yield PUnit.unit)) w=Result.ok PUnit.unit w
 |d,[],off,ts,_,_,_=>by simp
 |d,f::r,off,ts,hf,hs,hl=>by
  rw[A3]at hf
  split at hf
  ·rename_i hcond
   obtain⟨ho,gM⟩:=hcond
   split at hf
   ·rename_i s y5
    split at hf
    ·rename_i wV
     simp only[Option.map_eq_some_iff]at hf
     obtain⟨O6,hr,rfl⟩:=hf
     simp only[List.length_cons]at hl
     have ih:=zJ em n vs d r (off+1) O6 hr (fun f hf=>hs f (List.mem_cons_of_mem _ hf)) ah
     have hu:vs[off]? =some vs[off]:=by simp
     simp only[List.forIn_cons,Sem.run_bind,if_pos gM,ho,oE wV hu,Result.andThen_ok,zI y5,Sem.run_pure]
     exact ih
    ·cases hf
   ·rename_i hn
    have:=hs f (by simp)
    rw[hn]at this;cases this
  ·cases hf
theorem Hu {k:TypeId} {m:MK} (hk:H3 P k m) (em:Bool) (key:AV) (u:Value) (wV:key.isAgg=m.ka) (hlen:key.cells.length=m.ks) (hr:dm P w D ι key u):(Instr.checkKey em 10000 k u).run P w=.ok () w:=by
 rcases hk with⟨s,rfl,hs⟩|⟨fs,ts,rfl,tY,Aw,dZ,ep⟩
 ·exact zI hs em 9999 u
 ·cases key<;>simp[AV.isAgg]at wV
  rename_i cs
  obtain⟨vs,f,rfl,h1,_⟩:=jd hr
  unfold Instr.checkKey
  simp only[Sem.run_bind,run_underlying tY,Result.andThen_ok]
  rw[<-Array.forIn_toList]
  have h:=zJ (P:=P) (w:=w) em 9998 vs 3 fs.toList 0 ts Aw ep (by simp[AV.cells,MK.ks]at hlen;omega)
  rw[h]
  rfl
theorem LS (a b:ByteArray):(a==b)=decide (a=b):=by
 by_cases h:a=b
 ·subst h;rw[decide_eq_true rfl]
  obtain⟨x⟩:=a
  show(x==x)=true
  simp
 ·rw[decide_eq_false h,Bool.eq_false_iff]
  intro hc
  obtain⟨x⟩:=a
  obtain⟨y⟩:=b
  exact h (by rw[show x=y by simpa using(show(x==y)=true from hc)])
theorem N8 {t:TypeId} {s:TS} {x y:AV} {u v:Value} {b:Bool} {d:TypeDesc} (ht:fY P t=some s) (hd:P.underlying t=some d) (he:fj s x y=some b) (hx:dm P w D ι x u) (hy:dm P w D ι y v):Instr.sameNow d u v=some b:=by
 unfold fj at he
 split at he
 ·rename_i k n k' n'
  split at he
  ·rename_i hk
   subst hk
   simp at he;subst he
   obtain⟨q,hq⟩:=rz ht
   rw[hd]at hq;injection hq with hq;subst hq
   rw[dR hx,dR hy]
   simp[Instr.sameNow]
   rfl
  ·cases he
 ·simp at he;subst he
  have hq:=rq ht
  rw[hd]at hq;injection hq with hq;subst hq
  rw[fP hx,fP hy];rfl
 ·rename_i a c
  simp at he;subst he
  have hq:=rC ht
  rw[hd]at hq;injection hq with hq;subst hq
  rw[gq hx,gq hy]
  simp only[Instr.sameNow,LS]
 ·cases he
def Found (es:List MapEntry) (i:Nat) (r:Option Nat) (res:Option (Nat×Value)):Prop:=(r=none/\res=none)∨∃j e,r=some (i+j)/\es[j]? =some e/\res=some (i+j,e.val)
theorem yR {e:MapEntry} {es:List MapEntry} {i:Nat} {r:Option Nat} {res:Option (Nat×Value)} (h:Found es (i+1) r res):Found (e::es) i r res:=by
 rcases h with h|⟨j,x,h1,h2,h3⟩
 ·exact .inl h
 ·exact .inr ⟨j+1,x,by rw[h1];congr 1;omega,by simpa using h2,by rw[h3];congr 2;omega⟩
theorem DZ {t:TypeId} {s:TS} {d:TypeDesc} {x:AV} {u:Value} (ht:fY P t=some s) (hd:P.underlying t=some d) (hx:dm P w D ι x u):∀(rows:List (List AV)) (es:List MapEntry) (i:Nat) (r:Option Nat),es.length=rows.length->
  (∀(j:Nat) (cs:List AV),rows[j]? =some cs->∃(e:MapEntry) (kv:AV),es[j]? =some e/\cs.head? =some kv/\dm P w D ι kv e.key)->gO ⟨false,[s]⟩ [x] rows i=some r->∃res,Instr.findNow d u es i=some res/\Found es i r res
 |[],[],i,r,_,_,h=>by
  simp[gO]at h;subst h
  exact⟨none,rfl,.inl ⟨rfl,rfl⟩⟩
 |[],e::es,i,r,hl,_,h=>by simp at hl
 |cs::rows,[],i,r,hl,_,h=>by simp at hl
 |cs::rows,e::es,i,r,hl,hr,h=>by
  obtain⟨e',kv,Cn,hk,iu⟩:=hr 0 cs rfl
  simp at Cn;subst Cn
  have dY:cs.take (MK.ks ⟨false,[s]⟩)=[kv]:=by
   cases cs with
   |nil=>simp at hk
   |cons a l=>simp at hk;subst hk;simp[MK.ks]
  unfold gO at h
  rw[dY]at h
  cases hq:fj s x kv with
  |none=>simp[eK,hq]at h
  |some b=>
   have hs:=N8 ht hd hq hx iu
   cases b with
   |true=>
    simp[eK,hq]at h;subst h
    exact⟨some (i,e.val),by simp[Instr.findNow,hs],.inr ⟨0,e,rfl,rfl,rfl⟩⟩
   |false=>
    simp[eK,hq]at h
    obtain⟨res,h1,h2⟩:=DZ ht hd hx rows es (i+1) r (by simpa using hl) (fun j cs hj=>hr (j+1) cs (by simpa using hj)) h
    exact⟨res,by simp[Instr.findNow,hs,h1],yR h2⟩
theorem sb {t:TypeId} {fs:Array Field} {ts:List TS} {xs ys:List AV} {vs us:Array Value} {b:Bool} (tY:P.underlying t=some (.struct fs)) (dZ:P.stoodInHeld t=false) (Aw:eX P 4 0 fs.toList=some ts) (hx:fQ P w D ι xs vs) (hy:fQ P w D ι ys us) (hv:eK ts xs ys=some b):(Op.equal t (.agg vs) (.agg us)).run P w=.ok b w:=by
 obtain⟨l1,l2⟩:=tU hv
 have q:=uD (w:=w) 4 fs.toList 0 ts Aw 9998 ah xs ys vs us b hx hy (by simpa[List.take_of_length_le,l1,l2]using hv)
 have MI:P.fieldsOf t=fs:=by simp[Program.fieldsOf,tY]
 unfold Op.equal
 rw[show Op.maxDepth=9999+1 from rfl,run_equalIn_struct w 9999 t _ _ (by rw[MI];exact tY) dZ,MI,q]
theorem uA {cs:List AV} {v:Value} (h:dm P w D ι (.agg cs) v):∃vs,v=.agg vs/\fQ P w D ι cs vs:=by
 obtain⟨vs,f,rfl,n1,_,f1,r1⟩:=jd h
 exact⟨vs,rfl,n1,fun j a ha=>⟨f j,f1 j (List.getElem?_eq_some_iff.1 ha).1,r1 j a ha⟩⟩
theorem DY {t:TypeId} {fs:Array Field} {ts:List TS} {xs:List AV} {vs:Array Value} (tY:P.underlying t=some (.struct fs)) (dZ:P.stoodInHeld t=false) (Aw:eX P 4 0 fs.toList=some ts) (hx:fQ P w D ι xs vs):∀(rows:List (List AV)) (es:List MapEntry) (i:Nat) (r:Option Nat),es.length=rows.length->
  (∀(j:Nat) (cs:List AV),rows[j]? =some cs->∃e:MapEntry,es[j]? =some e/\dm P w D ι (.agg (cs.take ts.length)) e.key)->gO ⟨true,ts⟩ xs rows i=some r->∃res,(Instr.findAsking t (.agg vs) es i).run P w=.ok res w/\Found es i r res
 |[],[],i,r,_,_,h=>by
  simp[gO]at h;subst h
  exact⟨none,by simp[Instr.findAsking],.inl ⟨rfl,rfl⟩⟩
 |[],e::es,i,r,hl,_,h=>by simp at hl
 |cs::rows,[],i,r,hl,_,h=>by simp at hl
 |cs::rows,e::es,i,r,hl,hr,h=>by
  obtain⟨e',Cn,iu⟩:=hr 0 cs rfl
  simp at Cn;subst Cn
  obtain⟨us,hk,hy⟩:=uA iu
  unfold gO at h
  simp only[MK.ks]at h
  split at h
  ·rename_i hq
   simp at h;subst h
   have q:=sb tY dZ Aw hx hy hq
   exact⟨some (i,e.val),by simp[Instr.findAsking,hk,q],.inr ⟨0,e,rfl,rfl,rfl⟩⟩
  ·rename_i hq
   have q:=sb tY dZ Aw hx hy hq
   obtain⟨res,h1,h2⟩:=DY tY dZ Aw hx rows es (i+1) r (by simpa using hl) (fun j cs hj=>hr (j+1) cs (by simpa using hj)) h
   exact⟨res,by simp[Instr.findAsking,hk,q,h1],yR h2⟩
  ·cases h
theorem yJ {a:AV} (h:a.isAgg=false):a.cells=[a]:=by cases a<;>simp_all [AV.isAgg,AV.cells]
theorem yQ {k:TypeId} {m:MK} {B:uX} {r:Row} (hk:H3 P k m) {key:AV} {u:Value} (hr:dm P w D ι key u) {es:Array MapEntry} (fI:es.size=r.rows.length)
  (hM:∀(i:Nat) (cs:List AV),r.rows[i]? =some cs->∃(e:MapEntry) (kv vv:AV),es[i]? =some e/\part m.ka m.ks cs=some kv/\cs[m.ks]? =some vv/\dm P w D ι kv e.key/\dm P w D ι vv e.val) {fi:Option Nat} (h:gH m key r.rows=some fi):
  (∀em,(Instr.checkKey em 10000 k u).run P w=.ok () w)/\∃res,(Instr.findKey k u es.toList).run P w=.ok res w/\Found es.toList 0 fi res:=by
 unfold gH at h
 split at h
 ·rename_i hc
  obtain⟨c1,c2,c3⟩:=hc
  refine⟨fun em=>Hu hk em key u c1 c2 hr,?_⟩
  rcases hk with⟨s,rfl,hs⟩|⟨fs,ts,rfl,tY,Aw,dZ,ep⟩
  ·rw[yJ c1]at h
   have hd:∃d,P.underlying k=some d:=by
    cases s with
    |tB=>exact⟨_,rq hs⟩
    |tS=>exact⟨_,rC hs⟩
    |tI=>obtain⟨q,hq⟩:=rz hs;exact⟨_,hq⟩
   obtain⟨d,hd⟩:=hd
   obtain⟨res,h1,h2⟩:=DZ hs hd hr r.rows es.toList 0 fi (by simpa using fI) (fun j cs hj=>by
    obtain⟨e,kv,vv,q1,q2,_,q4,_⟩:=hM j cs hj
    exact⟨e,kv,by simpa using q1,by simpa[part]using q2,q4⟩) h
   exact⟨res,by simp[Instr.findKey,run_underlying hd,h1],h2⟩
  ·cases key<;>simp[AV.isAgg]at c1
   rename_i cs
   obtain⟨vs,rfl,hL⟩:=uA hr
   obtain⟨res,h1,h2⟩:=DY tY dZ Aw hL r.rows es.toList 0 fi (by simpa using fI) (fun j cs hj=>by
    obtain⟨e,kv,vv,q1,q2,_,q4,_⟩:=hM j cs hj
    unfold part at q2
    simp only[if_true]at q2
    split at q2
    ·simp only[Option.some.injEq]at q2;subst q2
     exact⟨e,by simpa using q1,q4⟩
    ·cases q2) h
   exact⟨res,(run_findKey_eq w (by simp[tY]) _ _).trans h1,h2⟩
 ·cases h
section
variable {g:Rows} {hs:Nat} {env:Env} {a:Act} {o:Oper} {id:Id} {v:AV}
theorem CD {m:MK} {x:AV} {u:Value} {p:Id×Row} (S:gK P hs D ι g w) (hr:dm P w D ι x u) (h:dC g m x=some p):∃B,u=.map (some B.b)/\g p.1=some p.2/\ι p.1=some B/\B.k=some (.map m)/\Rq P w D ι B m p.2:=by
 unfold dC at h
 split at h
 ·rename_i i m'
  split at h
  ·rename_i hm
   subst hm
   simp only[Option.map_eq_some_iff]at h
   obtain⟨r,hg,rfl⟩:=h
   obtain⟨B,rfl,hB,hk⟩:=CP hr
   obtain⟨B',ec,R,_⟩:=S.row i r hg
   rw[hB]at ec;injection ec with ec;subst ec
   exact⟨B,rfl,hg,hB,hk,(R.map _ hk).2⟩
  ·cases h
 ·cases h
theorem Ve {t:TypeId} {x k:Operand} {ok:Bool} {m:MK} {z:K} {x' k':O} {mr:Option Row} (S:gK P hs D ι g w) (E:cY P w D ι env a) (ho:o.op=.lookup t x k ok) (hc:ve P t=some (m,z)) (hx:cO P x=some x') (hk:cO P k=some k')
  (hv:br (.look m ok z) [dh env x',dh env k'] g id=some (v,mr)):mr=none/\pW P a o w D ι v:=by
 obtain⟨kt,e,i,zv,ht,hi,r9,YS,hK⟩:=tK hc
 simp only[br,Option.bind_eq_some_iff,Option.map_eq_some_iff,Prod.mk.injEq]at hv
 obtain⟨p,hp,fi,FV,y,hy,rfl,rfl⟩:=hv
 obtain⟨B,hu,hg,hB,xZ,es,clock,hb,fI,hlen,hM⟩:=CD S (dV E hx) hp
 obtain⟨OR,res,hf,hF⟩:=yQ (B:=B) hK (dV E hk) fI hM FV
 have key:∃val,(match res with|some (_,v)=>(v,true)|none=>(zv,false))=(val,fi.isSome)/\dm P w D ι y val:=by
  rcases hF with⟨rfl,rfl⟩|⟨j,en,rfl,he,rfl⟩
  ·simp only[dD,Option.some.injEq]at hy;subst hy
   refine⟨zv,rfl,?_⟩
   rw[Cv YS];exact zC z
  ·simp only[dD,Option.bind_eq_some_iff,Nat.zero_add]at hy
   obtain⟨cs,dY,hy⟩:=hy
   obtain⟨e',kv,vv,q1,_,q3,_,q5⟩:=hM _ cs dY
   rw[hy]at q3;injection q3 with q3;subst q3
   have:e'=en:=by
    have h1:es.toList[j]? =some e':=by simpa using q1
    rw[he]at h1;injection h1 with h1;exact h1.symm
   subst this
   exact⟨_,rfl,q5⟩
 obtain⟨val,vL,nr⟩:=key
 have fE:(getObj B.b).run P w=.ok (.map es clock) w:=MapKept.run_getObj_map hb
 have hz:(zeroValue e).run P w=.ok zv w:=by simp[zeroValue,typeInfo,hi,r9]
 refine⟨rfl,if ok then .tuple #[val,.bool fi.isSome]else val,?_,?_⟩
 ·simp only[execOp,ho,hu,Instr.lookup,Sem.run_bind,run_underlying ht,Result.andThen_ok,fE,Sem.run_pure,OR,hf]
  rcases hF with⟨rfl,rfl⟩|⟨j,en,rfl,he,rfl⟩
  ·simp only[Prod.mk.injEq]at vL
   simp[hz,vL.1]
  ·simp only[Prod.mk.injEq]at vL
   simp[vL.1]
 ·cases ok with
  |false=>exact nr
  |true=>
   refine .fD _ _ (fun j=>if j=0 then val else .bool fi.isSome) rfl (fun j hj=>?_) (fun j b hj=>?_)
   ·have:j=0∨j=1:=by simp at hj;omega
    rcases this with rfl|rfl<;>rfl
   ·match j,hj with
    |0,hj=>simp at hj;subst hj;exact nr
    |1,hj=>simp at hj;subst hj;exact .eP _ _ (.bool _)
    |j+2,hj=>simp at hj
theorem Vh {t:TypeId} {x:Operand} {m:MK} {z:K} {x':O} {mr:Option Row} (S:gK P hs D ι g w) (E:cY P w D ι env a) (ho:o.op=.call {callee:=.builtin .len,args:= #[x],argTypes:= #[t]}) (hc:ve P t=some (m,z)) (hx:cO P x=some x')
  (hv:br (.len m) [dh env x'] g id=some (v,mr)):mr=none/\pW P a o w D ι v:=by
 obtain⟨kt,e,i,zv,ht,hi,r9,YS,hK⟩:=tK hc
 simp only[br,Option.map_eq_some_iff,Prod.mk.injEq]at hv
 obtain⟨p,hp,rfl,rfl⟩:=hv
 obtain⟨B,hu,hg,hB,xZ,es,clock,hb,fI,hlen,hM⟩:=CD S (dV E hx) hp
 have fE:(getObj B.b).run P w=.ok (.map es clock) w:=MapKept.run_getObj_map hb
 refine⟨rfl,.int .i64 (es.size:Int),?_,by rw[fI];exact .eP _ _ (.int _ _)⟩
 simp only[execOp,ho,resolve,Sem.run_bind,Sem.run_pure,Result.andThen_ok,invoke,builtin,Array.map,hu]
 simp[Builtin.len_,run_underlying ht,goInt,hu,fE]
def MkM (P:Program) (a:Act) (o:Oper) (w:World) (id:Id) (v:AV) (r:Row):Prop:=
 ∃m,(execOp a.eval o).run P w=.ok (.value (.map (some w.heap.size))) (w.alloc (.map #[] 0))/\v=.map id m/\r=⟨true,m.lP,[]⟩
theorem XG {t:TypeId} {m:MK} (ho:o.op=.makeMap t none):MkM P a o w id (.map id m) ⟨true,m.lP,[]⟩:=by
 refine⟨m,?_,rfl,rfl⟩
 simp[execOp,ho,Instr.makeMap,go_sem]
def MkC (P:Program) (a:Act) (o:Oper) (w:World) (id:Id) (v:AV) (r:Row):Prop:=
 ∃n,(execOp a.eval o).run P w=.ok (.value (.chan (some w.heap.size))) (w.alloc (.chan n #[] false 0 0 false))/\v=.tN id/\r=⟨true,tP+n,[]⟩
theorem Uv {t e:TypeId} {x:Operand} {x':O} {dir:ChanDir} {i:TypeInfo} {n:Nat} (E:cY P w D ι env a) (ho:o.op=.makeChan t x) (ht:P.underlying t=some (.chan dir e)) (hi:P.info? e=some i) (hb:i.bytes<=32768) (hx:cO P x=some x') (hn:cK (dh env x')=some n):MkC P a o w id (.tN id) ⟨true,tP+n,[]⟩:=by
 refine⟨n,?_,rfl,rfl⟩
 have hr:=dV E hx
 unfold cK at hn
 split at hn
 ·rename_i k m hm
  rw[hm]at hr
  split at hn
  ·rename_i hc
   simp only[Option.some.injEq]at hn
   subst hn
   have RP:((m.toNat:Nat):Int)=m:=ah
   have eu:(i.bytes:Int)*(m.toNat:Nat)<=281474976710544:=by
    have h1:i.bytes*m.toNat<=32768*1048576:=Nat.mul_le_mul hb ah
    have h2:((i.bytes*m.toNat:Nat):Int)<=281474976710544:=ah
    rwa [Int.natCast_mul]at h2
   have h:=Conc.run_makeChan (P:=P) (w:=w) ht hi k m.toNat ah eu
   rw[RP]at h
   simp only[execOp,ho,dR hr,Sem.run_bind,h,Result.andThen_ok,Sem.run_pure]
  ·cases hn
 ·cases hn
theorem B8 {x:AV} {u:Value} {i:Id} {r:Row} (S:gK P hs D ι g w) (hr:dm P w D ι x u) (hx:x=.tN i) (hg:g i=some r):∃B c,u=.chan (some B.b)/\ι i=some B/\B.k=some (.chan c)/\r.sz=tP+c/\Ly P w D ι B c r:=by
 subst hx
 obtain⟨B,c,rfl,hB,hk⟩:=QO hr
 obtain⟨B',ec,R,_⟩:=S.row i r hg
 rw[hB]at ec;injection ec with ec;subst ec
 exact⟨B,c,rfl,hB,hk,R.chan c hk⟩
theorem Vb {t e:TypeId} {dir:ChanDir} {x:Operand} {x':O} (S:gK P hs D ι g w) (E:cY P w D ι env a) (ho:o.op=.call {callee:=.builtin .len,args:= #[x],argTypes:= #[t]}) (ht:P.underlying t=some (.chan dir e)) (hx:cO P x=some x') (hv:cI g (dh env x')=some v):pW P a o w D ι v:=by
 have hr:=dV E hx
 unfold cI at hv
 split at hv
 ·rename_i i he
  simp only[Option.map_eq_some_iff]at hv
  obtain⟨r,hg,rfl⟩:=hv
  obtain⟨B,c,hu,hB,hk,fI,buf,s,q,hb,OQ,_⟩:=B8 S hr he hg
  have fE:(getObj B.b).run P w=.ok (.chan c buf false s q false) w:=by simp[getObj,Sem.run,hb]
  refine⟨.int .i64 (buf.size:Int),?_,by rw[OQ];exact .eP _ _ (.int _ _)⟩
  simp only[execOp,ho,resolve,Sem.run_bind,Sem.run_pure,Result.andThen_ok,invoke,builtin,Array.map,hu]
  simp[Builtin.len_,run_underlying ht,goInt,hu,fE]
 ·cases hv
end
end Go.Proofs.YtainmfbpilopaaaGreatDoor.V

namespace Go.Proofs.YtainmfbpilopaaaGreatDoor.V
open Go.RowKit
variable {P:Program} {w w':World} {D D':Nat->Prop} {ι ι':Names}
def Pb (P:Program) (a:Act) (o:Oper) (w:World) (D:Nat->Prop) (ι:Names) (id:Id) (v:AV):Option Row->Prop
 |none=>pW P a o w D ι v
 |some r=>Mk P a o w D ι id v r∨MkM P a o w id v r∨MkC P a o w id v r
section
variable {g:Rows} {hs:Nat} {env:Env} {a:Act} {o:Oper} {id:Id} {v:AV}
theorem mm {x:Option AV} {mr:Option Row} (h:x.map (·,(none:Option Row))=some (v,mr)) (H:x=some v->pW P a o w D ι v):Pb P a o w D ι id v mr:=by
 cases x with
 |none=>simp at h
 |some y=>simp at h;obtain⟨rfl,rfl⟩:=h;exact H rfl
theorem XS {neg:Bool} {t yt:TypeId} {x y:Operand} {vo:ib} {mr:Option Row} (ho:o.op=.binOp (if neg then .neq else .eql) t x y yt) (hc:vd P neg t x y=some vo) (hq:eA vo (dh env) g id=some (v,mr)) (E:cY P w D ι env a):Pb P a o w D ι id v mr:=by
 unfold vd at hc
 split at hc
 ·split at hc
  ·rename_i e ht
   simp only[Option.map_eq_some_iff]at hc
   obtain⟨x',hx,rfl⟩:=hc
   simp only[eA,dI,Bool.false_eq_true,if_false,Option.map_eq_some_iff,Prod.mk.injEq]at hq
   obtain⟨b,hb,rfl,rfl⟩:=hq
   exact U7 E ho ht hx hb
  ·simp at hc
 ·split at hc
  ·rename_i ht
   simp only[Option.map_eq_some_iff]at hc
   obtain⟨x',hx,rfl⟩:=hc
   simp only[eA,dI,if_true,Option.map_eq_some_iff,Prod.mk.injEq]at hq
   obtain⟨b,hb,rfl,rfl⟩:=hq
   exact U6 E ho ht hx hb
  ·simp at hc
 ·split at hc
  ·rename_i ht
   simp only[Option.map_eq_some_iff]at hc
   obtain⟨x',hx,rfl⟩:=hc
   simp only[eA,Option.map_eq_some_iff,Prod.mk.injEq]at hq
   obtain⟨b,hb,rfl,rfl⟩:=hq
   exact Yf E ho ht hx hb
  ·simp at hc
 ·split at hc
  ·rename_i s hs
   simp only[Option.bind_eq_bind,Option.bind_eq_some_iff,Option.pure_def,Option.some.injEq]at hc
   obtain⟨x',hx,y',hy,rfl⟩:=hc
   simp only[eA,Option.map_eq_some_iff,Prod.mk.injEq]at hq
   obtain⟨b,hb,rfl,rfl⟩:=hq
   have Ev:fY P t=some s:=by
    unfold ZH at hs
    split at hs
    ·rename_i s' h;simp at hs;subst hs;exact h
    ·split at hs
     ·split at hs
      ·simp at hs
      ·simp at hs
     ·simp at hs
   exact Yg E ho Ev hx hy hb
  ·rename_i ts hs
   simp only[Option.bind_eq_bind,Option.bind_eq_some_iff,Option.pure_def,Option.some.injEq]at hc
   obtain⟨x',hx,y',hy,rfl⟩:=hc
   simp only[eA]at hq
   split at hq
   ·rename_i xs ys h1 h2
    simp only[Option.map_eq_some_iff,Prod.mk.injEq]at hq
    obtain⟨b,hb,rfl,rfl⟩:=hq
    unfold ZH at hs
    split at hs
    ·simp at hs
    ·split at hs
     ·rename_i fs tY
      split at hs
      ·rename_i hg
       simp only[Option.map_eq_some_iff,Zr.ag.injEq]at hs
       obtain⟨O6,Aw,rfl⟩:=hs
       simp only[Bool.and_eq_true,Bool.not_eq_true']at hg
       exact Ye E ho tY hg.1 hg.2 Aw hx hy h1 h2 hb
      ·simp at hs
     ·simp at hs
   ·simp at hq
  ·simp at hc
theorem UC {c:Call} {vo:ib} {mr:Option Row} (ho:o.op=.call c) (hc:pC P c=some vo) (hq:eA vo (dh env) g id=some (v,mr)) (S:gK P hs D ι g w) (E:cY P w D ι env a):Pb P a o w D ι id v mr:=by
 unfold pC at hc
 split at hc
 ·rename_i lR
  split at hc
  ·rename_i x t h1 h2
   have hce:c={callee:=.builtin .len,args:= #[x],argTypes:= #[t]}:=by
    obtain⟨a,b,c⟩:=c
    simp only at h1 h2 lR
    subst lR
    congr
    ·exact Array.ext' h1
    ·exact Array.ext' h2
   rw[hce]at ho
   split at hc
   ·rename_i e ht
    simp only[Option.map_eq_some_iff]at hc
    obtain⟨x',hx,rfl⟩:=hc
    simp only[eA,Option.map_eq_some_iff,Prod.mk.injEq]at hq
    obtain⟨n,hn,rfl,rfl⟩:=hq
    exact Yh E ho ht hx hn
   ·rename_i ht
    simp only[Option.map_eq_some_iff]at hc
    obtain⟨x',hx,rfl⟩:=hc
    exact mm hq fun h=>Vc E ho ht hx h
   ·split at hc
    ·rename_i m z x' hm hx
     simp only[Option.some.injEq]at hc
     subst hc
     obtain⟨rfl,h⟩:=Vh (id:=id) S E ho hm hx hq
     exact h
    ·cases hc
   ·rename_i ht
    simp only[Option.map_eq_some_iff]at hc
    obtain⟨x',hx,rfl⟩:=hc
    exact mm hq fun h=>Vb S E ho ht hx h
   ·simp at hc
  ·simp at hc
 ·split at hc
  ·split at hc
   ·split at hc
    ·split at hc
     ·simp only[Option.bind_eq_bind,Option.bind_eq_some_iff,Option.pure_def,Option.some.injEq]at hc
      obtain⟨x',hx,y',hy,rfl⟩:=hc
      simp[eA]at hq
     ·simp at hc
    ·simp at hc
   ·simp at hc
  ·simp at hc
 ·split at hc
  ·split at hc
   ·split at hc
    ·simp only[Option.map_eq_some_iff]at hc
     obtain⟨x',hx,rfl⟩:=hc
     simp[eA]at hq
    ·simp at hc
   ·simp at hc
  ·simp at hc
 ·split at hc
  ·simp only[Option.map_eq_some_iff]at hc
   obtain⟨x',hx,rfl⟩:=hc
   simp[eA]at hq
  ·simp at hc
 ·simp only[Option.map_eq_some_iff]at hc
  obtain⟨x',hx,rfl⟩:=hc
  simp[eA]at hq
 ·split at hc
  ·split at hc
   ·simp only[Option.some.injEq]at hc
    subst hc
    simp[eA]at hq
   ·cases hc
  ·cases hc
 ·split at hc
  ·split at hc
   ·split at hc
    ·simp only[Option.bind_eq_bind,Option.bind_eq_some_iff,Option.pure_def,Option.some.injEq]at hc
     obtain⟨x',hx,y',hy,rfl⟩:=hc
     simp[eA]at hq
    ·simp at hc
   ·simp at hc
  ·simp at hc
 ·simp at hc
theorem BG {vo:ib} {mr:Option Row} (hc:tg P o.op=some vo) (hq:eA vo (dh env) g id=some (v,mr)) (S:gK P hs D ι g w) (E:cY P w D ι env a):Pb P a o w D ι id v mr:=by
 unfold tg at hc
 split at hc
 ·rename_i ho
  simp only[Option.map_eq_some_iff]at hc
  obtain⟨x',hx,rfl⟩:=hc
  simp[eA]at hq;obtain⟨rfl,rfl⟩:=hq
  exact Si E (.inl ho) hx
 ·rename_i ho
  simp only[Option.map_eq_some_iff]at hc
  obtain⟨x',hx,rfl⟩:=hc
  simp[eA]at hq;obtain⟨rfl,rfl⟩:=hq
  exact Si E (.inr ho) hx
 ·rename_i ho
  simp only[Option.bind_eq_bind,Option.bind_eq_some_iff,Option.pure_def,Option.some.injEq]at hc
  obtain⟨c',h1,x',h2,y',h3,rfl⟩:=hc
  exact mm hq fun h=>Vi E ho h1 h2 h3 h
 ·rename_i ho
  simp only[Option.map_eq_some_iff]at hc
  obtain⟨z,hz,rfl⟩:=hc
  simp only[eA,Option.some.injEq,Prod.mk.injEq]at hq
  obtain⟨rfl,rfl⟩:=hq
  exact .inl (XH ho hz)
 ·rename_i ho
  simp only[Option.map_eq_some_iff]at hc
  obtain⟨x',hx,rfl⟩:=hc
  simp only[eA,Option.map_eq_some_iff,Prod.mk.injEq]at hq
  obtain⟨cs,dY,rfl,rfl⟩:=hq
  exact .inl (XF E ho hx dY)
 ·rename_i ho
  split at hc
  ·rename_i hh
   simp only[Option.some.injEq]at hc
   subst hc
   exact mm hq fun h=>Re S ho hh.1 hh.2 h
  ·simp at hc
 ·rename_i ho
  simp only[Option.bind_eq_bind,Option.bind_eq_some_iff,Option.pure_def,Option.some.injEq]at hc
  obtain⟨ag,h1,n,h2,x',h3,rfl⟩:=hc
  exact mm hq fun h=>Vd S E ho h1 h2 h3 h
 ·rename_i ho
  simp only[Option.bind_eq_bind,Option.bind_eq_some_iff,Option.pure_def,Option.some.injEq]at hc
  obtain⟨n,h2,x',h3,y',h4,rfl⟩:=hc
  simp[eA]at hq
 ·rename_i ho
  simp only[Option.map_eq_some_iff]at hc
  obtain⟨x',hx,rfl⟩:=hc
  exact mm hq fun h=>Yd E ho hx h
 ·rename_i op t x y yt ho
  unfold yC at hc
  split at hc
  ·exact XS (neg:=false) ho hc hq E
  ·exact XS (neg:=true) ho hc hq E
  ·simp only[Option.bind_eq_bind,Option.bind_eq_some_iff,Option.pure_def,Option.some.injEq]at hc
   obtain⟨x',h3,y',h4,rfl⟩:=hc
   exact mm hq fun h=>Yk (left:=true) E ho h3 h4 h
  ·simp only[Option.bind_eq_bind,Option.bind_eq_some_iff,Option.pure_def,Option.some.injEq]at hc
   obtain⟨x',h3,y',h4,rfl⟩:=hc
   exact mm hq fun h=>Yk (left:=false) E ho h3 h4 h
  ·rename_i n1 n2 n3 n4
   split at hc
   ·simp only[Option.bind_eq_bind,Option.bind_eq_some_iff,Option.pure_def,Option.some.injEq]at hc
    obtain⟨x',h3,y',h4,rfl⟩:=hc
    exact mm hq fun h=>Yc E ho n1 n2 h3 h4 h
   ·simp only[Option.bind_eq_bind,Option.bind_eq_some_iff,Option.pure_def,Option.some.injEq]at hc
    obtain⟨x',h3,y',h4,rfl⟩:=hc
    exact mm hq fun h=>U4 E ho n1 n2 h3 h4 h
   ·simp at hc
 ·rename_i ho
  simp only[Option.map_eq_some_iff]at hc
  obtain⟨x',hx,rfl⟩:=hc
  exact mm hq fun h=>Yj E ho hx h
 ·rename_i ho
  simp only[Option.map_eq_some_iff]at hc
  obtain⟨x',hx,rfl⟩:=hc
  exact mm hq fun h=>Yi E ho hx h
 ·rename_i ho
  split at hc
  ·rename_i q k h1 h2
   simp only[Option.map_eq_some_iff]at hc
   obtain⟨x',hx,rfl⟩:=hc
   exact mm hq fun h=>U5 E ho h1 h2 hx h
  ·rename_i h1 h2
   simp only[Option.map_eq_some_iff]at hc
   obtain⟨x',hx,rfl⟩:=hc
   exact mm hq fun h=>by
    have hr:=dV E hx
    unfold bF at h
    split at h
    ·rename_i s hb
     simp at h;subst h
     rw[hb]at hr
     exact⟨.string s,by simp only[execOp,ho,gq hr,convert,Sem.run_bind,run_underlying h1,run_underlying h2,Result.andThen_ok,Sem.run_pure],.eP _ _ (.str _)⟩
    ·simp at h
  ·simp at hc
 ·rename_i ho
  split at hc
  ·rename_i e ht
   simp only[Option.bind_eq_bind,Option.bind_eq_some_iff,Option.pure_def,Option.some.injEq]at hc
   obtain⟨n,h1,x',h2,lo,h3,hi,h4,rfl⟩:=hc
   exact mm hq fun h=>Rg S E ho ht h1 h2 h3 h4 h
  ·rename_i ht
   simp only[Option.bind_eq_bind,Option.bind_eq_some_iff,Option.pure_def,Option.some.injEq]at hc
   obtain⟨x',h2,lo,h3,hi,h4,rfl⟩:=hc
   exact mm hq fun h=>OM E ho ht h2 h3 h4 h
  ·simp at hc
 ·rename_i ho
  split at hc
  ·rename_i fs tY
   split at hc
   ·rename_i f hf
    split at hc
    ·rename_i m hm
     simp only[Option.map_eq_some_iff]at hc
     obtain⟨x',hx,rfl⟩:=hc
     exact mm hq fun h=>Rb E ho tY hf hm hx h
    ·simp at hc
   ·simp at hc
  ·simp at hc
 ·rename_i ho
  split at hc
  ·rename_i fs tY
   split at hc
   ·rename_i f hf
    simp only[Option.bind_eq_bind,Option.bind_eq_some_iff,Option.pure_def,Option.some.injEq]at hc
    obtain⟨ag,h1,n,h2,x',h3,rfl⟩:=hc
    exact mm hq fun h=>Rc E ho tY hf h1 h2 h3 h
   ·simp at hc
  ·simp at hc
 ·rename_i ho
  split at hc
  ·rename_i e ht
   split at hc
   ·rename_i m hm
    simp only[Option.bind_eq_bind,Option.bind_eq_some_iff,Option.pure_def,Option.some.injEq]at hc
    obtain⟨x',h1,i',h2,rfl⟩:=hc
    exact mm hq fun h=>Rf S E ho ht hm h1 h2 h
   ·simp at hc
  ·rename_i len e ht
   split at hc
   ·rename_i m hm
    simp only[Option.bind_eq_bind,Option.bind_eq_some_iff,Option.pure_def,Option.some.injEq]at hc
    obtain⟨x',h1,i',h2,rfl⟩:=hc
    exact mm hq fun h=>U8 E ho ht hm h1 h2 h
   ·simp at hc
  ·simp at hc
 ·rename_i ho
  split at hc
  ·rename_i ht
   simp only[Option.bind_eq_bind,Option.bind_eq_some_iff,Option.pure_def,Option.some.injEq]at hc
   obtain⟨x',h1,i',h2,rfl⟩:=hc
   exact mm hq fun h=>Va E ho ht h1 h2 h
  ·rename_i len e ht
   simp only[Option.bind_eq_bind,Option.bind_eq_some_iff,Option.pure_def,Option.some.injEq]at hc
   obtain⟨ag,h0,n,h1,x',h2,i',h3,rfl⟩:=hc
   exact mm hq fun h=>U9 E ho ht h0 h1 h2 h3 h
  ·simp at hc
 ·rename_i ho
  simp only[Option.map_eq_some_iff]at hc
  obtain⟨x',hx,rfl⟩:=hc
  exact mm hq fun h=>Lh E ho hx h
 ·rename_i ho
  split at hc
  ·rename_i fs tY
   split at hc
   ·rename_i z l hz hl
    split at hc
    ·rename_i ep
     simp only[Option.map_eq_some_iff]at hc
     obtain⟨q,PY,rfl⟩:=hc
     simp only[eA,Option.map_eq_some_iff,Prod.mk.injEq]at hq
     obtain⟨cs,dY,rfl,rfl⟩:=hq
     exact Ra E ho tY hz hl (fun f hf=>by
      rw[Array.all_eq_true_iff_forall_mem]at ep
      exact ep f (Array.mem_toList_iff.1 hf)) PY dY
    ·simp at hc
   ·simp at hc
  ·rename_i len e ht
   split at hc
   ·rename_i z l n hz hl hn
    simp only[Option.some.injEq]at hc
    subst hc
    simp only[eA,Option.map_eq_some_iff,Prod.mk.injEq]at hq
    obtain⟨cs,dY,rfl,rfl⟩:=hq
    exact OL E ho ht hz hl hn dY
   ·simp at hc
  ·simp at hc
 ·rename_i ho
  split at hc
  ·rename_i e ht
   split at hc
   ·rename_i sz z l h1 h2 h3
    split at hc
    ·rename_i hh
     simp only[Option.some.injEq]at hc
     subst hc
     simp only[eA,Option.map_eq_some_iff,Prod.mk.injEq]at hq
     obtain⟨rs,Bi,rfl,rfl⟩:=hq
     exact .inl (Nr E ho ht h1 h2 h3 hh.1 hh.2 (by rw[List.map_map]at Bi;exact Bi))
    ·simp at hc
   ·simp at hc
  ·simp at hc
 ·rename_i ho
  split at hc
  ·rename_i hh
   simp only[Option.map_eq_some_iff]at hc
   obtain⟨l,hl,rfl⟩:=hc
   simp[eA]at hq;obtain⟨rfl,rfl⟩:=hq
   exact Vf E ho hh.1 hh.2 hl
  ·split at hc
   ·rename_i hh
    simp only[Option.map_eq_some_iff]at hc
    obtain⟨l,hl,rfl⟩:=hc
    simp[eA]at hq;obtain⟨rfl,rfl⟩:=hq
    exact Vg E ho hh.1 hh.2 hl
   ·simp at hc
 ·rename_i ho
  split at hc
  ·rename_i e ht
   split at hc
   ·rename_i m z i h1 h2 h3
    split at hc
    ·rename_i hb
     simp only[Option.bind_eq_bind,Option.bind_eq_some_iff,Option.pure_def,Option.some.injEq]at hc
     obtain⟨l',h4,c',h5,rfl⟩:=hc
     simp only[eA,Option.map_eq_some_iff,Prod.mk.injEq]at hq
     obtain⟨⟨n,r⟩,hr,rfl,rfl⟩:=hq
     exact .inl (Kn E ho ht h1 h2 h3 hb h4 h5 hr)
    ·simp at hc
   ·simp at hc
  ·simp at hc
 ·rename_i ho
  exact UC ho hc hq S E
 ·rename_i ho
  split at hc
  ·rename_i dir e ht
   split at hc
   ·rename_i i hi
    split at hc
    ·rename_i hb
     simp only[Option.map_eq_some_iff]at hc
     obtain⟨x',hx,rfl⟩:=hc
     simp only[eA,Option.map_eq_some_iff,Prod.mk.injEq]at hq
     obtain⟨n,hn,rfl,rfl⟩:=hq
     exact .inr (.inr (Uv E ho ht hi hb hx hn))
    ·cases hc
   ·cases hc
  ·cases hc
 ·simp only[Option.bind_eq_bind,Option.bind_eq_some_iff,Option.pure_def,Option.some.injEq]at hc
  obtain⟨x',_,y',_,rfl⟩:=hc
  simp[eA]at hq
 ·split at hc
  ·split at hc
   ·simp only[Option.map_eq_some_iff]at hc
    obtain⟨x',_,rfl⟩:=hc
    simp[eA]at hq
   ·cases hc
  ·cases hc
 ·rename_i ho
  split at hc
  ·rename_i m z hm
   simp only[Option.some.injEq]at hc
   subst hc
   simp only[eA,List.map_nil,br,Option.some.injEq,Prod.mk.injEq]at hq
   obtain⟨rfl,rfl⟩:=hq
   exact .inr (.inl (XG ho))
  ·cases hc
 ·rename_i ho
  split at hc
  ·rename_i m z x' k' hm hx hk
   simp only[Option.some.injEq]at hc
   subst hc
   obtain⟨rfl,h⟩:=Ve (id:=id) S E ho hm hx hk hq
   exact h
  ·cases hc
 ·split at hc
  ·simp only[Option.some.injEq]at hc
   subst hc
   simp[eA]at hq
  ·cases hc
 ·split at hc
  ·simp only[Option.some.injEq]at hc
   subst hc
   simp[eA]at hq
  ·cases hc
 ·simp only[Option.some.injEq]at hc
  subst hc
  simp[eA]at hq
 ·simp only[Option.some.injEq]at hc
  subst hc
  simp[eA]at hq
 ·simp at hc
end
end Go.Proofs.YtainmfbpilopaaaGreatDoor.V

namespace Go.Proofs.YtainmfbpilopaaaGreatDoor.V
open Go.RowKit
variable {P:Program} {w w':World} {D D':Nat->Prop} {ι ι':Names}
def lx (ι:Names) (id:Id) (B:uX):Names:=fun i=>if i=id then some B else ι i
theorem eE (ι:Names) (id:Id) (B:uX):lx ι id B id=some B:=if_pos rfl
theorem fA {ι:Names} {id:Id} {B:uX} (h:ι id=none):∀i B',ι i=some B'->lx ι id B i=some B':=fun i B' hi=>by
 have:i≠id:=by rintro rfl;rw[h]at hi;cases hi
 rw[lx,if_neg this];exact hi
theorem gV {ι:Names} {id i:Id} {B:uX} (h:i≠id):lx ι id B i=ι i:=if_neg h
section
variable {g:Rows} {hs:Nat} {env:Env} {a:Act} {o:Oper} {id:Id} {v:AV}
theorem lK.frame {B:uX} {r:Row} (h:lK P w D ι B r) (hb:w'.heap[B.b]? =w.heap[B.b]?) (hr:∀a v,dm P w D ι a v->dm P w' D' ι' a v):lK P w' D' ι' B r:=
 ⟨h.sz,by obtain⟨c,T,h1,h2⟩:=h.uR;exact⟨c,T,hb.trans h1,h2⟩,h.fits,h.len,h.flat,fun i j cs a hi hj=>by
  obtain⟨v,h1,h2⟩:=h.at_ i j cs a hi hj
  exact⟨v,(World.cell?_of_block (a:=⟨B.b,i*r.sz+j,none⟩) hb).trans h1,hr _ _ h2⟩⟩
theorem iv.frame {B:uX} {r:Row} (h:iv P w D ι B r) (hb:w'.heap[B.b]? =w.heap[B.b]?) (hr:∀a v,dm P w D ι a v->dm P w' D' ι' a v):iv P w' D' ι' B r:=
 ⟨h.sz,h.flat,fun hk=>(h.row hk).frame hb hr,fun m hm=>by
  obtain⟨h1,es,c,h2,h3,h5,h4⟩:=h.map m hm
  refine⟨h1,es,c,hb.trans h2,h3,h5,fun i cs hi=>?_⟩
  obtain⟨e,kv,vv,q1,q2,q3,q4,q5⟩:=h4 i cs hi
  exact⟨e,kv,vv,q1,q2,q3,hr _ _ q4,hr _ _ q5⟩,fun c hc=>by
  obtain⟨h1,buf,s,q,h2,h3,h4⟩:=h.chan c hc
  refine⟨h1,buf,s,q,hb.trans h2,h3,fun i cs hi=>?_⟩
  obtain⟨a,u,q1,q2,q3⟩:=h4 i cs hi
  exact⟨a,u,q1,q2,hr _ _ q3⟩⟩
theorem gK.kill (S:gK P hs D ι g w) (i:Id):gK P hs D ι (bV g i) w:=by
 refine⟨S.lo,S.dead,fun id r h=>?_,fun id kK r r' B B' h h' hw hB ec hb=>?_⟩
 ·unfold bV at h;split at h
  ·cases h
  ·exact S.row id r h
 ·unfold bV at h h'
  split at h
  ·cases h
  ·split at h'
   ·cases h'
   ·exact S.inj id kK r r' B B' h h' hw hB ec hb
theorem gK.sub {g':Rows} (S:gK P hs D ι g w) (h:∀id r,g' id=some r->g id=some r):gK P hs D ι g' w:=
 ⟨S.lo,S.dead,fun id r hr=>S.row id r (h id r hr),fun id kK r r' B B' h1 h2=>S.inj id kK r r' B B' (h _ _ h1) (h _ _ h2)⟩
theorem C8 {hid:List Nat} {n:Nat} {g:Rows}:∀id r,fo hid n g id=some r->g id=some r:=fun id r h=>by
 cases hid with
 |nil=>exact h
 |cons a l=>
  have e:fo (a::l) n g id=if (a::l).contains id.site=true/\id.bG=n then none else g id:=rfl
  rw[e]at h
  by_cases hc:(a::l).contains id.site=true/\id.bG=n
  ·rw[if_pos hc]at h;cases h
  ·rw[if_neg hc]at h;exact h
theorem gK.stay (S:gK P hs D ι g w) (hb:∀b,b<w.heap.size->w'.heap[b]? =w.heap[b]?) (hz:w.heap.size<=w'.heap.size) (hD:∀b,D b->D' b) (hD':∀b,D' b->b<w'.heap.size) (lG:∀b,D' b->D b∨w.heap.size<=b) (hι:∀id B,ι id=some B->ι' id=some B):gK P hs D' ι' g w':=by
 have hr:∀a v,dm P w D ι a v->dm P w' D' ι' a v:=fun a v h=>h.frame (fun b hd=>hb b (S.dead b hd)) hD hι
 have lt:∀{id r B},g id=some r->ι id=some B->B.b<w.heap.size:=fun {id r B} h hB=>by
  obtain⟨B',ec,R,_⟩:=S.row id r h
  rw[hB]at ec;injection ec with ec;subst ec
  exact R.lt
 refine⟨Nat.le_trans S.lo hz,hD',fun id r h=>?_,fun id kK r r' B B' h h' hw hB ec he=>?_⟩
 ·obtain⟨B,hB,R,h1,h2⟩:=S.row id r h
  exact⟨B,hι _ _ hB,R.frame (hb _ (lt h hB)) hr,h1,fun hw hd=>by
   rcases lG _ hd with hd|hd
   ·exact h2 hw hd
   ·have:=lt h hB;omega⟩
 ·obtain⟨C,hC,_⟩:=S.row id r h
  obtain⟨C',xG,_⟩:=S.row kK r' h'
  have e1:=hι _ _ hC
  have e2:=hι _ _ xG
  rw[hB]at e1;injection e1 with e1;subst e1
  rw[ec]at e2;injection e2 with e2;subst e2
  exact S.inj id kK r r' _ _ h h' hw hC xG he
theorem Step.stay (S:gK P hs D ι g w) (hb:∀b,b<w.heap.size->w'.heap[b]? =w.heap[b]?) (hz:w.heap.size<=w'.heap.size) (e1:w'.os=w.os) (e2:w'.tape=w.tape) (e3:w'.output=w.output) (hD:∀b,D b->D' b) (lG:∀b,D' b->D b∨w.heap.size<=b) (hι:∀id B,ι id=some B->ι' id=some B):Step hs D ι w D' ι' w':=
 ⟨⟨e1,e2,e3,hz,fun k hk=>hb k (Nat.lt_of_lt_of_le hk S.lo)⟩,fun b hd=>hb b (S.dead b hd),hD,hι,fun b h=>(lG b h).imp_right (Nat.le_trans S.lo)⟩
theorem gK.alloc (S:gK P hs D ι g w) {cells:Array Value} {T:TypeId} {r:Row} (hh:w'.heap=w.heap.push (.cells cells T (0,0))) (hn:ι id=none) (hw:r.w=true) (h1:r.rows.length*r.sz<=cells.size) (h2:∀cs∈r.rows,cs.length=r.sz) (h3:∀cs∈r.rows,∀a∈cs,a.cell=true)
  (h4:∀i j cs a,r.rows[i]? =some cs->cs[j]? =some a->∃x,cells[i*r.sz+j]? =some x/\dm P w D ι a x):gK P hs D (lx ι id ⟨w.heap.size,r.sz,cells.size,none⟩) (bJ g id r) w':=by
 have hb:∀b,b<w.heap.size->w'.heap[b]? =w.heap[b]? :=fun b eu=>by rw[hh,Array.getElem?_push,if_neg ah]
 have hz:w.heap.size<=w'.heap.size:=by rw[hh];simp
 have S':=S.stay (D':=D) (ι':=lx ι id ⟨w.heap.size,r.sz,cells.size,none⟩) hb hz (fun _ h=>h) (fun b hd=>Nat.lt_of_lt_of_le (S.dead b hd) hz) (fun _ h=>.inl h) (fA hn)
 have hr:∀a v,dm P w D ι a v->dm P w' D (lx ι id ⟨w.heap.size,r.sz,cells.size,none⟩) a v:=fun a v h=>h.frame (fun b hd=>hb b (S.dead b hd)) (fun _ h=>h) (fA hn)
 have lG:w'.heap[w.heap.size]? =some (.cells cells T (0,0)):=by rw[hh];simp
 have gone:g id=none:=by
  cases hg:g id with
  |none=>rfl
  |some q=>
   obtain⟨B,hB,_⟩:=S.row id q hg
   rw[hn]at hB;cases hB
 have lt:∀{i q B},g i=some q->ι i=some B->B.b<w.heap.size:=fun {i q B} h hB=>by
  obtain⟨B',ec,R,_⟩:=S.row i q h
  rw[hB]at ec;injection ec with ec;subst ec
  exact R.lt
 refine⟨S'.lo,S'.dead,fun i q h=>?_,fun i i' q q' B B' h h' MY hB ec he=>?_⟩
 ·unfold bJ at h
  split at h
  ·rename_i e
   subst e
   injection h with h;subst h
   refine⟨_,eE _ _ _,lK.obj ⟨rfl,⟨cells,T,lG,rfl⟩,h1,h2,h3,fun k j cs a hk hj=>?_⟩ rfl,fun _=>S.lo,fun _ hd=>?_⟩
   ·obtain⟨x,hx,hrx⟩:=h4 k j cs a hk hj
    exact⟨x,by simp[World.cell?,lG,hx],hr _ _ hrx⟩
   ·have:=S.dead _ hd;simp at this
  ·exact S'.row i q h
 ·unfold bJ at h h'
  split at h
  ·rename_i e
   split at h'
   ·rename_i e';exact e.trans e'.symm
   ·exfalso
    rename_i e'
    subst e
    rw[eE]at hB;injection hB with hB;subst hB
    rw[gV e']at ec
    have:=lt h' ec
    simp at he;omega
  ·rename_i e
   split at h'
   ·exfalso
    rename_i e'
    subst e'
    rw[eE]at ec;injection ec with ec;subst ec
    rw[gV e]at hB
    have:=lt h hB
    simp at he;omega
   ·exact S'.inj i i' q q' B B' h h' MY hB ec he
theorem gK.put (S:gK P hs D ι g w) {r r':Row} {B:uX} {cur cur':Array Value} {T:TypeId} (hid:g id=some r) (hw:r.w=true) (hB:ι id=some B) (hblk:w.heap[B.b]? =some (.cells cur T (0,0))) (fI:cur'.size=cur.size)
  (h0:r'.w=true) (h1:r'.sz=r.sz) (h2:r'.rows.length*r'.sz<=B.C) (h3:∀cs∈r'.rows,cs.length=r'.sz) (h4:∀cs∈r'.rows,∀a∈cs,a.cell=true)
  (h5:∀i j cs a,r'.rows[i]? =some cs->cs[j]? =some a->∃v,cur'[i*r.sz+j]? =some v/\dm P w D ι a v):gK P hs D ι (bJ g id r') (w.setRow B.b cur')/\Step hs D ι w D ι (w.setRow B.b cur'):=by
 obtain⟨B0,zZ,RO,j9,mV⟩:=S.row id r hid
 rw[hB]at zZ;injection zZ with zZ;subst zZ
 have z7:=RO.QB hblk
 have R:=RO.row z7
 have hd:∀b,D b->(w.setRow B.b cur').heap[b]? =w.heap[b]? :=fun b hb=>setRow_other w B.b b cur' (by rintro rfl;exact mV hw hb)
 have hr:∀a v,dm P w D ι a v->dm P (w.setRow B.b cur') D ι a v:=fun a v h=>h.frame hd (fun _ h=>h) (fun _ _ h=>h)
 have hC:cur.size=B.C:=by
  obtain⟨c,T',h1,h2⟩:=R.uR
  rw[hblk]at h1;injection h1 with h1;injection h1 with h1 S9;subst h1;exact h2
 refine⟨⟨by simpa using S.lo,fun b hb=>by simpa using S.dead b hb,fun i q h=>?_,fun i i' q q' C C' h h' MY hC xG he=>?_⟩,⟨⟨by simp,by simp,by simp,by simp,fun k hk=>setRow_other w B.b k cur' (by have:=j9 hw;omega)⟩,hd,fun _ h=>h,fun _ _ h=>h,fun _ h=>.inl h⟩⟩
 ·unfold bJ at h
  split at h
  ·rename_i e
   subst e
   injection h with h;subst h
   refine⟨B,hB,lK.obj ⟨by rw[h1];exact R.sz,⟨cur',T,setRow_heap w B.b cur cur' T _ hblk,by rw[fI];exact hC⟩,h2,h3,h4,fun k j cs a hk hj=>?_⟩ z7,fun _=>j9 hw,fun _=>mV hw⟩
   obtain⟨v,hv,nr⟩:=h5 k j cs a hk hj
   exact⟨v,by rw[cell_setRow_same w B.b _ cur cur' T _ hblk,h1];exact hv,hr _ _ nr⟩
  ·rename_i e
   obtain⟨C,hC,RC,k1,k2⟩:=S.row i q h
   refine⟨C,hC,RC.frame (setRow_other w B.b C.b cur' (fun My=>e ?_)) hr,k1,k2⟩
   exact(S.inj id i r q B C hid h hw hB hC My.symm).symm
 ·unfold bJ at h h'
  have get:∀j p,(if j=id then some r' else g j)=some p->∃p0,g j=some p0/\(p.w=true->p0.w=true):=fun j p hp=>by
   split at hp
   ·rename_i e;subst e;injection hp with hp;subst hp;exact⟨r,hid,fun _=>hw⟩
   ·exact⟨p,hp,fun h=>h⟩
  obtain⟨p,hp,VM⟩:=get _ _ h
  obtain⟨p',TV,_⟩:=get _ _ h'
  exact S.inj i i' p p' C C' hp TV (VM MY) hC xG he
theorem gK.rename (S:gK P hs D ι g w) {i:Id} {r:Row} {B:uX} (hi:g i=some r) (hw:r.w=true) (hB:ι i=some B) (hn:ι id=none):gK P hs D (lx ι id B) (bJ (bV g i) id r) w:=by
 have S':=S.stay (w':=w) (D':=D) (ι':=lx ι id B) (fun _ _=>rfl) (Nat.le_refl _) (fun _ h=>h) S.dead (fun _ h=>.inl h) (fA hn)
 have gM:i≠id:=by rintro rfl;rw[hn]at hB;cases hB
 obtain⟨B1,z6,R,k1,k2⟩:=S'.row i r hi
 rw[gV gM,hB]at z6;injection z6 with z6;subst z6
 have get:∀j p,bJ (bV g i) id r j=some p->(j=id/\p=r)∨(j≠id/\j≠i/\g j=some p):=fun j p hp=>by
  unfold bJ bV at hp
  split at hp
  ·rename_i e;injection hp with hp;exact .inl ⟨e,hp.symm⟩
  ·rename_i e
   split at hp
   ·cases hp
   ·rename_i e';exact .inr ⟨e,e',hp⟩
 refine⟨S.lo,S.dead,fun j p h=>?_,fun j j' p p' C C' h h' VM hC xG he=>?_⟩
 ·rcases get j p h with⟨rfl,rfl⟩|⟨_,_,hp⟩
  ·exact⟨B,eE _ _ _,R,k1,k2⟩
  ·exact S'.row j p hp
 ·rcases get j p h with⟨rfl,rfl⟩|⟨q1,q2,hp⟩
  ·rcases get j' p' h' with⟨rfl,rfl⟩|⟨q1',q2',TV⟩
   ·rfl
   ·exfalso
    rw[eE]at hC;injection hC with hC;subst hC
    rw[gV q1']at xG
    exact q2' (S.inj i j' p p' B C' hi TV hw hB xG he).symm
  ·rcases get j' p' h' with⟨rfl,rfl⟩|⟨q1',q2',TV⟩
   ·exfalso
    rw[eE]at xG;injection xG with xG;subst xG
    rw[gV q1]at hC
    exact q2 (S.inj j i p p' C B hp hi VM hC hB he)
   ·rw[gV q1]at hC
    rw[gV q1']at xG
    exact S.inj j j' p p' C C' hp TV VM hC xG he
def F5 (P:Program) (hs:Nat) (a:Act) (o:Oper) (w:World) (D:Nat->Prop) (ι:Names) (id:Id) (v:AV) (g':Rows):Prop:=
 ∃u w' ι',((execOp a.eval o).run P w=.ok (.value u) w'∨(execOp a.eval o).run P w=.ok .skip w'/\u=undef)/\Step hs D ι w D ι' w'/\gK P hs D ι' g' w'/\dm P w' D ι' v u/\∀i,i≠id->ι' i=ι i
theorem Fm {xs:List AV} {vs:Array Value} (h:fQ P w D ι xs vs) (hf:∀a∈xs,a.cell=true):∀v∈vs.toList,v.oneCell'=true:=by
 intro v hv
 obtain⟨j,hj,rfl⟩:=List.getElem_of_mem hv
 have OX:j<xs.length:=by rw[<-h.1];simpa using hj
 obtain⟨u,hu,hr⟩:=h.2 j _ (List.getElem?_eq_getElem OX)
 have hc:=hr.DN (hf _ (List.getElem_mem OX))
 have:vs.toList[j]=u:=by
  have:vs.toList[j]? =some u:=by simpa using hu
  rw[List.getElem?_eq_getElem hj]at this;injection this
 rw[this]
 cases u<;>simp_all [Value.oneCell']
theorem kQ {i j n m:Nat} (h:i<n) (hj:j<m):i*m+j<n*m:=by
 have:(i+1)*m<=n*m:=Nat.mul_le_mul_right _ h
 rw[Nat.add_mul,Nat.one_mul]at this;omega
theorem lK.cur {B:uX} {r:Row} (R:lK P w D ι B r):∃cur T,w.heap[B.b]? =some (.cells cur T (0,0))/\cur.size=B.C/\∀i j cs a,r.rows[i]? =some cs->cs[j]? =some a->∃v,cur[i*r.sz+j]? =some v/\dm P w D ι a v:=by
 obtain⟨cur,T,h1,h2⟩:=R.uR
 refine⟨cur,T,h1,h2,fun i j cs a hi hj=>?_⟩
 obtain⟨v,hv,hr⟩:=R.at_ i j cs a hi hj
 exact⟨v,by simpa[World.cell?,h1]using hv,hr⟩
theorem Px {t:TypeId} {n:Nat} {x y:Operand} {x' y':O} {g':Rows} (S:gK P hs D ι g w) (E:cY P w D ι env a) (ho:o.op=.store t x y) (hn:eF P t=some n) (hx:cO P x=some x') (hy:cO P y=some y')
  (hv:bE g n (dh env y') (dh env x')=some g'):F5 P hs a o w D ι id .undef g':=by
 have rx:=dV E hx
 have ry:=dV E hy
 unfold bE at hv
 split at hv
 ·rename_i i k off hp
  rw[hp]at rx
  simp only[Option.bind_eq_some_iff]at hv
  obtain⟨r,hg,cs,dY,hv⟩:=hv
  split at hv
  ·rename_i hc
   obtain⟨c1,c2,c3,c4⟩:=hc
   simp at hv;subst hv
   obtain⟨B,he,hB,hk⟩:=iR rx
   obtain⟨B',ec,R,j9,mV⟩:=S.row i r hg
   rw[hB]at ec;injection ec with ec;subst ec
   replace R:=R.row hk
   obtain⟨cur,T,hblk,hC,yX⟩:=R.cur
   have hL:=s7 ry c3
   have h1:=Fm hL (List.all_eq_true.1 c3)
   have P7:(a.eval y).cells.size=n:=by rw[hL.1,c2]
   have lN:=(List.getElem?_eq_some_iff.1 dY).1
   have hlen:=R.len cs (List.mem_of_getElem? dY)
   have hbound:k*r.sz+r.sz<=r.rows.length*r.sz:=by
    have:(k+1)*r.sz<=r.rows.length*r.sz:=Nat.mul_le_mul_right _ lN
    rwa [Nat.add_mul,Nat.one_mul]at this
   have hf:=R.fits
   have dZ:=run_storeCells_at P B.b (k*B.sz+off) T (a.eval y).cells.toList 0 cur w hblk (by rw[R.sz];simp only[Array.length_toList];omega) h1
   simp only[Nat.add_zero,Array.length_toList]at dZ
   have rS:=S.put (r':={r with rows:=r.rows.set k (cw cs off (dh env y').cells)}) hg c1 hB hblk (cur':=(cur.toList.take (k*B.sz+off)++(a.eval y).cells.toList++cur.toList.drop (k*B.sz+off+(a.eval y).cells.size)).toArray)
    (by rw[R.sz];simp;omega) c1 rfl (by simpa using R.fits) (fun c WO=>by
     rcases List.mem_or_eq_of_mem_set WO with h|rfl
     ·exact R.len c h
     ·simp[cw];omega) (fun c WO b hb=>by
     rcases List.mem_or_eq_of_mem_set WO with h|rfl
     ·exact R.flat c h b hb
     ·unfold cw at hb
      rcases List.mem_append.1 hb with hb|hb
      ·rcases List.mem_append.1 hb with hb|hb
       ·exact R.flat cs (List.mem_of_getElem? dY) b (List.mem_of_mem_take hb)
       ·exact List.all_eq_true.1 c3 b hb
      ·exact R.flat cs (List.mem_of_getElem? dY) b (List.mem_of_mem_drop hb)) (fun i2 j c b vI hj=>by
     rw[R.sz]
     simp only[List.getElem?_toArray]
     by_cases Bf:i2=k
     ·subst Bf
      rw[List.getElem?_set_self lN]at vI
      injection vI with vI;subst vI
      unfold cw at hj
      by_cases hjo:j<off
      ·rw[List.append_assoc,List.getElem?_append_left (by simp;omega),List.getElem?_take,if_pos hjo]at hj
       rw[List.append_assoc,List.getElem?_append_left (by simp;omega),List.getElem?_take,if_pos ah]
       simpa using yX _ _ _ _ dY hj
      ·by_cases iN:j<off+n
       ·rw[List.append_assoc,List.getElem?_append_right (by simp;omega),List.getElem?_append_left (by simp;omega)]at hj
        rw[List.append_assoc,List.getElem?_append_right (by simp;omega),List.getElem?_append_left (by simp;omega)]
        simp only[List.length_take]at hj ⊢
        rw[show j-min off cs.length=j-off by omega]at hj
        rw[show i2*r.sz+j-min (i2*r.sz+off) cur.toList.length=j-off by simp;omega]
        simpa using hL.2 _ _ hj
       ·rw[List.getElem?_append_right (by simp;omega)]at hj
        rw[List.getElem?_append_right (by simp;omega)]
        simp only[List.length_append,List.length_take,List.getElem?_drop,Array.length_toList]at hj ⊢
        rw[show off+(dh env y').cells.length+(j-(min off cs.length+(dh env y').cells.length))=j by omega]at hj
        rw[show i2*r.sz+off+(a.eval y).cells.size+(i2*r.sz+j-(min (i2*r.sz+off) cur.size+(a.eval y).cells.size))=i2*r.sz+j by omega]
        simpa using yX _ _ _ _ dY hj
     ·rw[List.getElem?_set_ne (fun e=>Bf e.symm)]at vI
      have hi2l:=(List.getElem?_eq_some_iff.1 vI).1
      have gZ:j<r.sz:=by rw[<-R.len c (List.mem_of_getElem? vI)];exact(List.getElem?_eq_some_iff.1 hj).1
      have:=yX _ _ _ _ vI hj
      rcases Nat.lt_or_gt_of_ne Bf with eu|PO
      ·have h2:i2*r.sz+j<k*r.sz:=kQ eu gZ
       rw[List.append_assoc,List.getElem?_append_left (by simp;omega),List.getElem?_take,if_pos ah]
       simpa using this
      ·have h2:k*r.sz+r.sz<=i2*r.sz:=by
        have:(k+1)*r.sz<=i2*r.sz:=Nat.mul_le_mul_right _ PO
        rwa [Nat.add_mul,Nat.one_mul]at this
       rw[List.getElem?_append_right (by simp;omega)]
       simp only[List.length_append,List.length_take,List.getElem?_drop,Array.length_toList]
       rw[show k*r.sz+off+(a.eval y).cells.size+(i2*r.sz+j-(min (k*r.sz+off) cur.size+(a.eval y).cells.size))=i2*r.sz+j by omega]
       simpa using this)
   refine⟨undef,_,ι,.inr ⟨?_,rfl⟩,rS.2,rS.1,dm.undef,fun _ _=>rfl⟩
   simp only[execOp,ho,he,Instr.storeAt,Instr.sureAddr,storeVar,Sem.run_bind,Sem.run_pure,Result.andThen_ok,run_sizeOf hn,P7,ne_eq,not_true_eq_false,if_false,dZ]
  ·simp at hv
 ·simp at hv
end
end Go.Proofs.YtainmfbpilopaaaGreatDoor.V

namespace Go.Proofs.YtainmfbpilopaaaGreatDoor.V
open Go.RowKit
variable {P:Program} {w w':World} {D D':Nat->Prop} {ι ι':Names}
section
variable {g:Rows} {hs:Nat} {env:Env} {a:Act} {o:Oper} {id:Id} {v:AV}
theorem uC (S:gK P hs D ι g w) {y:AV} {u:Value} {ys:List (List AV)} {sz:Nat} (hr:dm P w D ι y u) (hy:bj g y=some ys) (hl:∀c∈ys,c.length=sz) (hf:∀c∈ys,∀b∈c,b.cell=true):
  ∃A c,u=.slice A ys.length c/\(ys=[]∨∃b o,∃news:List Value,A=some ⟨b,o,none⟩/\news.length=ys.length*sz/\(∀j v,news[j]? =some v->w.cell? ⟨b,o+j,none⟩=some v)/\fQ P w D ι ys.flatten news.toArray/\∀v∈news,v.oneCell'=true):=by
 have fin:∀b o,ys≠[]->(∀i j cs x,ys[i]? =some cs->cs[j]? =some x->∃v,w.cell? ⟨b,o+(i*sz+j),none⟩=some v/\dm P w D ι x v)->
   ∃news:List Value,news.length=ys.length*sz/\(∀j v,news[j]? =some v->w.cell? ⟨b,o+j,none⟩=some v)/\fQ P w D ι ys.flatten news.toArray/\∀v∈news,v.oneCell'=true:=by
  intro b o _ h
  have hlen:=Mn hl
  have at_:∀k,k<ys.length*sz->∃x,ys.flatten[k]? =some x/\∃v,w.cell? ⟨b,o+k,none⟩=some v/\dm P w D ι x v:=by
   intro k hk
   have lp:0<sz:=by
    rcases Nat.eq_zero_or_pos sz with h0|h0
    ·subst h0;simp at hk
    ·exact h0
   have hi:k / sz<ys.length:=Nat.div_lt_of_lt_mul (by rw[Nat.mul_comm];exact hk)
   have hj:k % sz<sz:=Nat.mod_lt _ lp
   have dY:=List.getElem?_eq_getElem hi
   have gZ:k % sz<ys[k / sz].length:=by rw[hl _ (List.getElem_mem hi)];exact hj
   have hx:=List.getElem?_eq_getElem gZ
   have e:k / sz*sz+k % sz=k:=by rw[Nat.mul_comm];exact Nat.div_add_mod _ _
   refine⟨_,by rw[<-flat_get hl dY hx,e],?_⟩
   obtain⟨v,hv,nr⟩:=h _ _ _ _ dY hx
   rw[e]at hv
   exact⟨v,hv,nr⟩
  let news:=(List.range (ys.length*sz)).map fun k=>(w.cell? ⟨b,o+k,none⟩).getD undef
  have hn:∀k,k<ys.length*sz->∀v,w.cell? ⟨b,o+k,none⟩=some v->news[k]? =some v:=fun k hk v hv=>by
   simp only[news,List.getElem?_map,List.getElem?_range hk,Option.map_some,hv,Option.getD_some]
  have hR:fQ P w D ι ys.flatten news.toArray:=⟨by simp[news,hlen],fun j x hx=>by
   have gZ:=(List.getElem?_eq_some_iff.1 hx).1
   rw[hlen]at gZ
   obtain⟨x',w7,v,hv,nr⟩:=at_ j gZ
   rw[hx]at w7;injection w7 with w7;subst w7
   exact⟨v,by simpa using hn j gZ v hv,nr⟩⟩
  refine⟨news,by simp[news],fun j v hj=>?_,hR,?_⟩
  ·have gZ:j<ys.length*sz:=by have:=(List.getElem?_eq_some_iff.1 hj).1;simpa[news]using this
   obtain⟨x,_,v',pU,_⟩:=at_ j gZ
   rw[hn j gZ v' pU]at hj
   injection hj with hj
   rw[<-hj];exact pU
  ·have:=Fm hR (fun x hx=>by
    obtain⟨c,hc,hxc⟩:=List.mem_flatten.1 hx
    exact hf c hc x hxc)
   simpa using this
 unfold bj at hy
 split at hy
 ·simp at hy;subst hy
  exact⟨none,0,jv hr,.inl rfl⟩
 ·rename_i rows
  simp at hy;subst hy
  obtain⟨A,c,he,_,_,h3⟩:=zF hr
  refine⟨A,c,he,?_⟩
  rcases h3 with h3|⟨b,oo,sz',vs,rfl,hD,O1,_,hc,hi⟩
  ·exact .inl h3
  ·by_cases h0:rows=[]
   ·exact .inl h0
   ·have Ev:sz'=sz:=by
     cases rows with
     |nil=>exact(h0 rfl).elim
     |cons c r=>rw[<-O1 c (by simp),hl c (by simp)]
    subst Ev
    obtain⟨news,q1,q2,q3,q4⟩:=fin b oo h0 (fun i j cs x dY hx=>⟨_,hc i j (List.getElem?_eq_some_iff.1 dY).1 (by rw[<-O1 cs (List.mem_of_getElem? dY)];exact(List.getElem?_eq_some_iff.1 hx).1),.eP _ _ (hi i j cs x dY hx)⟩)
    exact .inr ⟨b,oo,news,rfl,q1,q2,q3,q4⟩
 ·rename_i i off len
  simp only[Option.bind_eq_some_iff]at hy
  obtain⟨r,hg,hy⟩:=hy
  split at hy
  ·rename_i hle
   simp at hy;subst hy
   obtain⟨oo,cap,B,he,hB,h1,h2,h3,h4,hk⟩:=je hr
   obtain⟨B',ec,R,_,_⟩:=S.row i r hg
   rw[hB]at ec;injection ec with ec;subst ec
   replace R:=R.row hk
   have hlen:((r.rows.drop off).take len).length=len:=by simp;omega
   refine⟨some ⟨B.b,oo,none⟩,cap,by rw[hlen];exact he,?_⟩
   by_cases h0:(r.rows.drop off).take len=[]
   ·exact .inl h0
   ·have Ev:r.sz=sz:=by
     cases hq:(r.rows.drop off).take len with
     |nil=>exact(h0 hq).elim
     |cons c q=>
      have hm:c∈(r.rows.drop off).take len:=by rw[hq];simp
      rw[<-hl c hm,R.len c (List.mem_of_mem_drop (List.mem_of_mem_take hm))]
    have hlp:0<len:=by rw[<-hlen];exact List.length_pos_iff.2 h0
    have FT:oo=off*B.sz:=by rcases h2 with h2|h2<;>omega
    obtain⟨news,q1,q2,q3,q4⟩:=fin B.b oo h0 (fun i2 j cs x dY hx=>by
     rw[List.getElem?_take]at dY
     split at dY
     ·rw[List.getElem?_drop]at dY
      obtain⟨v,hv,nr⟩:=R.at_ _ _ _ _ dY hx
      refine⟨v,?_,nr⟩
      rw[FT,R.sz,<-Ev]
      rw[Nat.add_mul]at hv
      rw[<-Nat.add_assoc]
      exact hv
     ·simp at dY)
    exact .inr ⟨B.b,oo,news,rfl,q1,q2,q3,q4⟩
  ·simp at hy
 ·simp at hy
theorem qJ {t ty e:TypeId} {i:TypeInfo} (ht:P.underlying t=some (.slice e)) (hi:P.info? e=some i) (A:Option Addr) (n c:Nat) (hn:n<=c) (B:Option Addr) (d:Nat):
  (Builtin.append_ #[t,t] ty #[.slice A n c,.slice B 0 d]).run P w=.ok (.slice A n c) w:=by
 have hf:(Builtin.firstCells i.size 0 (.slice B 0 d)).run P w=.ok #[] w:=by
  cases B<;>simp[Builtin.firstCells,loadCells,loadCellsFrom]
 cases A with
 |none=>simp[Builtin.append_,run_underlying ht,sizeOf,typeInfo,hi,Builtin.lenOf,hn,hf]
 |some A=>simp[Builtin.append_,run_underlying ht,sizeOf,typeInfo,hi,Builtin.lenOf,hn,hf,storeCells]
theorem AE {t ty e T:TypeId} {i:TypeInfo} (ht:P.underlying t=some (.slice e)) (hi:P.info? e=some i) (b uG Hv:Nat) (cur:Array Value) (hg:w.heap[b]? =some (.cells cur T (0,0)))
  (x:Addr) (m c:Nat) (news:List Value) (hl:news.length=m*i.size) (Xf:∀j u,news[j]? =some u->w.cell? (x.add j)=some u) (h1:∀u∈news,u.oneCell'=true)
  (fW:uG+m<=Hv) (rP:uG*i.size+news.length<=cur.size):
  (Builtin.append_ #[t,t] ty #[.slice (some ⟨b,0,none⟩) uG Hv,.slice (some x) m c]).run P w=
   .ok (.slice (some ⟨b,0,none⟩) (uG+m) Hv) (w.setRow b (cur.toList.take (uG*i.size)++news++cur.toList.drop (uG*i.size+news.length)).toArray):=by
 have hf:=run_firstCells_some (P:=P) w i.size m x m c news hl Xf
 have dZ:=run_storeCells_at P b (uG*i.size) T news 0 cur w hg (by simpa using rP) h1
 simp only[Nat.add_zero]at dZ
 simp[Builtin.append_,run_underlying ht,sizeOf,typeInfo,hi,Builtin.lenOf,fW,hf,lz,dZ]
theorem Eg (w:World) (Kx yd:Nat) (e:TypeId) (h:Kx<=dp):Kx<=grownCap w Kx yd e/\grownCap w Kx yd e<=maxLen:=by
 unfold dp at h
 simp only[grownCap,Question.cut,maxLen]
 have:=Nat.mod_lt (w.tape w.drawn (.appendCap Kx yd e)) (show 0<2 ^ 63-Kx by omega)
 omega
theorem gQ {x y:Operand} {t:TypeId} {u:Value} (ho:o.op=.call {callee:=.builtin .append,args:= #[x,y],argTypes:= #[t,t]}) (h:(Builtin.append_ #[t,t] o.type #[a.eval x,a.eval y]).run P w=.ok u w'):(execOp a.eval o).run P w=.ok (.value u) w':=by
 simp only[execOp,ho,resolve,Sem.run_bind,Sem.run_pure,Result.andThen_ok,invoke,builtin]
 simp only[List.map_toArray,List.map_cons,List.map_nil]
 rw[h];rfl
theorem Fy {T:TypeId} (S:gK P hs D ι g w) (cells:Array Value) (hn:ι id=none) (B:uX):Step hs D ι w D (lx ι id B) (w.drew.alloc (.cells cells T)):=
 Step.stay S (fun k hk=>by show(w.heap.push _)[k]? = _;rw[Array.getElem?_push,if_neg ah]) (by show _<=(w.heap.push _).size;simp) rfl rfl rfl (fun _ h=>h) (fun _ h=>.inl h) (fA hn)
theorem L8 {x y:Operand} {x' y':O} {t e:TypeId} {m:Nat} {z:List K} {i:TypeInfo} {ys:List (List AV)} {g':Rows} (S:gK P hs D ι g w) (E:cY P w D ι env a) (hn:ι id=none) (ho:o.op=.call {callee:=.builtin .append,args:= #[x,y],argTypes:= #[t,t]})
  (ht:P.underlying t=some (.slice e)) (fI:eF P e=some (m+1)) (hz:kF P e=some z) (hi:P.info? e=some i) (hby:i.bytes<=32768) (hx:cO P x=some x') (hy:cO P y=some y') (F2:bj g (dh env y')=some ys)
  (hv:aT g id (m+1) (dh env x') ys=some (v,g')):F5 P hs a o w D ι id v g':=by
 have rx:=dV E hx
 have ry:=dV E hy
 obtain⟨it,zv,tj,r9,VX,hm,IE⟩:=k8 hz
 rw[hi]at tj;injection tj with tj;subst tj
 have kC:i.size=m+1:=by simpa[eF,hi]using fI
 have fits:∀n,n<=dp->n*i.bytes<=140737488355328:=fun n h=>by
  unfold dp at h
  have:=Nat.mul_le_mul h hby
  omega
 have e63:∀n,n<=dp->(n:Int)<=9223372036854775807:=fun n h=>by unfold dp at h;omega
 have same:∀(w1:World) (cells:Array Value),w1=w.drew.alloc (.cells cells e)->w1.heap=w.heap.push (.cells cells e (0,0)):=fun w1 cells h=>by subst h;rfl
 have Wb:∀l:List (List AV),(l.all fun c=>c.length==m+1&&c.all AV.cell)=true->(∀c∈l,c.length=m+1)/\∀c∈l,∀b∈c,b.cell=true:=fun l h=>by
  rw[List.all_eq_true]at h
  refine⟨fun c hc=>?_,fun c hc b hb=>?_⟩
  ·have:=h c hc;simp at this;exact this.1
  ·have:=h c hc;simp at this;exact this.2 b hb
 unfold aT at hv
 split at hv
 ·rename_i hb
  rw[hb]at rx
  have ex:=jv rx
  split at hv
  ·simp at hv
   obtain⟨rfl,rfl⟩:=hv
   obtain⟨A,c,ey,_⟩:=uC (sz:=m+1) S ry F2 (fun c h=>by cases h) (fun c h=>by cases h)
   refine⟨_,w,ι,.inl (gQ ho (by rw[ex,ey];exact qJ ht hi none 0 0 (Nat.le_refl _) A c)),Step.refl _ _ _ _,S,.eP _ _ .bU,fun _ _=>rfl⟩
  ·rename_i y0 yr
   split at hv
   ·rename_i hc
    simp only[Option.some.injEq,Prod.mk.injEq]at hv
    obtain⟨rfl,rfl⟩:=hv
    obtain⟨hl,hf⟩:=Wb _ hc.2
    obtain⟨A,c,ey,h2⟩:=uC (sz:=m+1) S ry F2 hl hf
    rcases h2 with h2|⟨b,oo,news,rfl,q1,q2,q3,q4⟩
    ·cases h2
    have gi:=run_append_nil (P:=P) w t o.type e i zv ht hi r9 ⟨b,oo,none⟩ (y0::yr).length c news (by rw[kC];exact q1) (fun j v hj=>by rw[lz];exact q2 j v hj) (by simp) (e63 _ hc.1) (by have:=fits _ hc.1;omega)
    obtain⟨g1,g2⟩:=Eg w (y0::yr).length 0 e hc.1
    have dY:(news.toArray++Builtin.zeroCells zv.cells (grownCap w (y0::yr).length 0 e-(y0::yr).length)).size=grownCap w (y0::yr).length 0 e*(m+1):=by
     rw[Array.size_append,size_zeroCells,VX,kC]
     simp only[List.size_toArray,q1]
     rw[<-Nat.add_mul];congr 1;omega
    have S1:=S.alloc (w':=w.drew.alloc (.cells (news.toArray++Builtin.zeroCells zv.cells (grownCap w (y0::yr).length 0 e-(y0::yr).length)) e)) (r:=⟨true,m+1,y0::yr⟩) rfl hn rfl (by rw[dY];exact Nat.mul_le_mul_right _ g1) hl hf
     (fun k j cs b2 hk hj=>by
      obtain⟨u,hu,Av⟩:=q3.2 _ _ (flat_get hl hk hj)
      refine⟨u,?_,Av⟩
      have eu:=(Array.getElem?_eq_some_iff.1 hu).1
      dsimp only
      rw[Array.getElem?_append_left eu];exact hu)
    have dZ:=Fy (T:=e) S (news.toArray++Builtin.zeroCells zv.cells (grownCap w (y0::yr).length 0 e-(y0::yr).length)) hn ⟨w.heap.size,m+1,(news.toArray++Builtin.zeroCells zv.cells (grownCap w (y0::yr).length 0 e-(y0::yr).length)).size,none⟩
    refine⟨_,_,_,.inl (gQ ho (by rw[ex,ey];exact gi)),dZ,S1,?_,fun _ h=>gV h⟩
    refine .own _ _ _ _ _ _ (eE _ _ _) rfl g1 (.inr (by simp)) ?_ g2
    dsimp only;rw[dY];simp
   ·simp at hv
 ·rename_i i0 len hb
  rw[hb]at rx
  simp only[Option.bind_eq_some_iff]at hv
  obtain⟨r,hg,hv⟩:=hv
  split at hv
  ·rename_i hc
   obtain⟨c1,c2,c3,c4,c5⟩:=hc
   simp only[Option.some.injEq,Prod.mk.injEq]at hv
   obtain⟨rfl,rfl⟩:=hv
   obtain⟨hl,hf⟩:=Wb _ c5
   obtain⟨A,c,ey,h2⟩:=uC (sz:=m+1) S ry F2 hl hf
   obtain⟨oo,cap,B,ex,hB,h1,FT,h3,h4,hk⟩:=je rx
   obtain⟨B',ec,R,j9,mV⟩:=S.row _ _ hg
   rw[hB]at ec;injection ec with ec;subst ec
   replace R:=R.row hk
   have Mu:B.sz=m+1:=R.sz.trans c2
   have Cz:∀cs∈r.rows++ys,cs.length=m+1:=fun cs dY=>by
    rcases List.mem_append.1 dY with h|h
    ·rw[<-c2];exact R.len cs h
    ·exact hl cs h
   have Rz:∀cs∈r.rows++ys,∀b∈cs,b.cell=true:=fun cs dY=>by
    rcases List.mem_append.1 dY with h|h
    ·exact R.flat cs h
    ·exact hf cs h
   rcases h2 with rfl|⟨yb,yo,news,rfl,q1,q2,q3,q4⟩
   ·have J0:=S.rename hg c1 hB hn
    refine⟨_,w,lx ι id B,.inl (gQ ho (by rw[ex,ey];exact qJ ht hi _ _ _ h1 A c)),⟨Below.refl _ _,fun _ _=>rfl,fun _ h=>h,fA hn,fun _ h=>.inl h⟩,?_,?_,fun _ h=>gV h⟩
    ·have:(⟨true,m+1,r.rows++[]⟩:Row)=r:=by cases r;simp_all
     rw[this];exact J0
    ·simp only[List.length_nil,Nat.add_zero]
     exact .own _ _ _ _ _ B (eE _ _ _) hk h1 FT h3 h4
   ·obtain⟨cur,T,hblk,hC,yX⟩:=R.cur
    by_cases fW:len+ys.length<=cap
    ·have Xj:ys≠[]->oo=0:=fun h=>by
      rcases FT with FT|FT
      ·have:=List.length_pos_iff.2 h;omega
      ·simpa using FT
     by_cases hy0:ys=[]
     ·subst hy0
      have J0:=S.rename hg c1 hB hn
      refine⟨_,w,lx ι id B,.inl (gQ ho (by rw[ex,ey];exact qJ ht hi _ _ _ h1 _ c)),⟨Below.refl _ _,fun _ _=>rfl,fun _ h=>h,fA hn,fun _ h=>.inl h⟩,?_,?_,fun _ h=>gV h⟩
      ·have:(⟨true,m+1,r.rows++[]⟩:Row)=r:=by cases r;simp_all
       rw[this];exact J0
      ·simp only[List.length_nil,Nat.add_zero]
       exact .own _ _ _ _ _ B (eE _ _ _) hk h1 FT h3 h4
     have ho0:=Xj hy0
     subst ho0
     have rP:len*i.size+news.length<=cur.size:=by
      rw[kC,q1,hC,<-Nat.add_mul]
      refine Nat.le_trans ?_ h3
      rw[Mu,Nat.zero_add]
      exact Nat.mul_le_mul_right _ fW
     have gi:=AE (ty:=o.type) ht hi B.b len cap cur hblk ⟨yb,yo,none⟩ ys.length c news (by rw[kC];exact q1) (fun j v hj=>by rw[lz];exact q2 j v hj) q4 fW rP
     have nH:cur.toList.length=cur.size:=Array.length_toList
     simp only[kC]at gi rP
     obtain⟨P1,P2⟩:=S.put (r':=⟨true,m+1,r.rows++ys⟩) hg c1 hB hblk (cur':=(cur.toList.take (len*(m+1))++news++cur.toList.drop (len*(m+1)+news.length)).toArray) (by simp only[List.size_toArray,List.length_append,List.length_take,List.length_drop,nH];omega) rfl c2.symm
      (by dsimp only;rw[List.length_append,<-c3,<-Mu];refine Nat.le_trans (Nat.mul_le_mul_right _ fW) (Nat.le_trans (by simp) h3)) Cz Rz (fun k j cs b2 hk hj=>by
       simp only[List.getElem?_toArray]
       have gZ:j<m+1:=by rw[<-Cz cs (List.mem_of_getElem? hk)];exact(List.getElem?_eq_some_iff.1 hj).1
       rw[c2]
       by_cases lN:k<r.rows.length
       ·rw[List.getElem?_append_left lN]at hk
        have h2:k*(m+1)+j<len*(m+1):=kQ ah gZ
        rw[List.append_assoc,List.getElem?_append_left (by simp only[List.length_take,nH];omega),List.getElem?_take,if_pos h2]
        have:=yX k j cs b2 hk hj
        rw[c2]at this;simpa using this
       ·rw[List.getElem?_append_right ah]at hk
        have vJ:=(List.getElem?_eq_some_iff.1 hk).1
        have oj:len*(m+1)<=k*(m+1):=Nat.mul_le_mul_right _ ah
        have qx:k*(m+1)+j-len*(m+1)=(k-r.rows.length)*(m+1)+j:=by
         rw[<-c3,Nat.sub_mul];omega
        obtain⟨u,hu,Av⟩:=q3.2 _ _ (flat_get hl hk hj)
        refine⟨u,?_,Av⟩
        have IB:news[(k-r.rows.length)*(m+1)+j]? =some u:=by simpa using hu
        have eu:=(List.getElem?_eq_some_iff.1 IB).1
        rw[List.append_assoc,List.getElem?_append_right (by simp only[List.length_take,nH];omega),List.getElem?_append_left (by simp only[List.length_take,nH];omega)]
        rw[<-IB]
        congr 1
        simp only[List.length_take,nH]
        omega)
     have ew:bJ (bV (bJ g i0 ⟨true,m+1,r.rows++ys⟩) i0) id ⟨true,m+1,r.rows++ys⟩=bJ (bV g i0) id ⟨true,m+1,r.rows++ys⟩:=by
      funext q;simp only[bJ,bV]
      by_cases h:q=id<;>by_cases h':q=i0<;>simp[h,h']
     have J0:=P1.rename (i:=i0) (id:=id) (r:=⟨true,m+1,r.rows++ys⟩) (by simp[bJ]) rfl hB hn
     rw[ew]at J0
     refine⟨_,_,_,.inl (gQ ho (by rw[ex,ey];exact gi)),P2.trans ⟨Below.refl _ _,fun _ _=>rfl,fun _ h=>h,fA hn,fun _ h=>.inl h⟩,J0,?_,fun _ h=>gV h⟩
     exact .own _ _ _ _ _ B (eE _ _ _) hk fW (.inr (by simp)) h3 h4
    ·
     have holds:∃xL:List Value,xL.length=len*(m+1)/\(∀j v,xL[j]? =some v->w.cell? ⟨B.b,oo+j,none⟩=some v)/\fQ P w D ι r.rows.flatten xL.toArray:=by
      obtain⟨A2,c2',e2,h2⟩:=uC (sz:=m+1) (u:=.slice (some ⟨B.b,oo,none⟩) len cap) S (.own i0 0 len oo cap B hB hk h1 FT h3 h4) (ys:=r.rows) (by simp[bj,hg,c3]) (fun cs h=>by rw[<-c2];exact R.len cs h) R.flat
      rcases h2 with h2|⟨b2,o2,xL,rfl,p1,p2,p3,_⟩
      ·refine⟨[],by simp[c3,h2],fun j v h=>by simp at h,by rw[h2];exact⟨rfl,fun j a h=>by simp at h⟩⟩
      ·injection e2 with e2 _ _
       injection e2 with e2
       injection e2 with e21 e22 _
       subst e21;subst e22
       exact⟨xL,by rw[p1,c3],p2,p3⟩
     obtain⟨xL,p1,p2,p3⟩:=holds
     have gi:=run_append_grow (P:=P) w t o.type e i zv ht hi r9 ⟨B.b,oo,none⟩ len cap xL (by rw[kC];exact p1) (fun j v hj=>by rw[lz];exact p2 j v hj) ⟨yb,yo,none⟩ ys.length c news (by rw[kC];exact q1) (fun j v hj=>by rw[lz];exact q2 j v hj) ah (e63 _ c4) (growslice_fits ah (fits _ c4))
     obtain⟨g1,g2⟩:=Eg w (len+ys.length) cap e c4
     have dY:(xL.toArray++news.toArray++Builtin.zeroCells zv.cells (grownCap w (len+ys.length) cap e-(len+ys.length))).size=grownCap w (len+ys.length) cap e*(m+1):=by
      rw[Array.size_append,Array.size_append,size_zeroCells,VX,kC]
      simp only[List.size_toArray,q1,p1]
      rw[<-Nat.add_mul,<-Nat.add_mul];congr 1;omega
     have S1:=(S.kill i0).alloc (id:=id) (w':=w.drew.alloc (.cells (xL.toArray++news.toArray++Builtin.zeroCells zv.cells (grownCap w (len+ys.length) cap e-(len+ys.length))) e)) (r:=⟨true,m+1,r.rows++ys⟩) rfl hn rfl (by dsimp only;rw[dY,List.length_append,<-c3];exact Nat.mul_le_mul_right _ g1) Cz Rz
      (fun k j cs b2 hk hj=>by
       have JV:=flat_get Cz hk hj
       rw[List.flatten_append]at JV
       have PT:xL.length=r.rows.flatten.length:=by have:=p3.1;simpa using this
       dsimp only
       by_cases eu:k*(m+1)+j<r.rows.flatten.length
       ·rw[List.getElem?_append_left eu]at JV
        obtain⟨u,hu,Av⟩:=p3.2 _ _ JV
        refine⟨u,?_,Av⟩
        rw[Array.getElem?_append_left (by simp;omega),Array.getElem?_append_left (by simp;omega)];exact hu
       ·rw[List.getElem?_append_right ah]at JV
        obtain⟨u,hu,Av⟩:=q3.2 _ _ JV
        refine⟨u,?_,Av⟩
        have Ep:=(Array.getElem?_eq_some_iff.1 hu).1
        simp only[List.size_toArray]at Ep
        rw[Array.getElem?_append_left (by simp;omega),Array.getElem?_append_right (by simp;omega)]
        simp only[List.size_toArray,PT];exact hu)
     have dZ:=Fy (T:=e) S (xL.toArray++news.toArray++Builtin.zeroCells zv.cells (grownCap w (len+ys.length) cap e-(len+ys.length))) hn ⟨w.heap.size,m+1,(xL.toArray++news.toArray++Builtin.zeroCells zv.cells (grownCap w (len+ys.length) cap e-(len+ys.length))).size,none⟩
     refine⟨_,_,_,.inl (gQ ho (by rw[ex,ey];exact gi)),dZ,S1,?_,fun _ h=>gV h⟩
     refine .own _ _ _ _ _ _ (eE _ _ _) rfl g1 (.inr (by simp)) ?_ g2
     dsimp only;rw[dY];simp
  ·simp at hv
 ·simp at hv
theorem mB {x:Operand} {t:TypeId} {u:Value} (ho:o.op=.call {callee:=.builtin .clear,args:= #[x],argTypes:= #[t]}) (h:(Builtin.clear_ #[t] o.type #[a.eval x]).run P w=.ok u w'):(execOp a.eval o).run P w=.ok (.value u) w':=by
 simp only[execOp,ho,resolve,Sem.run_bind,Sem.run_pure,Result.andThen_ok,invoke,builtin]
 simp only[List.map_toArray,List.map_cons,List.map_nil]
 rw[h];rfl
theorem Pw {x:Operand} {x':O} {t e:TypeId} {m:Nat} {z:List K} {g':Rows} (S:gK P hs D ι g w) (E:cY P w D ι env a) (ho:o.op=.call {callee:=.builtin .clear,args:= #[x],argTypes:= #[t]})
  (ht:P.underlying t=some (.slice e)) (fI:eF P e=some (m+1)) (hz:kF P e=some z) (hx:cO P x=some x') (hv:bx g z (dh env x')=some g'):F5 P hs a o w D ι id .undef g':=by
 have rx:=dV E hx
 obtain⟨it,zv,hi,r9,VX,hm,IE⟩:=k8 hz
 have kC:it.size=m+1:=by simpa[eF,hi]using fI
 unfold bx at hv
 split at hv
 ·rename_i hb
  rw[hb]at rx
  simp at hv;subst hv
  refine⟨undef,w,ι,.inl (mB ho (by rw[jv rx];simp only[Builtin.clear_,Sem.run_bind];simp[run_underlying ht,undef])),Step.refl _ _ _ _,S,dm.undef,fun _ _=>rfl⟩
 ·rename_i i off len hb
  rw[hb]at rx
  simp only[Option.bind_eq_some_iff]at hv
  obtain⟨r,hg,hv⟩:=hv
  split at hv
  ·rename_i hc
   obtain⟨c1,c2,c3⟩:=hc
   simp only[Option.some.injEq]at hv;subst hv
   obtain⟨oo,cap,B,ex,hB,h1,h2,h3,h4,hk⟩:=je rx
   obtain⟨B',ec,R,j9,mV⟩:=S.row _ _ hg
   rw[hB]at ec;injection ec with ec;subst ec
   replace R:=R.row hk
   obtain⟨cur,T,hblk,hC,yX⟩:=R.cur
   by_cases h0:len=0
   ·subst h0
    have e1:({r with rows:=r.rows.take off++List.replicate 0 (z.map K.av)++r.rows.drop (off+0)}:Row)=r:=by cases r;simp
    rw[e1]
    have e2:bJ g i r=g:=by
     funext q;unfold bJ;split
     ·rename_i h;rw[h,hg]
     ·rfl
    rw[e2]
    refine⟨undef,w,ι,.inl (mB ho (by rw[ex];simp only[Builtin.clear_,Sem.run_bind];simp[run_underlying ht,undef])),Step.refl _ _ _ _,S,dm.undef,fun _ _=>rfl⟩
   ·have Dj:oo=off*B.sz:=by rcases h2 with h2|h2<;>omega
    have Mu:B.sz=m+1:=by rw[R.sz,c2,IE,kC]
    have Bi:r.sz=m+1:=by rw[<-R.sz,Mu]
    have XA:zv.cells.size=m+1:=by rw[VX,kC]
    have Ab:(Builtin.zeroCells zv.cells len).toList.length=len*(m+1):=by rw[Array.length_toList,size_zeroCells,XA]
    have Xz:∀k,k<len*(m+1)->∃c,z[k % z.length]? =some c/\(Builtin.zeroCells zv.cells len).toList[k]? =some c.val:=fun k hk=>by
     obtain⟨c,pY,GH⟩:=qR (n:=len*zv.cells.size) hm (by rw[IE,kC];omega) k (by rw[XA];exact hk)
     exact⟨c,pY,by rw[Array.getElem?_toList];exact GH⟩
    have hbound:(off+len)*(m+1)<=r.rows.length*(m+1):=Nat.mul_le_mul_right _ c3
    have yY:=R.fits
    rw[Bi]at yY
    have hexp:(off+len)*(m+1)=off*(m+1)+len*(m+1):=Nat.add_mul _ _ _
    have dZ:=run_storeCells_at P B.b oo T (Builtin.zeroCells zv.cells len).toList 0 cur w hblk (by rw[Ab,hC,Dj,Mu];omega) (by
     intro v hv
     obtain⟨k,hk,rfl⟩:=List.getElem_of_mem hv
     obtain⟨c,_,GH⟩:=Xz k (by rw[<-Ab];exact hk)
     rw[List.getElem?_eq_getElem hk]at GH
     injection GH with GH
     rw[GH];cases c<;>rfl)
    simp only[Nat.add_zero]at dZ
    have nH:cur.toList.length=cur.size:=Array.length_toList
    obtain⟨P1,P2⟩:=S.put (r':={r with rows:=r.rows.take off++List.replicate len (z.map K.av)++r.rows.drop (off+len)}) hg c1 hB hblk (cur':=(cur.toList.take oo++(Builtin.zeroCells zv.cells len).toList++cur.toList.drop (oo+(Builtin.zeroCells zv.cells len).toList.length)).toArray)
     (by simp only[List.size_toArray,List.length_append,List.length_take,List.length_drop,nH,Ab];rw[Dj,Mu];omega) c1 rfl (by
      have:(r.rows.take off++List.replicate len (z.map K.av)++r.rows.drop (off+len)).length=r.rows.length:=by simp;omega
      dsimp only;rw[this];exact R.fits) (fun cs dY=>by
      rcases List.mem_append.1 dY with h|h
      ·rcases List.mem_append.1 h with h|h
       ·exact R.len cs (List.mem_of_mem_take h)
       ·rw[List.eq_of_mem_replicate h];simp[c2]
      ·exact R.len cs (List.mem_of_mem_drop h)) (fun cs dY b hb=>by
      rcases List.mem_append.1 dY with h|h
      ·rcases List.mem_append.1 h with h|h
       ·exact R.flat cs (List.mem_of_mem_take h) b hb
       ·rw[List.eq_of_mem_replicate h]at hb
        obtain⟨c,_,rfl⟩:=List.mem_map.1 hb;exact c.oP
      ·exact R.flat cs (List.mem_of_mem_drop h) b hb) (fun k j cs b hk hj=>by
      simp only[List.getElem?_toArray]
      rw[Bi]
      rw[Dj,Mu,Ab]
      by_cases tk:k<off
      ·rw[List.append_assoc,List.getElem?_append_left (by simp;omega),List.getElem?_take,if_pos tk]at hk
       have gZ:j<m+1:=by rw[<-Bi,<-R.len cs (List.mem_of_getElem? hk)];exact(List.getElem?_eq_some_iff.1 hj).1
       have h2:=kQ tk gZ
       rw[List.append_assoc,List.getElem?_append_left (by simp only[List.length_take,nH];omega),List.getElem?_take,if_pos h2]
       have:=yX k j cs b hk hj
       rw[Bi]at this;simpa using this
      ·by_cases vJ:k<off+len
       ·rw[List.append_assoc,List.getElem?_append_right (by simp;omega),List.getElem?_append_left (by simp;omega)]at hk
        have iu:=List.eq_of_mem_replicate (List.mem_of_getElem? hk)
        subst iu
        simp only[List.getElem?_map,Option.map_eq_some_iff]at hj
        obtain⟨q,hq,rfl⟩:=hj
        have gZ:=(List.getElem?_eq_some_iff.1 hq).1
        rw[IE,kC]at gZ
        have oj:off*(m+1)<=k*(m+1):=Nat.mul_le_mul_right _ ah
        have qx:k*(m+1)+j-off*(m+1)=(k-off)*(m+1)+j:=by rw[Nat.sub_mul];omega
        have Ep:(k-off)*(m+1)+j<len*(m+1):=kQ ah gZ
        rw[List.append_assoc,List.getElem?_append_right (by simp only[List.length_take,nH];omega),List.getElem?_append_left (by simp only[List.length_take,nH,Ab];omega)]
        obtain⟨c,pY,GH⟩:=Xz _ Ep
        rw[IE,kC,Nat.mul_comm (k-off),Nat.mul_add_mod,Nat.mod_eq_of_lt gZ,hq]at pY
        injection pY with pY;subst pY
        refine⟨q.val,?_,zC q⟩
        rw[<-GH]
        congr 1
        simp only[List.length_take,nH];omega
       ·rw[List.getElem?_append_right (by simp;omega)]at hk
        simp only[List.length_append,List.length_take,List.length_replicate,List.getElem?_drop]at hk
        rw[show off+len+(k-(min off r.rows.length+len))=k by omega]at hk
        have lN:=(List.getElem?_eq_some_iff.1 hk).1
        have oj:(off+len)*(m+1)<=k*(m+1):=Nat.mul_le_mul_right _ ah
        rw[List.getElem?_append_right (by simp only[List.length_append,List.length_take,nH,Ab];omega)]
        simp only[List.length_append,List.length_take,nH,Ab,List.getElem?_drop]
        rw[show off*(m+1)+len*(m+1)+(k*(m+1)+j-(min (off*(m+1)) cur.size+len*(m+1)))=k*(m+1)+j by omega]
        have:=yX k j cs b hk hj
        rw[Bi]at this;simpa using this)
    refine⟨undef,_,ι,.inl (mB ho ?_),P2,P1,dm.undef,fun _ _=>rfl⟩
    rw[ex]
    cases len with
    |zero=>exact(h0 rfl).elim
    |succ len=>
     simp only[Builtin.clear_,Sem.run_bind]
     simp[run_underlying ht,zeroValue,typeInfo,hi,r9,dZ,undef]
  ·simp at hv
 ·simp at hv
theorem KO {dT sT ty e:TypeId} {it:TypeInfo} (hu:P.underlying dT=some (.slice e)) (hi:P.info? e=some it) (A B:Option Addr) (uG Hv Jw SN:Nat) (h0:Nat.min uG Jw=0):
  (Builtin.copy_ #[dT,sT] ty #[.slice A Jw SN,.slice B uG Hv]).run P w=.ok (goInt 0) w:=by
 cases A<;>cases B<;>simp[Builtin.copy_,run_underlying hu,Builtin.lenOf,Builtin.firstCells,sizeOf,typeInfo,hi,h0,storeCells,loadCells,loadCellsFrom]
theorem KP {dT sT ty e:TypeId} {it:TypeInfo} (hu:P.underlying dT=some (.slice e)) (hi:P.info? e=some it) (A B:Addr) (uG Hv Jw SN:Nat) (cs:List Value) (hn:cs.length=Nat.min uG Jw*it.size) (hl:(loadCells B cs.length).run P w=.ok cs.toArray w) (hs:(storeCells A cs).run P w=.ok () w'):
  (Builtin.copy_ #[dT,sT] ty #[.slice (some A) Jw SN,.slice (some B) uG Hv]).run P w=.ok (goInt (Nat.min uG Jw)) w':=by
 simp[Builtin.copy_,run_underlying hu,Builtin.lenOf,Builtin.firstCells,sizeOf,typeInfo,hi,<-hn,hl,hs]
theorem se {x y:Operand} {t t2:TypeId} {u:Value} (ho:o.op=.call {callee:=.builtin .copy,args:= #[x,y],argTypes:= #[t,t2]}) (h:(Builtin.copy_ #[t,t2] o.type #[a.eval x,a.eval y]).run P w=.ok u w'):(execOp a.eval o).run P w=.ok (.value u) w':=by
 simp only[execOp,ho,resolve,Sem.run_bind,Sem.run_pure,Result.andThen_ok,invoke,builtin]
 simp only[List.map_toArray,List.map_cons,List.map_nil]
 rw[h];rfl
theorem SO {x y:Operand} {x' y':O} {t t2 e:TypeId} {m:Nat} {ys:List (List AV)} {v:AV} {g':Rows} (S:gK P hs D ι g w) (E:cY P w D ι env a) (ho:o.op=.call {callee:=.builtin .copy,args:= #[x,y],argTypes:= #[t,t2]})
  (ht:P.underlying t=some (.slice e)) (fI:eF P e=some (m+1)) (hx:cO P x=some x') (hy:cO P y=some y') (F2:bj g (dh env y')=some ys) (hv:I5 g (m+1) (dh env x') ys=some (v,g')):F5 P hs a o w D ι id v g':=by
 have rx:=dV E hx
 have ry:=dV E hy
 obtain⟨it,hi,kC⟩:∃it,P.info? e=some it/\it.size=m+1:=by
  cases hq:P.info? e with
  |none=>simp[eF,hq]at fI
  |some it=>exact⟨it,rfl,by simpa[eF,hq]using fI⟩
 unfold I5 at hv
 split at hv
 ·rename_i i off len hb
  rw[hb]at rx
  simp only[Option.bind_eq_some_iff]at hv
  obtain⟨r,hg,hv⟩:=hv
  split at hv
  ·rename_i hc
   obtain⟨c1,c2,c3,c4⟩:=hc
   simp only[Option.some.injEq,Prod.mk.injEq]at hv
   obtain⟨rfl,rfl⟩:=hv
   rw[List.all_eq_true]at c4
   have hl:∀c∈ys,c.length=m+1:=fun c hc=>by have:=c4 c hc;simp at this;exact this.1
   have hf:∀c∈ys,∀b∈c,b.cell=true:=fun c hc b hb=>by have:=c4 c hc;simp at this;exact this.2 b hb
   obtain⟨oo,cap,B,ex,hB,h1,h2,h3,h4,hk⟩:=je rx
   obtain⟨B',ec,R,j9,mV⟩:=S.row _ _ hg
   rw[hB]at ec;injection ec with ec;subst ec
   replace R:=R.row hk
   obtain⟨cur,T,hblk,hC,yX⟩:=R.cur
   obtain⟨A,sc,hu,hA⟩:=uC S ry F2 hl hf
   by_cases h0:min ys.length len=0
   ·rw[h0]
    have e1:({r with rows:=r.rows.take off++ys.take 0++r.rows.drop (off+0)}:Row)=r:=by cases r;simp
    rw[e1]
    have e2:bJ g i r=g:=by
     funext q;unfold bJ;split
     ·rename_i h;rw[h,hg]
     ·rfl
    rw[e2]
    refine⟨goInt 0,w,ι,.inl (se ho (by rw[ex,hu];exact KO ht hi _ _ _ _ _ _ h0)),Step.refl _ _ _ _,S,.eP _ _ (.int _ _),fun _ _=>rfl⟩
   ·rcases hA with rfl|⟨b,o2,news,rfl,rR,hsrc,hR,h1c⟩
    ·simp at h0
    have Xd:Nat.min ys.length len=min ys.length len:=rfl
    have hky:min ys.length len<=ys.length:=Nat.min_le_left _ _
    have lN:min ys.length len<=len:=Nat.min_le_right _ _
    generalize hkk:min ys.length len=kk at *
    have hlen0:len≠0:=ah
    have Dj:oo=off*B.sz:=by rcases h2 with h2|h2<;>omega
    have Mu:B.sz=m+1:=by rw[R.sz,c2]
    have Bi:r.sz=m+1:=c2
    have YQ:kk*(m+1)<=ys.length*(m+1):=Nat.mul_le_mul_right _ hky
    have Ab:(news.take (kk*(m+1))).length=kk*(m+1):=by rw[List.length_take,rR];omega
    have hbound:(off+kk)*(m+1)<=r.rows.length*(m+1):=Nat.mul_le_mul_right _ ah
    have yY:=R.fits
    rw[Bi]at yY
    have hexp:(off+kk)*(m+1)=off*(m+1)+kk*(m+1):=Nat.add_mul _ _ _
    have dZ:=run_storeCells_at P B.b oo T (news.take (kk*(m+1))) 0 cur w hblk (by rw[Ab,hC,Dj,Mu];omega) (fun v hv=>h1c v (List.mem_of_mem_take hv))
    have YT:=run_loadCells_list (P:=P) w ⟨b,o2,none⟩ (news.take (kk*(m+1))) (fun j v hj=>by
     rw[List.getElem?_take]at hj
     split at hj
     ·have:=hsrc j v hj
      cases j with
      |zero=>simpa[Addr.add]using this
      |succ j=>simpa[Addr.add]using this
     ·cases hj)
    simp only[Nat.add_zero]at dZ
    have nH:cur.toList.length=cur.size:=Array.length_toList
    have GW:(ys.take kk).length=kk:=by rw[List.length_take];omega
    obtain⟨P1,P2⟩:=S.put (r':={r with rows:=r.rows.take off++ys.take kk++r.rows.drop (off+kk)}) hg c1 hB hblk (cur':=(cur.toList.take oo++news.take (kk*(m+1))++cur.toList.drop (oo+(news.take (kk*(m+1))).length)).toArray)
     (by simp only[List.size_toArray,List.length_append,List.length_drop,nH,Ab];rw[List.length_take,nH,Dj,Mu];omega) c1 rfl (by
      have:(r.rows.take off++ys.take kk++r.rows.drop (off+kk)).length=r.rows.length:=by simp;omega
      dsimp only;rw[this];exact R.fits) (fun cs dY=>by
      rcases List.mem_append.1 dY with h|h
      ·rcases List.mem_append.1 h with h|h
       ·exact R.len cs (List.mem_of_mem_take h)
       ·rw[hl cs (List.mem_of_mem_take h)];exact c2.symm
      ·exact R.len cs (List.mem_of_mem_drop h)) (fun cs dY b hb=>by
      rcases List.mem_append.1 dY with h|h
      ·rcases List.mem_append.1 h with h|h
       ·exact R.flat cs (List.mem_of_mem_take h) b hb
       ·exact hf cs (List.mem_of_mem_take h) b hb
      ·exact R.flat cs (List.mem_of_mem_drop h) b hb) (fun k j cs b hk hj=>by
      simp only[List.getElem?_toArray]
      rw[Bi]
      rw[Dj,Mu,Ab]
      by_cases tk:k<off
      ·rw[List.append_assoc,List.getElem?_append_left (by simp;omega),List.getElem?_take,if_pos tk]at hk
       have gZ:j<m+1:=by rw[<-Bi,<-R.len cs (List.mem_of_getElem? hk)];exact(List.getElem?_eq_some_iff.1 hj).1
       have h2:=kQ tk gZ
       rw[List.append_assoc,List.getElem?_append_left (by simp only[List.length_take,nH];omega),List.getElem?_take,if_pos h2]
       have:=yX k j cs b hk hj
       rw[Bi]at this;simpa using this
      ·by_cases vJ:k<off+kk
       ·rw[List.append_assoc,List.getElem?_append_right (by simp;omega),List.getElem?_append_left (by simp;omega)]at hk
        simp only[List.length_take]at hk
        rw[show k-min off r.rows.length=k-off by omega,List.getElem?_take,if_pos ah]at hk
        have gZ:j<m+1:=by rw[<-hl cs (List.mem_of_getElem? hk)];exact(List.getElem?_eq_some_iff.1 hj).1
        have oj:off*(m+1)<=k*(m+1):=Nat.mul_le_mul_right _ ah
        have qx:k*(m+1)+j-off*(m+1)=(k-off)*(m+1)+j:=by rw[Nat.sub_mul];omega
        have Ep:(k-off)*(m+1)+j<kk*(m+1):=kQ ah gZ
        rw[List.append_assoc,List.getElem?_append_right (by simp only[List.length_take,nH];omega),List.getElem?_append_left (by rw[Ab];simp only[List.length_take,nH];omega)]
        obtain⟨u,Xt,hu2⟩:=hR.2 ((k-off)*(m+1)+j) b (flat_get hl hk hj)
        refine⟨u,?_,hu2⟩
        rw[List.getElem?_take]
        simp only[List.length_take,nH]
        rw[show k*(m+1)+j-min (off*(m+1)) cur.size=(k-off)*(m+1)+j by omega,if_pos Ep]
        simpa using Xt
       ·rw[List.getElem?_append_right (by simp;omega)]at hk
        simp only[List.length_append,List.length_take,List.getElem?_drop]at hk
        rw[show off+kk+(k-(min off r.rows.length+min kk ys.length))=k by omega]at hk
        have lN:=(List.getElem?_eq_some_iff.1 hk).1
        have oj:(off+kk)*(m+1)<=k*(m+1):=Nat.mul_le_mul_right _ ah
        rw[List.getElem?_append_right (by rw[List.length_append,Ab];simp only[List.length_take,nH];omega)]
        rw[List.getElem?_drop,List.length_append,Ab]
        simp only[List.length_take,nH]
        rw[show off*(m+1)+kk*(m+1)+(k*(m+1)+j-(min (off*(m+1)) cur.size+kk*(m+1)))=k*(m+1)+j by omega]
        have:=yX k j cs b hk hj
        rw[Bi]at this;simpa using this)
    refine⟨goInt kk,_,ι,.inl (se ho ?_),P2,P1,.eP _ _ (.int _ _),fun _ _=>rfl⟩
    rw[ex,hu]
    have:=KP (w:=w) (sT:=t2) (ty:=o.type) ht hi ⟨B.b,oo,none⟩ ⟨b,o2,none⟩ ys.length sc len cap _ (by rw[Ab,Xd,kC]) YT dZ
    rw[Xd]at this
    exact this
  ·simp at hv
 ·simp at hv
end
end Go.Proofs.YtainmfbpilopaaaGreatDoor.V

namespace Go.Proofs.YtainmfbpilopaaaGreatDoor.V
open Go.RowKit
variable {P:Program} {w w':World} {D D' D2:Nat->Prop} {ι ι' ι2:Names}
section
variable {g:Rows} {hs:Nat}
theorem gP:∀{n:Nat} {l r:List AV},dx g n l=some r->r.length=l.length/\∀(j:Nat) (b:AV),r[j]? =some b->∃a,l[j]? =some a/\fz g n a=some b
 |n,[],r,h=>by
  rw[dx]at h;simp at h;subst h;simp
 |n,a::l,r,h=>by
  rw[dx]at h
  split at h
  ·rename_i b hb
   simp only[Option.map_eq_some_iff]at h
   obtain⟨r',hr,rfl⟩:=h
   obtain⟨h1,h2⟩:=gP hr
   refine⟨by simp[h1],fun j c hj=>?_⟩
   cases j with
   |zero=>simp at hj;subst hj;exact⟨a,rfl,hb⟩
   |succ j=>simp at hj ⊢;exact h2 j c hj
  ·simp at h
theorem yT:∀{n:Nat} {l r:List (List AV)},eJ g n l=some r->r.length=l.length/\∀(j:Nat) (b:List AV),r[j]? =some b->∃a,l[j]? =some a/\dx g n a=some b
 |n,[],r,h=>by
  rw[eJ]at h;simp at h;subst h;simp
 |n,a::l,r,h=>by
  rw[eJ]at h
  split at h
  ·rename_i b hb
   simp only[Option.map_eq_some_iff]at h
   obtain⟨r',hr,rfl⟩:=h
   obtain⟨h1,h2⟩:=yT hr
   refine⟨by simp[h1],fun j c hj=>?_⟩
   cases j with
   |zero=>simp at hj;subst hj;exact⟨a,rfl,hb⟩
   |succ j=>simp at hj ⊢;exact h2 j c hj
  ·simp at h
theorem qq (hD:∀b,D b->D2 b) (uR:∀id row,g id=some row->row.w=true->∃B,ι id=some B/\iv P w D ι B row/\D2 B.b):∀(n:Nat) (a:AV) (u:Value) (r:AV),dm P w D ι a u->fz g n a=some r->dm P w D2 ι2 r u/\(a.cell=true->ko P w D2 r u/\r.cell=true):=by
 intro n
 induction n with
 |zero=>intro a u r _ h;rw[fz]at h;simp at h
 |succ n ih=>
  intro a u r hr h
  have both:∀{r:AV},ko P w D2 r u->r.cell=true->dm P w D2 ι2 r u/\(a.cell=true->ko P w D2 r u/\r.cell=true):=fun h1 h2=>⟨.eP _ _ h1,fun _=>⟨h1,h2⟩⟩
  cases a with
  |map id m=>rw[fz]at h;cases h
  |tN id=>rw[fz]at h;cases h
  |own id off len=>
   rw[fz]at h
   split at h
   ·rename_i row hg
    split at h
    ·rename_i hw
     split at h
     ·rename_i hle
      simp only[Option.map_eq_some_iff]at h
      obtain⟨rows,kG,rfl⟩:=h
      obtain⟨B,hB,R,Tf⟩:=uR id row hg hw
      obtain⟨o,cap,B',rfl,ec,h1,h2,h3,h4,hk⟩:=je hr
      rw[hB]at ec;injection ec with ec;subst ec
      replace R:=R.row hk
      obtain⟨l1,l2⟩:=yT kG
      have hlen:rows.length=len:=by rw[l1];simp;omega
      by_cases h0:rows=[]
      ·subst h0
       simp at hlen;subst hlen
       exact both (.Dn _ _ h4) rfl
      ·have hlp:0<len:=by rw[<-hlen];exact List.length_pos_iff.2 h0
       have ho:o=off*B.sz:=by rcases h2 with h2|h2<;>omega
       have src:∀i cs,rows[i]? =some cs->∃c0,row.rows[off+i]? =some c0/\dx g n c0=some cs:=fun i cs hi=>by
        obtain⟨c0,j6,hf⟩:=l2 i cs hi
        rw[List.getElem?_take]at j6
        split at j6
        ·rw[List.getElem?_drop]at j6;exact⟨c0,j6,hf⟩
        ·simp at j6
       have cell:∀i j,i<len->j<row.sz->∃c0 a0 v,row.rows[off+i]? =some c0/\c0[j]? =some a0/\w.cell? ⟨B.b,o+(i*row.sz+j),none⟩=some v/\dm P w D ι a0 v:=fun i j hi hj=>by
        have tj:off+i<row.rows.length:=ah
        have e1:=List.getElem?_eq_getElem tj
        have OX:j<row.rows[off+i].length:=by rw[R.len _ (List.getElem_mem tj)];exact hj
        obtain⟨v,hv,nr⟩:=R.at_ _ _ _ _ e1 (List.getElem?_eq_getElem OX)
        refine⟨_,_,v,e1,List.getElem?_eq_getElem OX,?_,nr⟩
        rw[ho,R.sz,<-hv]
        congr 2
        rw[Nat.add_mul];omega
       refine both (.sl rows B.b o len cap row.sz (fun i j=>(w.cell? ⟨B.b,o+(i*row.sz+j),none⟩).getD undef) hlen h1 h4 Tf (fun cs dY=>?_) (fun cs dY b hb=>?_) (fun i j hi hj=>?_) (fun i j cs b hi hj=>?_)) rfl
       ·obtain⟨i,hi,rfl⟩:=List.getElem_of_mem dY
        obtain⟨c0,j6,hf⟩:=src i _ (List.getElem?_eq_getElem hi)
        rw[(gP hf).1];exact R.len c0 (List.mem_of_getElem? j6)
       ·obtain⟨i,hi,rfl⟩:=List.getElem_of_mem dY
        obtain⟨c0,j6,hf⟩:=src i _ (List.getElem?_eq_getElem hi)
        obtain⟨j,hj,rfl⟩:=List.getElem_of_mem hb
        obtain⟨a0,lX,MH⟩:=(gP hf).2 j _ (List.getElem?_eq_getElem hj)
        obtain⟨v,_,nr⟩:=R.at_ _ _ _ _ j6 lX
        exact((ih _ _ _ nr MH).2 (R.flat c0 (List.mem_of_getElem? j6) a0 (List.mem_of_getElem? lX))).2
       ·obtain⟨c0,a0,v,_,_,hv,_⟩:=cell i j hi hj
        simp only[hv,Option.getD_some]
       ·obtain⟨c0,j6,hf⟩:=src i cs hi
        obtain⟨a0,lX,MH⟩:=(gP hf).2 j b hj
        have mL:i<len:=by rw[<-hlen];exact(List.getElem?_eq_some_iff.1 hi).1
        have gZ:j<row.sz:=by rw[<-R.len c0 (List.mem_of_getElem? j6)];exact(List.getElem?_eq_some_iff.1 lX).1
        obtain⟨c1,a1,v,e1,e2,hv,nr⟩:=cell i j mL gZ
        rw[j6]at e1;injection e1 with e1;subst e1
        rw[lX]at e2;injection e2 with e2;subst e2
        simp only[hv,Option.getD_some]
        exact((ih _ _ _ nr MH).2 (R.flat c0 (List.mem_of_getElem? j6) a0 (List.mem_of_getElem? lX))).1
     ·simp at h
    ·simp at h
   ·simp at h
  |ptr id i off=>
   rw[fz]at h
   split at h
   ·rename_i row hg
    split at h
    ·rename_i hw
     split at h
     ·rename_i c0 j6
      simp only[Option.map_eq_some_iff]at h
      obtain⟨cs,dY,rfl⟩:=h
      obtain⟨B,hB,R,Tf⟩:=uR id row hg hw
      obtain⟨B',rfl,ec,hk⟩:=iR hr
      rw[hB]at ec;injection ec with ec;subst ec
      replace R:=R.row hk
      obtain⟨l1,l2⟩:=gP dY
      have at_:∀j b,cs[j]? =some b->∃a0 v,w.cell? ⟨B.b,i*B.sz+off+j,none⟩=some v/\dm P w D ι a0 v/\a0.cell=true/\fz g n a0=some b:=fun j b hj=>by
       obtain⟨a0,lX,hf⟩:=l2 j b hj
       rw[List.getElem?_drop]at lX
       obtain⟨v,hv,nr⟩:=R.at_ _ _ _ _ j6 lX
       refine⟨a0,v,?_,nr,R.flat c0 (List.mem_of_getElem? j6) a0 (List.mem_of_getElem? lX),hf⟩
       rw[R.sz,Nat.add_assoc];exact hv
      refine both (.dQ cs B.b _ (fun j=>(w.cell? ⟨B.b,i*B.sz+off+j,none⟩).getD undef) Tf (fun b hb=>?_) (fun j hj=>?_) (fun j b hj=>?_)) rfl
      ·obtain⟨j,hj,rfl⟩:=List.getElem_of_mem hb
       obtain⟨a0,v,_,nr,hc,hf⟩:=at_ j _ (List.getElem?_eq_getElem hj)
       exact((ih _ _ _ nr hf).2 hc).2
      ·obtain⟨a0,v,hv,_⟩:=at_ j _ (List.getElem?_eq_getElem hj)
       simp only[hv,Option.getD_some]
      ·obtain⟨a0,v,hv,nr,hc,hf⟩:=at_ j b hj
       simp only[hv,Option.getD_some]
       exact((ih _ _ _ nr hf).2 hc).1
     ·simp at h
    ·simp at h
   ·simp at h
  |agg cs=>
   rw[fz]at h
   simp only[Option.map_eq_some_iff]at h
   obtain⟨r',lH,rfl⟩:=h
   obtain⟨vs,f,rfl,h1,h2,h3,h4⟩:=jd hr
   obtain⟨l1,l2⟩:=gP lH
   have hI:ko P w D2 (.agg r') (.agg vs):=.agg r' vs f (by rw[h1,l1]) (fun b hb=>by
    obtain⟨j,hj,rfl⟩:=List.getElem_of_mem hb
    obtain⟨a0,lX,hf⟩:=l2 j _ (List.getElem?_eq_getElem hj)
    exact((ih _ _ _ (h4 j a0 lX) hf).2 (h2 a0 (List.mem_of_getElem? lX))).2) (fun j hj=>h3 j (by rw[<-l1];exact hj)) (fun j b hj=>by
    obtain⟨a0,lX,hf⟩:=l2 j b hj
    exact((ih _ _ _ (h4 j a0 lX) hf).2 (h2 a0 (List.mem_of_getElem? lX))).1)
   exact⟨.eP _ _ hI,fun hc=>by simp[AV.cell]at hc⟩
  |fD cs=>
   rw[fz]at h
   simp only[Option.map_eq_some_iff]at h
   obtain⟨r',lH,rfl⟩:=h
   obtain⟨vs,f,rfl,h1,h3,h4⟩:=ye hr
   obtain⟨l1,l2⟩:=gP lH
   exact⟨.fD r' vs f (by rw[h1,l1]) (fun j hj=>h3 j (by rw[<-l1];exact hj)) (fun j b hj=>by
    obtain⟨a0,lX,hf⟩:=l2 j b hj
    exact(ih _ _ _ (h4 j a0 lX) hf).1),fun hc=>by simp[AV.cell]at hc⟩
  |fn f dv=>
   rw[fz]at h
   split at h
   ·rename_i ep
    simp only[Option.map_eq_some_iff]at h
    obtain⟨r',lH,rfl⟩:=h
    obtain⟨vs,q,rfl,h0,h1,h3,h4⟩:=wg hr
    obtain⟨l1,l2⟩:=gP lH
    exact both (.fn f r' vs q h0 (by rw[h1,l1]) (fun j hj=>h3 j (by rw[<-l1];exact hj)) (fun j b hj=>by
     obtain⟨a0,lX,hf⟩:=l2 j b hj
     exact((ih _ _ _ (h4 j a0 lX) hf).2 (List.all_eq_true.1 ep a0 (List.mem_of_getElem? lX))).1)) rfl
   ·simp at h
  |int k m=>rw[fz]at h<;>(try simp at h)<;>(try subst h)<;>(try(rw[dR hr];exact⟨.eP _ _ (.int _ _),fun _=>⟨.int _ _,rfl⟩⟩))<;>(try(intros;simp_all))
  |bool b=>rw[fz]at h<;>(try simp at h)<;>(try subst h)<;>(try(rw[fP hr];exact⟨.eP _ _ (.bool _),fun _=>⟨.bool _,rfl⟩⟩))<;>(try(intros;simp_all))
  |str b=>rw[fz]at h<;>(try simp at h)<;>(try subst h)<;>(try(rw[gq hr];exact⟨.eP _ _ (.str _),fun _=>⟨.str _,rfl⟩⟩))<;>(try(intros;simp_all))
  |bU=>rw[fz]at h<;>(try simp at h)<;>(try subst h)<;>(try(rw[jv hr];exact⟨.eP _ _ .bU,fun _=>⟨.bU,rfl⟩⟩))<;>(try(intros;simp_all))
  |jF=>rw[fz]at h<;>(try simp at h)<;>(try subst h)<;>(try(rw[zE hr];exact⟨.eP _ _ .jF,fun _=>⟨.jF,rfl⟩⟩))<;>(try(intros;simp_all))
  |jS=>rw[fz]at h<;>(try simp at h)<;>(try subst h)<;>(try(rw[Fp hr];exact⟨.eP _ _ .jS,fun _=>⟨.jS,rfl⟩⟩))<;>(try(intros;simp_all))
  |jn=>rw[fz]at h<;>(try simp at h)<;>(try subst h)<;>(try(rw[zD hr];exact⟨.eP _ _ .jn,fun _=>⟨.jn,rfl⟩⟩))<;>(try(intros;simp_all))
  |err g t s=>rw[fz]at h<;>(try simp at h)<;>(try subst h)<;>(try(cases hr with|eP _ _ hr=>exact both (hr.frame (fun _ _=>rfl) hD) rfl))<;>(try(intros;simp_all))
  |xf f dv=>rw[fz]at h<;>(try simp at h)<;>(try(intros;simp_all))
  |iH=>rw[fz]at h<;>(try simp at h)<;>(try subst h)<;>(try(cases hr with|eP _ _ hr=>exact both (hr.frame (fun _ _=>rfl) hD) rfl))<;>(try(intros;simp_all))
  |sl rows=>rw[fz]at h<;>(try simp at h)<;>(try subst h)<;>(try(cases hr with|eP _ _ hr=>exact both (hr.frame (fun _ _=>rfl) hD) rfl))<;>(try(intros;simp_all))
  |dQ cs=>rw[fz]at h<;>(try simp at h)<;>(try subst h)<;>(try(cases hr with|eP _ _ hr=>exact both (hr.frame (fun _ _=>rfl) hD) rfl))<;>(try(intros;simp_all))
theorem jC:∀{n:Nat} {l r:List AV},eQ g n l=some r->r.length=l.length/\∀(j:Nat) (b:AV),r[j]? =some b->∃a,l[j]? =some a/\gS g n a=some b
 |n,[],r,h=>by
  rw[eQ]at h;simp at h;subst h;simp
 |n,a::l,r,h=>by
  rw[eQ]at h
  split at h
  ·rename_i b hb
   simp only[Option.map_eq_some_iff]at h
   obtain⟨r',hr,rfl⟩:=h
   obtain⟨h1,h2⟩:=jC hr
   refine⟨by simp[h1],fun j c hj=>?_⟩
   cases j with
   |zero=>simp at hj;subst hj;exact⟨a,rfl,hb⟩
   |succ j=>simp at hj ⊢;exact h2 j c hj
  ·simp at h
theorem wQ:∀{n:Nat} {l r:List (List AV)},iQ g n l=some r->r.length=l.length/\∀(j:Nat) (b:List AV),r[j]? =some b->∃a,l[j]? =some a/\eQ g n a=some b
 |n,[],r,h=>by
  rw[iQ]at h;simp at h;subst h;simp
 |n,a::l,r,h=>by
  rw[iQ]at h
  split at h
  ·rename_i b hb
   simp only[Option.map_eq_some_iff]at h
   obtain⟨r',hr,rfl⟩:=h
   obtain⟨h1,h2⟩:=wQ hr
   refine⟨by simp[h1],fun j c hj=>?_⟩
   cases j with
   |zero=>simp at hj;subst hj;exact⟨a,rfl,hb⟩
   |succ j=>simp at hj ⊢;exact h2 j c hj
  ·simp at h
theorem JL (uR:∀id row,g id=some row->row.w=true->∃B,ι id=some B/\iv P w D ι B row/\D2 B.b):∀(n:Nat) (a:AV) (u:Value) (r:AV),dm P w D ι a u->gS g n a=some r->dm P w D2 ι2 r u/\(a.cell=true->ko P w D2 r u/\r.cell=true):=by
 intro n
 induction n with
 |zero=>intro a u r _ h;rw[gS]at h;simp at h
 |succ n ih=>
  intro a u r hr h
  have both:∀{r:AV},ko P w D2 r u->r.cell=true->dm P w D2 ι2 r u/\(a.cell=true->ko P w D2 r u/\r.cell=true):=fun h1 h2=>⟨.eP _ _ h1,fun _=>⟨h1,h2⟩⟩
  cases a with
  |map id m=>rw[gS]at h<;>simp_all
  |tN id=>rw[gS]at h<;>simp_all
  |own id off len=>
   rw[gS]at h
   split at h
   ·rename_i row hg
    split at h
    ·rename_i hw
     split at h
     ·rename_i hle
      simp only[Option.map_eq_some_iff]at h
      obtain⟨rows,kG,rfl⟩:=h
      obtain⟨B,hB,R,Tf⟩:=uR id row hg hw
      obtain⟨o,cap,B',rfl,ec,h1,h2,h3,h4,hk⟩:=je hr
      rw[hB]at ec;injection ec with ec;subst ec
      replace R:=R.row hk
      obtain⟨l1,l2⟩:=wQ kG
      have hlen:rows.length=len:=by rw[l1];simp;omega
      by_cases h0:rows=[]
      ·subst h0
       simp at hlen;subst hlen
       exact both (.Dn _ _ h4) rfl
      ·have hlp:0<len:=by rw[<-hlen];exact List.length_pos_iff.2 h0
       have ho:o=off*B.sz:=by rcases h2 with h2|h2<;>omega
       have src:∀i cs,rows[i]? =some cs->∃c0,row.rows[off+i]? =some c0/\eQ g n c0=some cs:=fun i cs hi=>by
        obtain⟨c0,j6,hf⟩:=l2 i cs hi
        rw[List.getElem?_take]at j6
        split at j6
        ·rw[List.getElem?_drop]at j6;exact⟨c0,j6,hf⟩
        ·simp at j6
       have cell:∀i j,i<len->j<row.sz->∃c0 a0 v,row.rows[off+i]? =some c0/\c0[j]? =some a0/\w.cell? ⟨B.b,o+(i*row.sz+j),none⟩=some v/\dm P w D ι a0 v:=fun i j hi hj=>by
        have tj:off+i<row.rows.length:=ah
        have e1:=List.getElem?_eq_getElem tj
        have OX:j<row.rows[off+i].length:=by rw[R.len _ (List.getElem_mem tj)];exact hj
        obtain⟨v,hv,nr⟩:=R.at_ _ _ _ _ e1 (List.getElem?_eq_getElem OX)
        refine⟨_,_,v,e1,List.getElem?_eq_getElem OX,?_,nr⟩
        rw[ho,R.sz,<-hv]
        congr 2
        rw[Nat.add_mul];omega
       refine both (.sl rows B.b o len cap row.sz (fun i j=>(w.cell? ⟨B.b,o+(i*row.sz+j),none⟩).getD undef) hlen h1 h4 Tf (fun cs dY=>?_) (fun cs dY b hb=>?_) (fun i j hi hj=>?_) (fun i j cs b hi hj=>?_)) rfl
       ·obtain⟨i,hi,rfl⟩:=List.getElem_of_mem dY
        obtain⟨c0,j6,hf⟩:=src i _ (List.getElem?_eq_getElem hi)
        rw[(jC hf).1];exact R.len c0 (List.mem_of_getElem? j6)
       ·obtain⟨i,hi,rfl⟩:=List.getElem_of_mem dY
        obtain⟨c0,j6,hf⟩:=src i _ (List.getElem?_eq_getElem hi)
        obtain⟨j,hj,rfl⟩:=List.getElem_of_mem hb
        obtain⟨a0,lX,MH⟩:=(jC hf).2 j _ (List.getElem?_eq_getElem hj)
        obtain⟨v,_,nr⟩:=R.at_ _ _ _ _ j6 lX
        exact((ih _ _ _ nr MH).2 (R.flat c0 (List.mem_of_getElem? j6) a0 (List.mem_of_getElem? lX))).2
       ·obtain⟨c0,a0,v,_,_,hv,_⟩:=cell i j hi hj
        simp only[hv,Option.getD_some]
       ·obtain⟨c0,j6,hf⟩:=src i cs hi
        obtain⟨a0,lX,MH⟩:=(jC hf).2 j b hj
        have mL:i<len:=by rw[<-hlen];exact(List.getElem?_eq_some_iff.1 hi).1
        have gZ:j<row.sz:=by rw[<-R.len c0 (List.mem_of_getElem? j6)];exact(List.getElem?_eq_some_iff.1 lX).1
        obtain⟨c1,a1,v,e1,e2,hv,nr⟩:=cell i j mL gZ
        rw[j6]at e1;injection e1 with e1;subst e1
        rw[lX]at e2;injection e2 with e2;subst e2
        simp only[hv,Option.getD_some]
        exact((ih _ _ _ nr MH).2 (R.flat c0 (List.mem_of_getElem? j6) a0 (List.mem_of_getElem? lX))).1
     ·simp at h
    ·simp at h
   ·simp at h
  |ptr id i off=>
   rw[gS]at h
   split at h
   ·rename_i row hg
    split at h
    ·rename_i hw
     split at h
     ·rename_i c0 j6
      simp only[Option.map_eq_some_iff]at h
      obtain⟨cs,dY,rfl⟩:=h
      obtain⟨B,hB,R,Tf⟩:=uR id row hg hw
      obtain⟨B',rfl,ec,hk⟩:=iR hr
      rw[hB]at ec;injection ec with ec;subst ec
      replace R:=R.row hk
      obtain⟨l1,l2⟩:=jC dY
      have at_:∀j b,cs[j]? =some b->∃a0 v,w.cell? ⟨B.b,i*B.sz+off+j,none⟩=some v/\dm P w D ι a0 v/\a0.cell=true/\gS g n a0=some b:=fun j b hj=>by
       obtain⟨a0,lX,hf⟩:=l2 j b hj
       rw[List.getElem?_drop]at lX
       obtain⟨v,hv,nr⟩:=R.at_ _ _ _ _ j6 lX
       refine⟨a0,v,?_,nr,R.flat c0 (List.mem_of_getElem? j6) a0 (List.mem_of_getElem? lX),hf⟩
       rw[R.sz,Nat.add_assoc];exact hv
      refine both (.dQ cs B.b _ (fun j=>(w.cell? ⟨B.b,i*B.sz+off+j,none⟩).getD undef) Tf (fun b hb=>?_) (fun j hj=>?_) (fun j b hj=>?_)) rfl
      ·obtain⟨j,hj,rfl⟩:=List.getElem_of_mem hb
       obtain⟨a0,v,_,nr,hc,hf⟩:=at_ j _ (List.getElem?_eq_getElem hj)
       exact((ih _ _ _ nr hf).2 hc).2
      ·obtain⟨a0,v,hv,_⟩:=at_ j _ (List.getElem?_eq_getElem hj)
       simp only[hv,Option.getD_some]
      ·obtain⟨a0,v,hv,nr,hc,hf⟩:=at_ j b hj
       simp only[hv,Option.getD_some]
       exact((ih _ _ _ nr hf).2 hc).1
     ·simp at h
    ·simp at h
   ·simp at h
  |agg cs=>
   rw[gS]at h
   simp only[Option.map_eq_some_iff]at h
   obtain⟨r',lH,rfl⟩:=h
   obtain⟨vs,f,rfl,h1,h2,h3,h4⟩:=jd hr
   obtain⟨l1,l2⟩:=jC lH
   have hI:ko P w D2 (.agg r') (.agg vs):=.agg r' vs f (by rw[h1,l1]) (fun b hb=>by
    obtain⟨j,hj,rfl⟩:=List.getElem_of_mem hb
    obtain⟨a0,lX,hf⟩:=l2 j _ (List.getElem?_eq_getElem hj)
    exact((ih _ _ _ (h4 j a0 lX) hf).2 (h2 a0 (List.mem_of_getElem? lX))).2) (fun j hj=>h3 j (by rw[<-l1];exact hj)) (fun j b hj=>by
    obtain⟨a0,lX,hf⟩:=l2 j b hj
    exact((ih _ _ _ (h4 j a0 lX) hf).2 (h2 a0 (List.mem_of_getElem? lX))).1)
   exact⟨.eP _ _ hI,fun hc=>by simp[AV.cell]at hc⟩
  |fD cs=>
   rw[gS]at h
   simp only[Option.map_eq_some_iff]at h
   obtain⟨r',lH,rfl⟩:=h
   obtain⟨vs,f,rfl,h1,h3,h4⟩:=ye hr
   obtain⟨l1,l2⟩:=jC lH
   exact⟨.fD r' vs f (by rw[h1,l1]) (fun j hj=>h3 j (by rw[<-l1];exact hj)) (fun j b hj=>by
    obtain⟨a0,lX,hf⟩:=l2 j b hj
    exact(ih _ _ _ (h4 j a0 lX) hf).1),fun hc=>by simp[AV.cell]at hc⟩
  |fn f dv=>rw[gS]at h<;>(try simp at h)<;>(try(intros;simp_all))
  |int k m=>rw[gS]at h<;>(try simp at h)<;>(try subst h)<;>(try(rw[dR hr];exact⟨.eP _ _ (.int _ _),fun _=>⟨.int _ _,rfl⟩⟩))<;>(try(intros;simp_all))
  |bool b=>rw[gS]at h<;>(try simp at h)<;>(try subst h)<;>(try(rw[fP hr];exact⟨.eP _ _ (.bool _),fun _=>⟨.bool _,rfl⟩⟩))<;>(try(intros;simp_all))
  |str b=>rw[gS]at h<;>(try simp at h)<;>(try subst h)<;>(try(rw[gq hr];exact⟨.eP _ _ (.str _),fun _=>⟨.str _,rfl⟩⟩))<;>(try(intros;simp_all))
  |bU=>rw[gS]at h<;>(try simp at h)<;>(try subst h)<;>(try(rw[jv hr];exact⟨.eP _ _ .bU,fun _=>⟨.bU,rfl⟩⟩))<;>(try(intros;simp_all))
  |jF=>rw[gS]at h<;>(try simp at h)<;>(try subst h)<;>(try(rw[zE hr];exact⟨.eP _ _ .jF,fun _=>⟨.jF,rfl⟩⟩))<;>(try(intros;simp_all))
  |jS=>rw[gS]at h<;>(try simp at h)<;>(try subst h)<;>(try(rw[Fp hr];exact⟨.eP _ _ .jS,fun _=>⟨.jS,rfl⟩⟩))<;>(try(intros;simp_all))
  |jn=>rw[gS]at h<;>(try simp at h)<;>(try subst h)<;>(try(rw[zD hr];exact⟨.eP _ _ .jn,fun _=>⟨.jn,rfl⟩⟩))<;>(try(intros;simp_all))
  |err g t s=>rw[gS]at h<;>(try simp at h)<;>(try(intros;simp_all))
  |xf f dv=>rw[gS]at h<;>(try simp at h)<;>(try(intros;simp_all))
  |iH=>rw[gS]at h<;>(try simp at h)<;>(try subst h)<;>(try(cases hr with|eP _ _ hr=>cases hr;exact both .iH rfl))<;>(try(intros;simp_all))
  |sl rows=>rw[gS]at h<;>(try simp at h)<;>(try(intros;simp_all))
  |dQ cs=>rw[gS]at h<;>(try simp at h)<;>(try(intros;simp_all))
end
end Go.Proofs.YtainmfbpilopaaaGreatDoor.V

namespace Go.Proofs.YtainmfbpilopaaaGreatDoor.V
open Go.RowKit
variable {P:Program} {w w':World} {D D':Nat->Prop} {ι ι':Names}
section
variable {g:Rows} {hs:Nat} {env:Env} {a:Act} {o:Oper} {id:Id} {v:AV}
theorem gK.K9 (S:gK P hs D ι g w) {i:Id} {r r':Row} {B:uX} {ob:Obj} (hid:g i=some r) (hw:r.w=true) (hB:ι i=some B)
  (hR:(∀a v,dm P w D ι a v->dm P {w with heap:=w.heap.setIfInBounds B.b ob} D ι a v)->(w.heap.setIfInBounds B.b ob)[B.b]? =some ob->iv P {w with heap:=w.heap.setIfInBounds B.b ob} D ι B r'):
  gK P hs D ι (bJ g i r') {w with heap:=w.heap.setIfInBounds B.b ob}/\Step hs D ι w D ι {w with heap:=w.heap.setIfInBounds B.b ob}:=by
 obtain⟨B0,zZ,R,j9,mV⟩:=S.row i r hid
 rw[hB]at zZ;injection zZ with zZ;subst zZ
 have other:∀b,b≠B.b->(w.heap.setIfInBounds B.b ob)[b]? =w.heap[b]? :=fun b hb=>by simp[Ne.symm hb]
 have hd:∀b,D b->(w.heap.setIfInBounds B.b ob)[b]? =w.heap[b]? :=fun b hb=>other b (by rintro rfl;exact mV hw hb)
 have hr:∀a v,dm P w D ι a v->dm P {w with heap:=w.heap.setIfInBounds B.b ob} D ι a v:=fun a v h=>h.frame hd (fun _ h=>h) (fun _ _ h=>h)
 refine⟨⟨by simpa using S.lo,fun b hb=>by simpa using S.dead b hb,fun j q h=>?_,fun j j' q q' C C' h h' MY hC xG he=>?_⟩,⟨⟨rfl,rfl,rfl,by simp,fun k hk=>other k (by have:=j9 hw;omega)⟩,hd,fun _ h=>h,fun _ _ h=>h,fun _ h=>.inl h⟩⟩
 ·unfold bJ at h
  split at h
  ·rename_i e
   subst e
   injection h with h;subst h
   exact⟨B,hB,hR hr (by simp[R.lt]),fun _=>j9 hw,fun _=>mV hw⟩
  ·rename_i e
   obtain⟨C,hC,RC,k1,k2⟩:=S.row j q h
   refine⟨C,hC,RC.frame (other C.b (fun My=>e ?_)) hr,k1,k2⟩
   exact(S.inj i j r q B C hid h hw hB hC My.symm).symm
 ·unfold bJ at h h'
  have get:∀j p,(if j=i then some r' else g j)=some p->∃p0,g j=some p0/\(p.w=true->p0.w=true):=fun j p hp=>by
   split at hp
   ·rename_i e;subst e;injection hp with hp;subst hp;exact⟨r,hid,fun _=>hw⟩
   ·exact⟨p,hp,fun h=>h⟩
  obtain⟨p,hp,VM⟩:=get _ _ h
  obtain⟨p',TV,_⟩:=get _ _ h'
  exact S.inj j j' p p' C C' hp TV (VM MY) hC xG he
theorem Ij {s:TS} {x y:AV} {u v:Value} (he:fj s x y=some true) (hx:dm P w D ι x u) (hy:dm P w D ι y v):u=v/\∀n,Instr.sameBits n u v=true:=by
 unfold fj at he
 split at he
 ·split at he
  ·rename_i hk
   subst hk
   simp at he;subst he
   rw[dR hx,dR hy]
   exact⟨rfl,fun n=>by cases n<;>simp[Instr.sameBits]⟩
  ·cases he
 ·simp at he;subst he
  rw[fP hx,fP hy]
  exact⟨rfl,fun n=>by cases n<;>simp[Instr.sameBits]⟩
 ·simp at he;subst he
  rw[gq hx,gq hy]
  exact⟨rfl,fun n=>by cases n<;>simp[Instr.sameBits,LS]⟩
 ·cases he
theorem DV {n:Nat}:∀{ts:List TS} {xs ys:List AV} {vs us:List Value},eK ts xs ys=some true->vs.length=xs.length->us.length=ys.length->(∀(j:Nat) (a:AV),xs[j]? =some a->∃u,vs[j]? =some u/\dm P w D ι a u)->(∀(j:Nat) (a:AV),ys[j]? =some a->∃u,us[j]? =some u/\dm P w D ι a u)->
  us.length=vs.length/\(us.zip vs).all (fun p=>Instr.sameBits n p.1 p.2)=true
 |[],[],[],vs,us,_,h1,h2,_,_=>by
  cases vs<;>cases us<;>simp_all
 |[],x::xs,ys,vs,us,h,_,_,_,_=>by simp[eK]at h
 |[],[],y::ys,vs,us,h,_,_,_,_=>by simp[eK]at h
 |t::ts,[],ys,vs,us,h,_,_,_,_=>by simp[eK]at h
 |t::ts,x::xs,[],vs,us,h,_,_,_,_=>by simp[eK]at h
 |t::ts,x::xs,y::ys,[],us,h,h1,_,_,_=>by simp at h1
 |t::ts,x::xs,y::ys,v::vs,[],h,_,h2,_,_=>by simp at h2
 |t::ts,x::xs,y::ys,v::vs,u::us,h,h1,h2,hx,hy=>by
  unfold eK at h
  split at h
  ·rename_i a b ha hb
   simp only[Option.some.injEq,Bool.and_eq_true]at h
   obtain⟨rfl,rfl⟩:=h
   obtain⟨v',pU,rv⟩:=hx 0 x rfl
   obtain⟨u',IB,ru⟩:=hy 0 y rfl
   simp at pU IB;subst pU;subst IB
   obtain⟨e1,e2⟩:=Ij ha rv ru
   obtain⟨q1,q2⟩:=DV (n:=n) hb (by simpa using h1) (by simpa using h2) (fun j a hj=>by simpa using hx (j+1) a (by simpa using hj)) (fun j a hj=>by simpa using hy (j+1) a (by simpa using hj))
   refine⟨by simp[q1],?_⟩
   simp only[List.zip_cons_cons,List.all_cons,q2,Bool.and_true]
   rw[<-e1]
   have:=e2 n
   rw[<-e1]at this
   exact this
  ·cases h
theorem E7 {m:MK} {key:List AV}:∀{rows:List (List AV)} {i j:Nat},gO m key rows i=some (some j)->∃cs,i<=j/\rows[j-i]? =some cs/\eK m.ts key (cs.take m.ks)=some true
 |[],i,j,h=>by simp[gO]at h
 |cs::rows,i,j,h=>by
  unfold gO at h
  split at h
  ·rename_i hq
   simp at h;subst h
   exact⟨cs,Nat.le_refl _,by simp,hq⟩
  ·obtain⟨c,h1,h2,h3⟩:=E7 h
   exact⟨c,ah,by rw[show j-i=(j-(i+1))+1 by omega];simpa using h2,h3⟩
  ·cases h
theorem zl {m:MK} {k:AV} {rows:List (List AV)} {fi:Option Nat} (h:gH m k rows=some fi):k.isAgg=m.ka/\k.cells.length=m.ks/\(k.cells.all AV.cell=true)/\gO m k.cells rows 0=some fi:=by
 unfold gH at h
 split at h
 ·rename_i hc;exact⟨hc.1,hc.2.1,hc.2.2,h⟩
 ·cases h
theorem NO {m:MK} {k y:AV} (h1:k.isAgg=m.ka) (h2:k.cells.length=m.ks):part m.ka m.ks (k.cells++[y])=some k/\(k.cells++[y])[m.ks]? =some y:=by
 refine⟨?_,by rw[List.getElem?_append_right ah,h2,Nat.sub_self];rfl⟩
 cases hk:m.ka with
 |false=>
  rw[hk]at h1
  rw[yJ h1];rfl
 |true=>
  rw[hk]at h1
  cases k<;>simp[AV.isAgg]at h1
  rename_i cs
  simp only[AV.cells]at h2 ⊢
  simp only[part,if_true]
  rw[if_pos (by simp;omega),<-h2,List.take_left']
  rfl
theorem stays {k:TypeId} {m:MK} (hK:H3 P k m) {key kv:AV} {u yd:Value} {cs:List AV} (h1:key.isAgg=m.ka) (hr:dm P w D ι key u) (hp:part m.ka m.ks cs=some kv) (ho:dm P w D ι kv yd) (he:eK m.ts key.cells (cs.take m.ks)=some true):(Instr.keyThatStays yd u).run P w=.ok u w:=by
 have hs:Instr.sameBits 10000 yd u=true:=by
  rcases hK with⟨s,rfl,hs⟩|⟨fs,ts,rfl,tY,Aw,dZ,ep⟩
  ·rw[yJ h1]at he
   cases cs with
   |nil=>simp[part]at hp
   |cons c l=>
    simp[part]at hp;subst hp
    simp only[MK.ks,List.length_cons,List.length_nil,Nat.zero_add,List.take_succ_cons,List.take_zero,eK]at he
    cases hq:fj s key c with
    |none=>rw[hq]at he;simp at he
    |some b=>
     rw[hq]at he;simp at he;subst he
     obtain⟨e1,e2⟩:=Ij hq hr ho
     rw[<-e1]
     have:=e2 10000
     rwa [<-e1]at this
  ·cases key<;>simp[AV.isAgg]at h1
   rename_i ks
   simp only[part,if_true]at hp
   split at hp
   ·simp only[Option.some.injEq]at hp;subst hp
    obtain⟨vs,rfl,n1,r1⟩:=uA hr
    obtain⟨us,rfl,n2,r2⟩:=uA ho
    obtain⟨q1,q2⟩:=DV (n:=9999) (vs:=vs.toList) (us:=us.toList) he (by simpa[AV.cells]using n1) (by simpa using n2) (fun j a hj=>by simpa using r1 j a hj) (fun j a hj=>by simpa using r2 j a hj)
    simp only[Instr.sameBits,Bool.and_eq_true,beq_iff_eq]
    exact⟨by simpa using q1,q2⟩
   ·cases hp
 simp[Instr.keyThatStays,hs]
theorem Og {es:Array MapEntry} {clock:Nat} (h:H6 es clock) (k v:Value):H6 (es.push ⟨k,v,clock⟩) (clock+1):=by
 refine⟨fun x hx=>?_,?_⟩
 ·simp only[Array.toList_push,List.mem_append,List.mem_singleton]at hx
  rcases hx with hx|rfl
  ·have:=h.1 x hx;omega
  ·exact Nat.lt_succ_self _
 ·simp only[Array.toList_push,List.map_append,List.map_cons,List.map_nil]
  refine List.nodup_append.2 ⟨h.2,by simp,fun a ha b hb=>?_⟩
  obtain⟨x,hx,rfl⟩:=List.mem_map.1 ha
  simp at hb;subst hb
  have:=h.1 x hx;omega
theorem HF {es:Array MapEntry} {clock:Nat} (h:H6 es clock) (j:Nat) (k v:Value):H6 (es.modify j fun e=>{e with key:=k,val:=v}) clock:=by
 have e:(es.modify j fun e=>{e with key:=k,val:=v}).toList.map (·.born)=es.toList.map (·.born):=by
  refine List.ext_getElem? fun i=>?_
  simp only[List.getElem?_map,Array.getElem?_toList,Array.getElem?_modify]
  split
  ·cases es[i]? <;>rfl
  ·rfl
 refine⟨fun x hx=>?_,by rw[e];exact h.2⟩
 have hb:x.born∈(es.modify j fun e=>{e with key:=k,val:=v}).toList.map (·.born):=List.mem_map_of_mem hx
 rw[e]at hb
 obtain⟨y,hy,hyb⟩:=List.mem_map.1 hb
 rw[<-hyb];exact h.1 y hy
theorem KW {es:Array MapEntry} {clock:Nat} (h:H6 es clock) {j:Nat} (hj:j<es.size):H6 (es.eraseIdxIfInBounds j) clock:=by
 have e:(es.eraseIdxIfInBounds j).toList=es.toList.eraseIdx j:=by
  unfold Array.eraseIdxIfInBounds
  rw[dif_pos hj,Array.toList_eraseIdx]
 refine⟨fun x hx=>h.1 x ((List.eraseIdx_sublist _ _).subset (by rwa [e]at hx)),?_⟩
 rw[e]
 exact((List.eraseIdx_sublist es.toList j).map (·.born)).nodup h.2
theorem D8 {k y:AV} (h1:k.cells.all AV.cell=true) (h2:y.cell=true):∀a∈k.cells++[y],a.cell=true:=fun a ha=>by
 rcases List.mem_append.1 ha with ha|ha
 ·exact List.all_eq_true.1 h1 a ha
 ·rw[List.mem_singleton.1 ha];exact h2
theorem SQ {t:TypeId} {x k y:Operand} {m:MK} {z:K} {x' k' y':O} {g':Rows} (S:gK P hs D ι g w) (E:cY P w D ι env a) (ho:o.op=.mapUpdate t x k y∨o.op=.insert t x k y) (hc:ve P t=some (m,z)) (hx:cO P x=some x') (hk:cO P k=some k') (hy:cO P y=some y')
  (hv:bt (.set m) [dh env x',dh env k',dh env y'] g=some g'):F5 P hs a o w D ι id .undef g':=by
 obtain⟨kt,e,i,zv,ht,hi,r9,YS,hK⟩:=tK hc
 simp only[bt,Option.bind_eq_some_iff]at hv
 obtain⟨p,hp,fi,FV,hv⟩:=hv
 split at hv
 ·rename_i hcond
  obtain⟨hw,hyc,_⟩:=hcond
  simp only[Option.some.injEq]at hv;subst hv
  obtain⟨B,hu,hg,hB,xZ,es,clock,hb,fI,hlen,hM⟩:=CD S (dV E hx) hp
  have rk:=dV E hk
  have ry:=dV E hy
  obtain⟨OR,res,hf,hF⟩:=yQ (B:=B) hK rk fI hM FV
  obtain⟨k1,k2,k3,k4⟩:=zl FV
  obtain⟨B',ec,R,_⟩:=S.row p.1 p.2 hg
  rw[hB]at ec;injection ec with ec;subst ec
  obtain⟨pk1,pk2⟩:=NO (y:=dh env y') k1 k2
  have fE:(getObj B.b).run P w=.ok (.map es clock) w:=MapKept.run_getObj_map hb
  rcases hF with⟨rfl,rfl⟩|⟨j,en,rfl,he,rfl⟩
  ·have pT:=S.K9 (ob:=.map (es.push ⟨a.eval k,a.eval y,clock⟩) (clock+1)) (r':={p.2 with rows:=dt p.2.rows ((dh env k').cells++[dh env y']) none}) hg hw hB fun hr lG=>⟨R.sz,fun cs dY=>?_,fun z7=>(by rw[xZ]at z7;cases z7),fun m' Er=>?_,fun c hc=>(by rw[xZ]at hc;cases hc)⟩
   ·refine⟨undef,_,ι,.inr ⟨?_,rfl⟩,pT.2,pT.1,dm.undef,fun _ _=>rfl⟩
    rcases ho with ho|ho<;>
    ·simp only[execOp,ho,Instr.mapUpdate,hu,Sem.run_bind,run_underlying ht,Result.andThen_ok,fE,OR,hf,MapKept.run_setObj_map _ hb,Sem.run_pure]
   ·rcases List.mem_append.1 dY with h|h
    ·exact R.flat cs h
    ·rw[List.mem_singleton.1 h];exact D8 k3 hyc
   ·rw[xZ]at Er;simp only[Option.some.injEq,BK.map.injEq]at Er;subst Er
    refine⟨(R.map m xZ).1,_,_,lG,by simp[dt,fI],⟨fun cs dY=>?_,Og hlen.2 _ _⟩,fun q cs hq=>?_⟩
    ·rcases List.mem_append.1 dY with h|h
     ·exact hlen.1 cs h
     ·rw[List.mem_singleton.1 h];simp[k2]
    ·rcases Nat.lt_or_ge q p.2.rows.length with eu|oj
     ·simp only[dt]at hq
      rw[List.getElem?_append_left eu]at hq
      obtain⟨en,kv,vv,q1,q2,q3,q4,q5⟩:=hM q cs hq
      exact⟨en,kv,vv,by rw[Array.getElem?_push_lt ah];rw[Array.getElem?_eq_getElem ah]at q1;simpa using q1,q2,q3,hr _ _ q4,hr _ _ q5⟩
     ·simp only[dt]at hq
      rw[List.getElem?_append_right oj]at hq
      have RT:q=p.2.rows.length:=by
       have:=(List.getElem?_eq_some_iff.1 hq).1
       simp at this;omega
      subst RT
      simp at hq;subst hq
      exact⟨⟨a.eval k,a.eval y,clock⟩,_,_,by rw[<-fI];simp,pk1,pk2,hr _ _ rk,hr _ _ ry⟩
  ·simp only[Nat.zero_add]at k4 FV hf ⊢
   obtain⟨Rx,_,PM,heq⟩:=E7 k4
   simp only[Nat.sub_zero]at PM
   obtain⟨Wn,kv,vv,q1,q2,_,q4,_⟩:=hM j Rx PM
   have El:Wn=en:=by
    have h1:es.toList[j]? =some Wn:=by simpa using q1
    rw[he]at h1;injection h1 with h1;exact h1.symm
   subst El
   have dZ:=stays (w:=w) hK k1 rk q2 q4 heq
   have pT:=S.K9 (ob:=.map (es.modify j fun e=>{e with key:=a.eval k,val:=a.eval y}) clock) (r':={p.2 with rows:=dt p.2.rows ((dh env k').cells++[dh env y']) (some j)}) hg hw hB fun hr lG=>⟨R.sz,fun cs dY=>?_,fun z7=>(by rw[xZ]at z7;cases z7),fun m' Er=>?_,fun c hc=>(by rw[xZ]at hc;cases hc)⟩
   ·refine⟨undef,_,ι,.inr ⟨?_,rfl⟩,pT.2,pT.1,dm.undef,fun _ _=>rfl⟩
    rcases ho with ho|ho<;>
    ·simp only[execOp,ho,Instr.mapUpdate,hu,Sem.run_bind,run_underlying ht,Result.andThen_ok,fE,OR,hf,q1,Option.map_some,Option.getD_some,dZ,MapKept.run_setObj_map _ hb,Sem.run_pure]
   ·rcases List.mem_or_eq_of_mem_set dY with h|h
    ·exact R.flat cs h
    ·rw[h];exact D8 k3 hyc
   ·rw[xZ]at Er;simp only[Option.some.injEq,BK.map.injEq]at Er;subst Er
    have gZ:=(List.getElem?_eq_some_iff.1 PM).1
    refine⟨(R.map m xZ).1,_,_,lG,by simp[dt,fI],⟨fun cs dY=>?_,HF hlen.2 _ _ _⟩,fun q cs hq=>?_⟩
    ·rcases List.mem_or_eq_of_mem_set dY with h|h
     ·exact hlen.1 cs h
     ·rw[h];simp[k2]
    ·simp only[dt,List.getElem?_set]at hq
     split at hq
     ·rename_i VG
      subst VG
      (try rw[if_pos gZ]at hq)
      injection hq with hq;subst hq
      exact⟨{Wn with key:=a.eval k,val:=a.eval y},_,_,by rw[Array.getElem?_modify];simp[q1],pk1,pk2,hr _ _ rk,hr _ _ ry⟩
     ·rename_i VG
      obtain⟨en,kv,vv,q1,q2,q3,q4,q5⟩:=hM q cs hq
      exact⟨en,kv,vv,by rw[Array.getElem?_modify];simp[VG,q1],q2,q3,hr _ _ q4,hr _ _ q5⟩
 ·cases hv
theorem SP {t t':TypeId} {x k:Operand} {m:MK} {z:K} {x' k':O} {g':Rows} (S:gK P hs D ι g w) (E:cY P w D ι env a) (ho:o.op=.call {callee:=.builtin .delete,args:= #[x,k],argTypes:= #[t,t']}) (hc:ve P t=some (m,z)) (hx:cO P x=some x') (hk:cO P k=some k')
  (hv:bt (.del m) [dh env x',dh env k'] g=some g'):F5 P hs a o w D ι id .undef g':=by
 obtain⟨kt,e,i,zv,ht,hi,r9,YS,hK⟩:=tK hc
 simp only[bt,Option.bind_eq_some_iff]at hv
 obtain⟨p,hp,fi,FV,hv⟩:=hv
 split at hv
 ·rename_i hw
  simp only[Option.some.injEq]at hv;subst hv
  obtain⟨B,hu,hg,hB,xZ,es,clock,hb,fI,hlen,hM⟩:=CD S (dV E hx) hp
  have rk:=dV E hk
  obtain⟨OR,res,hf,hF⟩:=yQ (B:=B) hK rk fI hM FV
  obtain⟨k1,k2,k3,k4⟩:=zl FV
  obtain⟨B',ec,R,_⟩:=S.row p.1 p.2 hg
  rw[hB]at ec;injection ec with ec;subst ec
  have fE:(getObj B.b).run P w=.ok (.map es clock) w:=MapKept.run_getObj_map hb
  have go:∀ob,(Builtin.delete_ #[t,t'] o.type #[a.eval x,a.eval k]).run P w=.ok (.tuple #[]) {w with heap:=w.heap.setIfInBounds B.b ob}->(execOp a.eval o).run P w=.ok (.value undef) {w with heap:=w.heap.setIfInBounds B.b ob}:=fun ob h=>by
   simp only[execOp,ho,resolve,Sem.run_bind,Sem.run_pure,Result.andThen_ok,invoke,builtin,Array.map]
   simp[h,undef]
  rcases hF with⟨rfl,rfl⟩|⟨j,en,rfl,he,rfl⟩
  ·have pT:=S.K9 (ob:=.map es clock) (r':={p.2 with rows:=dw p.2.rows none}) hg hw hB fun hr lG=>⟨R.sz,R.flat,fun z7=>(by rw[xZ]at z7;cases z7),fun m' Er=>?_,fun c hc=>(by rw[xZ]at hc;cases hc)⟩
   ·refine⟨undef,_,ι,.inl (go _ ?_),pT.2,pT.1,dm.undef,fun _ _=>rfl⟩
    simp[Builtin.delete_,hu,run_underlying ht,fE,OR,hf,MapKept.run_setObj_map _ hb]
   ·rw[xZ]at Er;simp only[Option.some.injEq,BK.map.injEq]at Er;subst Er
    exact⟨(R.map m xZ).1,_,_,lG,fI,hlen,fun q cs hq=>by
     obtain⟨en,kv,vv,q1,q2,q3,q4,q5⟩:=hM q cs hq
     exact⟨en,kv,vv,q1,q2,q3,hr _ _ q4,hr _ _ q5⟩⟩
  ·simp only[Nat.zero_add]at hf ⊢
   have gZ:j<es.size:=by have:=(List.getElem?_eq_some_iff.1 he).1;simpa using this
   have pT:=S.K9 (ob:=.map (es.eraseIdxIfInBounds j) clock) (r':={p.2 with rows:=dw p.2.rows (some j)}) hg hw hB fun hr lG=>⟨R.sz,fun cs dY=>R.flat cs (List.mem_of_mem_eraseIdx dY),fun z7=>(by rw[xZ]at z7;cases z7),fun m' Er=>?_,fun c hc=>(by rw[xZ]at hc;cases hc)⟩
   ·refine⟨undef,_,ι,.inl (go _ ?_),pT.2,pT.1,dm.undef,fun _ _=>rfl⟩
    simp[Builtin.delete_,hu,run_underlying ht,fE,OR,hf,MapKept.run_setObj_map _ hb]
   ·rw[xZ]at Er;simp only[Option.some.injEq,BK.map.injEq]at Er;subst Er
    have he2:∀q,(es.eraseIdxIfInBounds j)[q]? =(es.toList.eraseIdx j)[q]? :=fun q=>by
     unfold Array.eraseIdxIfInBounds
     rw[dif_pos gZ,<-Array.getElem?_toList,Array.toList_eraseIdx]
    refine⟨(R.map m xZ).1,_,_,lG,by simp[dw,Array.eraseIdxIfInBounds,gZ,List.length_eraseIdx,<-fI],⟨fun cs dY=>hlen.1 cs (List.mem_of_mem_eraseIdx dY),KW hlen.2 gZ⟩,fun q cs hq=>?_⟩
    simp only[dw,List.getElem?_eraseIdx]at hq
    split at hq
    ·rename_i eu
     obtain⟨en,kv,vv,q1,q2,q3,q4,q5⟩:=hM q cs hq
     exact⟨en,kv,vv,by rw[he2,List.getElem?_eraseIdx,if_pos eu];simpa using q1,q2,q3,hr _ _ q4,hr _ _ q5⟩
    ·rename_i eu
     obtain⟨en,kv,vv,q1,q2,q3,q4,q5⟩:=hM (q+1) cs hq
     exact⟨en,kv,vv,by rw[he2,List.getElem?_eraseIdx,if_neg eu];simpa using q1,q2,q3,hr _ _ q4,hr _ _ q5⟩
 ·cases hv
end
end Go.Proofs.YtainmfbpilopaaaGreatDoor.V
